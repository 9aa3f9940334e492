import Derived.Test.YtdeaccbolnlgpaaDoorXPX
import Derived.Test.YtdeaccbolnlgpaaDoorXP6G
import Derived.Test.YtdeaccbolnlgpaaDoorXPB0
import Derived.Test.YtdeaccbolnlgpaaDoorXN13
namespace Go.Proofs.YtdeaccbolnlgpaaDoor.X
open Go.RowKit Go.Proofs.YtdeaccbolnlgpaaDoorW.PrintWords Go.Proofs.YtdeaccbolnlgpaaDoorW.PrintLast Go.Proofs.YtdeaccbolnlgpaaDoorW.PrintMore
set_option linter.unusedVariables false
set_option linter.unusedSimpArgs false

/-! # The plain law of ExitsSlower -/

/-- The same house and the same people or more; nobody sooner. -/
structure Later (b : Bool) (st st' : List S62) (ch : List S81) (ps ps' : List S48) : Prop where
  v : Valid st ch ps
  v' : Valid st' ch ps'
  len : st'.length = st.length
  gap : GapLe st st'
  wk : ∀ k : Nat, (rd_T62 st' k).f2 = (rd_T62 st k).f2
  sm : ∀ k : Nat, (rd_T62 st' k).f3 = (rd_T62 st k).f3
  come : ∀ i, DomL (comeG0 ch ps (ps.map (leaveT b ch)) i) (comeG0 ch ps' (ps'.map (leaveT b ch)) i)
  who : ∀ x ∈ ps, ∃ x' ∈ ps', x'.f0 = x.f0 ∧ leaveT b ch x ≤ leaveT b ch x'

theorem gap0 {st : List S62} {ch : List S81} (h : Built st ch) (k : Nat) : 0 ≤ (rd_T62 st k).f1 := by
  by_cases hk : k < st.length
  · rw [rdT62_get hk]; exact (stairB_iff.1 (h.stair k hk)).2.1.1
  · have : rd_T62 st k = z62 := by
      unfold rd_T62
      rw [Int.toNat_natCast, List.getD_eq_getElem?_getD, List.getElem?_eq_none (by omega)]; rfl
    rw [this]; decide

section
variable {b : Bool} {st st' : List S62} {ch : List S81} {ps ps' : List S48} (h : Later b st st' ch ps ps')
include h
theorem Later.left {k : Nat} (hk : k < st.length) : DomL (leftAt b st ch ps k) (leftAt b st' ch ps' k) := by
  rw [← leftG_eq b st ch ps hk, ← leftG_eq b st' ch ps' (by rw [h.len]; exact hk)]
  have e : (st'.map fun s => timeS b s.f2) = st.map fun s => timeS b s.f2 := by
    apply List.ext_getElem
    · simp [h.len]
    · intro i h1 h2
      have hi : i < st.length := by simpa using h2
      have hi' : i < st'.length := by rw [h.len]; exact hi
      have := h.wk i
      rw [rdT62_get hi, rdT62_get hi'] at this
      simp [this]
  rw [e]
  exact leftG_dom h.gap (gap0 h.v'.built) h.come (LeL.refl _) k
theorem Later.last : ∀ k, k ≤ st.length → lastT b st ch ps k ≤ lastT b st' ch ps' k
  | 0, _ => Int.le_refl _
  | k + 1, hk => by
    have ih := Later.last k (by omega)
    have hl := h.left (by omega : k < st.length)
    rw [lastT, lastT, ← (h.gap k).1]
    by_cases h1 : (rd_T62 st k).f0 = -1 ∧ 0 < (leftAt b st ch ps k).length
    · have hmem : (leftAt b st ch ps k)[(leftAt b st ch ps k).length - 1]?.getD 0 ∈ leftAt b st ch ps k := by
        have := h1.2
        rw [List.getElem?_eq_getElem (by omega), Option.getD_some]; exact List.getElem_mem _
      obtain ⟨m, hm, hle⟩ := hl.mem _ hmem
      have htop : TopLast (leftAt b st' ch ps' k) := flowL_top _ (gap0 h.v'.built k) _
      have h2 : 0 < (leftAt b st' ch ps' k).length := List.length_pos_of_mem hm
      obtain ⟨e, he, hme⟩ := htop m hm
      rw [last_get h2] at he
      have := Option.some.inj he
      rw [if_pos h1, if_pos ⟨h1.1, h2⟩]
      omega
    · rw [if_neg h1]
      split
      · omega
      · exact ih
theorem Later.late (hn : lateF b st' ch ps' = (-1, -1)) : lateF b st ch ps = (-1, -1) := by
  have h1 : lateC b ch ps' ch.length = -1 := congrArg Prod.fst hn
  have h2 : lateS b st' ch ps' 0 st'.length = -1 := congrArg Prod.snd hn
  have a1 : lateC b ch ps ch.length = -1 := Classical.byContradiction fun hne => by
    obtain ⟨c, hc, h3⟩ := lateC_some _ hne
    obtain ⟨x, hx, h4⟩ := List.any_eq_true.1 h3
    obtain ⟨x', hx', e0, hle⟩ := h.who x hx
    have h5 := List.any_eq_false.1 (lateC_none _ h1 c hc) x' hx'
    simp [slowB] at h4 h5
    have := h5 (by rw [e0]; exact h4.1)
    omega
  have a2 : lateS b st ch ps 0 st.length = -1 := Classical.byContradiction fun hne => by
    obtain ⟨s, _, hs, h3⟩ := lateS_some _ _ hne
    rw [Nat.zero_add] at hs
    obtain ⟨t, ht, h4⟩ := List.any_eq_true.1 h3
    obtain ⟨t', ht', hle⟩ := (h.left hs).mem t ht
    have h5 := List.any_eq_false.1 (lateS_all _ _ h2 s (by omega) (by rw [h.len]; omega)) t' ht'
    rw [h.sm s] at h5
    simp at h4 h5
    omega
  exact Prod.ext a1 a2
end
theorem later_safe {st st' : List S62} {ch : List S81} {ps ps' : List S48} (h : ∀ b, Later b st st' ch ps ps') : (safeF st' ch ps').1 ≤ (safeF st ch ps).1 := by
  unfold safeF
  rw [if_pos (checkF_of (h true).v), if_pos (checkF_of (h true).v')]
  simp only
  by_cases h1 : lateF true st' ch ps' = (-1, -1)
  · rw [if_pos h1, if_pos ((h true).late h1)]; omega
  · rw [if_neg h1]
    by_cases h2 : lateF false st' ch ps' = (-1, -1)
    · rw [if_pos h2, if_pos ((h false).late h2)]; split <;> omega
    · rw [if_neg h2]; split
      · omega
      · split <;> omega

/-! ## One more -/
theorem later_more {st : List S62} {ch : List S81} {ps : List S48} {x : S48} (b : Bool) (hv : Valid st ch ps) (hv' : Valid st ch (ps ++ [x])) : Later b st st ch ps (ps ++ [x]) where
  v := hv
  v' := hv'
  len := rfl
  gap := GapLe.refl st
  wk := fun _ => rfl
  sm := fun _ => rfl
  come := fun i => by
    have e : comeG0 ch (ps ++ [x]) ((ps ++ [x]).map (leaveT b ch)) i = comeG0 ch ps (ps.map (leaveT b ch)) i ++ comeG0 ch [x] [leaveT b ch x] i := by
      unfold comeG0
      rw [List.map_append, List.zip_append (by simp), List.filter_append, List.map_append]; rfl
    have h1 := (DomL.refl (comeG0 ch ps (ps.map (leaveT b ch)) i)).append (c := []) (d := comeG0 ch [x] [leaveT b ch x] i) (by
      generalize comeG0 ch [x] [leaveT b ch x] i = l
      induction l with
      | nil => exact .nil
      | cons a l ih => exact .skip ih)
    rw [List.append_nil] at h1
    rw [e]; exact h1
  who := fun y hy => ⟨y, List.mem_append_left _ hy, rfl, Int.le_refl _⟩

/-! ## All slower -/
def slowS (by_ : List Int) (k : Nat) (s : S62) : S62 := ⟨s.f0, mn (s.f1 + chooseI by_ k % 5) 60, s.f2, s.f3⟩
def slowL (by_ : List Int) (k : Nat) (x : S48) : Int := mx (x.f1.f0 - chooseI by_ (6 + 2 * k) % 200) 100
def slowP (by_ : List Int) (k : Nat) (x : S48) : S48 := ⟨x.f0, ⟨slowL by_ k x, mx (x.f1.f1 - chooseI by_ (7 + 2 * k) % 200) (slowL by_ k x)⟩, x.f2⟩
def curS (by_ : List Int) (st : List S62) (i : Nat) : List S62 := (List.range st.length).map fun k => if k < i then slowS by_ k (rd_T62 st k) else rd_T62 st k
def curP (by_ : List Int) (ps : List S48) (i : Nat) : List S48 := (List.range ps.length).map fun k => if k < i then slowP by_ k (rd_T48 ps k) else rd_T48 ps k
theorem curS_length (by_ : List Int) (st : List S62) (i : Nat) : (curS by_ st i).length = st.length := by simp [curS]
theorem curP_length (by_ : List Int) (ps : List S48) (i : Nat) : (curP by_ ps i).length = ps.length := by simp [curP]
theorem curS_get (by_ : List Int) (st : List S62) (i : Nat) {k : Nat} (hk : k < st.length) : (curS by_ st i)[k]'(by rw [curS_length]; exact hk) = if k < i then slowS by_ k st[k] else st[k] := by
  simp [curS, rdT62_get hk]
theorem curP_get (by_ : List Int) (ps : List S48) (i : Nat) {k : Nat} (hk : k < ps.length) : (curP by_ ps i)[k]'(by rw [curP_length]; exact hk) = if k < i then slowP by_ k ps[k] else ps[k] := by
  simp [curP, rdT48_nat hk]
theorem curS_zero (by_ : List Int) (st : List S62) : curS by_ st 0 = st :=
  List.ext_getElem (curS_length ..) fun k h1 h2 => by rw [curS_get by_ st 0 h2, if_neg (by omega)]
theorem curP_zero (by_ : List Int) (ps : List S48) : curP by_ ps 0 = ps :=
  List.ext_getElem (curP_length ..) fun k h1 h2 => by rw [curP_get by_ ps 0 h2, if_neg (by omega)]
theorem curS_succ (by_ : List Int) (st : List S62) {i : Nat} (hi : i < st.length) : (curS by_ st i).set i (slowS by_ i st[i]) = curS by_ st (i + 1) :=
  List.ext_getElem (by simp [curS_length]) fun k h1 h2 => by
    have hk : k < st.length := by rw [curS_length] at h2; exact h2
    rw [curS_get by_ st (i + 1) hk, List.getElem_set]
    by_cases e : i = k
    · subst e; rw [if_pos rfl, if_pos (by omega)]
    · rw [if_neg e, curS_get by_ st i hk]
      by_cases e2 : k < i
      · rw [if_pos e2, if_pos (by omega)]
      · rw [if_neg e2, if_neg (by omega)]
theorem curP_succ (by_ : List Int) (ps : List S48) {i : Nat} (hi : i < ps.length) : (curP by_ ps i).set i (slowP by_ i ps[i]) = curP by_ ps (i + 1) :=
  List.ext_getElem (by simp [curP_length]) fun k h1 h2 => by
    have hk : k < ps.length := by rw [curP_length] at h2; exact h2
    rw [curP_get by_ ps (i + 1) hk, List.getElem_set]
    by_cases e : i = k
    · subst e; rw [if_pos rfl, if_pos (by omega)]
    · rw [if_neg e, curP_get by_ ps i hk]
      by_cases e2 : k < i
      · rw [if_pos e2, if_pos (by omega)]
      · rw [if_neg e2, if_neg (by omega)]

theorem slowS_ok {by_ : List Int} (hb : ByOk by_) {n : Nat} {i : Int} {k : Nat} {s : S62} (h : stairB n i s = true) : stairB n i (slowS by_ k s) = true ∧ s.f1 ≤ (slowS by_ k s).f1 := by
  have h1 := stairB_iff.1 h
  have h2 := chooseI_in hb k
  have h3 : 0 ≤ chooseI by_ k % 5 ∧ chooseI by_ k % 5 < 5 := by omega
  have h4 : s.f1 ≤ (slowS by_ k s).f1 ∧ (slowS by_ k s).f1 ≤ 60 := by
    show s.f1 ≤ mn (s.f1 + chooseI by_ k % 5) 60 ∧ mn (s.f1 + chooseI by_ k % 5) 60 ≤ 60
    unfold mn; split <;> omega
  refine ⟨stairB_iff.2 ⟨h1.1, ⟨by omega, h4.2⟩, h1.2.2⟩, h4.1⟩
theorem slowP_ok {by_ : List Int} (hb : ByOk by_) {m : Nat} {k : Nat} {x : S48} (h : livesB m x = true) : livesB m (slowP by_ k x) = true ∧ 100 ≤ (slowP by_ k x).f1.f0 ∧ (slowP by_ k x).f1.f0 ≤ x.f1.f0 ∧ 100 ≤ (slowP by_ k x).f1.f1 ∧ (slowP by_ k x).f1.f1 ≤ x.f1.f1 := by
  have h1 := livesB_iff.1 h
  have h2 := chooseI_in hb (6 + 2 * k)
  have h3 := chooseI_in hb (7 + 2 * k)
  have h4 : 0 ≤ chooseI by_ (6 + 2 * k) % 200 := by omega
  have h5 : 0 ≤ chooseI by_ (7 + 2 * k) % 200 := by omega
  have h6 : 100 ≤ slowL by_ k x ∧ slowL by_ k x ≤ x.f1.f0 := by unfold slowL mx; split <;> omega
  have h7 : slowL by_ k x ≤ mx (x.f1.f1 - chooseI by_ (7 + 2 * k) % 200) (slowL by_ k x) ∧ mx (x.f1.f1 - chooseI by_ (7 + 2 * k) % 200) (slowL by_ k x) ≤ x.f1.f1 := by unfold mx; split <;> omega
  have h8 : (slowP by_ k x).f1.f0 = slowL by_ k x := rfl
  have h9 : (slowP by_ k x).f1.f1 = mx (x.f1.f1 - chooseI by_ (7 + 2 * k) % 200) (slowL by_ k x) := rfl
  refine ⟨livesB_iff.2 ⟨h1.1, ⟨by omega, by omega, by omega⟩, h1.2.2⟩, by omega, by omega, by omega, by omega⟩
theorem comeG0_le (ch : List S81) (i : Int) : ∀ {ps ps' : List S48} {ts ts' : List Int}, ps.map (·.f0) = ps'.map (·.f0) → LeL ts ts' → LeL (comeG0 ch ps ts i) (comeG0 ch ps' ts' i)
  | [], [], _, _, _, _ => by simpa [comeG0] using LeL.nil
  | [], _ :: _, _, _, e, _ => by simp at e
  | _ :: _, [], _, _, e, _ => by simp at e
  | x :: ps, y :: ps', [], [], _, _ => by simpa [comeG0] using LeL.nil
  | x :: ps, y :: ps', t :: ts, t' :: ts', e, h => by
    cases h with
    | cons htt hts =>
      rw [List.map_cons, List.map_cons, List.cons.injEq] at e
      have ih := comeG0_le ch i e.2 hts
      unfold comeG0 at ih ⊢
      rw [List.zip_cons_cons, List.zip_cons_cons, List.filter_cons, List.filter_cons]
      simp only [e.1]
      split
      · rw [List.map_cons, List.map_cons]; exact .cons htt ih
      · exact ih
theorem leave_slow {by_ : List Int} (hb : ByOk by_) (b : Bool) {st : List S62} {ch : List S81} {ps : List S48} (hv : Valid st ch ps) (k : Nat) {x : S48} (hx : x ∈ ps) : leaveT b ch x ≤ leaveT b ch (slowP by_ k x) := by
  have h1 := hv.lives x hx
  have h2 := chamberB_iff.1 (hv.built.chamber _ (rdT81_get (livesB_iff.1 h1).1.1 (livesB_iff.1 h1).1.2))
  have h3 := (slowP_ok hb (k := k) h1).2
  have e : (rd_T81 ch (slowP by_ k x).f0).f1 = (rd_T81 ch x.f0).f1 := rfl
  have e2 : timeS b (slowP by_ k x).f2 = timeS b x.f2 := rfl
  unfold leaveT
  rw [e, e2]
  have h4 := ceil_anti (a := (rd_T81 ch x.f0).f1) (p := paceS b (slowP by_ k x).f1) (q := paceS b x.f1) h2.2.1.1 (by unfold paceS; split <;> omega) (by unfold paceS; split <;> omega)
  omega
theorem later_slow {by_ : List Int} (hb : ByOk by_) {st : List S62} {ch : List S81} {ps : List S48} (b : Bool) (hv : Valid st ch ps) : Later b st (curS by_ st st.length) ch ps (curP by_ ps ps.length) := by
  have hg : ∀ {k : Nat} (hk : k < st.length), rd_T62 (curS by_ st st.length) k = slowS by_ k st[k] := fun {k} hk => by
    rw [rdT62_get (by rw [curS_length]; exact hk), curS_get by_ st _ hk, if_pos hk]
  have hn : ∀ {k : Nat} (hk : ¬ k < st.length), rd_T62 (curS by_ st st.length) k = rd_T62 st k := fun {k} hk => by
    unfold rd_T62
    rw [Int.toNat_natCast, List.getD_eq_getElem?_getD, List.getD_eq_getElem?_getD, List.getElem?_eq_none (by rw [curS_length]; omega), List.getElem?_eq_none (by omega)]
  have hp : ∀ {k : Nat} (hk : k < ps.length), (curP by_ ps ps.length)[k]'(by rw [curP_length]; exact hk) = slowP by_ k ps[k] := fun {k} hk => by
    rw [curP_get by_ ps _ hk, if_pos hk]
  have hlv : ∀ x ∈ curP by_ ps ps.length, livesB ch.length x = true := fun x hx => by
    obtain ⟨k, hk, rfl⟩ := List.getElem_of_mem hx
    rw [curP_length] at hk
    rw [hp hk]
    exact (slowP_ok hb (hv.lives _ (List.getElem_mem hk))).1
  exact {
    v := hv
    v' := {
      built := {
        nst := by rw [curS_length]; exact hv.built.nst
        nst0 := by rw [curS_length]; exact hv.built.nst0
        nch := hv.built.nch
        nch0 := hv.built.nch0
        stair := fun k hk => by
          rw [curS_length] at hk
          rw [curS_get by_ st _ hk, if_pos hk, curS_length]
          exact (slowS_ok hb (hv.built.stair k hk)).1
        chamber := fun c hc => by rw [curS_length]; exact hv.built.chamber c hc }
      nps := by rw [curP_length]; exact hv.nps
      lives := hlv }
    len := curS_length ..
    gap := fun k => by
      by_cases hk : k < st.length
      · rw [hg hk, rdT62_get hk]
        exact ⟨rfl, (slowS_ok hb (hv.built.stair k hk)).2⟩
      · rw [hn hk]; exact ⟨rfl, Int.le_refl _⟩
    wk := fun k => by
      by_cases hk : k < st.length
      · rw [hg hk, rdT62_get hk]; rfl
      · rw [hn hk]
    sm := fun k => by
      by_cases hk : k < st.length
      · rw [hg hk, rdT62_get hk]; rfl
      · rw [hn hk]
    come := fun i => by
      refine (comeG0_le ch i ?_ ?_).dom
      · refine List.ext_getElem (by simp [curP_length]) fun k h1 h2 => ?_
        have hk : k < ps.length := by simpa using h1
        rw [List.getElem_map, List.getElem_map, hp hk]; rfl
      · refine LeL.of_get (by simp [curP_length]) fun k h1 h2 => ?_
        have hk : k < ps.length := by simpa using h1
        rw [List.getElem_map, List.getElem_map, hp hk]
        exact leave_slow hb b hv k (List.getElem_mem hk)
    who := fun x hx => by
      obtain ⟨k, hk, rfl⟩ := List.getElem_of_mem hx
      refine ⟨slowP by_ k ps[k], ?_, rfl, leave_slow hb b hv k hx⟩
      rw [← hp hk]; exact List.getElem_mem _ }

/-! ## The walk's loops -/
section
variable {st : List S62} {ch : List S81} {ps : List S48} {by_ : List Int} {x : S48} (hc : checkF st ch ps = 0) (hb : ByOk by_) (hcx : checkF st ch (ps ++ [x]) = 0)
include hc hb hcx
theorem slower_end (k : Nat) : cottonpadlaw06_ExitsSlower.l1 (k + 1) ps by_ true (ps ++ [x]) (curP by_ ps ps.length) (ps.length : Int) (ps.length : Int) st ch (curS by_ st st.length) ch = some true := by
  have hv := checkF_zero hc
  have hs := fun b => later_slow hb b hv
  have hm := fun b => later_more b hv (checkF_zero hcx)
  have h1 := checkF_of (hs true).v'
  have o1 : outF st ch ps = (lastT false st ch ps st.length, lastT true st ch ps st.length, 0) := if_pos hc
  have o2 : outF (curS by_ st st.length) ch (curP by_ ps ps.length) = (lastT false (curS by_ st st.length) ch (curP by_ ps ps.length) st.length, lastT true (curS by_ st st.length) ch (curP by_ ps ps.length) st.length, 0) := by
    unfold outF; rw [if_pos h1, curS_length]
  have o3 : outF st ch (ps ++ [x]) = (lastT false st ch (ps ++ [x]) st.length, lastT true st ch (ps ++ [x]) st.length, 0) := if_pos hcx
  have s1 := (safeF_two hc).1
  have s2 := (safeF_two h1).1
  have s3 := (safeF_two hcx).1
  have l1 := fun b => (hs b).last st.length (Nat.le_refl _)
  have l2 := fun b => (hm b).last st.length (Nat.le_refl _)
  have e1 := later_safe hs
  have e2 := later_safe hm
  rw [cottonpadlaw06_ExitsSlower.l1, if_neg (by omega), exitsOut_f (check_small3 hc), exitsOut_f (check_small3 h1), exitsOut_f (check_small3 hcx), exitsSafe_f (check_small3 hc), exitsSafe_f (check_small3 h1), exitsSafe_f (check_small3 hcx), o1, o2, o3]
  simp only [Option.bind_some, if_true]
  rw [if_pos s1, if_pos s2, if_pos s3, if_pos (l1 false), if_pos (l1 true), if_pos (l2 false), if_pos (l2 true), if_pos e1, decide_eq_true e2]

theorem slower_l1 : ∀ d i : Nat, i + d = ps.length →
    Ev (fun k => cottonpadlaw06_ExitsSlower.l1 k ps by_ true (ps ++ [x]) (curP by_ ps i) (ps.length : Int) (i : Int) st ch (curS by_ st st.length) ch) true
  | 0, i, hd => by
    rw [show i = ps.length by omega]
    exact Ev.step (f := fun _ => some true) (slower_end hc hb hcx) (Ev.now _)
  | d + 1, i, hd => by
    have hv := checkF_zero hc
    have hi : i < ps.length := by omega
    have hn := hv.nps
    have hl := curP_length by_ ps i
    have hr : rd_T48 (curP by_ ps i) (i : Int) = ps[i] := by rw [rdT48_nat (by omega), curP_get by_ ps i hi, if_neg (by omega)]
    refine Ev.step (fun k => ?_) (slower_l1 d (i + 1) (by omega))
    rw [cottonpadlaw06_ExitsSlower.l1, if_pos (by omega), if_pos (by omega), if_pos (by omega), wrap_succ hi (by omega), hr]
    have h1 := livesB_iff.1 (hv.lives _ (List.getElem_mem hi))
    have h2 := chooseI_in hb (6 + 2 * i)
    have h3 := chooseI_in hb (7 + 2 * i)
    have t1 : Int.tmod (chooseI by_ (6 + 2 * i)) 200 = chooseI by_ (6 + 2 * i) % 200 := Int.tmod_eq_emod_of_nonneg h2.1
    have t2 : Int.tmod (chooseI by_ (7 + 2 * i)) 200 = chooseI by_ (7 + 2 * i) % 200 := Int.tmod_eq_emod_of_nonneg h3.1
    have m1 : 0 ≤ chooseI by_ (6 + 2 * i) % 200 ∧ chooseI by_ (6 + 2 * i) % 200 < 200 := by omega
    have m2 : 0 ≤ chooseI by_ (7 + 2 * i) % 200 ∧ chooseI by_ (7 + 2 * i) % 200 < 200 := by omega
    have w1 : wrap64 (ps[i].f1.f0 - chooseI by_ (6 + 2 * i) % 200) = ps[i].f1.f0 - chooseI by_ (6 + 2 * i) % 200 := wrap_in (by omega)
    have w2 : wrap64 (ps[i].f1.f1 - chooseI by_ (7 + 2 * i) % 200) = ps[i].f1.f1 - chooseI by_ (7 + 2 * i) % 200 := wrap_in (by omega)
    clear h2 h3 m1 m2 h1
    have a0 : wrap64 (2 * (i : Int)) = ((2 * i : Nat) : Int) := by rw [wrap_in (by clear w1 w2 t1 t2; omega)]; clear w1 w2 t1 t2; omega
    have a1 : wrap64 (6 + ((2 * i : Nat) : Int)) = ((6 + 2 * i : Nat) : Int) := by clear a0 w1 w2 t1 t2; rw [wrap_in (by omega)]; omega
    have a2 : wrap64 (7 + ((2 * i : Nat) : Int)) = ((7 + 2 * i : Nat) : Int) := by clear a0 a1 w1 w2 t1 t2; rw [wrap_in (by omega)]; omega
    rw [a0, a1, a2, choose_f hb, choose_f hb]
    simp only [Option.bind_some]
    rw [t1, w1, Int.toNat_natCast]
    have hy : rd_T48 ((curP by_ ps i).set i (⟨ps[i].f0, (⟨mx (ps[i].f1.f0 - chooseI by_ (6 + 2 * i) % 200) 100, ps[i].f1.f1⟩ : S36), (⟨ps[i].f2.f0, ps[i].f2.f1⟩ : S36)⟩ : S48)) (i : Int) = ⟨ps[i].f0, (⟨mx (ps[i].f1.f0 - chooseI by_ (6 + 2 * i) % 200) 100, ps[i].f1.f1⟩ : S36), (⟨ps[i].f2.f0, ps[i].f2.f1⟩ : S36)⟩ := by
      rw [rdT48_nat (by rw [List.length_set]; clear a0 a1 a2 w1 w2 t1 t2; omega), List.getElem_set_self]
    rw [hy]
    simp only
    rw [t2, w2, List.set_set]
    have := curP_succ by_ ps hi
    rw [← this]
    rfl

theorem slower_l0 : ∀ d i : Nat, i + d = st.length →
    Ev (fun k => cottonpadlaw06_ExitsSlower.l0 k ps by_ true (ps ++ [x]) ps (st.length : Int) (i : Int) st ch (curS by_ st i) ch) true
  | 0, i, hd => by
    have h1 := slower_l1 hc hb hcx ps.length 0 (by omega)
    rw [curP_zero] at h1
    refine Ev.step (fun k => ?_) h1
    rw [cottonpadlaw06_ExitsSlower.l0, if_neg (by omega), show i = st.length by omega]
    rfl
  | d + 1, i, hd => by
    have hv := checkF_zero hc
    have hi : i < st.length := by omega
    have hst := hv.built.nst
    have hl := curS_length by_ st i
    have hr : rd_T62 (curS by_ st i) (i : Int) = st[i] := by rw [rdT62_get (by omega), curS_get by_ st i hi, if_neg (by omega)]
    refine Ev.step (fun k => ?_) (slower_l0 d (i + 1) (by omega))
    rw [cottonpadlaw06_ExitsSlower.l0, if_pos (by omega), if_pos (by omega), if_pos (by omega), wrap_succ hi (by omega), hr, choose_f hb]
    have h1 := stairB_iff.1 (hv.built.stair i hi)
    have h2 := chooseI_in hb i
    have t1 : Int.tmod (chooseI by_ i) 5 = chooseI by_ i % 5 := Int.tmod_eq_emod_of_nonneg h2.1
    have w1 : wrap64 (st[i].f1 + chooseI by_ i % 5) = st[i].f1 + chooseI by_ i % 5 := wrap_in (by omega)
    simp only [Option.bind_some]
    rw [t1, w1, Int.toNat_natCast]
    have := curS_succ by_ st hi
    rw [← this]
    rfl
end

theorem ExitsSlower_ev (st : List S62) (ch : List S81) (ps : List S48) {by_ : List Int} (hb : ByOk by_) (x : S48) (hlen : ps.length ≤ 3518437208780) : Ev (fun k => cottonpadlaw06_ExitsSlower.f k st ch ps by_ x.f0 x.f1.f0 x.f1.f1 x.f2.f0 x.f2.f1) true := by
  have h0 : ∀ k, cottonpadlaw06_ExitsSlower.f k st ch ps by_ x.f0 x.f1.f0 x.f1.f1 x.f2.f0 x.f2.f1 = (cottonpadlaw06_ready.f k st ch ps).bind fun t948 => (if t948 = true then ((cottonpadlaw06_ready.f k st ch (ps ++ [x])).bind fun t949 => (if t949 = true then cottonpadlaw06_ExitsSlower.j0 k ps by_ true (ps ++ [x]) false st ch else cottonpadlaw06_ExitsSlower.j0 k ps by_ true (ps ++ [x]) true st ch)) else cottonpadlaw06_ExitsSlower.j0 k ps by_ true (ps ++ [x]) true st ch) := fun k => by
    unfold cottonpadlaw06_ExitsSlower.f
    have ha : cottonpadlaw06_alive_t.f = some true := rfl
    rw [ha]
    simp only [Option.bind_some, List.length_nil, List.nil_append, Nat.zero_add, List.length_cons]
    rw [if_pos (by omega), if_pos (by omega)]
    rfl
  have hE : Ev (fun k => cottonpadlaw06_ExitsSlower.j0 k ps by_ true (ps ++ [x]) true st ch) true := Ev.step (f := fun _ => some true) (fun k => by rw [cottonpadlaw06_ExitsSlower.j0, if_pos rfl]) (Ev.now _)
  refine Ev.congr h0 (Ev.bind (ready_ev st ch ps) ?_)
  by_cases h : (!greatB st ch ps && checkF st ch ps == 0) = true
  · simp only [h, if_true]
    refine Ev.bind (ready_ev st ch (ps ++ [x])) ?_
    by_cases hx : (!greatB st ch (ps ++ [x]) && checkF st ch (ps ++ [x]) == 0) = true
    · simp only [hx, if_true]
      have hc := ready_out h
      have h3 := check_small3 hc
      have hl0 := slower_l0 hc hb (ready_out hx) st.length 0 (by omega)
      rw [curS_zero] at hl0
      refine Ev.step (fun k => ?_) hl0
      rw [cottonpadlaw06_ExitsSlower.j0, if_neg (by simp), Twin_f h3.1 h3.2.1]
      simp only [Option.bind_some, List.length_nil, List.nil_append, Nat.zero_add]
      rw [if_pos (by have := h3.2.2; omega)]
      rfl
    · simp only [hx, Bool.false_eq_true, if_false]; exact hE
  · simp only [h, Bool.false_eq_true, if_false]; exact hE
end Go.Proofs.YtdeaccbolnlgpaaDoor.X
