import Derived.Test.YtdeaccbolnlgpaaDoorXPX
import Derived.Test.YtdeaccbolnlgpaaDoorXPB1
namespace Go.Proofs.YtdeaccbolnlgpaaDoor.X
open Go.RowKit
set_option linter.unusedVariables false
set_option linter.unusedSimpArgs false

/-! # Nobody later, and the smoke no earlier -/
structure NoLater (b b' : Bool) (st st' : List S62) (ch ch' : List S81) (ps ps' : List S48) : Prop where
  lenS : st'.length = st.length
  lenC : ch'.length = ch.length
  left : ∀ k : Nat, k < st.length → ∀ t ∈ leftAt b st ch ps k, ∃ t' ∈ leftAt b' st' ch' ps' k, t ≤ t'
  smS : ∀ k : Nat, k < st.length → smokeS b' (rd_T62 st' k).f3 ≤ smokeS b (rd_T62 st k).f3
  who : ∀ x ∈ ps, ∃ x' ∈ ps', x'.f0 = x.f0 ∧ leaveT b ch x ≤ leaveT b' ch' x'
  smC : ∀ k : Nat, k < ch.length → smokeS b' (rd_T81 ch' k).f2 ≤ smokeS b (rd_T81 ch k).f2
theorem NoLater.late {b b' : Bool} {st st' : List S62} {ch ch' : List S81} {ps ps' : List S48} (h : NoLater b b' st st' ch ch' ps ps') (hn : lateF b' st' ch' ps' = (-1, -1)) : lateF b st ch ps = (-1, -1) := by
  have h1 : lateC b' ch' ps' ch'.length = -1 := congrArg Prod.fst hn
  have h2 : lateS b' st' ch' ps' 0 st'.length = -1 := congrArg Prod.snd hn
  have a1 : lateC b ch ps ch.length = -1 := Classical.byContradiction fun hne => by
    obtain ⟨c, hc, h3⟩ := lateC_some _ hne
    obtain ⟨x, hx, h4⟩ := List.any_eq_true.1 h3
    obtain ⟨x', hx', e0, hle⟩ := h.who x hx
    have h5 := List.any_eq_false.1 (lateC_none _ h1 c (by rw [h.lenC]; exact hc)) x' hx'
    have h6 := h.smC c hc
    simp [slowB] at h4 h5
    have := h5 (by rw [e0]; exact h4.1)
    omega
  have a2 : lateS b st ch ps 0 st.length = -1 := Classical.byContradiction fun hne => by
    obtain ⟨s, _, hs, h3⟩ := lateS_some _ _ hne
    rw [Nat.zero_add] at hs
    obtain ⟨t, ht, h4⟩ := List.any_eq_true.1 h3
    obtain ⟨t', ht', hle⟩ := h.left s hs t ht
    have h5 := List.any_eq_false.1 (lateS_all _ _ h2 s (by omega) (by rw [h.lenS]; omega)) t' ht'
    have h6 := h.smS s hs
    simp at h4 h5
    omega
  exact Prod.ext a1 a2
theorem LeL.mem {l m : List Int} (h : LeL l m) : ∀ t ∈ l, ∃ t' ∈ m, t ≤ t' := fun t ht => by
  obtain ⟨i, hi, rfl⟩ := List.getElem_of_mem ht
  have hi' : i < m.length := by rw [← h.length]; exact hi
  exact ⟨m[i], List.getElem_mem _, h.get i hi hi'⟩

/-! ## All fast, and all slow -/
theorem leave_ends {st : List S62} {ch : List S81} {ps : List S48} (hv : Valid st ch ps) {x : S48} (hx : x ∈ ps) : leaveT false ch x ≤ leaveT true ch x := by
  have h1 := livesB_iff.1 (hv.lives x hx)
  have h2 := chamberB_iff.1 (hv.built.chamber _ (rdT81_get h1.1.1 h1.1.2))
  have h5 := ceil_anti (a := (rd_T81 ch x.f0).f1) (p := x.f1.f0) (q := x.f1.f1) h2.2.1.1 (by omega) (by omega)
  unfold leaveT
  simp only [timeS, paceS, if_true, Bool.false_eq_true, if_false]
  omega
theorem left_ends {st : List S62} {ch : List S81} {ps : List S48} (hv : Valid st ch ps) {k : Nat} (hk : k < st.length) : LeL (leftAt false st ch ps k) (leftAt true st ch ps k) := by
  rw [← leftG_eq false st ch ps hk, ← leftG_eq true st ch ps hk]
  refine leftG_mono (GapLe.refl st) ch ps (LeL.map_same _ fun x hx => leave_ends hv hx) (LeL.map_same _ fun s hs => ?_) k
  obtain ⟨i, hi, rfl⟩ := List.getElem_of_mem hs
  exact (stairB_iff.1 (hv.built.stair i hi)).2.2.1.2.1
theorem noLater_ends {st : List S62} {ch : List S81} {ps : List S48} (hv : Valid st ch ps) : NoLater false true st st ch ch ps ps where
  lenS := rfl
  lenC := rfl
  left := fun k hk => (left_ends hv hk).mem
  smS := fun k hk => by
    have := (stairB_iff.1 (hv.built.stair k hk)).2.2.2
    rw [rdT62_get hk]; exact this.2.1
  who := fun x hx => ⟨x, hx, rfl, leave_ends hv hx⟩
  smC := fun c hc => (chamberB_iff.1 (hv.built.chamber _ (rdT81_get (c := (c : Int)) (by omega) (by omega)))).2.2.2.1
theorem late_ends {st : List S62} {ch : List S81} {ps : List S48} (hv : Valid st ch ps) (h : lateF true st ch ps = (-1, -1)) : lateF false st ch ps = (-1, -1) := (noLater_ends hv).late h

/-! # All is known: at the worst end, or the best -/
def fixS (c : Bool) (s : S62) : S62 := ⟨s.f0, s.f1, ⟨timeS c s.f2, timeS c s.f2⟩, ⟨smokeS c s.f3, smokeS c s.f3⟩⟩
def fixC (c : Bool) (x : S81) : S81 := ⟨x.f0, x.f1, ⟨smokeS c x.f2, smokeS c x.f2⟩⟩
def fixP (c : Bool) (x : S48) : S48 := ⟨x.f0, ⟨paceS c x.f1, paceS c x.f1⟩, ⟨timeS c x.f2, timeS c x.f2⟩⟩
section
variable (b c : Bool) (st : List S62) (ch : List S81) (ps : List S48)
theorem fixC_rd (i : Int) : (rd_T81 (ch.map (fixC c)) i).f0 = (rd_T81 ch i).f0 ∧ (rd_T81 (ch.map (fixC c)) i).f1 = (rd_T81 ch i).f1 := by
  unfold rd_T81
  rw [List.getD_eq_getElem?_getD, List.getD_eq_getElem?_getD, List.getElem?_map]
  cases ch[i.toNat]? <;> exact ⟨rfl, rfl⟩
theorem fixC_at {k : Nat} (hk : k < ch.length) : rd_T81 (ch.map (fixC c)) k = fixC c (rd_T81 ch k) := by
  unfold rd_T81
  rw [Int.toNat_natCast, List.getD_eq_getElem?_getD, List.getD_eq_getElem?_getD, List.getElem?_map, List.getElem?_eq_getElem hk]; rfl
theorem fixS_at {k : Nat} (hk : k < st.length) : rd_T62 (st.map (fixS c)) k = fixS c (rd_T62 st k) := by
  unfold rd_T62
  rw [Int.toNat_natCast, List.getD_eq_getElem?_getD, List.getD_eq_getElem?_getD, List.getElem?_map, List.getElem?_eq_getElem hk]; rfl
theorem time_one (t : Int) : timeS b ⟨t, t⟩ = t := by cases b <;> rfl
theorem pace_one (t : Int) : paceS b ⟨t, t⟩ = t := by cases b <;> rfl
theorem smoke_one (t : Int) : smokeS b ⟨t, t⟩ = t := by cases b <;> rfl
theorem fix_leave (x : S48) : leaveT b (ch.map (fixC c)) (fixP c x) = leaveT c ch x := by
  unfold leaveT
  have e : (rd_T81 (ch.map (fixC c)) (fixP c x).f0).f1 = (rd_T81 ch x.f0).f1 := (fixC_rd c ch x.f0).2
  rw [e]
  simp only [fixP, time_one, pace_one]
theorem fix_comeO (i : Int) : comeO b (ch.map (fixC c)) (ps.map (fixP c)) i = comeO c ch ps i := by
  unfold comeO
  rw [List.filter_map, List.map_map]
  have e : ((fun x : S48 => (rd_T81 (ch.map (fixC c)) x.f0).f0 == i) ∘ fixP c) = fun x : S48 => (rd_T81 ch x.f0).f0 == i := by
    funext x
    have : (rd_T81 (ch.map (fixC c)) (fixP c x).f0).f0 = (rd_T81 ch x.f0).f0 := (fixC_rd c ch x.f0).1
    simp only [Function.comp, this]
  rw [e]
  exact List.map_congr_left fun x _ => fix_leave b c ch x
theorem fix_leftOf (s : S62) (l : List Int) : leftOf b (fixS c s) l = leftOf c s l := by
  unfold leftOf
  simp only [fixS, time_one]
theorem fix_come : ∀ k, k ≤ st.length → comeAt b (st.map (fixS c)) (ch.map (fixC c)) (ps.map (fixP c)) k = comeAt c st ch ps k
  | 0, _ => funext fun i => fix_comeO b c ch ps i
  | k + 1, hk => by
    simp only [comeAt, comeN]
    rw [fixS_at c st (by omega), fix_leftOf, fix_come k (by omega)]
    rfl
theorem fix_left {k : Nat} (hk : k < st.length) : leftAt b (st.map (fixS c)) (ch.map (fixC c)) (ps.map (fixP c)) k = leftAt c st ch ps k := by
  unfold leftAt
  rw [fixS_at c st hk, fix_leftOf, fix_come b c st ch ps k (by omega)]
theorem fix_last : ∀ k, k ≤ st.length → lastT b (st.map (fixS c)) (ch.map (fixC c)) (ps.map (fixP c)) k = lastT c st ch ps k
  | 0, _ => rfl
  | k + 1, hk => by
    rw [lastT, lastT, fixS_at c st (by omega), fix_left b c st ch ps (by omega), fix_last k (by omega)]
    rfl
theorem fix_lateC : ∀ k, k ≤ ch.length → lateC b (ch.map (fixC c)) (ps.map (fixP c)) k = lateC c ch ps k
  | 0, _ => rfl
  | k + 1, hk => by
    have e : (ps.map (fixP c)).any (slowB b (ch.map (fixC c)) k (rd_T81 (ch.map (fixC c)) k).f2) = ps.any (slowB c ch k (rd_T81 ch k).f2) := by
      rw [List.any_map, fixC_at c ch (by omega)]
      congr 1
      funext x
      simp only [Function.comp, slowB, fix_leave]
      simp only [fixC, fixP, smoke_one]
    rw [lateC, lateC, fix_lateC k (by omega), e]
theorem fix_lateB {k : Nat} (hk : k < st.length) : lateB b (st.map (fixS c)) (ch.map (fixC c)) (ps.map (fixP c)) k = lateB c st ch ps k := by
  unfold lateB
  rw [fix_left b c st ch ps hk, fixS_at c st hk]
  simp only [fixS, smoke_one]
theorem fix_lateS : ∀ n k, k + n ≤ st.length → lateS b (st.map (fixS c)) (ch.map (fixC c)) (ps.map (fixP c)) k n = lateS c st ch ps k n
  | 0, _, _ => rfl
  | n + 1, k, h => by rw [lateS, lateS, fix_lateB b c st ch ps (by omega), fix_lateS n (k + 1) (by omega)]
theorem fix_late : lateF b (st.map (fixS c)) (ch.map (fixC c)) (ps.map (fixP c)) = lateF c st ch ps := by
  unfold lateF
  rw [List.length_map, List.length_map, fix_lateC b c ch ps _ (Nat.le_refl _), fix_lateS b c st ch ps _ 0 (by omega)]
end
theorem fix_valid (c : Bool) {st : List S62} {ch : List S81} {ps : List S48} (hv : Valid st ch ps) : Valid (st.map (fixS c)) (ch.map (fixC c)) (ps.map (fixP c)) where
  built := {
    nst := by rw [List.length_map]; exact hv.built.nst
    nst0 := by rw [List.length_map]; exact hv.built.nst0
    nch := by rw [List.length_map]; exact hv.built.nch
    nch0 := by rw [List.length_map]; exact hv.built.nch0
    stair := fun k hk => by
      have hk' : k < st.length := by simpa using hk
      rw [List.getElem_map]
      have hl : (st.map (fixS c)).length = st.length := List.length_map _
      have h := stairB_iff.1 (hv.built.stair k hk')
      show stairB (st.map (fixS c)).length k (fixS c st[k]) = true
      generalize (st.map (fixS c)).length = n at hl
      subst hl
      refine stairB_iff.2 ⟨h.1, h.2.1, ?_, ?_⟩ <;> cases c <;> simp only [fixS, timeS, smokeS, if_true, Bool.false_eq_true, if_false] <;> omega
    chamber := fun x hx => by
      obtain ⟨y, hy, rfl⟩ := List.mem_map.1 hx
      rw [List.length_map]
      have h := chamberB_iff.1 (hv.built.chamber y hy)
      refine chamberB_iff.2 ⟨h.1, h.2.1, ?_⟩
      cases c <;> simp only [fixC, smokeS, if_true, Bool.false_eq_true, if_false] <;> omega }
  nps := by rw [List.length_map]; exact hv.nps
  lives := fun x hx => by
    obtain ⟨y, hy, rfl⟩ := List.mem_map.1 hx
    rw [List.length_map]
    have h := livesB_iff.1 (hv.lives y hy)
    refine livesB_iff.2 ⟨h.1, ?_, ?_⟩ <;> cases c <;> simp only [fixP, timeS, paceS, if_true, Bool.false_eq_true, if_false] <;> omega
section
variable {st : List S62} {ch : List S81} {ps : List S48} (hc : checkF st ch ps = 0) (c : Bool)
include hc
theorem fix_check : checkF (st.map (fixS c)) (ch.map (fixC c)) (ps.map (fixP c)) = 0 := checkF_of (fix_valid c (checkF_zero hc))
theorem fix_out : outF (st.map (fixS c)) (ch.map (fixC c)) (ps.map (fixP c)) = (lastT c st ch ps st.length, lastT c st ch ps st.length, 0) := by
  unfold outF
  rw [if_pos (fix_check hc c), List.length_map, fix_last _ _ _ _ _ _ (Nat.le_refl _), fix_last _ _ _ _ _ _ (Nat.le_refl _)]
theorem fix_safe : safeF (st.map (fixS c)) (ch.map (fixC c)) (ps.map (fixP c)) = (if lateF c st ch ps = (-1, -1) then 2 else 0, (lateF c st ch ps).1, (lateF c st ch ps).2, 0) := by
  unfold safeF
  rw [if_pos (fix_check hc c), fix_late, fix_late]
  by_cases h : lateF c st ch ps = (-1, -1)
  · rw [if_pos h, if_pos h]
  · rw [if_neg h, if_neg h, if_neg h]
theorem fix_leaves {s : Nat} (hs : s < st.length) : leavesF (st.map (fixS c)) (ch.map (fixC c)) (ps.map (fixP c)) (s : Int) = ((leftAt c st ch ps s).map fun t => ⟨t, t⟩, 0) := by
  rw [leavesF_at (fix_check hc c) (by rw [List.length_map]; exact hs), fix_left _ _ _ _ _ hs, fix_left _ _ _ _ _ hs]
  congr 1
  generalize leftAt c st ch ps s = l
  induction l with
  | nil => rfl
  | cons a l ih => rw [List.zipWith_cons_cons, ih]; rfl
end
end Go.Proofs.YtdeaccbolnlgpaaDoor.X
