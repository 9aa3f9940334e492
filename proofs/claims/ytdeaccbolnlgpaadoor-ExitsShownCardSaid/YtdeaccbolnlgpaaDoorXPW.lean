import Derived.Test.YtdeaccbolnlgpaaDoorXPB1
import Derived.Test.YtdeaccbolnlgpaaDoorXP6G
import Derived.Test.YtdeaccbolnlgpaaDoorXN10
namespace Go.Proofs.YtdeaccbolnlgpaaDoor.X
open Go.RowKit Go.Proofs.YtdeaccbolnlgpaaDoorW.PrintWords Go.Proofs.YtdeaccbolnlgpaaDoorW.PrintLast Go.Proofs.YtdeaccbolnlgpaaDoorW.PrintMore
set_option linter.unusedVariables false
set_option linter.unusedSimpArgs false

/-! # The plain law of ExitsShown -/

/-! ## The first that is late -/
theorem lateC_spec (b : Bool) (ch : List S81) (ps : List S48) : ∀ k, (lateC b ch ps k = -1 ∧ ∀ c, c < k → ps.any (slowB b ch c (rd_T81 ch c).f2) = false) ∨ ∃ c : Nat, c < k ∧ lateC b ch ps k = c ∧ ps.any (slowB b ch c (rd_T81 ch c).f2) = true ∧ ∀ c', c' < c → ps.any (slowB b ch c' (rd_T81 ch c').f2) = false
  | 0 => .inl ⟨rfl, fun c hc => by omega⟩
  | k + 1 => by
    rw [lateC]
    rcases lateC_spec b ch ps k with ⟨h1, h2⟩ | ⟨c, h1, h2, h3, h4⟩
    · by_cases h : ps.any (slowB b ch k (rd_T81 ch k).f2) = true
      · exact .inr ⟨k, by omega, if_pos ⟨by omega, h⟩, h, h2⟩
      · refine .inl ⟨by rw [if_neg (fun e => h e.2)]; exact h1, fun c hc => ?_⟩
        by_cases e : c = k
        · subst e; simpa using h
        · exact h2 c (by omega)
    · exact .inr ⟨c, by omega, by rw [if_neg (fun e => by have := e.1; omega)]; exact h2, h3, h4⟩
theorem lateS_spec (b : Bool) (st : List S62) (ch : List S81) (ps : List S48) : ∀ n k, (lateS b st ch ps k n = -1 ∧ ∀ j, k ≤ j → j < k + n → lateB b st ch ps j = false) ∨ ∃ c : Nat, k ≤ c ∧ c < k + n ∧ lateS b st ch ps k n = c ∧ lateB b st ch ps c = true ∧ ∀ j, k ≤ j → j < c → lateB b st ch ps j = false
  | 0, k => .inl ⟨rfl, fun j h1 h2 => by omega⟩
  | n + 1, k => by
    rw [lateS]
    cases h : lateB b st ch ps k
    · rw [if_neg (by simp)]
      rcases lateS_spec b st ch ps n (k + 1) with ⟨h1, h2⟩ | ⟨c, h0, h1, h2, h3, h4⟩
      · refine .inl ⟨h1, fun j a1 a2 => ?_⟩
        by_cases e : j = k
        · subst e; exact h
        · exact h2 j (by omega) (by omega)
      · refine .inr ⟨c, by omega, by omega, h2, h3, fun j a1 a2 => ?_⟩
        by_cases e : j = k
        · subst e; exact h
        · exact h4 j (by omega) (by omega)
    · rw [if_pos rfl]
      exact .inr ⟨k, by omega, by omega, rfl, h, fun j a1 a2 => by omega⟩

/-! ## No smoke there -/
def calm : S36 := ⟨36000, 36000⟩
def calmC (ch : List S81) (c : Int) : List S81 := if 0 ≤ c then ch.set c.toNat ⟨(rd_T81 ch c).f0, (rd_T81 ch c).f1, calm⟩ else ch
def calmS (st : List S62) (s : Int) : List S62 := if 0 ≤ s then st.set s.toNat ⟨(rd_T62 st s).f0, (rd_T62 st s).f1, (rd_T62 st s).f2, calm⟩ else st
theorem calmC_length (ch : List S81) (c : Int) : (calmC ch c).length = ch.length := by unfold calmC; split <;> simp
theorem calmS_length (st : List S62) (s : Int) : (calmS st s).length = st.length := by unfold calmS; split <;> simp
theorem calmC_rd (ch : List S81) (c : Int) (i : Int) : (rd_T81 (calmC ch c) i).f0 = (rd_T81 ch i).f0 ∧ (rd_T81 (calmC ch c) i).f1 = (rd_T81 ch i).f1 ∧ ((rd_T81 (calmC ch c) i).f2 = (rd_T81 ch i).f2 ∨ (i.toNat = c.toNat ∧ i.toNat < ch.length ∧ (rd_T81 (calmC ch c) i).f2 = calm)) := by
  unfold calmC
  split
  · unfold rd_T81
    by_cases e : c.toNat = i.toNat
    · by_cases h : i.toNat < ch.length
      · rw [List.getD_eq_getElem?_getD, e, List.getElem?_set_self h]
        exact ⟨rfl, rfl, .inr ⟨rfl, h, rfl⟩⟩
      · rw [List.set_eq_of_length_le (by omega)]; exact ⟨rfl, rfl, .inl rfl⟩
    · rw [List.getD_eq_getElem?_getD, List.getElem?_set_ne e, ← List.getD_eq_getElem?_getD]; exact ⟨rfl, rfl, .inl rfl⟩
  · exact ⟨rfl, rfl, .inl rfl⟩
theorem calmC_at (ch : List S81) {c : Nat} (hc : c < ch.length) : (rd_T81 (calmC ch c) c).f2 = calm := by
  unfold calmC
  rw [if_pos (by omega)]
  unfold rd_T81
  rw [List.getD_eq_getElem?_getD, Int.toNat_natCast, List.getElem?_set_self hc]; rfl
theorem calmC_ne (ch : List S81) {c m : Nat} (h : m ≠ c) : (rd_T81 (calmC ch c) m).f2 = (rd_T81 ch m).f2 := by
  rcases (calmC_rd ch c m).2.2 with e | ⟨e, _⟩
  · exact e
  · simp at e; omega
theorem calmS_rd (st : List S62) (s : Int) (i : Int) : (rd_T62 (calmS st s) i).f0 = (rd_T62 st i).f0 ∧ (rd_T62 (calmS st s) i).f1 = (rd_T62 st i).f1 ∧ (rd_T62 (calmS st s) i).f2 = (rd_T62 st i).f2 ∧ ((rd_T62 (calmS st s) i).f3 = (rd_T62 st i).f3 ∨ (i.toNat = s.toNat ∧ i.toNat < st.length ∧ (rd_T62 (calmS st s) i).f3 = calm)) := by
  unfold calmS
  split
  · unfold rd_T62
    by_cases e : s.toNat = i.toNat
    · by_cases h : i.toNat < st.length
      · rw [List.getD_eq_getElem?_getD, e, List.getElem?_set_self h]
        exact ⟨rfl, rfl, rfl, .inr ⟨rfl, h, rfl⟩⟩
      · rw [List.set_eq_of_length_le (by omega)]; exact ⟨rfl, rfl, rfl, .inl rfl⟩
    · rw [List.getD_eq_getElem?_getD, List.getElem?_set_ne e, ← List.getD_eq_getElem?_getD]; exact ⟨rfl, rfl, rfl, .inl rfl⟩
  · exact ⟨rfl, rfl, rfl, .inl rfl⟩
theorem calmS_at (st : List S62) {s : Nat} (hs : s < st.length) : (rd_T62 (calmS st s) s).f3 = calm := by
  unfold calmS
  rw [if_pos (by omega)]
  unfold rd_T62
  rw [List.getD_eq_getElem?_getD, Int.toNat_natCast, List.getElem?_set_self hs]; rfl
theorem calmS_ne (st : List S62) {s m : Nat} (h : m ≠ s) : (rd_T62 (calmS st s) m).f3 = (rd_T62 st m).f3 := by
  rcases (calmS_rd st s m).2.2.2 with e | ⟨e, _⟩
  · exact e
  · simp at e; omega

theorem leaveT_calm (b : Bool) (ch : List S81) (c : Int) (x : S48) : leaveT b (calmC ch c) x = leaveT b ch x := by
  unfold leaveT
  rw [(calmC_rd ch c x.f0).2.1]
theorem leftAt_calm (b : Bool) (st : List S62) (ch : List S81) (ps : List S48) (c s : Int) {k : Nat} (hk : k < st.length) : leftAt b (calmS st s) (calmC ch c) ps k = leftAt b st ch ps k := by
  rw [← leftG_eq b st ch ps hk, ← leftG_eq b (calmS st s) (calmC ch c) ps (by rw [calmS_length]; exact hk)]
  have e1 : (calmS st s).map (fun s => timeS b s.f2) = st.map (fun s => timeS b s.f2) := by
    apply List.ext_getElem
    · simp [calmS_length]
    · intro i h1 h2
      have hi : i < st.length := by simpa using h2
      have := (calmS_rd st s i).2.2.1
      rw [rdT62_get hi, rdT62_get (by rw [calmS_length]; exact hi)] at this
      simp [this]
  have e2 : ps.map (leaveT b (calmC ch c)) = ps.map (leaveT b ch) := List.map_congr_left fun x _ => leaveT_calm b ch c x
  rw [e1, e2]
  refine leftG_congr (fun k => ⟨(calmS_rd st s k).1, (calmS_rd st s k).2.1⟩) _ (fun i => ?_) k
  unfold comeG0
  congr 1
  refine List.filter_congr fun p _ => ?_
  rw [(calmC_rd ch c p.1.f0).1]

theorem calm_valid {st : List S62} {ch : List S81} {ps : List S48} (hv : Valid st ch ps) (c s : Int) : Valid (calmS st s) (calmC ch c) ps where
  built := {
    nst := by rw [calmS_length]; exact hv.built.nst
    nst0 := by rw [calmS_length]; exact hv.built.nst0
    nch := by rw [calmC_length]; exact hv.built.nch
    nch0 := by rw [calmC_length]; exact hv.built.nch0
    stair := fun k hk => by
      have hk' : k < st.length := by rw [calmS_length] at hk; exact hk
      obtain ⟨e0, e1, e2, e3⟩ := calmS_rd st s k
      rw [rdT62_get hk, rdT62_get hk'] at e0 e1 e2 e3
      have h := stairB_iff.1 (hv.built.stair k hk')
      rw [stairB_iff, e0, e1, e2, calmS_length]
      rcases e3 with e3 | ⟨_, _, e3⟩
      · rw [e3]; exact h
      · rw [e3]; exact ⟨h.1, h.2.1, h.2.2.1, by simp [calm]⟩
    chamber := fun x hx => by
      obtain ⟨i, hi, rfl⟩ := List.getElem_of_mem hx
      have hi' : i < ch.length := by rw [calmC_length] at hi; exact hi
      obtain ⟨e0, e1, e2⟩ := calmC_rd ch c i
      have a1 : rd_T81 (calmC ch c) i = (calmC ch c)[i] := by unfold rd_T81; rw [Int.toNat_natCast, List.getD_eq_getElem?_getD, List.getElem?_eq_getElem hi]; rfl
      have a2 : rd_T81 ch i = ch[i] := by unfold rd_T81; rw [Int.toNat_natCast, List.getD_eq_getElem?_getD, List.getElem?_eq_getElem hi']; rfl
      rw [a1, a2] at e0 e1 e2
      have h := chamberB_iff.1 (hv.built.chamber _ (List.getElem_mem hi'))
      rw [chamberB_iff, e0, e1, calmS_length]
      rcases e2 with e2 | ⟨_, _, e2⟩
      · rw [e2]; exact h
      · rw [e2]; exact ⟨h.1, h.2.1, by simp [calm]⟩ }
  nps := hv.nps
  lives := fun x hx => by rw [calmC_length]; exact hv.lives x hx

/-- Behind the calming the first that is late comes later. -/
theorem calm_late {st : List S62} {ch : List S81} {ps : List S48} (hv : Valid st ch ps) : 
    ((lateF true (calmS st (lateF true st ch ps).2) (calmC ch (lateF true st ch ps).1) ps).1 < 0 ∨ (lateF true st ch ps).1 < (lateF true (calmS st (lateF true st ch ps).2) (calmC ch (lateF true st ch ps).1) ps).1) ∧
    ((lateF true (calmS st (lateF true st ch ps).2) (calmC ch (lateF true st ch ps).1) ps).2 < 0 ∨ (lateF true st ch ps).2 < (lateF true (calmS st (lateF true st ch ps).2) (calmC ch (lateF true st ch ps).1) ps).2) := by
  have hC : (lateF true st ch ps).1 = lateC true ch ps ch.length := rfl
  have hS : (lateF true st ch ps).2 = lateS true st ch ps 0 st.length := rfl
  rw [hC, hS]
  refine ⟨?_, ?_⟩
  · show lateC true (calmC ch _) ps (calmC ch _).length < 0 ∨ _ < lateC true (calmC ch _) ps (calmC ch _).length
    rcases lateC_spec true ch ps ch.length with ⟨h1, _⟩ | ⟨c, h1, h2, h3, h4⟩
    · rw [h1]
      rcases lateC_spec true (calmC ch (-1)) ps (calmC ch (-1)).length with ⟨h, _⟩ | ⟨c', _, h, _⟩ <;> omega
    · rw [h2]
      rcases lateC_spec true (calmC ch c) ps (calmC ch c).length with ⟨e1, _⟩ | ⟨c', e1, e2, e3, _⟩
      · left; omega
      · right
        rw [e2]
        rw [calmC_length] at e1
        have hlt : ¬ c' ≤ c := fun hle => by
          obtain ⟨x, hx, hsl⟩ := List.any_eq_true.1 e3
          by_cases e : c' = c
          · subst e
            rw [calmC_at ch e1] at hsl
            have := leaveT_le (b := true) hv hx
            simp [slowB, leaveT_calm, smokeS, calm] at hsl
            omega
          · have h5 := List.any_eq_false.1 (h4 c' (by omega)) x hx
            rw [calmC_ne ch e] at hsl
            simp only [slowB, leaveT_calm] at hsl h5
            exact h5 hsl
        omega
  · show lateS true (calmS st _) (calmC ch _) ps 0 (calmS st _).length < 0 ∨ _ < lateS true (calmS st _) (calmC ch _) ps 0 (calmS st _).length
    rcases lateS_spec true st ch ps st.length 0 with ⟨h1, _⟩ | ⟨s, _, h1, h2, h3, h4⟩
    · rw [h1]
      rcases lateS_spec true (calmS st (-1)) (calmC ch (lateC true ch ps ch.length)) ps (calmS st (-1)).length 0 with ⟨h, _⟩ | ⟨s', _, _, h, _⟩ <;> omega
    · rw [h2]
      rcases lateS_spec true (calmS st s) (calmC ch (lateC true ch ps ch.length)) ps (calmS st s).length 0 with ⟨e1, _⟩ | ⟨s', _, e1, e2, e3, _⟩
      · left; omega
      · right
        rw [e2]
        rw [calmS_length, Nat.zero_add] at e1
        have hlt : ¬ s' ≤ s := fun hle => by
          unfold lateB at e3
          rw [leftAt_calm true st ch ps _ _ e1] at e3
          obtain ⟨t, ht, hsl⟩ := List.any_eq_true.1 e3
          by_cases e : s' = s
          · subst e
            rw [calmS_at st e1] at hsl
            have := leftAt_bound true hv e1 t ht
            simp [smokeS, calm] at hsl
            omega
          · have h5 := List.any_eq_false.1 (h4 s' (by omega) (by omega)) t ht
            rw [calmS_ne st e] at hsl
            exact h5 hsl
        omega

section
variable {st : List S62} {ch : List S81} {ps : List S48} (hc : checkF st ch ps = 0)
include hc

theorem shown_j6 : Ev (fun k => cottonpadlaw06_ExitsShown.j6 k ps true (lateF true st ch ps).1 (lateF true st ch ps).2 st (calmC ch (lateF true st ch ps).1)) true := by
  have hv := checkF_zero hc
  have hv' := calm_valid hv (lateF true st ch ps).1 (lateF true st ch ps).2
  have hc' := checkF_of hv'
  have h3 := check_small3 hc'
  obtain ⟨l1, l2⟩ := calm_late hv
  have hS : (safeF (calmS st (lateF true st ch ps).2) (calmC ch (lateF true st ch ps).1) ps).2 = ((lateF true (calmS st (lateF true st ch ps).2) (calmC ch (lateF true st ch ps).1) ps).1, (lateF true (calmS st (lateF true st ch ps).2) (calmC ch (lateF true st ch ps).1) ps).2, 0) := by
    unfold safeF; rw [if_pos hc']
  have hfin : (if (safeF (calmS st (lateF true st ch ps).2) (calmC ch (lateF true st ch ps).1) ps).2.2.2 = 0 then (if (safeF (calmS st (lateF true st ch ps).2) (calmC ch (lateF true st ch ps).1) ps).2.1 < 0 then (if (safeF (calmS st (lateF true st ch ps).2) (calmC ch (lateF true st ch ps).1) ps).2.2.1 < 0 then (some true) else (some (decide ((safeF (calmS st (lateF true st ch ps).2) (calmC ch (lateF true st ch ps).1) ps).2.2.1 > (lateF true st ch ps).2)))) else (if (safeF (calmS st (lateF true st ch ps).2) (calmC ch (lateF true st ch ps).1) ps).2.1 > (lateF true st ch ps).1 then (if (safeF (calmS st (lateF true st ch ps).2) (calmC ch (lateF true st ch ps).1) ps).2.2.1 < 0 then (some true) else (some (decide ((safeF (calmS st (lateF true st ch ps).2) (calmC ch (lateF true st ch ps).1) ps).2.2.1 > (lateF true st ch ps).2)))) else (some false))) else (some false)) = some true := by
    rw [hS]
    simp only [if_true]
    have hin : (if (lateF true (calmS st (lateF true st ch ps).2) (calmC ch (lateF true st ch ps).1) ps).2 < 0 then (some true) else (some (decide ((lateF true (calmS st (lateF true st ch ps).2) (calmC ch (lateF true st ch ps).1) ps).2 > (lateF true st ch ps).2)))) = some true := by
      rcases l2 with l2 | l2
      · rw [if_pos l2]
      · split
        · rfl
        · rw [decide_eq_true l2]
    rw [hin]
    rcases l1 with l1 | l1
    · rw [if_pos l1]
    · split
      · rfl
      · first | rfl | rw [if_pos l1]
  refine Ev.step (f := fun _ => some true) (fun k => ?_) (Ev.now _)
  rw [cottonpadlaw06_ExitsShown.j6]
  by_cases h0 : (lateF true st ch ps).2 ≥ 0
  · have hlt : (lateF true st ch ps).2 < (st.length : Int) := by
      have hS' : (lateF true st ch ps).2 = lateS true st ch ps 0 st.length := rfl
      rcases lateS_spec true st ch ps st.length 0 with ⟨h1, _⟩ | ⟨s, _, h1, h2, _⟩ <;> omega
    have e : st.set (lateF true st ch ps).2.toNat (⟨(rd_T62 st (lateF true st ch ps).2).f0, (rd_T62 st (lateF true st ch ps).2).f1, (⟨(rd_T62 st (lateF true st ch ps).2).f2.f0, (rd_T62 st (lateF true st ch ps).2).f2.f1⟩ : S36), (⟨36000, 36000⟩ : S36)⟩ : S62) = calmS st (lateF true st ch ps).2 := (if_pos h0).symm
    rw [if_pos h0, span_f]
    simp only [Option.bind_some]
    rw [if_pos h0, if_pos hlt, e, exitsSafe_f h3]
    simp only [Option.bind_some, if_true]
    exact hfin
  · have e : calmS st (lateF true st ch ps).2 = st := if_neg h0
    rw [e] at h3 hfin
    rw [if_neg h0, exitsSafe_f h3]
    simp only [Option.bind_some, if_true]
    exact hfin

theorem shown_l3 {m : Nat} (hm : m < ch.length) (hok : ps.any (slowB true ch m (rd_T81 ch m).f2) = true → 0 ≤ (lateF true st ch ps).1 ∧ (lateF true st ch ps).1 ≤ m) (heq : (m : Int) = (lateF true st ch ps).1 → ps.any (slowB true ch m (rd_T81 ch m).f2) = true)
    (hK : Ev (fun k => cottonpadlaw06_ExitsShown.l2 k ps true (lateF true st ch ps).1 (lateF true st ch ps).2 ch (ch.length : Int) ((m + 1 : Nat) : Int) st ch) true) : ∀ d j : Nat, j + d = ps.length →
    Ev (fun k => cottonpadlaw06_ExitsShown.l3 k ps true (lateF true st ch ps).1 (lateF true st ch ps).2 (m : Int) ((ps.take j).any (slowB true ch m (rd_T81 ch m).f2)) ch (ch.length : Int) (m : Int) ps (ps.length : Int) (j : Int) st ch (rd_T81 ch m).f0 (rd_T81 ch m).f1 (rd_T81 ch m).f2.f0 (rd_T81 ch m).f2.f1) true
  | 0, j, hd => by
    have hv := checkF_zero hc
    have hn := hv.built.nch
    refine Ev.step (fun k => ?_) hK
    rw [cottonpadlaw06_ExitsShown.l3, if_neg (by omega), show j = ps.length by omega, List.take_length, wrap_succ hm (by omega)]
    cases hb : ps.any (slowB true ch m (rd_T81 ch m).f2)
    · have hne : ¬ (m : Int) = (lateF true st ch ps).1 := fun e => by rw [heq e] at hb; cases hb
      rw [if_neg hne, if_neg (by simp)]
    · obtain ⟨h0, h1⟩ := hok hb
      by_cases e : (m : Int) = (lateF true st ch ps).1
      · rw [if_pos e, if_pos rfl, if_neg (by omega), if_neg (by omega)]
      · rw [if_neg e, if_pos rfl, if_neg (by omega), if_neg (by omega)]
  | d + 1, j, hd => by
    have hv := checkF_zero hc
    have hj : j < ps.length := by omega
    have hn := hv.nps
    have h1 := livesB_iff.1 (hv.lives _ (List.getElem_mem hj))
    have ih := shown_l3 hm hok heq hK d (j + 1) (by omega)
    rw [List.take_succ_eq_append_getElem hj, List.any_append, List.any_cons, List.any_nil, Bool.or_false] at ih
    refine Ev.step (fun k => ?_) ih
    rw [cottonpadlaw06_ExitsShown.l3, if_pos (by omega), if_pos (by omega), if_pos (by omega), wrap_succ hj (by omega), rdT48_nat hj]
    cases hb : (ps.take j).any (slowB true ch m (rd_T81 ch m).f2)
    · rw [if_neg (by simp), Bool.false_or]
      by_cases e : ps[j].f0 = (m : Int)
      · have h2 := chamberB_iff.1 (hv.built.chamber _ (rdT81_get h1.1.1 h1.1.2))
        have h3 : 0 ≤ ((rd_T81 ch ps[j].f0).f1 + ps[j].f1.f0 - 1) / ps[j].f1.f0 := Int.ediv_nonneg (by omega) (by omega)
        have h4 : ((rd_T81 ch ps[j].f0).f1 + ps[j].f1.f0 - 1) / ps[j].f1.f0 ≤ (rd_T81 ch ps[j].f0).f1 + ps[j].f1.f0 - 1 := Int.ediv_le_self _ (by omega)
        have e1 : slowB true ch m (rd_T81 ch m).f2 ps[j] = decide ((rd_T81 ch m).f2.f0 < ps[j].f2.f1 + ((rd_T81 ch ps[j].f0).f1 + ps[j].f1.f0 - 1) / ps[j].f1.f0) := by
          simp [slowB, e, smokeS, leaveT, timeS, paceS]
        rw [if_pos e, if_neg (by omega), e1, ← e, wrap_in (x := (rd_T81 ch ps[j].f0).f1 + ps[j].f1.f0) (by omega), wrap_in (x := (rd_T81 ch ps[j].f0).f1 + ps[j].f1.f0 - 1) (by omega), Int.tdiv_eq_ediv_of_nonneg (by omega), wrap_in (x := ((rd_T81 ch ps[j].f0).f1 + ps[j].f1.f0 - 1) / ps[j].f1.f0) (by omega), wrap_in (by omega)]
      · have e1 : slowB true ch m (rd_T81 ch m).f2 ps[j] = false := by simp [slowB, e]
        rw [if_neg e, e1]
    · rw [if_pos rfl, Bool.true_or]

theorem shown_l2 : ∀ d m : Nat, m + d = ch.length →
    Ev (fun k => cottonpadlaw06_ExitsShown.l2 k ps true (lateF true st ch ps).1 (lateF true st ch ps).2 ch (ch.length : Int) (m : Int) st ch) true
  | 0, m, hd => by
    have hv := checkF_zero hc
    have h3 := check_small3 hc
    refine Ev.step (fun k => ?_) (shown_j6 hc)
    rw [cottonpadlaw06_ExitsShown.l2, if_neg (by omega), Twin_f (st := st) (ch := ch) h3.1 h3.2.1]
    simp only [Option.bind_some]
    by_cases h0 : (lateF true st ch ps).1 ≥ 0
    · have hlt : (lateF true st ch ps).1 < (ch.length : Int) := by
        have hC : (lateF true st ch ps).1 = lateC true ch ps ch.length := rfl
        rcases lateC_spec true ch ps ch.length with ⟨h1, _⟩ | ⟨c, h1, h2, _⟩ <;> omega
      have e : ch.set (lateF true st ch ps).1.toNat (⟨(rd_T81 ch (lateF true st ch ps).1).f0, (rd_T81 ch (lateF true st ch ps).1).f1, (⟨36000, 36000⟩ : S36)⟩ : S81) = calmC ch (lateF true st ch ps).1 := (if_pos h0).symm
      rw [if_pos h0, span_f]
      simp only [Option.bind_some]
      rw [if_pos h0, if_pos hlt, e]
    · have e : calmC ch (lateF true st ch ps).1 = ch := if_neg h0
      rw [if_neg h0, e]
  | d + 1, m, hd => by
    have hm : m < ch.length := by omega
    have hC : (lateF true st ch ps).1 = lateC true ch ps ch.length := rfl
    have h3 := shown_l3 hc hm (fun h => by
        rcases lateC_spec true ch ps ch.length with ⟨_, h2⟩ | ⟨c, h1, h2, h3, h4⟩
        · rw [h2 m hm] at h; cases h
        · by_cases hlt : m < c
          · rw [h4 m hlt] at h; cases h
          · omega) (fun e => by
        rcases lateC_spec true ch ps ch.length with ⟨h1, _⟩ | ⟨c, h1, h2, h3, h4⟩
        · omega
        · have : m = c := by omega
          subst this; exact h3) (shown_l2 d (m + 1) (by omega)) ps.length 0 (by omega)
    refine Ev.step (fun k => ?_) h3
    rw [cottonpadlaw06_ExitsShown.l2, if_pos (by omega), if_pos (by omega), if_pos (by omega)]
    rfl

theorem shown_l1 {i : Nat} (hi : i < st.length) (hok : lateB true st ch ps i = true → 0 ≤ (lateF true st ch ps).2 ∧ (lateF true st ch ps).2 ≤ i) (heq : (i : Int) = (lateF true st ch ps).2 → lateB true st ch ps i = true)
    (hK : Ev (fun k => cottonpadlaw06_ExitsShown.l0 k ps true (lateF true st ch ps).1 (lateF true st ch ps).2 (st.length : Int) ((i + 1 : Nat) : Int) st ch) true) : ∀ d j : Nat, j + d = (leftAt true st ch ps i).length →
    Ev (fun k => cottonpadlaw06_ExitsShown.l1 k ps true (lateF true st ch ps).1 (lateF true st ch ps).2 (i : Int) (((leftAt true st ch ps i).take j).any fun t => decide (smokeS true (rd_T62 st i).f3 < t)) (st.length : Int) (i : Int) (List.zipWith S36.mk (leftAt false st ch ps i) (leftAt true st ch ps i)) ((leftAt true st ch ps i).length : Int) (j : Int) st ch) true
  | 0, j, hd => by
    have hst := (checkF_zero hc).built.nst
    refine Ev.step (fun k => ?_) hK
    rw [cottonpadlaw06_ExitsShown.l1, if_neg (by omega), show j = (leftAt true st ch ps i).length by omega, List.take_length, wrap_succ hi (by omega)]
    cases hb : lateB true st ch ps i
    · have hne : ¬ (i : Int) = (lateF true st ch ps).2 := fun e => by rw [heq e] at hb; cases hb
      unfold lateB at hb
      rw [hb, if_neg hne, if_neg (by simp)]
    · obtain ⟨h0, h1⟩ := hok hb
      unfold lateB at hb
      rw [hb]
      by_cases e : (i : Int) = (lateF true st ch ps).2
      · rw [if_pos e, if_pos rfl, if_neg (by omega), if_neg (by omega)]
      · rw [if_neg e, if_pos rfl, if_neg (by omega), if_neg (by omega)]
  | d + 1, j, hd => by
    have hv := checkF_zero hc
    have hj : j < (leftAt true st ch ps i).length := by omega
    have hlen := leftAt_len st ch ps i
    have hle := leftAt_le24 true hv i
    have hz : j < (List.zipWith S36.mk (leftAt false st ch ps i) (leftAt true st ch ps i)).length := by rw [List.length_zipWith]; omega
    have e : rd_T36 (List.zipWith S36.mk (leftAt false st ch ps i) (leftAt true st ch ps i)) (j : Int) = ⟨(leftAt false st ch ps i)[j]'(by omega), (leftAt true st ch ps i)[j]⟩ := by
      unfold rd_T36
      rw [Int.toNat_natCast, List.getD_eq_getElem?_getD, List.getElem?_eq_getElem hz, List.getElem_zipWith]; rfl
    have ih := shown_l1 hi hok heq hK d (j + 1) (by omega)
    rw [List.take_succ_eq_append_getElem hj, List.any_append, List.any_cons, List.any_nil, Bool.or_false] at ih
    refine Ev.step (fun k => ?_) ih
    rw [cottonpadlaw06_ExitsShown.l1, if_pos (by omega), if_pos (by omega), if_pos (by omega), wrap_succ hj (by omega), e]
    cases hb : ((leftAt true st ch ps i).take j).any fun t => decide (smokeS true (rd_T62 st i).f3 < t)
    · rw [if_neg (by simp), if_pos (by omega), if_pos (by omega), Bool.false_or]
      rfl
    · rw [if_pos rfl, Bool.true_or]

theorem shown_l0 : ∀ d i : Nat, i + d = st.length →
    Ev (fun k => cottonpadlaw06_ExitsShown.l0 k ps true (lateF true st ch ps).1 (lateF true st ch ps).2 (st.length : Int) (i : Int) st ch) true
  | 0, i, hd => by
    refine Ev.step (fun k => ?_) (shown_l2 hc ch.length 0 (by omega))
    rw [cottonpadlaw06_ExitsShown.l0, if_neg (by omega)]; rfl
  | d + 1, i, hd => by
    have hi : i < st.length := by omega
    have hS : (lateF true st ch ps).2 = lateS true st ch ps 0 st.length := rfl
    have h1 := shown_l1 hc hi (fun h => by
        rcases lateS_spec true st ch ps st.length 0 with ⟨_, h2⟩ | ⟨c, _, h1, h2, h3, h4⟩
        · rw [h2 i (by omega) (by omega)] at h; cases h
        · by_cases hlt : i < c
          · rw [h4 i (by omega) hlt] at h; cases h
          · omega) (fun e => by
        rcases lateS_spec true st ch ps st.length 0 with ⟨h1, _⟩ | ⟨c, _, h1, h2, h3, h4⟩
        · omega
        · have : i = c := by omega
          subst this; exact h3) (shown_l0 d (i + 1) (by omega)) (leftAt true st ch ps i).length 0 (by omega)
    have hlen := leftAt_len st ch ps i
    have hz : (List.zipWith S36.mk (leftAt false st ch ps i) (leftAt true st ch ps i)).length = (leftAt true st ch ps i).length := by rw [List.length_zipWith]; omega
    refine Ev.step (fun k => ?_) h1
    rw [cottonpadlaw06_ExitsShown.l0, if_pos (by omega), exitsLeaves_f (check_small3 hc), leavesF_at hc hi]
    simp only [Option.bind_some, if_true]
    rw [hz]
    rfl
end

theorem ExitsShown_ev (st : List S62) (ch : List S81) (ps : List S48) : Ev (fun k => cottonpadlaw06_ExitsShown.f k st ch ps) true := by
  have h0 : ∀ k, cottonpadlaw06_ExitsShown.f k st ch ps = (cottonpadlaw06_ready.f k st ch ps).bind fun t771 => (if t771 = true then cottonpadlaw06_ExitsShown.j0 k ps true false st ch else cottonpadlaw06_ExitsShown.j0 k ps true true st ch) := fun k => rfl
  refine Ev.congr h0 (Ev.bind (ready_ev st ch ps) ?_)
  by_cases h : (!greatB st ch ps && checkF st ch ps == 0) = true
  · have hc := ready_out h
    have h3 := check_small3 hc
    simp only [h, if_true]
    obtain ⟨s0, s2⟩ := safeF_two hc
    have hS : (safeF st ch ps).2 = ((lateF true st ch ps).1, (lateF true st ch ps).2, 0) := by unfold safeF; rw [if_pos hc]
    have hC : (lateF true st ch ps).1 = lateC true ch ps ch.length := rfl
    have hT : (lateF true st ch ps).2 = lateS true st ch ps 0 st.length := rfl
    have bC : -1 ≤ (lateF true st ch ps).1 ∧ (lateF true st ch ps).1 < (ch.length : Int) := by
      rcases lateC_spec true ch ps ch.length with ⟨h1, _⟩ | ⟨c, h1, h2, _⟩ <;> omega
    have bS : -1 ≤ (lateF true st ch ps).2 ∧ (lateF true st ch ps).2 < (st.length : Int) := by
      rcases lateS_spec true st ch ps st.length 0 with ⟨h1, _⟩ | ⟨s, _, h1, h2, _⟩ <;> omega
    refine Ev.step (f := fun k => cottonpadlaw06_ExitsShown.j1 k ps true (lateF true st ch ps).1 (lateF true st ch ps).2 false st ch) (fun k => ?_) (Ev.step (fun k => ?_) (shown_l0 hc st.length 0 (by omega)))
    · rw [cottonpadlaw06_ExitsShown.j0, if_neg (by simp), exitsSafe_f h3]
      simp only [Option.bind_some]
      rw [if_pos s0, hS]
      simp only
      rw [if_neg (by omega), if_neg (by omega), if_neg (by omega), if_neg (by omega)]
      by_cases h1 : (lateF true st ch ps).1 < 0
      · rw [if_pos h1]
        by_cases h2 : (lateF true st ch ps).2 < 0
        · have e : lateF true st ch ps = (-1, -1) := Prod.ext (by show (lateF true st ch ps).1 = -1; omega) (by show (lateF true st ch ps).2 = -1; omega)
          rw [s2.2 e, decide_eq_true h2]; rfl
        · have e : ¬ (safeF st ch ps).1 = 2 := fun e => h2 (by rw [s2.1 e]; decide)
          rw [beq_eq_false_iff_ne.2 e, decide_eq_false h2]; rfl
      · have e : ¬ (safeF st ch ps).1 = 2 := fun e => h1 (by rw [s2.1 e]; decide)
        rw [if_neg h1, beq_eq_false_iff_ne.2 e]; rfl
    · rw [cottonpadlaw06_ExitsShown.j1, if_neg (by simp)]; rfl
  · simp only [h, Bool.false_eq_true, if_false]
    exact Ev.step (f := fun _ => some true) (fun k => by rw [cottonpadlaw06_ExitsShown.j0, if_pos rfl]) (Ev.now _)
end Go.Proofs.YtdeaccbolnlgpaaDoor.X
