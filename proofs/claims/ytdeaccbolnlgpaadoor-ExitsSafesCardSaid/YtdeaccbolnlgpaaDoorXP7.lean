import Derived.Test.YtdeaccbolnlgpaaDoorXN29
import Derived.Test.YtdeaccbolnlgpaaDoorXP5
import Derived.Test.YtdeaccbolnlgpaaDoorXM1
namespace Go.Proofs.YtdeaccbolnlgpaaDoor.X
open Go.RowKit Go.Proofs.YtdeaccbolnlgpaaDoorW.PrintWords Go.Proofs.YtdeaccbolnlgpaaDoorW.PrintLast Go.Proofs.YtdeaccbolnlgpaaDoorW.PrintMore
set_option linter.unusedVariables false
set_option linter.unusedSimpArgs false

/-! # The reference's late, Safe and More and the model -/

theorem lateC_or (b : Bool) (ch : List S81) (ps : List S48) : ∀ k, lateC b ch ps k = -1 ∨ 0 ≤ lateC b ch ps k
  | 0 => .inl rfl
  | k + 1 => by
    rw [lateC]
    split
    · exact .inr (by omega)
    · exact lateC_or b ch ps k
def lateU (b : Bool) (st : List S62) (ch : List S81) (ps : List S48) : Nat → Int
  | 0 => -1
  | k + 1 => if lateU b st ch ps k < 0 ∧ lateB b st ch ps k = true then (k : Int) else lateU b st ch ps k
theorem lateU_or (b : Bool) (st : List S62) (ch : List S81) (ps : List S48) : ∀ k, lateU b st ch ps k = -1 ∨ 0 ≤ lateU b st ch ps k
  | 0 => .inl rfl
  | k + 1 => by
    rw [lateU]
    split
    · exact .inr (by omega)
    · exact lateU_or b st ch ps k
theorem lateU_add (b : Bool) (st : List S62) (ch : List S81) (ps : List S48) : ∀ n k, lateU b st ch ps (k + n) = if lateU b st ch ps k < 0 then lateS b st ch ps k n else lateU b st ch ps k
  | 0, k => by
    rw [Nat.add_zero, lateS]
    split
    · rcases lateU_or b st ch ps k with h | h
      · exact h
      · omega
    · rfl
  | n + 1, k => by
    rw [show k + (n + 1) = (k + 1) + n by omega, lateU_add b st ch ps n (k + 1), lateS]
    by_cases h1 : lateU b st ch ps k < 0
    · by_cases h2 : lateB b st ch ps k = true
      · have e : lateU b st ch ps (k + 1) = k := if_pos ⟨h1, h2⟩
        rw [e, if_neg (by omega), if_pos h1, if_pos h2]
      · have e : lateU b st ch ps (k + 1) = lateU b st ch ps k := if_neg (fun h => h2 h.2)
        rw [e, if_pos h1, if_pos h1, if_neg h2]
    · have e : lateU b st ch ps (k + 1) = lateU b st ch ps k := if_neg (fun h => h1 h.1)
      rw [e, if_neg h1, if_neg h1]
theorem lateU_eq (b : Bool) (st : List S62) (ch : List S81) (ps : List S48) (n : Nat) : lateU b st ch ps n = lateS b st ch ps 0 n := by
  have := lateU_add b st ch ps n 0
  rw [Nat.zero_add] at this
  rw [this]; rfl

theorem late_or (x y : Bool) {c L : Int} (hc : 0 ≤ c) : (if L < 0 ∧ (x || y) = true then c else L) = if y = true ∧ (if L < 0 ∧ x = true then c else L) < 0 then c else (if L < 0 ∧ x = true then c else L) := by
  by_cases h1 : L < 0 <;> cases x <;> cases y <;> simp [h1] <;> omega

/-- Behind i of the people. -/
def lateG (b : Bool) (ch : List S81) (ps : List S48) (c i : Nat) : Int := if lateC b ch ps c < 0 ∧ (ps.take i).any (slowB b ch c (rd_T81 ch c).f2) = true then (c : Int) else lateC b ch ps c
theorem lateG_succ (b : Bool) (ch : List S81) (ps : List S48) (c : Nat) {i : Nat} (hi : i < ps.length) : lateG b ch ps c (i + 1) = if slowB b ch c (rd_T81 ch c).f2 ps[i] = true ∧ lateG b ch ps c i < 0 then (c : Int) else lateG b ch ps c i := by
  unfold lateG
  rw [List.take_succ_eq_append_getElem hi, List.any_append, List.any_cons, List.any_nil, Bool.or_false]
  exact late_or _ _ (by omega)
theorem lateG_zero (b : Bool) (ch : List S81) (ps : List S48) (c : Nat) : lateG b ch ps c 0 = lateC b ch ps c := by unfold lateG; rw [if_neg (by simp)]
theorem lateG_all (b : Bool) (ch : List S81) (ps : List S48) (c : Nat) : lateG b ch ps c ps.length = lateC b ch ps (c + 1) := by unfold lateG; rw [List.take_length]; rfl

def lateH (b : Bool) (st : List S62) (ch : List S81) (ps : List S48) (s i : Nat) : Int := if lateU b st ch ps s < 0 ∧ ((leftAt b st ch ps s).take i).any (fun t => decide (smokeS b (rd_T62 st s).f3 < t)) = true then (s : Int) else lateU b st ch ps s
theorem lateH_succ (b : Bool) (st : List S62) (ch : List S81) (ps : List S48) (s : Nat) {i : Nat} (hi : i < (leftAt b st ch ps s).length) : lateH b st ch ps s (i + 1) = if smokeS b (rd_T62 st s).f3 < (leftAt b st ch ps s)[i] ∧ lateH b st ch ps s i < 0 then (s : Int) else lateH b st ch ps s i := by
  unfold lateH
  rw [List.take_succ_eq_append_getElem hi, List.any_append, List.any_cons, List.any_nil, Bool.or_false, late_or _ _ (by omega)]
  simp only [decide_eq_true_eq]
theorem lateH_zero (b : Bool) (st : List S62) (ch : List S81) (ps : List S48) (s : Nat) : lateH b st ch ps s 0 = lateU b st ch ps s := by unfold lateH; rw [if_neg (by simp)]
theorem lateH_all (b : Bool) (st : List S62) (ch : List S81) (ps : List S48) (s : Nat) : lateH b st ch ps s (leftAt b st ch ps s).length = lateU b st ch ps (s + 1) := by unfold lateH; rw [List.take_length]; rfl

section
variable (b : Bool) {st : List S62} {ch : List S81} {ps : List S48} (hv : Valid st ch ps) (C : Int)
include hv

theorem late_l3 {s : Nat} (hs : s < st.length) (hK : Ev (fun k => cottonpadref06_late.l2 k (endsF b st ch ps).2 b C (lateU b st ch ps (s + 1)) ((s + 1 : Nat) : Int) st ch) (C, lateU b st ch ps st.length)) : ∀ d i : Nat, i + d = (leftAt b st ch ps s).length →
    Ev (fun k => cottonpadref06_late.l3 k (endsF b st ch ps).2 b C (lateH b st ch ps s i) (s : Int) (smokeS b (rd_T62 st s).f3) (i : Int) st ch) (C, lateU b st ch ps st.length)
  | 0, i, hd => by
    have hst := hv.built.nst
    refine Ev.step (fun k => ?_) hK
    rw [cottonpadref06_late.l3, if_pos (by omega), if_pos (by rw [endsF_len]; omega), endsF_rd b hs, if_neg (by omega), show i = (leftAt b st ch ps s).length by omega, lateH_all, wrap_succ hs (by omega)]
  | d + 1, i, hd => by
    have hi : i < (leftAt b st ch ps s).length := by omega
    have h24 := leftAt_le b hv s
    refine Ev.step (fun k => ?_) (late_l3 hs hK d (i + 1) (by omega))
    rw [cottonpadref06_late.l3, if_pos (by omega), if_pos (by rw [endsF_len]; omega), endsF_rd b hs, if_pos (by omega), if_pos (by omega), rd_get hi, wrap_succ hi (by omega), lateH_succ b st ch ps s hi]
    by_cases h1 : smokeS b (rd_T62 st s).f3 < (leftAt b st ch ps s)[i]
    · rw [if_pos (by omega)]
      by_cases h2 : lateH b st ch ps s i < 0
      · rw [if_pos h2, if_pos ⟨h1, h2⟩]
      · rw [if_neg h2, if_neg (fun h => h2 h.2)]
    · rw [if_neg (by omega), if_neg (fun h => h1 h.1)]

theorem late_l2 : ∀ d s : Nat, s + d = st.length → Ev (fun k => cottonpadref06_late.l2 k (endsF b st ch ps).2 b C (lateU b st ch ps s) (s : Int) st ch) (C, lateU b st ch ps st.length)
  | 0, s, hd => by
    refine Ev.step (f := fun _ => some (C, lateU b st ch ps st.length)) (fun k => ?_) (Ev.now _)
    rw [cottonpadref06_late.l2, if_neg (by omega), show s = st.length by omega]
  | d + 1, s, hd => by
    have hs : s < st.length := by omega
    have h3 := late_l3 b hv C hs (late_l2 d (s + 1) (by omega)) (leftAt b st ch ps s).length 0 (by omega)
    rw [lateH_zero] at h3
    refine Ev.step (f := fun k => cottonpadref06_late.j4 k (endsF b st ch ps).2 b C (lateU b st ch ps s) (s : Int) (smokeS b (rd_T62 st s).f3) st ch) (fun k => ?_) (Ev.step (fun k => by rw [cottonpadref06_late.j4]; rfl) h3)
    rw [cottonpadref06_late.l2, if_pos (by omega), if_pos (by omega)]
    cases b <;> rfl

theorem late_l1 {c : Nat} (hc : c < ch.length) (hK : Ev (fun k => cottonpadref06_late.l0 k ps (endsF b st ch ps).1 (endsF b st ch ps).2 b (lateC b ch ps (c + 1)) (-1) ((c + 1 : Nat) : Int) st ch) (lateF b st ch ps)) : ∀ d i : Nat, i + d = ps.length →
    Ev (fun k => cottonpadref06_late.l1 k ps (endsF b st ch ps).1 (endsF b st ch ps).2 b (lateG b ch ps c i) (-1) (c : Int) (smokeS b (rd_T81 ch c).f2) (i : Int) st ch) (lateF b st ch ps)
  | 0, i, hd => by
    have hn := hv.built.nch
    refine Ev.step (fun k => ?_) hK
    rw [cottonpadref06_late.l1, if_neg (by omega), show i = ps.length by omega, lateG_all, wrap_succ hc (by omega)]
  | d + 1, i, hd => by
    have hi : i < ps.length := by omega
    have hn := hv.nps
    have hr : rd (endsF b st ch ps).1 (i : Int) = leaveT b ch ps[i] := by rw [rd_get (by simpa [endsF] using hi)]; simp [endsF]
    have hl : (endsF b st ch ps).1.length = ps.length := by simp [endsF]
    refine Ev.step (fun k => ?_) (late_l1 hc hK d (i + 1) (by omega))
    rw [cottonpadref06_late.l1, if_pos (by omega), if_pos (by omega), rdT48_nat hi, wrap_succ hi (by omega), lateG_succ b ch ps c hi, hr, hl]
    by_cases h1 : ps[i].f0 = (c : Int)
    · rw [if_pos h1, if_pos (by omega)]
      by_cases h2 : smokeS b (rd_T81 ch c).f2 < leaveT b ch ps[i]
      · have hsl : slowB b ch c (rd_T81 ch c).f2 ps[i] = true := by simp [slowB, h1, h2]
        rw [if_pos (by omega)]
        by_cases h3 : lateG b ch ps c i < 0
        · rw [if_pos h3, if_pos ⟨hsl, h3⟩]
        · rw [if_neg h3, if_neg (fun h => h3 h.2)]
      · rw [if_neg (by omega), if_neg (fun h => h2 (by have := h.1; simp [slowB, h1] at this; exact this))]
    · rw [if_neg h1, if_neg (fun h => h1 (by have := h.1; simp [slowB] at this; exact this.1))]

theorem late_l0 : ∀ d c : Nat, c + d = ch.length → Ev (fun k => cottonpadref06_late.l0 k ps (endsF b st ch ps).1 (endsF b st ch ps).2 b (lateC b ch ps c) (-1) (c : Int) st ch) (lateF b st ch ps)
  | 0, c, hd => by
    have h2 := late_l2 b hv (lateC b ch ps ch.length) st.length 0 (by omega)
    rw [lateU_eq b st ch ps st.length] at h2
    refine Ev.step (fun k => ?_) h2
    rw [cottonpadref06_late.l0, if_neg (by omega), show c = ch.length by omega]
    rfl
  | d + 1, c, hd => by
    have hc : c < ch.length := by omega
    have h1 := late_l1 b hv hc (late_l0 d (c + 1) (by omega)) ps.length 0 (by omega)
    rw [lateG_zero] at h1
    refine Ev.step (f := fun k => cottonpadref06_late.j1 k ps (endsF b st ch ps).1 (endsF b st ch ps).2 b (lateC b ch ps c) (-1) (c : Int) (smokeS b (rd_T81 ch c).f2) st ch) (fun k => ?_) (Ev.step (fun k => by rw [cottonpadref06_late.j1]; rfl) h1)
    rw [cottonpadref06_late.l0, if_pos (by omega), if_pos (by omega)]
    cases b <;> rfl

theorem late_ev : Ev (fun k => cottonpadref06_late.f k st ch ps (endsF b st ch ps).1 (endsF b st ch ps).2 b) (lateF b st ch ps) := late_l0 b hv ch.length 0 (by omega)
end

theorem lateF_neg (b : Bool) (st : List S62) (ch : List S81) (ps : List S48) : ((lateF b st ch ps).1 < 0 ∧ (lateF b st ch ps).2 < 0) ↔ lateF b st ch ps = (-1, -1) := by
  have h1 := lateC_or b ch ps ch.length
  have h2 := lateU_or b st ch ps st.length
  rw [lateU_eq] at h2
  unfold lateF
  simp only [Prod.mk.injEq]
  omega

theorem Safe_ev (st : List S62) (ch : List S81) (ps : List S48) : Ev (fun k => cottonpadref06_Safe.f k st ch ps) (safeF st ch ps) := by
  unfold cottonpadref06_Safe.f safeF
  refine Ev.bind (Check_ev st ch ps) ?_
  by_cases h : checkF st ch ps = 0
  · simp only [h, if_true]
    have hv := checkF_zero h
    refine Ev.bind (Ends_ev true h) (Ev.bind (late_ev true hv) ?_)
    have hn := lateF_neg true st ch ps
    by_cases h1 : (lateF true st ch ps).1 < 0
    · simp only [h1, if_true]
      by_cases h2 : (lateF true st ch ps).2 < 0
      · have hF := hn.1 ⟨h1, h2⟩
        refine Ev.step (f := fun _ => some (2, -1, -1, 0)) (fun k => by rw [cottonpadref06_Safe.j0, if_pos (by simpa using h2)]) ?_
        rw [if_pos hF, hF]
        exact Ev.now _
      · have hF : ¬ lateF true st ch ps = (-1, -1) := fun e => h2 (hn.2 e).2
        refine Ev.step (fun k => by rw [cottonpadref06_Safe.j0, if_neg (by simpa using h2)]) ?_
        refine Ev.bind (Ends_ev false h) (Ev.bind (late_ev false hv) ?_)
        rw [if_neg hF]
        have hm := lateF_neg false st ch ps
        by_cases h3 : (lateF false st ch ps).1 < 0
        · by_cases h4 : (lateF false st ch ps).2 < 0
          · simp only [h3, h4, if_true, hm.1 ⟨h3, h4⟩]; exact Ev.now _
          · simp only [h3, h4, if_true, if_false]
            rw [if_neg (fun e => h4 (hm.2 e).2)]; exact Ev.now _
        · simp only [h3, if_false]
          rw [if_neg (fun e => h3 (hm.2 e).1)]; exact Ev.now _
    · simp only [h1, if_false]
      have hF : ¬ lateF true st ch ps = (-1, -1) := fun e => h1 (hn.2 e).1
      refine Ev.step (fun k => by rw [cottonpadref06_Safe.j0, if_neg (by simp)]) ?_
      refine Ev.bind (Ends_ev false h) (Ev.bind (late_ev false hv) ?_)
      rw [if_neg hF]
      have hm := lateF_neg false st ch ps
      by_cases h3 : (lateF false st ch ps).1 < 0
      · by_cases h4 : (lateF false st ch ps).2 < 0
        · simp only [h3, h4, if_true, hm.1 ⟨h3, h4⟩]; exact Ev.now _
        · simp only [h3, h4, if_true, if_false]
          rw [if_neg (fun e => h4 (hm.2 e).2)]; exact Ev.now _
      · simp only [h3, if_false]
        rw [if_neg (fun e => h3 (hm.2 e).1)]; exact Ev.now _
  · simp only [h, if_false]
    exact Ev.now _

theorem checkF_add {st : List S62} {ch : List S81} {ps : List S48} {x : S48} (h : checkF st ch ps = 0) (hl : livesB ch.length x = true) (n : Nat) : checkF st ch (addN ps x n) = if ps.length + n ≤ 24 then 0 else 61 := by
  have hv := checkF_zero h
  have hall : (addN ps x n).all (livesB ch.length) = true := List.all_eq_true.2 fun y hy => by
    unfold addN at hy
    rcases List.mem_append.1 hy with hy | hy
    · exact hv.lives y hy
    · rw [List.eq_of_mem_replicate hy]; exact hl
  have hb : builtB st ch = true := by
    unfold checkF at h
    split at h
    · assumption
    · omega
  unfold checkF
  rw [if_pos hb, addN_length, hall]
  by_cases h2 : ps.length + n ≤ 24
  · rw [if_neg (by omega), if_pos rfl, if_pos h2]
  · rw [if_pos (by omega), if_neg h2]

theorem safeF_two {st : List S62} {ch : List S81} {ps : List S48} (h : checkF st ch ps = 0) : (safeF st ch ps).2.2.2 = 0 ∧ ((safeF st ch ps).1 = 2 ↔ lateF true st ch ps = (-1, -1)) := by
  unfold safeF
  rw [if_pos h]
  refine ⟨rfl, ?_⟩
  by_cases h1 : lateF true st ch ps = (-1, -1)
  · simp [h1]
  · by_cases h2 : lateF false st ch ps = (-1, -1)
    · simp [h1, h2]
    · simp [h1, h2]

theorem More_l0 {st : List S62} {ch : List S81} {ps : List S48} {x : S48} (h : checkF st ch ps = 0) (hl : livesB ch.length x = true) : ∀ d n : Nat, ps.length + n + d = 24 →
    Ev (fun k => cottonpadref06_More.l0 k (addN ps x n) (n : Int) st ch x.f0 x.f1.f0 x.f1.f1 x.f2.f0 x.f2.f1) (moreN st ch ps x n d, 0)
  | 0, n, hd => by
    have hc := checkF_add h hl (n + 1)
    rw [if_neg (by omega)] at hc
    have hs : safeF st ch (addN ps x (n + 1)) = (0, 0, 0, 61) := by unfold safeF; rw [hc, if_neg (by omega)]
    have hS := Safe_ev st ch (addN ps x (n + 1))
    rw [hs] at hS
    refine Ev.step (f := fun k => (cottonpadref06_Safe.f k st ch (addN ps x (n + 1))).bind fun bt354 => (if bt354.2.2.2 = 0 then (if bt354.1 = 2 then (cottonpadref06_More.l0 k (addN ps x (n + 1)) (wrap64 ((n : Int) + 1)) st ch x.f0 x.f1.f0 x.f1.f1 x.f2.f0 x.f2.f1) else (some ((n : Int), 0))) else (some ((n : Int), 0)))) (fun k => ?_) ?_
    · have hlen := addN_length ps x n
      rw [cottonpadref06_More.l0, if_pos (by omega)]
      simp only [Option.bind_some]
      rw [← addN_succ]
    · refine Ev.bind hS ?_
      simp only [if_neg (by omega : ¬ (61 : Int) = 0)]
      exact Ev.now _
  | d + 1, n, hd => by
    have hc := checkF_add h hl (n + 1)
    rw [if_pos (by omega)] at hc
    obtain ⟨h4, h2⟩ := safeF_two hc
    refine Ev.step (f := fun k => (cottonpadref06_Safe.f k st ch (addN ps x (n + 1))).bind fun bt354 => (if bt354.2.2.2 = 0 then (if bt354.1 = 2 then (cottonpadref06_More.l0 k (addN ps x (n + 1)) (wrap64 ((n : Int) + 1)) st ch x.f0 x.f1.f0 x.f1.f1 x.f2.f0 x.f2.f1) else (some ((n : Int), 0))) else (some ((n : Int), 0)))) (fun k => ?_) ?_
    · have hlen := addN_length ps x n
      rw [cottonpadref06_More.l0, if_pos (by omega)]
      simp only [Option.bind_some]
      rw [← addN_succ]
    · refine Ev.bind (Safe_ev st ch (addN ps x (n + 1))) ?_
      simp only [if_pos h4]
      rw [moreN]
      by_cases hF : lateF true st ch (addN ps x (n + 1)) = (-1, -1)
      · simp only [if_pos (h2.2 hF), if_pos hF]
        have := More_l0 h hl d (n + 1) (by omega)
        rw [wrap_succ (Nat.lt_succ_self n) (by omega)]
        exact this
      · simp only [if_neg (fun e => hF (h2.1 e)), if_neg hF]
        exact Ev.now _

theorem More_ev (st : List S62) (ch : List S81) (ps : List S48) (x : S48) : Ev (fun k => cottonpadref06_More.f k st ch ps x.f0 x.f1.f0 x.f1.f1 x.f2.f0 x.f2.f1) (moreF st ch ps x) := by
  unfold cottonpadref06_More.f moreF
  refine Ev.bind (Check_ev st ch ps) ?_
  by_cases h : checkF st ch ps = 0
  · simp only [h, if_true]
    have hv := checkF_zero h
    refine Ev.bind (People_ev st ch [x] (by have := hv.built.nch; omega)) ?_
    have hx : (decide ((([x] : List S48).length : Int) ≤ 24) && [x].all (livesB ch.length)) = livesB ch.length x := by simp
    rw [hx]
    cases hl : livesB ch.length x
    · simp only [Bool.false_eq_true, if_false]; exact Ev.now _
    · simp only [if_true]
      refine Ev.bind (Safe_ev st ch ps) ?_
      obtain ⟨_, h2⟩ := safeF_two h
      by_cases hF : lateF true st ch ps = (-1, -1)
      · simp only [if_pos (h2.2 hF), if_pos hF, Option.bind_some, List.length_nil, List.nil_append, Nat.zero_add]
        have hn := hv.nps
        simp only [(by omega : ps.length < 3518437208883), if_true]
        have := More_l0 h hl (24 - ps.length) 0 (by omega)
        rw [addN_zero] at this
        exact this
      · simp only [if_neg (fun e => hF (h2.1 e)), if_neg hF]
        exact Ev.now _
  · simp only [h, if_false]
    exact Ev.now _
end Go.Proofs.YtdeaccbolnlgpaaDoor.X
