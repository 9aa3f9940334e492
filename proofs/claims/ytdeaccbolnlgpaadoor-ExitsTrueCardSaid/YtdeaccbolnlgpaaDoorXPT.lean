import Derived.Test.YtdeaccbolnlgpaaDoorXPC
import Derived.Test.YtdeaccbolnlgpaaDoorXN6
namespace Go.Proofs.YtdeaccbolnlgpaaDoor.X
open Go.RowKit Go.Proofs.YtdeaccbolnlgpaaDoorW.PrintWords Go.Proofs.YtdeaccbolnlgpaaDoorW.PrintLast Go.Proofs.YtdeaccbolnlgpaaDoorW.PrintMore
set_option linter.unusedVariables false
set_option linter.unusedSimpArgs false

/-! # The plain law of ExitsTrue -/
def rightR (st : List S62) (ch : List S81) (ps : List S48) (by_ : List Int) : Bool := rightP ch ps by_ (truthT ch ps by_) ps.length && rightS st by_ (truthL st ch ps by_) st.length
/-- When the last one was out, behind j more of stair s. -/
def lastJ (st : List S62) (L : List (List Int)) (s j : Nat) : Int := if (rd_T62 st s).f0 = -1 then ((rd_L11 L s).take j).foldl mx (lastW st L s) else lastW st L s
theorem lastJ_zero (st : List S62) (L : List (List Int)) (s : Nat) : lastJ st L s 0 = lastW st L s := by unfold lastJ; split <;> rfl
theorem lastJ_all (st : List S62) (L : List (List Int)) (s : Nat) : lastJ st L s (rd_L11 L s).length = lastW st L (s + 1) := by unfold lastJ; rw [List.take_length, lastW]
theorem lastJ_succ (st : List S62) (L : List (List Int)) (s : Nat) {j : Nat} (hj : j < (rd_L11 L s).length) : lastJ st L s (j + 1) = if (rd_T62 st s).f0 = -1 then mx (lastJ st L s j) (rd_L11 L s)[j] else lastJ st L s j := by
  unfold lastJ
  by_cases h : (rd_T62 st s).f0 = -1
  · rw [if_pos h, if_pos h, if_pos h, List.take_succ_eq_append_getElem hj, List.foldl_append]; rfl
  · rw [if_neg h, if_neg h, if_neg h]

section
variable {st : List S62} {ch : List S81} {ps : List S48} (by_ : List Int) (hc : checkF st ch ps = 0)
include hc
theorem true_end (k : Nat) : cottonpadlaw06_ExitsTrue.l0 (k + 1) ps true (truthL st ch ps by_) (rightR st ch ps by_) (lastW st (truthL st ch ps by_) st.length) st (st.length : Int) (st.length : Int) st ch = some true := by
  have hv := checkF_zero hc
  have h3 := check_small3 hc
  have hlo := lastT_le (fun k hk => truthL_lo hv by_ hk) st.length (Nat.le_refl _)
  have hhi := le_lastT (fun k hk => by rw [rdT62_get hk]; exact (stairB_iff.1 (hv.built.stair k hk)).2.1.1) (fun k hk => truthL_hi hv by_ hk) st.length (Nat.le_refl _)
  have ho : outF st ch ps = (lastT false st ch ps st.length, lastT true st ch ps st.length, 0) := if_pos hc
  have hs : safeF st ch ps = (if lateF true st ch ps = (-1, -1) then 2 else if lateF false st ch ps = (-1, -1) then 1 else 0, (lateF true st ch ps).1, (lateF true st ch ps).2, 0) := if_pos hc
  rw [cottonpadlaw06_ExitsTrue.l0, if_neg (by omega), exitsOut_f h3, exitsSafe_f h3, ho, hs]
  simp only [Option.bind_some, if_true]
  rw [if_neg (by omega : ¬ lastW st (truthL st ch ps by_) st.length < _), if_neg (by omega : ¬ lastW st (truthL st ch ps by_) st.length > _)]
  by_cases h1 : lateF true st ch ps = (-1, -1)
  · obtain ⟨e1, e2⟩ := right_two hv by_ h1
    have e3 : rightR st ch ps by_ = true := by unfold rightR; rw [e1, e2]; rfl
    rw [if_pos h1, e3]; rfl
  · rw [if_neg h1]
    by_cases h2 : lateF false st ch ps = (-1, -1)
    · rw [if_pos h2]; rfl
    · have e3 : rightR st ch ps by_ = false := right_zero hv by_ h2
      rw [if_neg h2, e3]; rfl

theorem true_l1 {s : Nat} (hs : s < st.length) (hK : Ev (fun k => cottonpadlaw06_ExitsTrue.l0 k ps true (truthL st ch ps by_) (rightR st ch ps by_) (lastW st (truthL st ch ps by_) (s + 1)) st (st.length : Int) ((s + 1 : Nat) : Int) st ch) true) : ∀ d j : Nat, j + d = (rd_L11 (truthL st ch ps by_) s).length →
    Ev (fun k => cottonpadlaw06_ExitsTrue.l1 k ps true (truthL st ch ps by_) (rightR st ch ps by_) (lastJ st (truthL st ch ps by_) s j) (List.zipWith S36.mk (leftAt false st ch ps s) (leftAt true st ch ps s)) st (st.length : Int) (s : Int) (rd_L11 (truthL st ch ps by_) s) ((rd_L11 (truthL st ch ps by_) s).length : Int) (j : Int) st ch (rd_T62 st s).f0 (rd_T62 st s).f1 (rd_T62 st s).f2.f0 (rd_T62 st s).f2.f1 (rd_T62 st s).f3.f0 (rd_T62 st s).f3.f1) true
  | 0, j, hd => by
    have hst := (checkF_zero hc).built.nst
    refine Ev.step (fun k => ?_) hK
    rw [cottonpadlaw06_ExitsTrue.l1, if_neg (by omega), show j = (rd_L11 (truthL st ch ps by_) s).length by omega, lastJ_all, wrap_succ hs (by omega)]
  | d + 1, j, hd => by
    have hv := checkF_zero hc
    have hj : j < (rd_L11 (truthL st ch ps by_) s).length := by omega
    have hlo := truthL_lo hv by_ hs
    have hhi := truthL_hi hv by_ hs
    have j1 : j < (leftAt false st ch ps s).length := by rw [hlo.length]; exact hj
    have j2 : j < (leftAt true st ch ps s).length := by rw [← hhi.length]; exact hj
    have hle := leftAt_le24 false hv s
    have hll := hlo.length
    have h1 := hlo.get j j1 hj
    have h2 := hhi.get j hj j2
    have hz : j < (List.zipWith S36.mk (leftAt false st ch ps s) (leftAt true st ch ps s)).length := by rw [List.length_zipWith]; omega
    have e : rd_T36 (List.zipWith S36.mk (leftAt false st ch ps s) (leftAt true st ch ps s)) (j : Int) = ⟨(leftAt false st ch ps s)[j], (leftAt true st ch ps s)[j]⟩ := by
      unfold rd_T36
      rw [Int.toNat_natCast, List.getD_eq_getElem?_getD, List.getElem?_eq_getElem hz, List.getElem_zipWith]; rfl
    have ih := true_l1 hs hK d (j + 1) (by omega)
    rw [lastJ_succ _ _ _ hj] at ih
    refine Ev.step (f := fun k => cottonpadlaw06_ExitsTrue.j4 k ps true (truthL st ch ps by_) (rightR st ch ps by_) (lastJ st (truthL st ch ps by_) s j) (List.zipWith S36.mk (leftAt false st ch ps s) (leftAt true st ch ps s)) ((rd_L11 (truthL st ch ps by_) s)[j]) st (st.length : Int) (s : Int) (rd_L11 (truthL st ch ps by_) s) ((rd_L11 (truthL st ch ps by_) s).length : Int) (j : Int) false st ch (rd_T62 st s).f0 (rd_T62 st s).f1 (rd_T62 st s).f2.f0 (rd_T62 st s).f2.f1 (rd_T62 st s).f3.f0 (rd_T62 st s).f3.f1) (fun k => ?_) (Ev.step (fun k => ?_) ih)
    · rw [cottonpadlaw06_ExitsTrue.l1, if_pos (by omega), if_pos (by omega), if_pos (by omega), if_pos (by omega), rd_get hj, e, if_neg (by simp only; omega), decide_eq_false (by simp only; omega)]
    · rw [cottonpadlaw06_ExitsTrue.j4, if_neg (by simp), wrap_succ hj (by omega)]
      split <;> rfl

theorem true_l0 : ∀ d s : Nat, s + d = st.length →
    Ev (fun k => cottonpadlaw06_ExitsTrue.l0 k ps true (truthL st ch ps by_) (rightR st ch ps by_) (lastW st (truthL st ch ps by_) s) st (st.length : Int) (s : Int) st ch) true
  | 0, s, hd => by
    rw [show s = st.length by omega]
    exact Ev.step (f := fun _ => some true) (true_end by_ hc) (Ev.now _)
  | d + 1, s, hd => by
    have hv := checkF_zero hc
    have hs : s < st.length := by omega
    have h1 := true_l1 by_ hc hs (true_l0 d (s + 1) (by omega)) (rd_L11 (truthL st ch ps by_) s).length 0 (by omega)
    rw [lastJ_zero] at h1
    have hlen : (truthL st ch ps by_).length = st.length := by simp [truthL, truthG, goF]
    have hlo := truthL_lo hv by_ hs
    have hhi := truthL_hi hv by_ hs
    have hz : (List.zipWith S36.mk (leftAt false st ch ps s) (leftAt true st ch ps s)).length = (rd_L11 (truthL st ch ps by_) s).length := by
      rw [List.length_zipWith, hlo.length, hhi.length]; omega
    refine Ev.step (f := fun k => cottonpadlaw06_ExitsTrue.j2 k ps true (truthL st ch ps by_) (rightR st ch ps by_) (lastW st (truthL st ch ps by_) s) (s : Int) (List.zipWith S36.mk (leftAt false st ch ps s) (leftAt true st ch ps s)) st (st.length : Int) (s : Int) false st ch (rd_T62 st s).f0 (rd_T62 st s).f1 (rd_T62 st s).f2.f0 (rd_T62 st s).f2.f1 (rd_T62 st s).f3.f0 (rd_T62 st s).f3.f1) (fun k => ?_) (Ev.step (fun k => ?_) h1)
    · rw [cottonpadlaw06_ExitsTrue.l0, if_pos (by omega), if_pos (by omega), if_pos (by omega), exitsLeaves_f (check_small3 hc), leavesF_at hc hs]
      simp only [Option.bind_some, if_true]
      rw [if_pos (by omega), hz]
      simp
    · rw [cottonpadlaw06_ExitsTrue.j2, if_neg (by simp), if_pos (by omega), if_pos (by omega)]
      rfl
end

theorem byOk_of {l : List Int} (h : ∀ z ∈ l, (Lit.int .u32 z).wf = true) : ByOk l := fun z hz => by
  have := h z hz
  simp [Lit.wf, IntKind.min, IntKind.max, IntKind.signed, IntKind.bits] at this
  omega
theorem ExitsTrue_ev (st : List S62) (ch : List S81) (ps : List S48) {by_ : List Int} (hb : ByOk by_) : Ev (fun k => cottonpadlaw06_ExitsTrue.f k st ch ps by_) true := by
  have h0 : ∀ k, cottonpadlaw06_ExitsTrue.f k st ch ps by_ = (cottonpadlaw06_ready.f k st ch ps).bind fun t669 => (if t669 = true then cottonpadlaw06_ExitsTrue.j0 k ps by_ true false st ch else cottonpadlaw06_ExitsTrue.j0 k ps by_ true true st ch) := fun k => rfl
  refine Ev.congr h0 (Ev.bind (ready_ev st ch ps) ?_)
  by_cases h : (!greatB st ch ps && checkF st ch ps == 0) = true
  · have hc := ready_out h
    simp only [h, if_true]
    have hK := true_l0 by_ hc st.length 0 (by omega)
    refine Ev.step (f := fun k => (cottonpadlaw06_truth.f k st ch ps by_).bind fun bt670 => (cottonpadlaw06_ExitsTrue.l0 k ps true bt670.2.1 bt670.2.2 0 st (st.length : Int) 0 st ch)) (fun k => ?_) (Ev.bind (truth_ev hc hb) hK)
    simp only [Bool.false_eq_true, if_false, if_true, cottonpadlaw06_ExitsTrue.j0]
  · simp only [h, Bool.false_eq_true, if_false]
    exact Ev.step (f := fun _ => some true) (fun k => by rw [cottonpadlaw06_ExitsTrue.j0, if_pos rfl]) (Ev.now _)
end Go.Proofs.YtdeaccbolnlgpaaDoor.X
