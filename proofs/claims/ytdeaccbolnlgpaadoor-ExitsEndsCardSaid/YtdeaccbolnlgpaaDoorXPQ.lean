import Derived.Test.YtdeaccbolnlgpaaDoorXPN
import Derived.Test.YtdeaccbolnlgpaaDoorXP6G
import Derived.Test.YtdeaccbolnlgpaaDoorXN8
namespace Go.Proofs.YtdeaccbolnlgpaaDoor.X
open Go.RowKit Go.Proofs.YtdeaccbolnlgpaaDoorW.PrintWords Go.Proofs.YtdeaccbolnlgpaaDoorW.PrintLast Go.Proofs.YtdeaccbolnlgpaaDoorW.PrintMore
set_option linter.unusedVariables false
set_option linter.unusedSimpArgs false
set_option linter.unusedSectionVars false

/-! # The plain law of ExitsEnds -/
def two36 (t : Int) : S36 := ⟨t, t⟩
section
variable {st : List S62} {ch : List S81} {ps : List S48} (hc : checkF st ch ps = 0) {m : Nat} (hm : m < st.length)
include hc hm
theorem ends_last : Ev (fun k => cottonpadlaw06_ExitsEnds.l0 k ps true (ps.map (fixP true)) (ps.map (fixP false)) (List.zipWith S36.mk (leftAt false st ch ps m) (leftAt true st ch ps m)) ((leftAt true st ch ps m).map two36) ((leftAt false st ch ps m).map two36) ((leftAt false st ch ps m).length : Int) ((leftAt false st ch ps m).length : Int) st ch (st.map (fixS true)) (ch.map (fixC true)) (st.map (fixS false)) (ch.map (fixC false))) true := by
  have hv := checkF_zero hc
  have s0 : safeF st ch ps = (if lateF true st ch ps = (-1, -1) then 2 else if lateF false st ch ps = (-1, -1) then 1 else 0, (lateF true st ch ps).1, (lateF true st ch ps).2, 0) := if_pos hc
  have s1 := fix_safe hc true
  have s2 := fix_safe hc false
  refine Ev.step (f := fun _ => some true) (fun k => ?_) (Ev.now _)
  rw [cottonpadlaw06_ExitsEnds.l0, if_neg (by omega), exitsSafe_f (check_small3 hc), exitsSafe_f (check_small3 (fix_check hc true)), exitsSafe_f (check_small3 (fix_check hc false)), s0, s1, s2]
  simp only [Option.bind_some, if_true]
  by_cases hT : lateF true st ch ps = (-1, -1)
  · have hF := late_ends hv hT
    simp [hT, hF]
  · by_cases hF : lateF false st ch ps = (-1, -1)
    · simp [hT, hF]
    · simp [hT, hF]
theorem ends_l0 : ∀ d j : Nat, j + d = (leftAt false st ch ps m).length → Ev (fun k => cottonpadlaw06_ExitsEnds.l0 k ps true (ps.map (fixP true)) (ps.map (fixP false)) (List.zipWith S36.mk (leftAt false st ch ps m) (leftAt true st ch ps m)) ((leftAt true st ch ps m).map two36) ((leftAt false st ch ps m).map two36) ((leftAt false st ch ps m).length : Int) (j : Int) st ch (st.map (fixS true)) (ch.map (fixC true)) (st.map (fixS false)) (ch.map (fixC false))) true
  | 0, j, h => by
    rw [show j = (leftAt false st ch ps m).length by omega]
    exact ends_last hc hm
  | d + 1, j, h => by
    have hv := checkF_zero hc
    have hlen := leftAt_len st ch ps m
    have h24 := leftAt_le24 false hv m
    have hj : j < (leftAt false st ch ps m).length := by omega
    have hj2 : j < (leftAt true st ch ps m).length := by omega
    have r1 : rd_T36 (List.zipWith S36.mk (leftAt false st ch ps m) (leftAt true st ch ps m)) (j : Int) = ⟨(leftAt false st ch ps m)[j], (leftAt true st ch ps m)[j]⟩ := by
      rw [rdT36_nat (by rw [List.length_zipWith]; omega), List.getElem_zipWith]
    have r2 : rd_T36 ((leftAt true st ch ps m).map two36) (j : Int) = ⟨(leftAt true st ch ps m)[j], (leftAt true st ch ps m)[j]⟩ := by
      rw [rdT36_nat (by rw [List.length_map]; omega), List.getElem_map]; rfl
    have r3 : rd_T36 ((leftAt false st ch ps m).map two36) (j : Int) = ⟨(leftAt false st ch ps m)[j], (leftAt false st ch ps m)[j]⟩ := by
      rw [rdT36_nat (by rw [List.length_map]; omega), List.getElem_map]; rfl
    refine Ev.step (fun k => ?_) (ends_l0 d (j + 1) (by omega))
    rw [cottonpadlaw06_ExitsEnds.l0, if_pos (by omega), if_pos (by omega), if_pos (by rw [List.length_map]; omega), if_pos (by rw [List.length_zipWith]; omega), r1, r2, r3, span_f]
    simp only [Option.bind_some, beq_self_eq_true, Bool.not_true, Bool.or_self, Bool.false_eq_true, if_false]
    rw [if_pos (by rw [List.length_map]; omega), span_f]
    simp only [Option.bind_some, beq_self_eq_true, Bool.not_true, Bool.or_self, Bool.false_eq_true, if_false]
    rw [wrap_succ hj (by omega)]
theorem ends_j0 {a2 : Int} (hidx : Int.tmod (wrap64 a2) (st.length : Int) = (m : Int)) : Ev (fun k => cottonpadlaw06_ExitsEnds.j0 k ps a2 true false st ch) true := by
  have hv := checkF_zero hc
  have h3 := check_small3 hc
  have h3t := check_small3 (fix_check hc true)
  have h3f := check_small3 (fix_check hc false)
  have hlen := leftAt_len st ch ps m
  have o1 : outF st ch ps = (lastT false st ch ps st.length, lastT true st ch ps st.length, 0) := if_pos hc
  have ot := fix_out hc true
  have of_ := fix_out hc false
  have l1 := leavesF_at hc hm
  have lt : leavesF (st.map (fixS true)) (ch.map (fixC true)) (ps.map (fixP true)) (m : Int) = ((leftAt true st ch ps m).map two36, 0) := fix_leaves hc true hm
  have lf : leavesF (st.map (fixS false)) (ch.map (fixC false)) (ps.map (fixP false)) (m : Int) = ((leftAt false st ch ps m).map two36, 0) := fix_leaves hc false hm
  have hz : (List.zipWith S36.mk (leftAt false st ch ps m) (leftAt true st ch ps m)).length = (leftAt false st ch ps m).length := by rw [List.length_zipWith]; omega
  have hzt : ((leftAt true st ch ps m).map two36).length = (leftAt false st ch ps m).length := by rw [List.length_map]; omega
  have hzf : ((leftAt false st ch ps m).map two36).length = (leftAt false st ch ps m).length := by rw [List.length_map]
  refine Ev.step (f := fun k => cottonpadlaw06_ExitsEnds.j1 k ps true (ps.map (fixP true)) (ps.map (fixP false)) (List.zipWith S36.mk (leftAt false st ch ps m) (leftAt true st ch ps m)) ((leftAt true st ch ps m).map two36) ((leftAt false st ch ps m).map two36) false st ch (st.map (fixS true)) (ch.map (fixC true)) (st.map (fixS false)) (ch.map (fixC false))) (fun k => ?_) (Ev.step (fun k => ?_) (ends_l0 hc hm _ 0 (Nat.zero_add _)))
  · rw [cottonpadlaw06_ExitsEnds.j0, if_neg (by simp), if_neg (by omega), fixed_f h3 true, fixed_f h3 false]
    simp only [Option.bind_some]
    rw [hidx, exitsLeaves_f h3, exitsLeaves_f h3t, exitsLeaves_f h3f, exitsOut_f h3, exitsOut_f h3t, exitsOut_f h3f, l1, lt, lf, o1, ot, of_]
    simp only [Option.bind_some, if_true, span_f, hz, hzt, hzf, beq_self_eq_true, Bool.not_true, Bool.or_self, Bool.false_eq_true, if_false]
  · rw [cottonpadlaw06_ExitsEnds.j1, if_neg (by simp), hz]; rfl
end
theorem u8_ends {z : Int} (h : (Lit.int .u8 z).wf = true) : 0 ≤ z ∧ z < 256 := by
  simp [Lit.wf, IntKind.min, IntKind.max, IntKind.signed, IntKind.bits] at h
  omega
theorem ExitsEnds_ev (st : List S62) (ch : List S81) (ps : List S48) {a2 : Int} (h2 : 0 ≤ a2 ∧ a2 < 256) : Ev (fun k => cottonpadlaw06_ExitsEnds.f k st ch ps a2) true := by
  have h0 : ∀ k, cottonpadlaw06_ExitsEnds.f k st ch ps a2 = (cottonpadlaw06_ready.f k st ch ps).bind fun t698 => (if t698 = true then cottonpadlaw06_ExitsEnds.j0 k ps a2 true false st ch else cottonpadlaw06_ExitsEnds.j0 k ps a2 true true st ch) := fun k => rfl
  have hE : Ev (fun k => cottonpadlaw06_ExitsEnds.j0 k ps a2 true true st ch) true := Ev.step (f := fun _ => some true) (fun k => by rw [cottonpadlaw06_ExitsEnds.j0, if_pos rfl]) (Ev.now _)
  refine Ev.congr h0 (Ev.bind (ready_ev st ch ps) ?_)
  by_cases h : (!greatB st ch ps && checkF st ch ps == 0) = true
  · simp only [h, if_true]
    have hc := ready_out h
    have hn0 := (checkF_zero hc).built.nst0
    have w2 : wrap64 a2 = a2 := wrap_in (by omega)
    have hidx : Int.tmod (wrap64 a2) (st.length : Int) = ((a2.toNat % st.length : Nat) : Int) := by
      rw [w2, Int.tmod_eq_emod_of_nonneg h2.1]
      have : a2 = ((a2.toNat : Nat) : Int) := (Int.toNat_of_nonneg h2.1).symm
      rw [this]; simp
    exact ends_j0 hc (Nat.mod_lt _ hn0) hidx
  · simp only [h, Bool.false_eq_true, if_false]; exact hE
end Go.Proofs.YtdeaccbolnlgpaaDoor.X
