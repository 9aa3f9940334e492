import Derived.Test.YtdeaccbolnlgpaaDoorX13
import Derived.Test.YtdeaccbolnlgpaaDoorXP5
namespace Go.Proofs.YtdeaccbolnlgpaaDoor.X
open Go.RowKit Go.Proofs.YtdeaccbolnlgpaaDoorW.PrintWords Go.Proofs.YtdeaccbolnlgpaaDoorW.PrintLast Go.Proofs.YtdeaccbolnlgpaaDoorW.PrintMore
set_option linter.unusedVariables false
set_option linter.unusedSimpArgs false

/-! # The plain law of ExitsLeaves -/

def greatB (st : List S62) (ch : List S81) (ps : List S48) : Bool := decide (10 < st.length) || decide (12 < ch.length) || decide (30 < ps.length)
theorem Great_f (st : List S62) (ch : List S81) (ps : List S48) : cottonpadref06_Great.f st ch ps = some (greatB st ch ps) := by
  unfold cottonpadref06_Great.f greatB
  by_cases h1 : 10 < st.length
  · rw [if_pos (by omega)]; simp [h1]
  · rw [if_neg (by omega)]
    by_cases h2 : 12 < ch.length
    · rw [if_pos (by omega)]; simp [h2]
    · rw [if_neg (by omega)]; simp [h1, h2] <;> omega
theorem greatB_false {st : List S62} {ch : List S81} {ps : List S48} (h : greatB st ch ps = false) : st.length ≤ 10 ∧ ch.length ≤ 12 ∧ ps.length ≤ 30 := by
  simp [greatB] at h; omega
theorem Twin_f {st : List S62} {ch : List S81} (h1 : st.length ≤ 1000) (h2 : ch.length ≤ 1000) : cottonpadref06_Twin.f st ch = some (st, ch) := by
  unfold cottonpadref06_Twin.f
  simp only [Option.bind_some, List.length_nil, List.nil_append]
  rw [if_pos (by omega), if_pos (by omega)]
theorem exitsLeaves_f {st : List S62} {ch : List S81} {ps : List S48} (h : small3 st ch ps) (a : Int) : exits_Leaves.f st ch ps a = some (leavesF st ch ps a) := if_pos h
theorem exitsOut_f {st : List S62} {ch : List S81} {ps : List S48} (h : small3 st ch ps) : exits_Out.f st ch ps = some (outF st ch ps) := if_pos h
theorem exitsSafe_f {st : List S62} {ch : List S81} {ps : List S48} (h : small3 st ch ps) : exits_Safe.f st ch ps = some (safeF st ch ps) := if_pos h
theorem exitsCheck_f {st : List S62} {ch : List S81} {ps : List S48} (h : small3 st ch ps) : exits_Check.f st ch ps = some (checkF st ch ps) := if_pos h
theorem leavesF_len (st : List S62) (ch : List S81) (ps : List S48) (a : Int) : (leavesF st ch ps a).1.length ≤ 24 := by
  unfold leavesF
  split
  · rename_i h
    split
    · have := leftAt_le false (checkF_zero h) a.toNat
      rw [List.length_zipWith]; omega
    · simp
  · simp

theorem ExitsLeaves_ev (st : List S62) (ch : List S81) (ps : List S48) (a : Int) : Ev (fun k => cottonpadlaw06_ExitsLeaves.f k st ch ps a) true := by
  unfold cottonpadlaw06_ExitsLeaves.f
  rw [Great_f]
  cases hg : greatB st ch ps
  · have hs := greatB_false hg
    have h3 : small3 st ch ps := ⟨by omega, by omega, by omega⟩
    simp only [Option.bind_some, Bool.false_eq_true, if_false, Twin_f (st := st) (ch := ch) (by omega) (by omega), List.length_nil, List.nil_append, Nat.zero_add, (by omega : ps.length < 3518437208883), if_true, exitsLeaves_f h3, exitsOut_f h3, exitsCheck_f h3]
    refine Ev.bind (Leaves_ev st ch ps a) (Ev.bind (Out_ev st ch ps) (Ev.bind (Check_ev st ch ps) ?_))
    simp only [if_true]
    refine Ev.bind (SameSpans_ev _ (by have := leavesF_len st ch ps a; omega)) ?_
    simp only [if_true, beq_self_eq_true, Bool.and_self]
    refine Ev.bind (Same_ev st ch (by omega) (by omega)) ?_
    simp only [if_true]
    exact Ev.bind (SameWalkers_ev ps (by omega)) (Ev.now _)
  · simp only [Option.bind_some, if_true]
    exact Ev.now _
end Go.Proofs.YtdeaccbolnlgpaaDoor.X
