import Derived.Test.YtdeaccbolnlgpaaDoorXNA
import Derived.Test.YtdeaccbolnlgpaaDoorXN16
namespace Go.Proofs.YtdeaccbolnlgpaaDoor.X
open Go.RowKit Go.Proofs.YtdeaccbolnlgpaaDoorW.PrintWords Go.Proofs.YtdeaccbolnlgpaaDoorW.PrintLast Go.Proofs.YtdeaccbolnlgpaaDoorW.PrintMore
set_option linter.unusedVariables false
set_option linter.unusedSimpArgs false

def greatB (st : List S62) (ch : List S81) (ps : List S48) : Bool := decide (10 < st.length) || decide (12 < ch.length) || decide (30 < ps.length)
theorem Great_f (st : List S62) (ch : List S81) (ps : List S48) : cottonpadref06_Great.f st ch ps = some (greatB st ch ps) := by
  unfold cottonpadref06_Great.f greatB
  by_cases h1 : 10 < st.length
  · rw [if_pos (by omega)]; simp [h1]
  · rw [if_neg (by omega)]
    by_cases h2 : 12 < ch.length
    · rw [if_pos (by omega)]; simp [h2]
    · rw [if_neg (by omega)]; simp [h1, h2] <;> omega
theorem greatB_false {st : List S62} {ch : List S81} {ps : List S48} (h : greatB st ch ps = false) : st.length ≤ 10 ∧ ch.length ≤ 12 ∧ ps.length ≤ 30 := by
  simp [greatB] at h; omega
end Go.Proofs.YtdeaccbolnlgpaaDoor.X

namespace Go.Proofs.YtdeaccbolnlgpaaDoor.X
open Go.RowKit Go.Proofs.YtdeaccbolnlgpaaDoorW.PrintWords Go.Proofs.YtdeaccbolnlgpaaDoorW.PrintLast Go.Proofs.YtdeaccbolnlgpaaDoorW.PrintMore
set_option linter.unusedVariables false
set_option linter.unusedSimpArgs false

theorem Twin_f {st : List S62} {ch : List S81} (h1 : st.length ≤ 1000) (h2 : ch.length ≤ 1000) : cottonpadref06_Twin.f st ch = some (st, ch) := by
  unfold cottonpadref06_Twin.f
  simp only [Option.bind_some, List.length_nil, List.nil_append]
  rw [if_pos (by omega), if_pos (by omega)]
end Go.Proofs.YtdeaccbolnlgpaaDoor.X
