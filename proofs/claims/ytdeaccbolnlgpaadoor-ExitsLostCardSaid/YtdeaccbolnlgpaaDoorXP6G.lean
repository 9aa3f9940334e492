import Derived.Test.YtdeaccbolnlgpaaDoorXP4
import Derived.Test.YtdeaccbolnlgpaaDoorXN16
namespace Go.Proofs.YtdeaccbolnlgpaaDoor.X
open Go.RowKit Go.Proofs.YtdeaccbolnlgpaaDoorW.PrintWords Go.Proofs.YtdeaccbolnlgpaaDoorW.PrintLast Go.Proofs.YtdeaccbolnlgpaaDoorW.PrintMore
set_option linter.unusedVariables false
set_option linter.unusedSimpArgs false

theorem Twin_f {st : List S62} {ch : List S81} (h1 : st.length ≤ 1000) (h2 : ch.length ≤ 1000) : cottonpadref06_Twin.f st ch = some (st, ch) := by
  unfold cottonpadref06_Twin.f
  simp only [Option.bind_some, List.length_nil, List.nil_append]
  rw [if_pos (by omega), if_pos (by omega)]
end Go.Proofs.YtdeaccbolnlgpaaDoor.X
