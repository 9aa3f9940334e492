import Derived.Test.YtdeaccbolnlgpaaDoorXN45
import Derived.Test.YtdeaccbolnlgpaaDoorXPE
import Derived.Test.YtdeaccbolnlgpaaDoorXHO
namespace Go.Proofs.YtdeaccbolnlgpaaDoor.X
open Go.RowKit Go.Proofs.YtdeaccbolnlgpaaDoorW.PrintWords Go.Proofs.YtdeaccbolnlgpaaDoorW.PrintLast Go.Proofs.YtdeaccbolnlgpaaDoorW.PrintMore
set_option linter.unusedVariables false
set_option linter.unusedSimpArgs false

/-! # top.alive06 is true -/
theorem ex_burst06 : spray_Bursts.f 0 1 1 0 60 60 0 0 [20, 70] = some (2, 2, 0) := by kernel_rfl
theorem ex_out06 : outF [⟨(-1), 0, ⟨0, 0⟩, ⟨500, 500⟩⟩] [⟨0, 1000, ⟨500, 500⟩⟩] [⟨0, ⟨100, 100⟩, ⟨120, 120⟩⟩] = (130, 130, 0) := by rw [outF_E]; kernel_rfl
theorem alive06_f : cottonpadtop_alive06.f = some true := by
  have h3 : small3 [⟨(-1), 0, ⟨0, 0⟩, ⟨500, 500⟩⟩] [⟨0, 1000, ⟨500, 500⟩⟩] [⟨0, ⟨100, 100⟩, ⟨120, 120⟩⟩] := ⟨by simp, by simp, by simp⟩
  unfold cottonpadtop_alive06.f
  rw [ex_burst06]
  simp only [Option.bind_some]
  rw [exitsOut_f h3, ex_out06]
  rfl
def cottonpadtop_alive06_t.f : Option Bool := some true
theorem cottonpadtop_alive06_t.calls (r : Bool) (w : World) (hG : GlobsE w) (h : cottonpadtop_alive06_t.f = some r) : Calls Tryd.prog 45 #[] w fun e w' => e = .returned (.bool r) ∧ Below w.heap.size w w' := by
  cases h
  exact cottonpadtop_alive06.calls true w hG rfl alive06_f
end Go.Proofs.YtdeaccbolnlgpaaDoor.X
