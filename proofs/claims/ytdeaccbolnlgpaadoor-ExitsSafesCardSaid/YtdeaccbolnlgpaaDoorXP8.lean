import Derived.Test.YtdeaccbolnlgpaaDoorXP7
import Derived.Test.YtdeaccbolnlgpaaDoorXN4
import Derived.Test.YtdeaccbolnlgpaaDoorXP5S
import Derived.Test.YtdeaccbolnlgpaaDoorXP6G
import Derived.Test.YtdeaccbolnlgpaaDoorXHMore
import Derived.Test.YtdeaccbolnlgpaaDoorXHS
namespace Go.Proofs.YtdeaccbolnlgpaaDoor.X
open Go.RowKit Go.Proofs.YtdeaccbolnlgpaaDoorW.PrintWords Go.Proofs.YtdeaccbolnlgpaaDoorW.PrintLast Go.Proofs.YtdeaccbolnlgpaaDoorW.PrintMore
set_option linter.unusedVariables false
set_option linter.unusedSimpArgs false

/-! # The plain law of ExitsSafes -/
theorem ExitsSafes_ev (st : List S62) (ch : List S81) (ps : List S48) (x : S48) : Ev (fun k => cottonpadlaw06_ExitsSafes.f k st ch ps x.f0 x.f1.f0 x.f1.f1 x.f2.f0 x.f2.f1) true := by
  unfold cottonpadlaw06_ExitsSafes.f
  rw [Great_f]
  cases hg : greatB st ch ps
  · have hs := greatB_false hg
    have h3 : small3 st ch ps := ⟨by omega, by omega, by omega⟩
    simp only [Option.bind_some, Bool.false_eq_true, if_false, Twin_f (st := st) (ch := ch) (by omega) (by omega), List.length_nil, List.nil_append, Nat.zero_add, (by omega : ps.length < 3518437208883), if_true, exitsSafe_f h3, exitsMore_f h3]
    refine Ev.bind (Safe_ev st ch ps) (Ev.bind (More_ev st ch ps x) ?_)
    simp only [if_true]
    refine Ev.bind (Same_ev st ch (by omega) (by omega)) ?_
    simp only [if_true]
    exact Ev.bind (SameWalkers_ev ps (by omega)) (Ev.now _)
  · simp only [Option.bind_some, if_true]
    exact Ev.now _
end Go.Proofs.YtdeaccbolnlgpaaDoor.X
