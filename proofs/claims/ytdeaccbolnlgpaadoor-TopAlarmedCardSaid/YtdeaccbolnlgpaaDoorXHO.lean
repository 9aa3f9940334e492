import Derived.Test.YtdeaccbolnlgpaaDoorXC9
import Derived.Test.YtdeaccbolnlgpaaDoorXH2
namespace Go.Proofs.YtdeaccbolnlgpaaDoor.X
open Go.RowKit Go.Proofs.YtdeaccbolnlgpaaDoorW.PrintWords Go.Proofs.YtdeaccbolnlgpaaDoorW.PrintLast Go.Proofs.YtdeaccbolnlgpaaDoorW.PrintMore
set_option linter.unusedVariables false

def exits_Out.f (l0_0 : List (S62)) (l0_1 : List (S81)) (l1 : List (S48)) : Option (Int × Int × Int) := if small3 l0_0 l0_1 l1 then some (outF l0_0 l0_1 l1) else none
theorem exits_Out.calls (A0_0 : Option Addr) (c0_0 : Nat) (l0_0 : List (S62)) (A0_1 : Option Addr) (c0_1 : Nat) (l0_1 : List (S81)) (A1 : Option Addr) (c1 : Nat) (l1 : List (S48)) (r1 : Int) (r2 : Int) (r3 : Int) (w : World) (hG : GlobsE w) (hr0_0 : Kd.C k62 w A0_0 l0_0.length l0_0) (hc0_0 : l0_0.length ≤ c0_0) (hr0_1 : Kd.C k81 w A0_1 l0_1.length l0_1) (hc0_1 : l0_1.length ≤ c0_1) (hr1 : Kd.C k48 w A1 l1.length l1) (hc1 : l1.length ≤ c1) (h : exits_Out.f l0_0 l0_1 l1 = some (r1, r2, r3)) :
    Calls Tryd.prog 19 #[.agg #[.slice A0_0 l0_0.length c0_0, .slice A0_1 l0_1.length c0_1], .slice A1 l1.length c1] w fun e w' => e = .returned (.tuple #[.agg #[.int .i64 r1, .int .i64 r2], .int .i64 r3]) ∧ Below w.heap.size w w' := by
  unfold exits_Out.f at h
  split at h
  · rename_i hs
    have hl := Option.some.inj h
    have := out_any A0_0 A0_1 A1 c0_0 c0_1 c1 l0_0 l0_1 l1 w hG hr0_0 hc0_0 hr0_1 hc0_1 hr1 hs.1 hs.2.1 hs.2.2
    rwa [hl] at this
  · cases h

theorem exitsOut_f {st : List S62} {ch : List S81} {ps : List S48} (h : small3 st ch ps) : exits_Out.f st ch ps = some (outF st ch ps) := if_pos h
end Go.Proofs.YtdeaccbolnlgpaaDoor.X
