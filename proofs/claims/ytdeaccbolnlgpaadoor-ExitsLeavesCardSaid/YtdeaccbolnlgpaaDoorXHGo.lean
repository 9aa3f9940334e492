import Derived.Test.YtdeaccbolnlgpaaDoorXC13
namespace Go.Proofs.YtdeaccbolnlgpaaDoor.X
open Go.RowKit Go.Proofs.YtdeaccbolnlgpaaDoorW.PrintWords Go.Proofs.YtdeaccbolnlgpaaDoorW.PrintLast Go.Proofs.YtdeaccbolnlgpaaDoorW.PrintMore
set_option linter.unusedVariables false

def goF (st : List S62) (ch : List S81) (ps : List S48) (pace wait walk : List Int) : List Int × List (List Int) :=
  (tsG ch ps pace wait, (List.range st.length).map fun k => leftG st ch ps (tsG ch ps pace wait) walk k)
def cottonpadref06_Go.f (l0_0 : List (S62)) (l0_1 : List (S81)) (l1 : List (S48)) (l2 : List Int) (l3 : List Int) (l4 : List Int) : Option (List Int × (List (List Int))) :=
  if GoOk l0_0 l0_1 l1 l2 l3 l4 then some (goF l0_0 l0_1 l1 l2 l3 l4) else none
theorem cottonpadref06_Go.calls (A0_0 : Option Addr) (c0_0 : Nat) (l0_0 : List (S62)) (A0_1 : Option Addr) (c0_1 : Nat) (l0_1 : List (S81)) (A1 : Option Addr) (c1 : Nat) (l1 : List (S48)) (A2 : Option Addr) (c2 : Nat) (l2 : List Int) (A3 : Option Addr) (c3 : Nat) (l3 : List Int) (A4 : Option Addr) (c4 : Nat) (l4 : List Int) (r1 : List Int) (r2 : List (List Int)) (w : World) (hr0_0 : Kd.C k62 w A0_0 l0_0.length l0_0) (hc0_0 : l0_0.length ≤ c0_0) (hr0_1 : Kd.C k81 w A0_1 l0_1.length l0_1) (hc0_1 : l0_1.length ≤ c0_1) (hr1 : Kd.C k48 w A1 l1.length l1) (hc1 : l1.length ≤ c1) (hr2 : Kd.C (Kd.int .i64) w A2 l2.length l2) (hc2 : l2.length ≤ c2) (hr3 : Kd.C (Kd.int .i64) w A3 l3.length l3) (hc3 : l3.length ≤ c3) (hr4 : Kd.C (Kd.int .i64) w A4 l4.length l4) (hc4 : l4.length ≤ c4) (h : cottonpadref06_Go.f l0_0 l0_1 l1 l2 l3 l4 = some (r1, r2)) :
    Calls Tryd.prog 69 #[.agg #[.slice A0_0 l0_0.length c0_0, .slice A0_1 l0_1.length c0_1], .slice A1 l1.length c1, .slice A2 l2.length c2, .slice A3 l3.length c3, .slice A4 l4.length c4] w fun e w' => ∃ v0_ v1_ : Value, e = .returned (.tuple #[v0_, v1_]) ∧ Kd.R (Kd.int .i64) 3 w' w.heap.size (fun _ => True) v0_ r1 ∧ Kd.S (Kd.slice 3 (Kd.int .i64)) 67 w' w.heap.size (fun k_ => some k_ ≠ (v0_ : Value).ownBlock) v1_ r2 ∧ Below w.heap.size w w' := by
  unfold cottonpadref06_Go.f at h
  split at h
  · rename_i hg
    cases h
    exact go_any A0_0 A0_1 A1 A2 A3 A4 c0_0 c0_1 c1 c2 c3 c4 l0_0 l0_1 l1 l2 l3 l4 w hr0_0 hc0_0 hr0_1 hc0_1 hr1 hc1 hr2 hc2 hr3 hc3 hr4 hc4 hg
  · cases h
end Go.Proofs.YtdeaccbolnlgpaaDoor.X
