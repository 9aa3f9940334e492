import Derived.Test.YtdeaccbolnlgpaaDoorXC11
import Derived.Test.YtdeaccbolnlgpaaDoorXH2
namespace Go.Proofs.YtdeaccbolnlgpaaDoor.X
open Go.RowKit Go.Proofs.YtdeaccbolnlgpaaDoorW.PrintWords Go.Proofs.YtdeaccbolnlgpaaDoorW.PrintLast Go.Proofs.YtdeaccbolnlgpaaDoorW.PrintMore
set_option linter.unusedVariables false

theorem reps36 (w : World) (base : Nat) (ok : Nat → Prop) (xs : List S36) : Reps (k36.M w base ok) 2 xs (cells2 xs) := by
  have : ∀ n, n ≤ xs.length → Reps (k36.M w base ok) 2 (xs.take n) (cells2 (xs.take n)) := by
    intro n
    induction n with
    | zero => intro _; exact Reps.none _ _
    | succ n ih =>
      intro hn
      rw [List.take_succ_eq_append_getElem hn, cells2_append]
      exact (ih (by omega)).snoc (c := [.int .i64 xs[n].f0, .int .i64 xs[n].f1]) (k36_mkM w base ok xs[n]) rfl
  have h := this xs.length (Nat.le_refl _)
  rwa [List.take_length] at h

def exits_Leaves.f (l0_0 : List (S62)) (l0_1 : List (S81)) (l1 : List (S48)) (a2 : Int) : Option ((List (S36)) × Int) := if small3 l0_0 l0_1 l1 then some (leavesF l0_0 l0_1 l1 a2) else none
theorem exits_Leaves.calls (A0_0 : Option Addr) (c0_0 : Nat) (l0_0 : List (S62)) (A0_1 : Option Addr) (c0_1 : Nat) (l0_1 : List (S81)) (A1 : Option Addr) (c1 : Nat) (l1 : List (S48)) (a2 : Int) (r1 : List (S36)) (r2 : Int) (w : World) (hG : GlobsE w) (hr0_0 : Kd.C k62 w A0_0 l0_0.length l0_0) (hc0_0 : l0_0.length ≤ c0_0) (hr0_1 : Kd.C k81 w A0_1 l0_1.length l0_1) (hc0_1 : l0_1.length ≤ c0_1) (hr1 : Kd.C k48 w A1 l1.length l1) (hc1 : l1.length ≤ c1) (h : exits_Leaves.f l0_0 l0_1 l1 a2 = some (r1, r2)) :
    Calls Tryd.prog 17 #[.agg #[.slice A0_0 l0_0.length c0_0, .slice A0_1 l0_1.length c0_1], .slice A1 l1.length c1, .int .i64 a2] w fun e w' => ∃ v0_ : Value, e = .returned (.tuple #[v0_, .int .i64 r2]) ∧ Kd.R k36 36 w' w.heap.size (fun _ => True) v0_ r1 ∧ Below w.heap.size w w' := by
  unfold exits_Leaves.f at h
  split at h
  · rename_i hs
    have hl := Option.some.inj h
    refine (leaves17_any A0_0 A0_1 A1 c0_0 c0_1 c1 l0_0 l0_1 l1 a2 w hG hr0_0 hc0_0 hr0_1 hc0_1 hr1 hs.1 hs.2.1 hs.2.2).mono ?_
    rw [hl]
    rintro e w' ⟨v, he, ho, hb⟩
    exact ⟨v, he, ⟨fun _ _ => trivial, _, ho, reps36 _ _ _ _⟩, hb⟩
  · cases h

theorem exitsLeaves_f {st : List S62} {ch : List S81} {ps : List S48} (h : small3 st ch ps) (a : Int) : exits_Leaves.f st ch ps a = some (leavesF st ch ps a) := if_pos h
end Go.Proofs.YtdeaccbolnlgpaaDoor.X
