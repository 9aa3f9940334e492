import Derived.Test.YtdeaccbolnlgpaaDoorXC11
namespace Go.Proofs.YtdeaccbolnlgpaaDoor.X
open Go.RowKit Go.Proofs.YtdeaccbolnlgpaaDoorW.PrintWords Go.Proofs.YtdeaccbolnlgpaaDoorW.PrintLast Go.Proofs.YtdeaccbolnlgpaaDoorW.PrintMore
set_option linter.unusedVariables false

/-! # The hand contracts, in the print's own form -/

def small3 (l0_0 : List (S62)) (l0_1 : List (S81)) (l1 : List (S48)) : Prop := l0_0.length ≤ 1000 ∧ l0_1.length ≤ 1000 ∧ l1.length ≤ 1000
instance (a : List S62) (b : List S81) (c : List S48) : Decidable (small3 a b c) := inferInstanceAs (Decidable (_ ∧ _ ∧ _))

def exits_Check.f (l0_0 : List (S62)) (l0_1 : List (S81)) (l1 : List (S48)) : Option (Int) := if small3 l0_0 l0_1 l1 then some (checkF l0_0 l0_1 l1) else none
theorem exits_Check.calls (A0_0 : Option Addr) (c0_0 : Nat) (l0_0 : List (S62)) (A0_1 : Option Addr) (c0_1 : Nat) (l0_1 : List (S81)) (A1 : Option Addr) (c1 : Nat) (l1 : List (S48)) (r : Int) (w : World) (hr0_0 : Kd.C k62 w A0_0 l0_0.length l0_0) (hc0_0 : l0_0.length ≤ c0_0) (hr0_1 : Kd.C k81 w A0_1 l0_1.length l0_1) (hc0_1 : l0_1.length ≤ c0_1) (hr1 : Kd.C k48 w A1 l1.length l1) (hc1 : l1.length ≤ c1) (h : exits_Check.f l0_0 l0_1 l1 = some r) :
    Calls Tryd.prog 21 #[.agg #[.slice A0_0 l0_0.length c0_0, .slice A0_1 l0_1.length c0_1], .slice A1 l1.length c1] w fun e w' => e = .returned (.int .i64 r) ∧ Below w.heap.size w w' := by
  unfold exits_Check.f at h
  split at h
  · rename_i hs
    cases h
    have h1 := hs.1
    have h2 := hs.2.1
    have h3 := hs.2.2
    exact check_any A0_0 A0_1 A1 c0_0 c0_1 c1 l0_0 l0_1 l1 w hr0_0 hc0_0 hr0_1 hc0_1 hr1 (by omega) (by omega) (by omega)
  · cases h

theorem reps36 (w : World) (base : Nat) (ok : Nat → Prop) (xs : List S36) : Reps (k36.M w base ok) 2 xs (cells2 xs) := by
  have : ∀ n, n ≤ xs.length → Reps (k36.M w base ok) 2 (xs.take n) (cells2 (xs.take n)) := by
    intro n
    induction n with
    | zero => intro _; exact Reps.none _ _
    | succ n ih =>
      intro hn
      rw [List.take_succ_eq_append_getElem hn, cells2_append]
      exact (ih (by omega)).snoc (c := [.int .i64 xs[n].f0, .int .i64 xs[n].f1]) (k36_mkM w base ok xs[n]) rfl
  have h := this xs.length (Nat.le_refl _)
  rwa [List.take_length] at h

def exits_Leaves.f (l0_0 : List (S62)) (l0_1 : List (S81)) (l1 : List (S48)) (a2 : Int) : Option ((List (S36)) × Int) := if small3 l0_0 l0_1 l1 then some (leavesF l0_0 l0_1 l1 a2) else none
theorem exits_Leaves.calls (A0_0 : Option Addr) (c0_0 : Nat) (l0_0 : List (S62)) (A0_1 : Option Addr) (c0_1 : Nat) (l0_1 : List (S81)) (A1 : Option Addr) (c1 : Nat) (l1 : List (S48)) (a2 : Int) (r1 : List (S36)) (r2 : Int) (w : World) (hG : GlobsE w) (hr0_0 : Kd.C k62 w A0_0 l0_0.length l0_0) (hc0_0 : l0_0.length ≤ c0_0) (hr0_1 : Kd.C k81 w A0_1 l0_1.length l0_1) (hc0_1 : l0_1.length ≤ c0_1) (hr1 : Kd.C k48 w A1 l1.length l1) (hc1 : l1.length ≤ c1) (h : exits_Leaves.f l0_0 l0_1 l1 a2 = some (r1, r2)) :
    Calls Tryd.prog 17 #[.agg #[.slice A0_0 l0_0.length c0_0, .slice A0_1 l0_1.length c0_1], .slice A1 l1.length c1, .int .i64 a2] w fun e w' => ∃ v0_ : Value, e = .returned (.tuple #[v0_, .int .i64 r2]) ∧ Kd.R k36 36 w' w.heap.size (fun _ => True) v0_ r1 ∧ Below w.heap.size w w' := by
  unfold exits_Leaves.f at h
  split at h
  · rename_i hs
    have hl := Option.some.inj h
    refine (leaves17_any A0_0 A0_1 A1 c0_0 c0_1 c1 l0_0 l0_1 l1 a2 w hG hr0_0 hc0_0 hr0_1 hc0_1 hr1 hs.1 hs.2.1 hs.2.2).mono ?_
    rw [hl]
    rintro e w' ⟨v, he, ho, hb⟩
    exact ⟨v, he, ⟨fun _ _ => trivial, _, ho, reps36 _ _ _ _⟩, hb⟩
  · cases h

def exits_Out.f (l0_0 : List (S62)) (l0_1 : List (S81)) (l1 : List (S48)) : Option (Int × Int × Int) := if small3 l0_0 l0_1 l1 then some (outF l0_0 l0_1 l1) else none
theorem exits_Out.calls (A0_0 : Option Addr) (c0_0 : Nat) (l0_0 : List (S62)) (A0_1 : Option Addr) (c0_1 : Nat) (l0_1 : List (S81)) (A1 : Option Addr) (c1 : Nat) (l1 : List (S48)) (r1 : Int) (r2 : Int) (r3 : Int) (w : World) (hG : GlobsE w) (hr0_0 : Kd.C k62 w A0_0 l0_0.length l0_0) (hc0_0 : l0_0.length ≤ c0_0) (hr0_1 : Kd.C k81 w A0_1 l0_1.length l0_1) (hc0_1 : l0_1.length ≤ c0_1) (hr1 : Kd.C k48 w A1 l1.length l1) (hc1 : l1.length ≤ c1) (h : exits_Out.f l0_0 l0_1 l1 = some (r1, r2, r3)) :
    Calls Tryd.prog 19 #[.agg #[.slice A0_0 l0_0.length c0_0, .slice A0_1 l0_1.length c0_1], .slice A1 l1.length c1] w fun e w' => e = .returned (.tuple #[.agg #[.int .i64 r1, .int .i64 r2], .int .i64 r3]) ∧ Below w.heap.size w w' := by
  unfold exits_Out.f at h
  split at h
  · rename_i hs
    have hl := Option.some.inj h
    have := out_any A0_0 A0_1 A1 c0_0 c0_1 c1 l0_0 l0_1 l1 w hG hr0_0 hc0_0 hr0_1 hc0_1 hr1 hs.1 hs.2.1 hs.2.2
    rwa [hl] at this
  · cases h

def exits_Safe.f (l0_0 : List (S62)) (l0_1 : List (S81)) (l1 : List (S48)) : Option (Int × Int × Int × Int) := if small3 l0_0 l0_1 l1 then some (safeF l0_0 l0_1 l1) else none
theorem exits_Safe.calls (A0_0 : Option Addr) (c0_0 : Nat) (l0_0 : List (S62)) (A0_1 : Option Addr) (c0_1 : Nat) (l0_1 : List (S81)) (A1 : Option Addr) (c1 : Nat) (l1 : List (S48)) (r1 : Int) (r2 : Int) (r3 : Int) (r4 : Int) (w : World) (hG : Globs w) (hr0_0 : Kd.C k62 w A0_0 l0_0.length l0_0) (hc0_0 : l0_0.length ≤ c0_0) (hr0_1 : Kd.C k81 w A0_1 l0_1.length l0_1) (hc0_1 : l0_1.length ≤ c0_1) (hr1 : Kd.C k48 w A1 l1.length l1) (hc1 : l1.length ≤ c1) (h : exits_Safe.f l0_0 l0_1 l1 = some (r1, r2, r3, r4)) :
    Calls Tryd.prog 26 #[.agg #[.slice A0_0 l0_0.length c0_0, .slice A0_1 l0_1.length c0_1], .slice A1 l1.length c1] w fun e w' => e = .returned (.tuple #[.int .u8 r1, .int .i64 r2, .int .i64 r3, .int .i64 r4]) ∧ Below w.heap.size w w' := by
  unfold exits_Safe.f at h
  split at h
  · rename_i hs
    have hl := Option.some.inj h
    have := safe_any A0_0 A0_1 A1 c0_0 c0_1 c1 l0_0 l0_1 l1 w hG hr0_0 hc0_0 hr0_1 hc0_1 hr1 hs.1 hs.2.1 hs.2.2
    rwa [hl] at this
  · cases h
end Go.Proofs.YtdeaccbolnlgpaaDoor.X
