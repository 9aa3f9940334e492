import Derived.Test.YtdeaccbolnlgpaaDoorXM3
import Derived.Test.YtdeaccbolnlgpaaDoorXH2
namespace Go.Proofs.YtdeaccbolnlgpaaDoor.X
open Go.RowKit Go.Proofs.YtdeaccbolnlgpaaDoorW.PrintWords Go.Proofs.YtdeaccbolnlgpaaDoorW.PrintLast Go.Proofs.YtdeaccbolnlgpaaDoorW.PrintMore
set_option linter.unusedVariables false

def exits_More.f (l0_0 : List (S62)) (l0_1 : List (S81)) (l1 : List (S48)) (a2_0 : Int) (a2_1 : Int) (a2_2 : Int) (a2_3 : Int) (a2_4 : Int) : Option (Int × Int) := if small3 l0_0 l0_1 l1 then some (moreF l0_0 l0_1 l1 ⟨a2_0, ⟨a2_1, a2_2⟩, ⟨a2_3, a2_4⟩⟩) else none
theorem exits_More.calls (A0_0 : Option Addr) (c0_0 : Nat) (l0_0 : List (S62)) (A0_1 : Option Addr) (c0_1 : Nat) (l0_1 : List (S81)) (A1 : Option Addr) (c1 : Nat) (l1 : List (S48)) (a2_0 : Int) (a2_1 : Int) (a2_2 : Int) (a2_3 : Int) (a2_4 : Int) (r1 : Int) (r2 : Int) (w : World) (hG : Globs w) (hr0_0 : Kd.C k62 w A0_0 l0_0.length l0_0) (hc0_0 : l0_0.length ≤ c0_0) (hr0_1 : Kd.C k81 w A0_1 l0_1.length l0_1) (hc0_1 : l0_1.length ≤ c0_1) (hr1 : Kd.C k48 w A1 l1.length l1) (hc1 : l1.length ≤ c1) (h : exits_More.f l0_0 l0_1 l1 a2_0 a2_1 a2_2 a2_3 a2_4 = some (r1, r2)) :
    Calls Tryd.prog 28 #[.agg #[.slice A0_0 l0_0.length c0_0, .slice A0_1 l0_1.length c0_1], .slice A1 l1.length c1, .agg #[.int .i64 a2_0, .int .i64 a2_1, .int .i64 a2_2, .int .i64 a2_3, .int .i64 a2_4]] w fun e w' => e = .returned (.tuple #[.int .i64 r1, .int .i64 r2]) ∧ Below w.heap.size w w' := by
  unfold exits_More.f at h
  split at h
  · rename_i hs
    have hl := Option.some.inj h
    have := more_any A0_0 A0_1 A1 c0_0 c0_1 c1 l0_0 l0_1 l1 ⟨a2_0, ⟨a2_1, a2_2⟩, ⟨a2_3, a2_4⟩⟩ w hG hr0_0 hc0_0 hr0_1 hc0_1 hr1 hs.1 hs.2.1 hs.2.2
    rwa [hl] at this
  · cases h
theorem exitsMore_f {st : List S62} {ch : List S81} {ps : List S48} (h : small3 st ch ps) (x : S48) : exits_More.f st ch ps x.f0 x.f1.f0 x.f1.f1 x.f2.f0 x.f2.f1 = some (moreF st ch ps x) := if_pos h

theorem checkF_add {st : List S62} {ch : List S81} {ps : List S48} {x : S48} (h : checkF st ch ps = 0) (hl : livesB ch.length x = true) (n : Nat) : checkF st ch (addN ps x n) = if ps.length + n ≤ 24 then 0 else 61 := by
  have hv := checkF_zero h
  have hall : (addN ps x n).all (livesB ch.length) = true := List.all_eq_true.2 fun y hy => by
    unfold addN at hy
    rcases List.mem_append.1 hy with hy | hy
    · exact hv.lives y hy
    · rw [List.eq_of_mem_replicate hy]; exact hl
  have hb : builtB st ch = true := by
    unfold checkF at h
    split at h
    · assumption
    · omega
  unfold checkF
  rw [if_pos hb, addN_length, hall]
  by_cases h2 : ps.length + n ≤ 24
  · rw [if_neg (by omega), if_pos rfl, if_pos h2]
  · rw [if_pos (by omega), if_neg h2]

theorem safeF_two {st : List S62} {ch : List S81} {ps : List S48} (h : checkF st ch ps = 0) : (safeF st ch ps).2.2.2 = 0 ∧ ((safeF st ch ps).1 = 2 ↔ lateF true st ch ps = (-1, -1)) := by
  unfold safeF
  rw [if_pos h]
  refine ⟨rfl, ?_⟩
  by_cases h1 : lateF true st ch ps = (-1, -1)
  · simp [h1]
  · by_cases h2 : lateF false st ch ps = (-1, -1)
    · simp [h1, h2]
    · simp [h1, h2]

theorem check_small3 {st : List S62} {ch : List S81} {ps : List S48} (hc : checkF st ch ps = 0) : small3 st ch ps := by
  have hv := checkF_zero hc
  exact ⟨by have := hv.built.nst; omega, by have := hv.built.nch; omega, by have := hv.nps; omega⟩
end Go.Proofs.YtdeaccbolnlgpaaDoor.X
