import Derived.Test.YtdeaccbolnlgpaaDoorXND
import Derived.Test.YtdeaccbolnlgpaaDoorXP4
namespace Go.Proofs.YtdeaccbolnlgpaaDoor.X
open Go.RowKit Go.Proofs.YtdeaccbolnlgpaaDoorW.PrintWords Go.Proofs.YtdeaccbolnlgpaaDoorW.PrintLast Go.Proofs.YtdeaccbolnlgpaaDoorW.PrintMore
set_option linter.unusedVariables false
set_option linter.unusedSimpArgs false

/-! # law06.choose, pick -/
/-- Choices. -/
def ByOk (by_ : List Int) : Prop := ∀ z ∈ by_, 0 ≤ z ∧ z < 4294967296
def chooseI (by_ : List Int) (i : Nat) : Int := if by_.length = 0 then 0 else by_.getD (i % by_.length) 0
theorem chooseI_in {by_ : List Int} (h : ByOk by_) (i : Nat) : 0 ≤ chooseI by_ i ∧ chooseI by_ i < 4294967296 := by
  unfold chooseI
  split
  · omega
  · rename_i h0
    have hi : i % by_.length < by_.length := Nat.mod_lt _ (by omega)
    rw [List.getD_eq_getElem?_getD, List.getElem?_eq_getElem hi]
    exact h _ (List.getElem_mem _)
theorem choose_f {by_ : List Int} (h : ByOk by_) (i : Nat) : cottonpadlaw06_choose.f by_ (i : Int) = some (chooseI by_ i) := by
  unfold cottonpadlaw06_choose.f
  by_cases h0 : by_.length = 0
  · rw [if_pos (by omega), chooseI, if_pos h0]
  · have hm : Int.tmod (i : Int) (by_.length : Int) = ((i % by_.length : Nat) : Int) := by rw [Int.tmod_eq_emod_of_nonneg (by omega)]; simp
    have hlt : i % by_.length < by_.length := Nat.mod_lt _ (by omega)
    have hc := chooseI_in h i
    rw [if_neg (by omega), hm, if_pos (by omega), if_pos (by omega)]
    have e : rd by_ ((i % by_.length : Nat) : Int) = chooseI by_ i := by rw [chooseI, if_neg h0]; unfold rd; rw [Int.toNat_natCast]
    rw [e, wrap_in (by omega)]
def pickI (s : S36) (n : Int) : Int := s.f0 + n % (s.f1 - s.f0 + 1)
theorem pickI_in {s : S36} (h : s.f0 ≤ s.f1) (n : Int) : s.f0 ≤ pickI s n ∧ pickI s n ≤ s.f1 := by
  have h1 := Int.emod_nonneg n (by omega : s.f1 - s.f0 + 1 ≠ 0)
  have h2 := Int.emod_lt_of_pos n (by omega : 0 < s.f1 - s.f0 + 1)
  unfold pickI
  omega
theorem pick_f {s : S36} (h0 : 0 ≤ s.f0) (h : s.f0 ≤ s.f1) (h1 : s.f1 ≤ 1000000) {n : Int} (hn : 0 ≤ n) : cottonpadlaw06_pick.f s.f0 s.f1 n = some (pickI s n) := by
  have hp := pickI_in h n
  unfold cottonpadlaw06_pick.f
  rw [wrap_in (x := s.f1 - s.f0) (by omega), wrap_in (x := s.f1 - s.f0 + 1) (by omega), if_neg (by omega), Int.tmod_eq_emod_of_nonneg hn]
  unfold pickI at hp ⊢
  rw [wrap_in (by omega)]

theorem byOk_of {l : List Int} (h : ∀ z ∈ l, (Lit.int .u32 z).wf = true) : ByOk l := fun z hz => by
  have := h z hz
  simp [Lit.wf, IntKind.min, IntKind.max, IntKind.signed, IntKind.bits] at this
  omega
end Go.Proofs.YtdeaccbolnlgpaaDoor.X
