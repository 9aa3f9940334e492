import Derived.Test.YtdeaccbolnlgpaaDoorXL
import Derived.SizedLaws
namespace Go.Proofs.YtdeaccbolnlgpaaDoor.X
open Go.ChangeShapes Go.WideShapes Go.ChangeAt Go.RowKit
set_option linter.unusedVariables false

/-! # How many people an argument can hold at most -/
theorem people_len {H : Type} {enc : TypeId × Value → H} {W : World} {A : Option Addr} {len c : Nat} {d : DataW H} {p : List MemPlace} (h : DataW.Trod enc Tryd.prog W 0 (fun _ => true) true 26 (.slice A len c) d p)
    {ts : List TypeId} {ds : List (DataW H)} (hz : (DataW.weightsEach Tryd.prog ts ds).all (· ≤ reachBytes) = true) {j : Nat} (ht : ts[j]? = some 26) (hd : ds[j]? = some d) : len ≤ 3518437208780 := by
  obtain ⟨fuel, hf⟩ := h
  have hf' : DataW.trod enc Tryd.prog W 0 (fun _ => true) true fuel 26 [.slice A len c] = some (d, p) := by simpa [Value.cells] using hf
  rcases Deep.open_slice Tryd.underlying26 hf' with ⟨hv, _⟩ | ⟨a, len', cap, m, n, D, Pl, hv, _, hlc, hcm, hm, hx, _⟩
  · simp only [List.cons.injEq, and_true, Value.slice.injEq] at hv
    omega
  · simp only [List.cons.injEq, and_true, Value.slice.injEq] at hv
    obtain ⟨_, rfl, rfl⟩ := hv
    have hd' := (Prod.mk.inj hx).1
    subst hd'
    have h1 := sized_slice hz ht hd Tryd.underlying26
    have hb : Tryd.prog.bytesOf 48 = 40 := by kernel_rfl
    rw [hb] at h1
    simp only [List.length_map, List.length_range] at h1
    unfold reachBytes at h1
    omega
end Go.Proofs.YtdeaccbolnlgpaaDoor.X
