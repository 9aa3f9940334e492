import Derived.Test.YtdeaccbolnlgpaaDoorRows
import Derived.Test.YtdeaccbolnlgpaaDoorXG
import Derived.ProofKit
import Derived.LaidMore
import Derived.Stop.Joined
import Derived.Deep.Slices
import Derived.Deep.Strs
import Derived.Lib.SmallJoins
namespace Go.Proofs.YtdeaccbolnlgpaaDoor.X
open Go.ChangeShapes Go.WideShapes Go.ChangeAt Go.RowKit Go.Proofs.YtdeaccbolnlgpaaDoorW.PrintWords
set_option linter.unusedVariables false
set_option linter.unusedSimpArgs false

/-! # Rows: what comes in, opened; what the listed variables hold -/

theorem list2 {α : Type} {l : List α} (h : l.length = 2) : ∃ a b, l = [a, b] := by
  match l, h with
  | [a, b], _ => exact ⟨a, b, rfl⟩
theorem list4 {α : Type} {l : List α} (h : l.length = 4) : ∃ a b c d, l = [a, b, c, d] := by
  match l, h with
  | [a, b, c, d], _ => exact ⟨a, b, c, d, rfl⟩
theorem list5 {α : Type} {l : List α} (h : l.length = 5) : ∃ a b c d e, l = [a, b, c, d, e] := by
  match l, h with
  | [a, b, c, d, e], _ => exact ⟨a, b, c, d, e, rfl⟩
theorem list6 {α : Type} {l : List α} (h : l.length = 6) : ∃ a b c d e f, l = [a, b, c, d, e, f] := by
  match l, h with
  | [a, b, c, d, e, f], _ => exact ⟨a, b, c, d, e, f, rfl⟩
section
set_option maxRecDepth 100000
variable {H : Type} {enc : TypeId × Value → H} {W : World}

theorem flat36 {n : Nat} {cs : List Value} {x : DataW H × List MemPlace} (h : DataW.trod enc Tryd.prog W 0 (fun _ => true) true n 36 cs = some x) : ∃ s : S36, cs = [.int .i64 s.f0, .int .i64 s.f1] := by
  obtain ⟨y0, y1, n, _, hl, h0, h1⟩ := trod_struct2 Tryd.underlying36 h
  have hc : Tryd.prog.cellsOf 36 = 2 := by kernel_rfl
  have hc3 : Tryd.prog.cellsOf 3 = 1 := by kernel_rfl
  rw [hc] at hl
  obtain ⟨a, b, rfl⟩ := list2 hl
  simp only [hc3] at h0 h1
  obtain ⟨i, hi, _⟩ := DataW.trod_int Tryd.underlying3 h0
  obtain ⟨j, hj, _⟩ := DataW.trod_int Tryd.underlying3 h1
  simp at hi hj
  exact ⟨⟨i, j⟩, by rw [hi, hj]⟩

theorem flat62 {n : Nat} {cs : List Value} {x : DataW H × List MemPlace} (h : DataW.trod enc Tryd.prog W 0 (fun _ => true) true n 62 cs = some x) : ∃ s : S62, k62.K W s cs := by
  obtain ⟨y0, y1, y2, y3, n, _, hl, h0, h1, h2, h3⟩ := Joins.trod_struct4 Tryd.underlying62 h
  have hc : Tryd.prog.cellsOf 62 = 6 := by kernel_rfl
  have hc3 : Tryd.prog.cellsOf 3 = 1 := by kernel_rfl
  have hc36 : Tryd.prog.cellsOf 36 = 2 := by kernel_rfl
  rw [hc] at hl
  obtain ⟨a, b, c, d, e, f, rfl⟩ := list6 hl
  simp only [hc3, hc36] at h0 h1 h2 h3
  obtain ⟨i, hi, _⟩ := DataW.trod_int Tryd.underlying3 h0
  obtain ⟨j, hj, _⟩ := DataW.trod_int Tryd.underlying3 h1
  obtain ⟨s, hs⟩ := flat36 h2
  obtain ⟨t, ht⟩ := flat36 h3
  simp at hi hj hs ht
  obtain ⟨rfl, rfl⟩ := hs
  obtain ⟨rfl, rfl⟩ := ht
  subst hi hj
  exact ⟨⟨i, j, s, t⟩, k62_mk W _⟩

theorem flat81 {n : Nat} {cs : List Value} {x : DataW H × List MemPlace} (h : DataW.trod enc Tryd.prog W 0 (fun _ => true) true n 81 cs = some x) : ∃ s : S81, k81.K W s cs := by
  obtain ⟨y0, y1, y2, n, _, hl, h0, h1, h2⟩ := Deep.trod_struct3 Tryd.underlying81 h
  have hc : Tryd.prog.cellsOf 81 = 4 := by kernel_rfl
  have hc3 : Tryd.prog.cellsOf 3 = 1 := by kernel_rfl
  have hc36 : Tryd.prog.cellsOf 36 = 2 := by kernel_rfl
  rw [hc] at hl
  obtain ⟨a, b, c, d, rfl⟩ := list4 hl
  simp only [hc3, hc36] at h0 h1 h2
  obtain ⟨i, hi, _⟩ := DataW.trod_int Tryd.underlying3 h0
  obtain ⟨j, hj, _⟩ := DataW.trod_int Tryd.underlying3 h1
  obtain ⟨s, hs⟩ := flat36 h2
  simp at hi hj hs
  obtain ⟨rfl, rfl⟩ := hs
  subst hi hj
  exact ⟨⟨i, j, s⟩, k81_mk W _⟩

theorem flat48 {n : Nat} {cs : List Value} {x : DataW H × List MemPlace} (h : DataW.trod enc Tryd.prog W 0 (fun _ => true) true n 48 cs = some x) : ∃ s : S48, k48.K W s cs := by
  obtain ⟨y0, y1, y2, n, _, hl, h0, h1, h2⟩ := Deep.trod_struct3 Tryd.underlying48 h
  have hc : Tryd.prog.cellsOf 48 = 5 := by kernel_rfl
  have hc3 : Tryd.prog.cellsOf 3 = 1 := by kernel_rfl
  have hc36 : Tryd.prog.cellsOf 36 = 2 := by kernel_rfl
  rw [hc] at hl
  obtain ⟨a, b, c, d, e, rfl⟩ := list5 hl
  simp only [hc3, hc36] at h0 h1 h2
  obtain ⟨i, hi, _⟩ := DataW.trod_int Tryd.underlying3 h0
  obtain ⟨s, hs⟩ := flat36 h1
  obtain ⟨t, ht⟩ := flat36 h2
  simp at hi hs ht
  obtain ⟨rfl, rfl⟩ := hs
  obtain ⟨rfl, rfl⟩ := ht
  subst hi
  exact ⟨⟨i, s, t⟩, k48_mk W _⟩

/-- A slice whose elements lie flat. -/
theorem slice_C {α : Type} [Inhabited α] (d : Kd α) {t e : TypeId} (ht : Tryd.prog.underlying t = some (.slice e)) (hc : Tryd.prog.cellsOf e = d.sz)
    (flat : ∀ (n : Nat) (cs : List Value) (x : DataW H × List MemPlace), DataW.trod enc Tryd.prog W 0 (fun _ => true) true n e cs = some x → ∃ a, d.K W a cs)
    {fuel : Nat} {v : Value} {x : DataW H × List MemPlace} (h : DataW.trod enc Tryd.prog W 0 (fun _ => true) true fuel t [v] = some x) :
    ∃ (A : Option Addr) (c : Nat) (l : List α), v = .slice A l.length c ∧ d.C W A l.length l ∧ l.length ≤ c := by
  rcases Deep.open_slice ht h with ⟨hv, _⟩ | ⟨a, len, cap, m, n, D, Pl, hv, _, hlc, hcm, hm, _, hel⟩
  · simp only [List.cons.injEq, and_true] at hv
    exact ⟨none, 0, [], hv, Kd.C_nil d W, by simp⟩
  · simp only [List.cons.injEq, and_true] at hv
    have hm' : m = cap := by simpa using hm
    have hg : ∀ i, i < len → ∃ p : α, ∃ cs', W.cells? 0 (a.add (i * d.sz)) d.sz = some cs' ∧ d.K W p cs' := fun i hi => by
      obtain ⟨cs', h1, h2⟩ := hel i (by omega)
      rw [hc] at h1
      obtain ⟨p, hp⟩ := flat _ _ _ h2
      exact ⟨p, cs', h1, hp⟩
    obtain ⟨f, hf⟩ := Deep.choose_lt hg
    have hl : ((List.range len).map f).length = len := by simp
    refine ⟨some a, cap, (List.range len).map f, by rw [hl]; exact hv, ?_, by rw [hl]; exact hlc⟩
    rw [hl]
    refine ⟨hl, by unfold maxLen at hcm; omega, fun _ => ⟨a, rfl, fun j p hj => ?_⟩⟩
    obtain ⟨hj', rfl⟩ := List.getElem?_eq_some_iff.1 hj
    have hj2 : j < len := by omega
    obtain ⟨cs', h1, h2⟩ := hf j hj2
    obtain ⟨_, h3, h4⟩ := World.cells?_some h1
    refine ⟨cs', h3, by simpa using h2, fun i u hu => ?_⟩
    have hi : i < cs'.length := (List.getElem?_eq_some_iff.1 hu).1
    rw [← Deep.add_add, h4 i (by omega), hu]

instance : Inhabited S62 := ⟨z62⟩
instance : Inhabited S81 := ⟨z81⟩
instance : Inhabited S48 := ⟨z48⟩
instance : Inhabited S36 := ⟨z36⟩

/-- A building. -/
theorem open_building {r : Reach} {b0 : Nat} {v : Value} {d : DataW H} {p : List MemPlace} (hv : Value.okWide Tryd.prog W r b0 25 v) (h : DataW.Trod enc Tryd.prog W 0 (fun _ => true) true 25 v d p) :
    ∃ (A0 A1 : Option Addr) (c0 c1 : Nat) (st : List S62) (ch : List S81), v = .agg #[.slice A0 st.length c0, .slice A1 ch.length c1] ∧ Kd.C k62 W A0 st.length st ∧ st.length ≤ c0 ∧ Kd.C k81 W A1 ch.length ch ∧ ch.length ≤ c1 := by
  obtain ⟨v0, v1, y0, y1, n, rfl, _, _, h0, h1⟩ := Joins.open_agg2 Tryd.underlying25 (by kernel_rfl) (by kernel_rfl) hv h
  obtain ⟨A0, c0, st, rfl, k0, l0⟩ := slice_C k62 Tryd.underlying22 (by kernel_rfl) (fun n cs x h => flat62 h) h0
  obtain ⟨A1, c1, ch, rfl, k1, l1⟩ := slice_C k81 Tryd.underlying23 (by kernel_rfl) (fun n cs x h => flat81 h) h1
  exact ⟨A0, A1, c0, c1, st, ch, rfl, k0, l0, k1, l1⟩
/-- People. -/
theorem open_people {r : Reach} {b0 : Nat} {v : Value} {d : DataW H} {p : List MemPlace} (hv : Value.okWide Tryd.prog W r b0 26 v) (h : DataW.Trod enc Tryd.prog W 0 (fun _ => true) true 26 v d p) :
    ∃ (A : Option Addr) (c : Nat) (ps : List S48), v = .slice A ps.length c ∧ Kd.C k48 W A ps.length ps ∧ ps.length ≤ c := by
  obtain ⟨a, len, cap, rfl⟩ := okWide_slice Tryd.underlying26 hv
  obtain ⟨fuel, hf⟩ := h
  exact slice_C k48 Tryd.underlying26 (by kernel_rfl) (fun n cs x h => flat48 h) (by simpa [Value.cells] using hf)
end
end Go.Proofs.YtdeaccbolnlgpaaDoor.X
