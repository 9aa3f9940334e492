import Derived.Test.YtdeaccbolnlgpaaDoorRows
import Derived.Test.YtdeaccbolnlgpaaDoorXG
import Derived.ProofKit
import Derived.LaidMore
import Derived.Stop.Joined
import Derived.Deep.Slices
import Derived.Deep.Strs
import Derived.Lib.SmallJoins
namespace Go.Proofs.YtdeaccbolnlgpaaDoor.X
open Go.ChangeShapes Go.WideShapes Go.ChangeAt Go.RowKit Go.Proofs.YtdeaccbolnlgpaaDoorW.PrintWords
set_option linter.unusedVariables false
set_option linter.unusedSimpArgs false

/-! # Rows: what comes in, opened; what the listed variables hold -/

theorem list2 {α : Type} {l : List α} (h : l.length = 2) : ∃ a b, l = [a, b] := by
  match l, h with
  | [a, b], _ => exact ⟨a, b, rfl⟩
theorem list4 {α : Type} {l : List α} (h : l.length = 4) : ∃ a b c d, l = [a, b, c, d] := by
  match l, h with
  | [a, b, c, d], _ => exact ⟨a, b, c, d, rfl⟩
theorem list5 {α : Type} {l : List α} (h : l.length = 5) : ∃ a b c d e, l = [a, b, c, d, e] := by
  match l, h with
  | [a, b, c, d, e], _ => exact ⟨a, b, c, d, e, rfl⟩
theorem list6 {α : Type} {l : List α} (h : l.length = 6) : ∃ a b c d e f, l = [a, b, c, d, e, f] := by
  match l, h with
  | [a, b, c, d, e, f], _ => exact ⟨a, b, c, d, e, f, rfl⟩
section
set_option maxRecDepth 100000
variable {H : Type} {enc : TypeId × Value → H} {W : World}

theorem flat36 {n : Nat} {cs : List Value} {x : DataW H × List MemPlace} (h : DataW.trod enc Tryd.prog W 0 (fun _ => true) true n 36 cs = some x) : ∃ s : S36, cs = [.int .i64 s.f0, .int .i64 s.f1] := by
  obtain ⟨y0, y1, n, _, hl, h0, h1⟩ := trod_struct2 Tryd.underlying36 h
  have hc : Tryd.prog.cellsOf 36 = 2 := by kernel_rfl
  have hc3 : Tryd.prog.cellsOf 3 = 1 := by kernel_rfl
  rw [hc] at hl
  obtain ⟨a, b, rfl⟩ := list2 hl
  simp only [hc3] at h0 h1
  obtain ⟨i, hi, _⟩ := DataW.trod_int Tryd.underlying3 h0
  obtain ⟨j, hj, _⟩ := DataW.trod_int Tryd.underlying3 h1
  simp at hi hj
  exact ⟨⟨i, j⟩, by rw [hi, hj]⟩

theorem flat62 {n : Nat} {cs : List Value} {x : DataW H × List MemPlace} (h : DataW.trod enc Tryd.prog W 0 (fun _ => true) true n 62 cs = some x) : ∃ s : S62, k62.K W s cs := by
  obtain ⟨y0, y1, y2, y3, n, _, hl, h0, h1, h2, h3⟩ := Joins.trod_struct4 Tryd.underlying62 h
  have hc : Tryd.prog.cellsOf 62 = 6 := by kernel_rfl
  have hc3 : Tryd.prog.cellsOf 3 = 1 := by kernel_rfl
  have hc36 : Tryd.prog.cellsOf 36 = 2 := by kernel_rfl
  rw [hc] at hl
  obtain ⟨a, b, c, d, e, f, rfl⟩ := list6 hl
  simp only [hc3, hc36] at h0 h1 h2 h3
  obtain ⟨i, hi, _⟩ := DataW.trod_int Tryd.underlying3 h0
  obtain ⟨j, hj, _⟩ := DataW.trod_int Tryd.underlying3 h1
  obtain ⟨s, hs⟩ := flat36 h2
  obtain ⟨t, ht⟩ := flat36 h3
  simp at hi hj hs ht
  obtain ⟨rfl, rfl⟩ := hs
  obtain ⟨rfl, rfl⟩ := ht
  subst hi hj
  exact ⟨⟨i, j, s, t⟩, k62_mk W _⟩

theorem flat81 {n : Nat} {cs : List Value} {x : DataW H × List MemPlace} (h : DataW.trod enc Tryd.prog W 0 (fun _ => true) true n 81 cs = some x) : ∃ s : S81, k81.K W s cs := by
  obtain ⟨y0, y1, y2, n, _, hl, h0, h1, h2⟩ := Deep.trod_struct3 Tryd.underlying81 h
  have hc : Tryd.prog.cellsOf 81 = 4 := by kernel_rfl
  have hc3 : Tryd.prog.cellsOf 3 = 1 := by kernel_rfl
  have hc36 : Tryd.prog.cellsOf 36 = 2 := by kernel_rfl
  rw [hc] at hl
  obtain ⟨a, b, c, d, rfl⟩ := list4 hl
  simp only [hc3, hc36] at h0 h1 h2
  obtain ⟨i, hi, _⟩ := DataW.trod_int Tryd.underlying3 h0
  obtain ⟨j, hj, _⟩ := DataW.trod_int Tryd.underlying3 h1
  obtain ⟨s, hs⟩ := flat36 h2
  simp at hi hj hs
  obtain ⟨rfl, rfl⟩ := hs
  subst hi hj
  exact ⟨⟨i, j, s⟩, k81_mk W _⟩

theorem flat48 {n : Nat} {cs : List Value} {x : DataW H × List MemPlace} (h : DataW.trod enc Tryd.prog W 0 (fun _ => true) true n 48 cs = some x) : ∃ s : S48, k48.K W s cs := by
  obtain ⟨y0, y1, y2, n, _, hl, h0, h1, h2⟩ := Deep.trod_struct3 Tryd.underlying48 h
  have hc : Tryd.prog.cellsOf 48 = 5 := by kernel_rfl
  have hc3 : Tryd.prog.cellsOf 3 = 1 := by kernel_rfl
  have hc36 : Tryd.prog.cellsOf 36 = 2 := by kernel_rfl
  rw [hc] at hl
  obtain ⟨a, b, c, d, e, rfl⟩ := list5 hl
  simp only [hc3, hc36] at h0 h1 h2
  obtain ⟨i, hi, _⟩ := DataW.trod_int Tryd.underlying3 h0
  obtain ⟨s, hs⟩ := flat36 h1
  obtain ⟨t, ht⟩ := flat36 h2
  simp at hi hs ht
  obtain ⟨rfl, rfl⟩ := hs
  obtain ⟨rfl, rfl⟩ := ht
  subst hi
  exact ⟨⟨i, s, t⟩, k48_mk W _⟩

/-- A slice whose elements lie flat. -/
theorem slice_C {α : Type} [Inhabited α] (d : Kd α) {t e : TypeId} (ht : Tryd.prog.underlying t = some (.slice e)) (hc : Tryd.prog.cellsOf e = d.sz)
    (flat : ∀ (n : Nat) (cs : List Value) (x : DataW H × List MemPlace), DataW.trod enc Tryd.prog W 0 (fun _ => true) true n e cs = some x → ∃ a, d.K W a cs)
    {fuel : Nat} {v : Value} {x : DataW H × List MemPlace} (h : DataW.trod enc Tryd.prog W 0 (fun _ => true) true fuel t [v] = some x) :
    ∃ (A : Option Addr) (c : Nat) (l : List α), v = .slice A l.length c ∧ d.C W A l.length l ∧ l.length ≤ c := by
  rcases Deep.open_slice ht h with ⟨hv, _⟩ | ⟨a, len, cap, m, n, D, Pl, hv, _, hlc, hcm, hm, _, hel⟩
  · simp only [List.cons.injEq, and_true] at hv
    exact ⟨none, 0, [], hv, Kd.C_nil d W, by simp⟩
  · simp only [List.cons.injEq, and_true] at hv
    have hm' : m = cap := by simpa using hm
    have hg : ∀ i, i < len → ∃ p : α, ∃ cs', W.cells? 0 (a.add (i * d.sz)) d.sz = some cs' ∧ d.K W p cs' := fun i hi => by
      obtain ⟨cs', h1, h2⟩ := hel i (by omega)
      rw [hc] at h1
      obtain ⟨p, hp⟩ := flat _ _ _ h2
      exact ⟨p, cs', h1, hp⟩
    obtain ⟨f, hf⟩ := Deep.choose_lt hg
    have hl : ((List.range len).map f).length = len := by simp
    refine ⟨some a, cap, (List.range len).map f, by rw [hl]; exact hv, ?_, by rw [hl]; exact hlc⟩
    rw [hl]
    refine ⟨hl, by unfold maxLen at hcm; omega, fun _ => ⟨a, rfl, fun j p hj => ?_⟩⟩
    obtain ⟨hj', rfl⟩ := List.getElem?_eq_some_iff.1 hj
    have hj2 : j < len := by omega
    obtain ⟨cs', h1, h2⟩ := hf j hj2
    obtain ⟨_, h3, h4⟩ := World.cells?_some h1
    refine ⟨cs', h3, by simpa using h2, fun i u hu => ?_⟩
    have hi : i < cs'.length := (List.getElem?_eq_some_iff.1 hu).1
    rw [← Deep.add_add, h4 i (by omega), hu]

instance : Inhabited S62 := ⟨z62⟩
instance : Inhabited S81 := ⟨z81⟩
instance : Inhabited S48 := ⟨z48⟩
instance : Inhabited S36 := ⟨z36⟩

/-- A building. -/
theorem open_building {r : Reach} {b0 : Nat} {v : Value} {d : DataW H} {p : List MemPlace} (hv : Value.okWide Tryd.prog W r b0 25 v) (h : DataW.Trod enc Tryd.prog W 0 (fun _ => true) true 25 v d p) :
    ∃ (A0 A1 : Option Addr) (c0 c1 : Nat) (st : List S62) (ch : List S81), v = .agg #[.slice A0 st.length c0, .slice A1 ch.length c1] ∧ Kd.C k62 W A0 st.length st ∧ st.length ≤ c0 ∧ Kd.C k81 W A1 ch.length ch ∧ ch.length ≤ c1 := by
  obtain ⟨v0, v1, y0, y1, n, rfl, _, _, h0, h1⟩ := Joins.open_agg2 Tryd.underlying25 (by kernel_rfl) (by kernel_rfl) hv h
  obtain ⟨A0, c0, st, rfl, k0, l0⟩ := slice_C k62 Tryd.underlying22 (by kernel_rfl) (fun n cs x h => flat62 h) h0
  obtain ⟨A1, c1, ch, rfl, k1, l1⟩ := slice_C k81 Tryd.underlying23 (by kernel_rfl) (fun n cs x h => flat81 h) h1
  exact ⟨A0, A1, c0, c1, st, ch, rfl, k0, l0, k1, l1⟩
/-- People. -/
theorem open_people {r : Reach} {b0 : Nat} {v : Value} {d : DataW H} {p : List MemPlace} (hv : Value.okWide Tryd.prog W r b0 26 v) (h : DataW.Trod enc Tryd.prog W 0 (fun _ => true) true 26 v d p) :
    ∃ (A : Option Addr) (c : Nat) (ps : List S48), v = .slice A ps.length c ∧ Kd.C k48 W A ps.length ps ∧ ps.length ≤ c := by
  obtain ⟨a, len, cap, rfl⟩ := okWide_slice Tryd.underlying26 hv
  obtain ⟨fuel, hf⟩ := h
  exact slice_C k48 Tryd.underlying26 (by kernel_rfl) (fun n cs x h => flat48 h) (by simpa [Value.cells] using hf)
end
end Go.Proofs.YtdeaccbolnlgpaaDoor.X

namespace Go.Proofs.YtdeaccbolnlgpaaDoor.X
open Go.ChangeShapes Go.WideShapes Go.ChangeAt Go.RowKit Go.Proofs.YtdeaccbolnlgpaaDoorW.PrintWords
set_option linter.unusedVariables false
set_option linter.unusedSimpArgs false
set_option maxRecDepth 100000

/-! # Rows: what the listed variables hold -/

def laidE : List (String × DataW Unit) := [("cottonpad/exits.best", Rows.laid_cottonpad_exits_best), ("cottonpad/exits.worst", Rows.laid_cottonpad_exits_worst)]
def laidN : List (String × DataW Unit) := [("cottonpad/exits.best", Rows.laid_cottonpad_exits_best), ("cottonpad/exits.worst", Rows.laid_cottonpad_exits_worst), ("cottonpad/exits.nowhere", Rows.laid_cottonpad_exits_nowhere)]

theorem mem_params {ps : Array Nat} {l : List Nat} (h : ps.toList = l) {j : Nat} {t : Nat} (ht : ps[j]? = some t) : t ∈ l := by
  subst h
  exact Array.mem_toList_iff.2 (Array.mem_of_getElem? ht)
theorem gBest : Tryd.prog.globalNamed "cottonpad/exits.best" = some 0 := by kernel_rfl
theorem gWorst : Tryd.prog.globalNamed "cottonpad/exits.worst" = some 1 := by kernel_rfl
theorem gNowhere : Tryd.prog.globalNamed "cottonpad/exits.nowhere" = some 2 := by kernel_rfl
theorem tBest : (Tryd.prog.globals[0]?).map (·.type) = some 112 := by kernel_rfl
theorem tWorst : (Tryd.prog.globals[1]?).map (·.type) = some 112 := by kernel_rfl
theorem tNowhere : (Tryd.prog.globals[2]?).map (·.type) = some 122 := by kernel_rfl
theorem one149 : ((List.range Tryd.prog.funcs.size).filter fun f => (Tryd.prog.funcs[f]?).any (·.name.toUTF8.data.toList == [99, 111, 116, 116, 111, 110, 112, 97, 100, 47, 101, 120, 105, 116, 115, 46, 104, 105])) = [149] := by kernel_rfl
theorem one150 : ((List.range Tryd.prog.funcs.size).filter fun f => (Tryd.prog.funcs[f]?).any (·.name.toUTF8.data.toList == [99, 111, 116, 116, 111, 110, 112, 97, 100, 47, 101, 120, 105, 116, 115, 46, 108, 111])) = [150] := by kernel_rfl
theorem cells112 : Tryd.prog.cellsOf 112 = 3 := by kernel_rfl
theorem cells110 : Tryd.prog.cellsOf 110 = 1 := by kernel_rfl
theorem cells122 : Tryd.prog.cellsOf 122 = 2 := by kernel_rfl
theorem cells3 : Tryd.prog.cellsOf 3 = 1 := by kernel_rfl

theorem end_of_trod {W : World} {fuel : Nat} {cs : List Value} {b0 b1 b2 : UInt8} {r0 r1 r2 : List UInt8} {f0 f1 f2 : FuncId} {p : List MemPlace}
    (h0 : ((List.range Tryd.prog.funcs.size).filter fun f => (Tryd.prog.funcs[f]?).any (·.name.toUTF8.data.toList == b0 :: r0)) = [f0])
    (h1 : ((List.range Tryd.prog.funcs.size).filter fun f => (Tryd.prog.funcs[f]?).any (·.name.toUTF8.data.toList == b1 :: r1)) = [f1])
    (h2 : ((List.range Tryd.prog.funcs.size).filter fun f => (Tryd.prog.funcs[f]?).any (·.name.toUTF8.data.toList == b2 :: r2)) = [f2])
    (h : DataW.trod (funcToken Tryd.prog) Tryd.prog W 0 (fun _ => true) true fuel 112 cs = some (.agg [.held (b0 :: r0), .held (b1 :: r1), .held (b2 :: r2)], p)) :
    cs = [.func (.func f0) #[] #[], .func (.func f1) #[] #[], .func (.func f2) #[] #[]] := by
  obtain ⟨y0, y1, y2, n, hx, hl, k0, k1, k2⟩ := Deep.trod_struct3 Tryd.underlying112 h
  rw [cells112] at hl
  obtain ⟨a, b, c, rfl⟩ : ∃ a b c, cs = [a, b, c] := by
    match cs, hl with
    | [a, b, c], _ => exact ⟨a, b, c, rfl⟩
  obtain ⟨d0, q0⟩ := y0
  obtain ⟨d1, q1⟩ := y1
  obtain ⟨d2, q2⟩ := y2
  simp only [Prod.mk.injEq, DataW.agg.injEq, List.cons.injEq, and_true] at hx
  obtain ⟨⟨rfl, rfl, rfl⟩, _⟩ := hx
  simp only [cells110] at k0 k1 k2
  obtain rfl := Go.func_of_trod Tryd.underlying110 h0 k0
  obtain rfl := Go.func_of_trod Tryd.underlying110 h1 k1
  obtain rfl := Go.func_of_trod Tryd.underlying110 h2 k2
  rfl

theorem ends_of_laid {l : List (String × DataW Unit)} {W : World} (h : laidMetH Tryd.prog l W) (hb : ("cottonpad/exits.best", Rows.laid_cottonpad_exits_best) ∈ l) (hw : ("cottonpad/exits.worst", Rows.laid_cottonpad_exits_worst) ∈ l) : GlobsE W := by
  constructor
  · obtain ⟨g, t, cs, fuel, p, hg, ht, hv, hd⟩ := h.funcs hb
    obtain rfl := Option.some.inj (gBest.symm.trans hg)
    obtain rfl := Option.some.inj (tBest.symm.trans ht)
    have e := end_of_trod one149 one150 one149 hd
    have hc := fun i => World.var?_cell hg hv i
    have e2 : cs = #[.func (.func 149) #[] #[], .func (.func 150) #[] #[], .func (.func 149) #[] #[]] := by rw [← Array.toArray_toList (xs := cs), e]
    subst e2
    exact ⟨by simpa using hc 0, by simpa using hc 1, by simpa using hc 2⟩
  · obtain ⟨g, t, cs, fuel, p, hg, ht, hv, hd⟩ := h.funcs hw
    obtain rfl := Option.some.inj (gWorst.symm.trans hg)
    obtain rfl := Option.some.inj (tWorst.symm.trans ht)
    have e := end_of_trod one150 one149 one150 hd
    have hc := fun i => World.var?_cell hg hv i
    have e2 : cs = #[.func (.func 150) #[] #[], .func (.func 149) #[] #[], .func (.func 150) #[] #[]] := by rw [← Array.toArray_toList (xs := cs), e]
    subst e2
    exact ⟨by simpa using hc 0, by simpa using hc 1, by simpa using hc 2⟩
theorem globsE_of_laid {W : World} (h : laidMetH Tryd.prog laidE W) : GlobsE W := ends_of_laid h (by simp [laidE]) (by simp [laidE])
theorem globs_of_laid {W : World} (h : laidMetH Tryd.prog laidN W) : Globs W := by
  refine ⟨ends_of_laid h (by simp [laidN]) (by simp [laidN]), ?_⟩
  have h' : laidMet Tryd.prog [("cottonpad/exits.nowhere", Rows.laid_cottonpad_exits_nowhere)] W := h.1
  obtain ⟨ps, ⟨g, t, cs, fuel, p, q, hg, ht, hv, hd, _⟩, _⟩ := h'
  obtain rfl := Option.some.inj (gNowhere.symm.trans hg)
  obtain rfl := Option.some.inj (tNowhere.symm.trans ht)
  have hd' : DataW.trod (fun _ => ()) Tryd.prog W 0 (fun _ => true) false fuel 122 cs.toList = some (.agg [.lit (.int .i64 (-1)), .lit (.int .i64 (-1))], p) := hd
  obtain ⟨xs, m, _, hx, hl, hlen, hel⟩ := DataW.trod_array Tryd.underlying122 hd'
  rw [cells122] at hl
  obtain ⟨y0, y1, rfl⟩ := list2 hlen
  obtain ⟨a, b, hab⟩ := list2 hl
  have h0 := hel 0 (by omega)
  have h1 := hel 1 (by omega)
  rw [hab] at h0 h1
  simp only [cells3] at h0 h1
  obtain ⟨i, hi, hyi, _⟩ := DataW.trod_int Tryd.underlying3 (show DataW.trod (fun _ => ()) Tryd.prog W 0 (fun _ => true) false m 3 [a] = some y0 from h0)
  obtain ⟨j, hj, hyj, _⟩ := DataW.trod_int Tryd.underlying3 (show DataW.trod (fun _ => ()) Tryd.prog W 0 (fun _ => true) false m 3 [b] = some y1 from h1)
  subst hyi hyj
  simp only [List.map_cons, List.map_nil, Prod.mk.injEq, DataW.agg.injEq, List.cons.injEq, DataW.lit.injEq, Lit.int.injEq, true_and, and_true] at hx
  obtain ⟨⟨rfl, rfl⟩, _⟩ := hx
  simp only [List.cons.injEq, and_true] at hi hj
  subst hi hj
  have e2 : cs = #[.int .i64 (-1), .int .i64 (-1)] := by rw [← Array.toArray_toList (xs := cs), hab]
  have hc := fun i => World.var?_cell hg hv i
  subst e2
  exact ⟨by simpa using hc 0, by simpa using hc 1⟩
end Go.Proofs.YtdeaccbolnlgpaaDoor.X

namespace Go.Proofs.YtdeaccbolnlgpaaDoor.X
open Go.ChangeShapes Go.WideShapes Go.ChangeAt Go.RowKit Go.Proofs.YtdeaccbolnlgpaaDoorW.PrintWords
set_option linter.unusedVariables false
set_option linter.unusedSimpArgs false
set_option maxRecDepth 100000

/-! # Rows: a walker by value; a list of whole numbers -/
section
variable {H : Type} {enc : TypeId × Value → H} {W : World}
theorem open_walker {r : Reach} {b0 : Nat} {v : Value} {d : DataW H} {p : List MemPlace} (hv : Value.okWide Tryd.prog W r b0 48 v) (h : DataW.Trod enc Tryd.prog W 0 (fun _ => true) true 48 v d p) :
    ∃ x : S48, v = .agg #[.int .i64 x.f0, .int .i64 x.f1.f0, .int .i64 x.f1.f1, .int .i64 x.f2.f0, .int .i64 x.f2.f1] := by
  obtain ⟨cs, rfl, hsz⟩ := okWide_struct Tryd.underlying48 hv
  obtain ⟨fuel, hf⟩ := h
  obtain ⟨s, hs⟩ := flat48 (by simpa [Value.cells] using hf)
  have e := k48_open hs
  refine ⟨s, ?_⟩
  congr 1
  rw [← Array.toArray_toList (xs := cs), e]
/-- A list of whole numbers of a kind, with their bounds. -/
theorem open_list {r : Reach} {b0 : Nat} {t e : TypeId} {k : IntKind} {v : Value} {d : DataW H} {p : List MemPlace} (ht : Tryd.prog.underlying t = some (.slice e)) (he : Tryd.prog.underlying e = some (.int k)) (hc : Tryd.prog.cellsOf e = 1)
    (hv : Value.okWide Tryd.prog W r b0 t v) (h : DataW.Trod enc Tryd.prog W 0 (fun _ => true) true t v d p) :
    ∃ (A : Option Addr) (c : Nat) (l : List Int), v = .slice A l.length c ∧ Kd.C (Kd.int k) W A l.length l ∧ l.length ≤ c ∧ ∀ z ∈ l, (Lit.int k z).wf = true := by
  obtain ⟨a, len, cap, rfl⟩ := okWide_slice ht hv
  obtain ⟨fuel, hf⟩ := h
  have hf' : DataW.trod enc Tryd.prog W 0 (fun _ => true) true fuel t [.slice a len cap] = some (d, p) := by simpa [Value.cells] using hf
  rcases Deep.open_slice ht hf' with ⟨hv, _⟩ | ⟨a, len, cap, m, n, D, Pl, hv, _, hlc, hcm, hm, _, hel⟩
  · simp only [List.cons.injEq, and_true] at hv
    exact ⟨none, 0, [], hv, Kd.C_nil _ W, by simp, by simp⟩
  · simp only [List.cons.injEq, and_true] at hv
    have hg : ∀ i, i < len → ∃ z : Int, (Lit.int k z).wf = true ∧ W.cell? (a.add i) = some (.int k z) := fun i hi => by
      obtain ⟨cs', h1, h2⟩ := hel i (by have : m = cap := by simpa using hm
                                        omega)
      rw [hc, Nat.mul_one] at h1
      obtain ⟨z, rfl, _, hw⟩ := DataW.trod_int he h2
      obtain ⟨_, _, h4⟩ := World.cells?_some h1
      refine ⟨z, hw, ?_⟩
      have := h4 0 (by omega)
      simpa [Addr.add] using this
    obtain ⟨f, hf⟩ := Deep.choose_lt hg
    have hl : ((List.range len).map f).length = len := by simp
    refine ⟨some a, cap, (List.range len).map f, by rw [hl]; exact hv, ?_, by rw [hl]; exact hlc, fun z hz => ?_⟩
    · rw [hl]
      refine ⟨hl, by unfold maxLen at hcm; omega, fun _ => ⟨a, rfl, fun j p hj => ?_⟩⟩
      obtain ⟨hj', rfl⟩ := List.getElem?_eq_some_iff.1 hj
      have hj2 : j < len := by omega
      refine ⟨[.int k (f j)], rfl, by simp; rfl, fun i u hu => ?_⟩
      have hi : i = 0 := by
        have := (List.getElem?_eq_some_iff.1 hu).1
        simpa using this
      subst hi
      have e : ((Kd.int k).sz) = 1 := rfl
      rw [e, Nat.mul_one, Nat.add_zero, (hf j hj2).2]
      simpa using hu
    · obtain ⟨i, hi, rfl⟩ := List.mem_map.1 hz
      exact (hf i (List.mem_range.1 hi)).1
end
end Go.Proofs.YtdeaccbolnlgpaaDoor.X
