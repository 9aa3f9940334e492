import Derived.Test.YtdeaccbolnlgpaaDoorXQ
namespace Go.Proofs.YtdeaccbolnlgpaaDoor.X
open Go.ChangeShapes Go.WideShapes Go.ChangeAt Go.RowKit Go.Proofs.YtdeaccbolnlgpaaDoorW.PrintWords
set_option linter.unusedVariables false
set_option linter.unusedSimpArgs false
set_option maxRecDepth 100000

/-! # Rows: what the listed variables hold -/

def laidE : List (String × DataW Unit) := [("cottonpad/exits.best", Rows.laid_cottonpad_exits_best), ("cottonpad/exits.worst", Rows.laid_cottonpad_exits_worst)]
def laidN : List (String × DataW Unit) := [("cottonpad/exits.best", Rows.laid_cottonpad_exits_best), ("cottonpad/exits.worst", Rows.laid_cottonpad_exits_worst), ("cottonpad/exits.nowhere", Rows.laid_cottonpad_exits_nowhere)]

theorem mem_params {ps : Array Nat} {l : List Nat} (h : ps.toList = l) {j : Nat} {t : Nat} (ht : ps[j]? = some t) : t ∈ l := by
  subst h
  exact Array.mem_toList_iff.2 (Array.mem_of_getElem? ht)
theorem gBest : Tryd.prog.globalNamed "cottonpad/exits.best" = some 0 := by kernel_rfl
theorem gWorst : Tryd.prog.globalNamed "cottonpad/exits.worst" = some 1 := by kernel_rfl
theorem gNowhere : Tryd.prog.globalNamed "cottonpad/exits.nowhere" = some 2 := by kernel_rfl
theorem tBest : (Tryd.prog.globals[0]?).map (·.type) = some 112 := by kernel_rfl
theorem tWorst : (Tryd.prog.globals[1]?).map (·.type) = some 112 := by kernel_rfl
theorem tNowhere : (Tryd.prog.globals[2]?).map (·.type) = some 122 := by kernel_rfl
theorem one149 : ((List.range Tryd.prog.funcs.size).filter fun f => (Tryd.prog.funcs[f]?).any (·.name.toUTF8.data.toList == [99, 111, 116, 116, 111, 110, 112, 97, 100, 47, 101, 120, 105, 116, 115, 46, 104, 105])) = [149] := by kernel_rfl
theorem one150 : ((List.range Tryd.prog.funcs.size).filter fun f => (Tryd.prog.funcs[f]?).any (·.name.toUTF8.data.toList == [99, 111, 116, 116, 111, 110, 112, 97, 100, 47, 101, 120, 105, 116, 115, 46, 108, 111])) = [150] := by kernel_rfl
theorem cells112 : Tryd.prog.cellsOf 112 = 3 := by kernel_rfl
theorem cells110 : Tryd.prog.cellsOf 110 = 1 := by kernel_rfl
theorem cells122 : Tryd.prog.cellsOf 122 = 2 := by kernel_rfl
theorem cells3 : Tryd.prog.cellsOf 3 = 1 := by kernel_rfl

theorem end_of_trod {W : World} {fuel : Nat} {cs : List Value} {b0 b1 b2 : UInt8} {r0 r1 r2 : List UInt8} {f0 f1 f2 : FuncId} {p : List MemPlace}
    (h0 : ((List.range Tryd.prog.funcs.size).filter fun f => (Tryd.prog.funcs[f]?).any (·.name.toUTF8.data.toList == b0 :: r0)) = [f0])
    (h1 : ((List.range Tryd.prog.funcs.size).filter fun f => (Tryd.prog.funcs[f]?).any (·.name.toUTF8.data.toList == b1 :: r1)) = [f1])
    (h2 : ((List.range Tryd.prog.funcs.size).filter fun f => (Tryd.prog.funcs[f]?).any (·.name.toUTF8.data.toList == b2 :: r2)) = [f2])
    (h : DataW.trod (funcToken Tryd.prog) Tryd.prog W 0 (fun _ => true) true fuel 112 cs = some (.agg [.held (b0 :: r0), .held (b1 :: r1), .held (b2 :: r2)], p)) :
    cs = [.func (.func f0) #[] #[], .func (.func f1) #[] #[], .func (.func f2) #[] #[]] := by
  obtain ⟨y0, y1, y2, n, hx, hl, k0, k1, k2⟩ := Deep.trod_struct3 Tryd.underlying112 h
  rw [cells112] at hl
  obtain ⟨a, b, c, rfl⟩ : ∃ a b c, cs = [a, b, c] := by
    match cs, hl with
    | [a, b, c], _ => exact ⟨a, b, c, rfl⟩
  obtain ⟨d0, q0⟩ := y0
  obtain ⟨d1, q1⟩ := y1
  obtain ⟨d2, q2⟩ := y2
  simp only [Prod.mk.injEq, DataW.agg.injEq, List.cons.injEq, and_true] at hx
  obtain ⟨⟨rfl, rfl, rfl⟩, _⟩ := hx
  simp only [cells110] at k0 k1 k2
  obtain rfl := Go.func_of_trod Tryd.underlying110 h0 k0
  obtain rfl := Go.func_of_trod Tryd.underlying110 h1 k1
  obtain rfl := Go.func_of_trod Tryd.underlying110 h2 k2
  rfl

theorem ends_of_laid {l : List (String × DataW Unit)} {W : World} (h : laidMetH Tryd.prog l W) (hb : ("cottonpad/exits.best", Rows.laid_cottonpad_exits_best) ∈ l) (hw : ("cottonpad/exits.worst", Rows.laid_cottonpad_exits_worst) ∈ l) : GlobsE W := by
  constructor
  · obtain ⟨g, t, cs, fuel, p, hg, ht, hv, hd⟩ := h.funcs hb
    obtain rfl := Option.some.inj (gBest.symm.trans hg)
    obtain rfl := Option.some.inj (tBest.symm.trans ht)
    have e := end_of_trod one149 one150 one149 hd
    have hc := fun i => World.var?_cell hg hv i
    have e2 : cs = #[.func (.func 149) #[] #[], .func (.func 150) #[] #[], .func (.func 149) #[] #[]] := by rw [← Array.toArray_toList (xs := cs), e]
    subst e2
    exact ⟨by simpa using hc 0, by simpa using hc 1, by simpa using hc 2⟩
  · obtain ⟨g, t, cs, fuel, p, hg, ht, hv, hd⟩ := h.funcs hw
    obtain rfl := Option.some.inj (gWorst.symm.trans hg)
    obtain rfl := Option.some.inj (tWorst.symm.trans ht)
    have e := end_of_trod one150 one149 one150 hd
    have hc := fun i => World.var?_cell hg hv i
    have e2 : cs = #[.func (.func 150) #[] #[], .func (.func 149) #[] #[], .func (.func 150) #[] #[]] := by rw [← Array.toArray_toList (xs := cs), e]
    subst e2
    exact ⟨by simpa using hc 0, by simpa using hc 1, by simpa using hc 2⟩
theorem globsE_of_laid {W : World} (h : laidMetH Tryd.prog laidE W) : GlobsE W := ends_of_laid h (by simp [laidE]) (by simp [laidE])
theorem globs_of_laid {W : World} (h : laidMetH Tryd.prog laidN W) : Globs W := by
  refine ⟨ends_of_laid h (by simp [laidN]) (by simp [laidN]), ?_⟩
  have h' : laidMet Tryd.prog [("cottonpad/exits.nowhere", Rows.laid_cottonpad_exits_nowhere)] W := h.1
  obtain ⟨ps, ⟨g, t, cs, fuel, p, q, hg, ht, hv, hd, _⟩, _⟩ := h'
  obtain rfl := Option.some.inj (gNowhere.symm.trans hg)
  obtain rfl := Option.some.inj (tNowhere.symm.trans ht)
  have hd' : DataW.trod (fun _ => ()) Tryd.prog W 0 (fun _ => true) false fuel 122 cs.toList = some (.agg [.lit (.int .i64 (-1)), .lit (.int .i64 (-1))], p) := hd
  obtain ⟨xs, m, _, hx, hl, hlen, hel⟩ := DataW.trod_array Tryd.underlying122 hd'
  rw [cells122] at hl
  obtain ⟨y0, y1, rfl⟩ := list2 hlen
  obtain ⟨a, b, hab⟩ := list2 hl
  have h0 := hel 0 (by omega)
  have h1 := hel 1 (by omega)
  rw [hab] at h0 h1
  simp only [cells3] at h0 h1
  obtain ⟨i, hi, hyi, _⟩ := DataW.trod_int Tryd.underlying3 (show DataW.trod (fun _ => ()) Tryd.prog W 0 (fun _ => true) false m 3 [a] = some y0 from h0)
  obtain ⟨j, hj, hyj, _⟩ := DataW.trod_int Tryd.underlying3 (show DataW.trod (fun _ => ()) Tryd.prog W 0 (fun _ => true) false m 3 [b] = some y1 from h1)
  subst hyi hyj
  simp only [List.map_cons, List.map_nil, Prod.mk.injEq, DataW.agg.injEq, List.cons.injEq, DataW.lit.injEq, Lit.int.injEq, true_and, and_true] at hx
  obtain ⟨⟨rfl, rfl⟩, _⟩ := hx
  simp only [List.cons.injEq, and_true] at hi hj
  subst hi hj
  have e2 : cs = #[.int .i64 (-1), .int .i64 (-1)] := by rw [← Array.toArray_toList (xs := cs), hab]
  have hc := fun i => World.var?_cell hg hv i
  subst e2
  exact ⟨by simpa using hc 0, by simpa using hc 1⟩
end Go.Proofs.YtdeaccbolnlgpaaDoor.X
