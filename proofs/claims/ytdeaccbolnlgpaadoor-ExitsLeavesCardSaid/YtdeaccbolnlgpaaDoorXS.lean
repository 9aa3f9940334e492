import Derived.Test.YtdeaccbolnlgpaaDoorXV
namespace Go.Proofs.YtdeaccbolnlgpaaDoor.X
open Go.RowKit Go.Proofs.YtdeaccbolnlgpaaDoorW.PrintWords Go.Proofs.YtdeaccbolnlgpaaDoorW.PrintLast Go.Proofs.YtdeaccbolnlgpaaDoorW.PrintMore
set_option linter.unusedVariables false

/-! # Short forms of what the printed walks say again and again: each closes its last argument by itself -/
theorem bk_ {w W : World} {g : Nat} {o : Obj} (h : Aside0 (w.heap[g]? = some o)) (hx : w.heap[g]? = some o → W.heap[g]? = some o := by intro h_; (with_reducible repeat (first | refine blk_drewN ?_ _ | refine blk_drew ?_ | refine blk_alloc ?_ _)); exact h_) : W.heap[g]? = some o := hx h.out
theorem ro_ {α : Type} {d : Kd α} {e base : Nat} {ok : Nat → Prop} {w W : World} {v : Value} {xs : List α} (h : Aside0 (d.R e w base ok v xs)) (hx : d.R e w base ok v xs → d.R e W base ok v xs := by intro h_; (with_reducible repeat (first | apply Kd.R_alloc | apply Kd.R_drewN | apply Kd.R_drew)); exact h_) : d.R e W base ok v xs := hx h.out
theorem be_ {w0 w W : World} (h : Aside0 (Below w0.heap.size w0 w)) (hx : Below w0.heap.size w0 w → Below w0.heap.size w0 W := by intro h_; repeat (first | (with_reducible first | exact h_ | apply below_alloc | apply pw_below_drewN | apply below_drew1) | exact h_)) : Below w0.heap.size w0 W := hx h.out
theorem be1_ {w0 w W : World} {g1 : Nat} (h : Aside0 (Below w0.heap.size w0 w)) (i1 : Aside0 (w0.heap.size ≤ g1)) (hx : Below w0.heap.size w0 w → w0.heap.size ≤ g1 → Below w0.heap.size w0 W := by intro h_ i1_; repeat (first | (with_reducible first | exact h_ | apply below_alloc | apply pw_below_drewN | apply below_drew1 | refine below_set ?_ i1_) | exact h_)) : Below w0.heap.size w0 W := hx h.out i1.out
theorem be2_ {w0 w W : World} {g1 g2 : Nat} (h : Aside0 (Below w0.heap.size w0 w)) (i1 : Aside0 (w0.heap.size ≤ g1)) (i2 : Aside0 (w0.heap.size ≤ g2)) (hx : Below w0.heap.size w0 w → w0.heap.size ≤ g1 → w0.heap.size ≤ g2 → Below w0.heap.size w0 W := by intro h_ i1_ i2_; repeat (first | (with_reducible first | exact h_ | apply below_alloc | apply pw_below_drewN | apply below_drew1 | refine below_set ?_ i1_ | refine below_set ?_ i2_) | exact h_)) : Below w0.heap.size w0 W := hx h.out i1.out i2.out
theorem be3_ {w0 w W : World} {g1 g2 g3 : Nat} (h : Aside0 (Below w0.heap.size w0 w)) (i1 : Aside0 (w0.heap.size ≤ g1)) (i2 : Aside0 (w0.heap.size ≤ g2)) (i3 : Aside0 (w0.heap.size ≤ g3)) (hx : Below w0.heap.size w0 w → w0.heap.size ≤ g1 → w0.heap.size ≤ g2 → w0.heap.size ≤ g3 → Below w0.heap.size w0 W := by intro h_ i1_ i2_ i3_; repeat (first | (with_reducible first | exact h_ | apply below_alloc | apply pw_below_drewN | apply below_drew1 | refine below_set ?_ i1_ | refine below_set ?_ i2_ | refine below_set ?_ i3_) | exact h_)) : Below w0.heap.size w0 W := hx h.out i1.out i2.out i3.out
theorem kc_ {α : Type} {d : Kd α} {w0 w W : World} {A : Option Addr} {n : Nat} {xs : List α} (h : Aside0 (d.C w0 A n xs)) (hb : Aside0 (Below w0.heap.size w0 w)) (hx : d.C w A n xs → d.C W A n xs := by intro h_; repeat (first | exact h_ | (with_reducible refine Kd.C_alloc ?_ _) | (with_reducible refine Kd.C_drewN ?_ _) | (with_reducible refine Kd.C_drew ?_))) : d.C W A n xs := hx (Kd.C_below h.out hb.out)
theorem gs_ {p : Prop} (h : p := by first | (go_simp; done) | (go_simp; rfl)) : p := h
theorem as_ {p : Prop} (h : p := by first | (with_reducible assumption) | assumption) : p := h
theorem ls_ {p : Prop} (h : p := by (try simp only [List.map_toArray, List.map_cons, List.map_nil]); first | done | rfl | (simp only [List.length_drop, List.length_take]; rfl)) : p := h
/-- n bits of m. -/
def bm_ (n m : Nat) : Array Bool := ((List.range n).map fun i => m.testBit i).toArray
theorem ce_ {w W : World} {a : Addr} {v : Value} (hb : Aside0 (Below w.heap.size w W)) (h : w.cell? a = some v) : W.cell? a = some v := (hb.out.cell (World.block_lt_of_cell? w _ h)).trans h
theorem cf_ {w W W1 : World} {a : Addr} {v : Value} (hb : Aside0 (Below w.heap.size w W)) (h : w.cell? a = some v) (hd : W1.heap = W.heap := by rfl) : W1.cell? a = some v := by
  rw [← ce_ hb h]
  unfold World.cell?
  rw [hd]
theorem rf_ {p : Prop} (h : p := by first | rfl | (simp [errW_none, errW_some] <;> rfl) | (simp [*, errW_none, errW_some] <;> rfl)) : p := h
theorem bc_ {W : World} {g : Nat} {cs : Array Value} {t : TypeId} {v : Value} (h : Aside0 (W.heap[g]? = some (.cells cs t (0, 0)))) (i : Nat) (hv : cs[i]? = some v := by rfl) : W.cell? ⟨g, i, none⟩ = some v := (blk_cell h.out i).trans hv
theorem pt_ {p : Prop} (h : p := by simp only [Act.put, List.setIfInBounds_toArray, List.set_cons_zero, List.set_cons_succ, i64_w, i32_w]; rfl) : p := h
end Go.Proofs.YtdeaccbolnlgpaaDoor.X
