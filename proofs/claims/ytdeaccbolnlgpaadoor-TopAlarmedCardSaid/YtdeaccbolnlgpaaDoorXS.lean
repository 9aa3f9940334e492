import Derived.Test.YtdeaccbolnlgpaaDoorXV
namespace Go.Proofs.YtdeaccbolnlgpaaDoor.X
open Go.RowKit Go.Proofs.YtdeaccbolnlgpaaDoorW.PrintWords Go.Proofs.YtdeaccbolnlgpaaDoorW.PrintLast Go.Proofs.YtdeaccbolnlgpaaDoorW.PrintMore
set_option linter.unusedVariables false

/-! # Short forms of what the printed walks say again and again: each closes its last argument by itself -/
theorem bk_ {w W : World} {g : Nat} {o : Obj} (h : Aside0 (w.heap[g]? = some o)) (hx : w.heap[g]? = some o → W.heap[g]? = some o := by intro h_; (with_reducible repeat (first | refine blk_drewN ?_ _ | refine blk_drew ?_ | refine blk_alloc ?_ _)); exact h_) : W.heap[g]? = some o := hx h.out
theorem ro_ {α : Type} {d : Kd α} {e base : Nat} {ok : Nat → Prop} {w W : World} {v : Value} {xs : List α} (h : Aside0 (d.R e w base ok v xs)) (hx : d.R e w base ok v xs → d.R e W base ok v xs := by intro h_; (with_reducible repeat (first | apply Kd.R_alloc | apply Kd.R_drewN | apply Kd.R_drew)); exact h_) : d.R e W base ok v xs := hx h.out
theorem be_ {w0 w W : World} (h : Aside0 (Below w0.heap.size w0 w)) (hx : Below w0.heap.size w0 w → Below w0.heap.size w0 W := by intro h_; repeat (first | (with_reducible first | exact h_ | apply below_alloc | apply pw_below_drewN | apply below_drew1) | exact h_)) : Below w0.heap.size w0 W := hx h.out
theorem be1_ {w0 w W : World} {g1 : Nat} (h : Aside0 (Below w0.heap.size w0 w)) (i1 : Aside0 (w0.heap.size ≤ g1)) (hx : Below w0.heap.size w0 w → w0.heap.size ≤ g1 → Below w0.heap.size w0 W := by intro h_ i1_; repeat (first | (with_reducible first | exact h_ | apply below_alloc | apply pw_below_drewN | apply below_drew1 | refine below_set ?_ i1_) | exact h_)) : Below w0.heap.size w0 W := hx h.out i1.out
theorem be2_ {w0 w W : World} {g1 g2 : Nat} (h : Aside0 (Below w0.heap.size w0 w)) (i1 : Aside0 (w0.heap.size ≤ g1)) (i2 : Aside0 (w0.heap.size ≤ g2)) (hx : Below w0.heap.size w0 w → w0.heap.size ≤ g1 → w0.heap.size ≤ g2 → Below w0.heap.size w0 W := by intro h_ i1_ i2_; repeat (first | (with_reducible first | exact h_ | apply below_alloc | apply pw_below_drewN | apply below_drew1 | refine below_set ?_ i1_ | refine below_set ?_ i2_) | exact h_)) : Below w0.heap.size w0 W := hx h.out i1.out i2.out
theorem be3_ {w0 w W : World} {g1 g2 g3 : Nat} (h : Aside0 (Below w0.heap.size w0 w)) (i1 : Aside0 (w0.heap.size ≤ g1)) (i2 : Aside0 (w0.heap.size ≤ g2)) (i3 : Aside0 (w0.heap.size ≤ g3)) (hx : Below w0.heap.size w0 w → w0.heap.size ≤ g1 → w0.heap.size ≤ g2 → w0.heap.size ≤ g3 → Below w0.heap.size w0 W := by intro h_ i1_ i2_ i3_; repeat (first | (with_reducible first | exact h_ | apply below_alloc | apply pw_below_drewN | apply below_drew1 | refine below_set ?_ i1_ | refine below_set ?_ i2_ | refine below_set ?_ i3_) | exact h_)) : Below w0.heap.size w0 W := hx h.out i1.out i2.out i3.out
theorem kc_ {α : Type} {d : Kd α} {w0 w W : World} {A : Option Addr} {n : Nat} {xs : List α} (h : Aside0 (d.C w0 A n xs)) (hb : Aside0 (Below w0.heap.size w0 w)) (hx : d.C w A n xs → d.C W A n xs := by intro h_; repeat (first | exact h_ | (with_reducible refine Kd.C_alloc ?_ _) | (with_reducible refine Kd.C_drewN ?_ _) | (with_reducible refine Kd.C_drew ?_))) : d.C W A n xs := hx (Kd.C_below h.out hb.out)
theorem gs_ {p : Prop} (h : p := by first | (go_simp; done) | (go_simp; rfl)) : p := h
theorem as_ {p : Prop} (h : p := by first | (with_reducible assumption) | assumption) : p := h
theorem ls_ {p : Prop} (h : p := by (try simp only [List.map_toArray, List.map_cons, List.map_nil]); first | done | rfl | (simp only [List.length_drop, List.length_take]; rfl)) : p := h
/-- n bits of m. -/
def bm_ (n m : Nat) : Array Bool := ((List.range n).map fun i => m.testBit i).toArray
theorem ce_ {w W : World} {a : Addr} {v : Value} (hb : Aside0 (Below w.heap.size w W)) (h : w.cell? a = some v) : W.cell? a = some v := (hb.out.cell (World.block_lt_of_cell? w _ h)).trans h
theorem cf_ {w W W1 : World} {a : Addr} {v : Value} (hb : Aside0 (Below w.heap.size w W)) (h : w.cell? a = some v) (hd : W1.heap = W.heap := by rfl) : W1.cell? a = some v := by
  rw [← ce_ hb h]
  unfold World.cell?
  rw [hd]
theorem rf_ {p : Prop} (h : p := by first | rfl | (simp [errW_none, errW_some] <;> rfl) | (simp [*, errW_none, errW_some] <;> rfl)) : p := h
theorem bc_ {W : World} {g : Nat} {cs : Array Value} {t : TypeId} {v : Value} (h : Aside0 (W.heap[g]? = some (.cells cs t (0, 0)))) (i : Nat) (hv : cs[i]? = some v := by rfl) : W.cell? ⟨g, i, none⟩ = some v := (blk_cell h.out i).trans hv
theorem pt_ {p : Prop} (h : p := by simp only [Act.put, List.setIfInBounds_toArray, List.set_cons_zero, List.set_cons_succ, i64_w, i32_w]; rfl) : p := h
theorem bx_ {w W : World} {g : Nat} {o : Obj} (h : w.heap[g]? = some o) (hx : w.heap[g]? = some o → W.heap[g]? = some o := by intro h_; (with_reducible repeat (first | refine blk_drewN ?_ _ | refine blk_drew ?_ | refine blk_alloc ?_ _)); exact h_) : W.heap[g]? = some o := hx h
theorem rx_ {α : Type} {d : Kd α} {e base : Nat} {ok : Nat → Prop} {w W : World} {v : Value} {xs : List α} (h : d.R e w base ok v xs) (hx : d.R e w base ok v xs → d.R e W base ok v xs := by intro h_; (with_reducible repeat (first | apply Kd.R_alloc | apply Kd.R_drewN | apply Kd.R_drew)); exact h_) : d.R e W base ok v xs := hx h
theorem rb_ {α : Type} {d : Kd α} {e base : Nat} {ok : Nat → Prop} {w W W1 : World} {v : Value} {xs : List α} (h : Aside0 (d.R e w base ok v xs)) (hb : Below W.heap.size W W1) (hx : d.R e w base ok v xs → d.R e W base ok v xs := by intro h_; (with_reducible repeat (first | apply Kd.R_alloc | apply Kd.R_drewN | apply Kd.R_drew)); exact h_) : Aside0 (d.R e W1 base ok v xs) := ⟨Kd.R_below (hx h.out) hb⟩
theorem bb_ {w W W1 : World} {g : Nat} {o : Obj} (h : Aside0 (w.heap[g]? = some o)) (hb : Below W.heap.size W W1) (hx : w.heap[g]? = some o → W.heap[g]? = some o := by intro h_; (with_reducible repeat (first | refine blk_drewN ?_ _ | refine blk_drew ?_ | refine blk_alloc ?_ _)); exact h_) : Aside0 (W1.heap[g]? = some o) := ⟨blk_below (hx h.out) hb⟩
theorem bs_ {w0 w W W1 : World} (h : Aside0 (Below w0.heap.size w0 w)) (hb : Below W.heap.size W W1) (hx : Below w0.heap.size w0 w → Below w0.heap.size w0 W := by intro h_; repeat (first | (with_reducible first | exact h_ | apply below_alloc | apply pw_below_drewN | apply below_drew1) | exact h_)) : Aside0 (Below w0.heap.size w0 W1) := ⟨below_step (hx h.out) hb⟩
theorem bs1_ {w0 w W W1 : World} {g1 : Nat} (h : Aside0 (Below w0.heap.size w0 w)) (i1 : Aside0 (w0.heap.size ≤ g1)) (hb : Below W.heap.size W W1) (hx : Below w0.heap.size w0 w → w0.heap.size ≤ g1 → Below w0.heap.size w0 W := by intro h_ i1_; repeat (first | (with_reducible first | exact h_ | apply below_alloc | apply pw_below_drewN | apply below_drew1 | refine below_set ?_ i1_) | exact h_)) : Aside0 (Below w0.heap.size w0 W1) := ⟨below_step (hx h.out i1.out) hb⟩
theorem bs2_ {w0 w W W1 : World} {g1 g2 : Nat} (h : Aside0 (Below w0.heap.size w0 w)) (i1 : Aside0 (w0.heap.size ≤ g1)) (i2 : Aside0 (w0.heap.size ≤ g2)) (hb : Below W.heap.size W W1) (hx : Below w0.heap.size w0 w → w0.heap.size ≤ g1 → w0.heap.size ≤ g2 → Below w0.heap.size w0 W := by intro h_ i1_ i2_; repeat (first | (with_reducible first | exact h_ | apply below_alloc | apply pw_below_drewN | apply below_drew1 | refine below_set ?_ i1_ | refine below_set ?_ i2_) | exact h_)) : Aside0 (Below w0.heap.size w0 W1) := ⟨below_step (hx h.out i1.out i2.out) hb⟩
theorem bs3_ {w0 w W W1 : World} {g1 g2 g3 : Nat} (h : Aside0 (Below w0.heap.size w0 w)) (i1 : Aside0 (w0.heap.size ≤ g1)) (i2 : Aside0 (w0.heap.size ≤ g2)) (i3 : Aside0 (w0.heap.size ≤ g3)) (hb : Below W.heap.size W W1) (hx : Below w0.heap.size w0 w → w0.heap.size ≤ g1 → w0.heap.size ≤ g2 → w0.heap.size ≤ g3 → Below w0.heap.size w0 W := by intro h_ i1_ i2_ i3_; repeat (first | (with_reducible first | exact h_ | apply below_alloc | apply pw_below_drewN | apply below_drew1 | refine below_set ?_ i1_ | refine below_set ?_ i2_ | refine below_set ?_ i3_) | exact h_)) : Aside0 (Below w0.heap.size w0 W1) := ⟨below_step (hx h.out i1.out i2.out i3.out) hb⟩
theorem kd_ {α : Type} {d : Kd α} {w W : World} {A : Option Addr} {n : Nat} {xs : List α} (h : d.C w A n xs) (hx : d.C w A n xs → d.C W A n xs := by intro h_; repeat (first | exact h_ | (with_reducible refine Kd.C_alloc ?_ _) | (with_reducible refine Kd.C_drewN ?_ _) | (with_reducible refine Kd.C_drew ?_))) : d.C W A n xs := hx h
theorem hl_ {w W : World} {g : Nat} (hg : g = W.heap.size) (h : Below w.heap.size w W) : Aside0 (w.heap.size ≤ g) := ⟨by rw [hg]; exact below_size h⟩
section
variable {P : Program} {ops : Array Oper} {Q : Exit → Act → World → Prop} {md : Region.Mode} {S : World → Prop} {ds : List Nat} {oi : Oper} {v : Value} {fuel : Nat} {l : Array Bool} {a a' : Act} {w : World} {T : Bool × List (List Nat × List Nat)} {B : List Nat}
theorem pr_ (i : Nat) (N : Tmp) (n m : Nat) (hT : Aside0 (rtab md ops = T)) (hi : ops[i]? = some oi) (hN : oi.dst = some N) (h : wpAnyLast P md ops Q S ds fuel (bm_ n m) a' w)
    (hQ : ∀ c a w, Q (.panic c) (a.put oi.dst v) w → Q (.panic c) a w := by exact fun _ _ _ h => h)
    (hc : anyT T l.toList (bm_ n m).toList i = true := by kernel_rfl) (h1 : Region.wanted oi (yielded ops a.tmps) = true := by rfl)
    (h2 : ∀ w, (execOp a.eval oi).run P w = .ok (.value v) w := by intro w'; go_simp; with_reducible rfl)
    (ha : a.put (some N) v = a' := by simp only [Act.put, List.setIfInBounds_toArray, List.set_cons_zero, List.set_cons_succ, i64_w, i32_w]; rfl) :
    wpAnyLast P md ops Q S ds (fuel + 1) l a w :=
  pure_ (i := i) (N := some N) (bm_ n m) hi hN (any_of hT.out hc) hQ (Or.inl ⟨h1, h2⟩) ha h
theorem pn_ (i : Nat) (N : Tmp) (n m : Nat) (hT : Aside0 (rtab md ops = T)) (hi : ops[i]? = some oi) (hN : oi.dst = some N) (h : wpAnyLast P md ops Q S ds fuel (bm_ n m) a' w)
    (hQ : ∀ c a w, Q (.panic c) (a.put oi.dst undef) w → Q (.panic c) a w := by exact fun _ _ _ h => h)
    (hc : anyT T l.toList (bm_ n m).toList i = true := by kernel_rfl) (h1 : Region.wanted oi (yielded ops a.tmps) = false := by rfl)
    (ha : a.put (some N) undef = a' := by simp only [Act.put, List.setIfInBounds_toArray, List.set_cons_zero, List.set_cons_succ, i64_w, i32_w]; rfl) :
    wpAnyLast P md ops Q S ds (fuel + 1) l a w :=
  pure_ (i := i) (N := some N) (bm_ n m) hi hN (any_of hT.out hc) hQ (Or.inr ⟨h1, rfl⟩) ha h
theorem ta_ (i : Nat) (N : Tmp) (n m : Nat) (hT : Aside0 (rtab md ops = T)) (hW : Aside0 (waitsOk T.2 B = true)) (hi : ops[i]? = some oi) (hN : oi.dst = some N) (hS : S w) (h : wpAnyLast P md ops Q S ds fuel (bm_ n m) a' w)
    (hQ : ∀ c a w, Q (.panic c) (a.put oi.dst v) w → Q (.panic c) a w := by exact fun _ _ _ h => h)
    (hc : takeW T B ds l.toList (bm_ n m).toList i = true := by kernel_rfl) (h1 : Region.wanted oi (yielded ops a.tmps) = true := by rfl)
    (h2 : ∀ w, S w → (execOp a.eval oi).run P w = .ok (.value v) w := by intro w' s_; revert s_; (try simp only [and_imp]); intros; go_simp; with_reducible rfl)
    (ha : a.put (some N) v = a' := by simp only [Act.put, List.setIfInBounds_toArray, List.set_cons_zero, List.set_cons_succ, i64_w, i32_w]; rfl) :
    wpAnyLast P md ops Q S ds (fuel + 1) l a w :=
  take_ (i := i) (N := some N) (bm_ n m) hi hN (take_ofW hT.out hW.out hc) hQ (Or.inl ⟨h1, h2⟩) hS ha h
end
end Go.Proofs.YtdeaccbolnlgpaaDoor.X
