import Derived.Test.YtdeaccbolnlgpaaDoorXH1
import Derived.Test.YtdeaccbolnlgpaaDoorXNB
namespace Go.Proofs.YtdeaccbolnlgpaaDoor.X
open Go.RowKit Go.Proofs.YtdeaccbolnlgpaaDoorW.PrintWords Go.Proofs.YtdeaccbolnlgpaaDoorW.PrintLast Go.Proofs.YtdeaccbolnlgpaaDoorW.PrintMore
set_option linter.unusedVariables false
set_option linter.unusedSimpArgs false

/-! # law06.fixed's closures late and early: what they hold of 'worst' lies in a box -/
section
variable {P : Program} {ops : Array Oper} {Q : Exit → Act → World → Prop}
/-- A call of a closure that a slot holds, in a region that draws. -/
theorem goesC_ {oi : Oper} {N : Option Tmp} {a : Act} {w : World} {K : Act → World → Prop} {f : FuncId} {fn : Func} {t : Operand} {os : Array Operand} {ts : Array TypeId} (hf : P.funcs[f]? = some fn) (hname : (fn.name == "runtime.NumGoroutine") = false) (hb : fn.body.isSome = true) (caps args : Array Value)
    (hw : Region.wanted oi (yielded ops a.tmps) = true) (hN : oi.dst = N) (hop : oi.op = .call { callee := .value t, args := os, argTypes := ts }) (hfun : a.eval t = .func (.func f) #[] caps) (hargs : os.map a.eval ++ caps = args)
    (h : Calls P f args w fun e w' => ∃ v, e = .returned v ∧ K (a.put N v) w') : if Region.wanted oi (yielded ops a.tmps) = true then Oper.wp P oi a w K Q else K (a.put N undef) w := by
  refine call_ f args hw hN ?_ h
  have he := enters_ hf hname hb args w
  unfold execOp
  simp [hop, resolve, hfun, Deferred.ofValue, invoke, hargs, he]
end

def cottonpadlaw06_fixedlate.f (a0 : Bool) (a1_0 a1_1 : Int) : Option (Int × Int) := some (if a0 then (a1_1, a1_1) else (a1_0, a1_0))
def cottonpadlaw06_fixedearly.f (a0 : Bool) (a1_0 a1_1 : Int) : Option (Int × Int) := some (if a0 then (a1_0, a1_0) else (a1_1, a1_1))

theorem span_any (a b : Int) (w : World) : Calls Tryd.prog 32 #[.int .i64 a, .int .i64 b] w fun e w' => e = .returned (.agg #[.int .i64 a, .int .i64 b]) ∧ Below w.heap.size w w' :=
  cottonpadlaw06_span.calls a b a b w rfl

set_option maxRecDepth 100000 in
theorem cottonpadlaw06_fixedlate.calls (g : Nat) (a0 : Bool) (a1_0 : Int) (a1_1 : Int) (r1 : Int) (r2 : Int) (w : World) (hg : w.heap[g]? = some (.cells #[.bool a0] 4 (0, 0))) (h : cottonpadlaw06_fixedlate.f a0 a1_0 a1_1 = some (r1, r2)) :
    Calls Tryd.prog 74 #[.agg #[.int .i64 a1_0, .int .i64 a1_1], .pointer (some ⟨g, 0, none⟩)] w fun e w' => e = .returned (.agg #[.int .i64 r1, .int .i64 r2]) ∧ Below w.heap.size w w' := by
  have hu3 := Tryd.underlying3
  have hu4 := Tryd.underlying4
  have hu36 := Tryd.underlying36
  have hc : w.cell? ⟨g, 0, none⟩ = some (.bool a0) := blk_cell hg 0
  have lg := World.block_lt_of_cell? w _ hc
  dsimp only at lg
  have HSP := Lib.hid (fun (x y : Int) (W : World) => span_any x y W)
  unfold cottonpadlaw06_fixedlate.f at h
  clear hg
  cases a0
  · obtain ⟨rfl, rfl⟩ : a1_0 = r1 ∧ a1_0 = r2 := by simpa using h
    clear h
    go_enter Tryd.func74, Tryd.ntmps74
    go_wp2_with (go_at_call 32; refine (HSP.out _ _ _).mono ?_; rintro e w1 ⟨rfl, hb⟩; obtain ⟨hcl, hfr⟩ := bcell hb)
    have HB := Lib.hid (((((Below.refl _ w).alloc (Nat.le_refl _) (.cells #[.int .i64 a1_0, .int .i64 a1_1] 36)).alloc (by simp) (.cells #[.int .i64 0, .int .i64 0] 36)).trans (hb.mono (by simp; omega))))
    have hk : w1.heap[w.heap.size + 1]? = some (.cells #[.int .i64 0, .int .i64 0] 36 (0, 0)) := (hb.block _ (by simp)).trans (by have h9 := blk_new (w.alloc (.cells #[.int .i64 a1_0, .int .i64 a1_1] 36)) (.cells #[.int .i64 0, .int .i64 0] 36); rw [show (w.alloc (.cells #[.int .i64 a1_0, .int .i64 a1_1] 36)).heap.size = w.heap.size + 1 by simp] at h9; exact h9)
    refine bodyPost_ret (results_cell_row rfl _ _ (w.heap.size + 1) 36 #[.int .i64 a1_0, .int .i64 a1_0] (0, 0) _ rfl (by refine blk_put (cs := #[.int .i64 a1_0, .int .i64 0]) ?_ 1 _ rfl; refine blk_put (cs := #[.int .i64 0, .int .i64 0]) ?_ 0 _ rfl; exact hk) Tryd.underlying36 rfl (by kernel_rfl)) rfl ?_
    exact ⟨rfl, (HB.out.setCell (by show w.heap.size ≤ w.heap.size + 1; omega) _).setCell (by show w.heap.size ≤ w.heap.size + 1; omega) _⟩
  · obtain ⟨rfl, rfl⟩ : a1_1 = r1 ∧ a1_1 = r2 := by simpa using h
    clear h
    go_enter Tryd.func74, Tryd.ntmps74
    go_wp2_with (go_at_call 32; refine (HSP.out _ _ _).mono ?_; rintro e w1 ⟨rfl, hb⟩; obtain ⟨hcl, hfr⟩ := bcell hb)
    have HB := Lib.hid (((((Below.refl _ w).alloc (Nat.le_refl _) (.cells #[.int .i64 a1_0, .int .i64 a1_1] 36)).alloc (by simp) (.cells #[.int .i64 0, .int .i64 0] 36)).trans (hb.mono (by simp; omega))))
    have hk : w1.heap[w.heap.size + 1]? = some (.cells #[.int .i64 0, .int .i64 0] 36 (0, 0)) := (hb.block _ (by simp)).trans (by have h9 := blk_new (w.alloc (.cells #[.int .i64 a1_0, .int .i64 a1_1] 36)) (.cells #[.int .i64 0, .int .i64 0] 36); rw [show (w.alloc (.cells #[.int .i64 a1_0, .int .i64 a1_1] 36)).heap.size = w.heap.size + 1 by simp] at h9; exact h9)
    refine bodyPost_ret (results_cell_row rfl _ _ (w.heap.size + 1) 36 #[.int .i64 a1_1, .int .i64 a1_1] (0, 0) _ rfl (by refine blk_put (cs := #[.int .i64 a1_1, .int .i64 0]) ?_ 1 _ rfl; refine blk_put (cs := #[.int .i64 0, .int .i64 0]) ?_ 0 _ rfl; exact hk) Tryd.underlying36 rfl (by kernel_rfl)) rfl ?_
    exact ⟨rfl, (HB.out.setCell (by show w.heap.size ≤ w.heap.size + 1; omega) _).setCell (by show w.heap.size ≤ w.heap.size + 1; omega) _⟩
set_option maxRecDepth 100000 in
theorem cottonpadlaw06_fixedearly.calls (g : Nat) (a0 : Bool) (a1_0 : Int) (a1_1 : Int) (r1 : Int) (r2 : Int) (w : World) (hg : w.heap[g]? = some (.cells #[.bool a0] 4 (0, 0))) (h : cottonpadlaw06_fixedearly.f a0 a1_0 a1_1 = some (r1, r2)) :
    Calls Tryd.prog 75 #[.agg #[.int .i64 a1_0, .int .i64 a1_1], .pointer (some ⟨g, 0, none⟩)] w fun e w' => e = .returned (.agg #[.int .i64 r1, .int .i64 r2]) ∧ Below w.heap.size w w' := by
  have hu3 := Tryd.underlying3
  have hu4 := Tryd.underlying4
  have hu36 := Tryd.underlying36
  have hc : w.cell? ⟨g, 0, none⟩ = some (.bool a0) := blk_cell hg 0
  have lg := World.block_lt_of_cell? w _ hc
  dsimp only at lg
  have HSP := Lib.hid (fun (x y : Int) (W : World) => span_any x y W)
  unfold cottonpadlaw06_fixedearly.f at h
  clear hg
  cases a0
  · obtain ⟨rfl, rfl⟩ : a1_1 = r1 ∧ a1_1 = r2 := by simpa using h
    clear h
    go_enter Tryd.func75, Tryd.ntmps75
    go_wp2_with (go_at_call 32; refine (HSP.out _ _ _).mono ?_; rintro e w1 ⟨rfl, hb⟩; obtain ⟨hcl, hfr⟩ := bcell hb)
    have HB := Lib.hid (((((Below.refl _ w).alloc (Nat.le_refl _) (.cells #[.int .i64 a1_0, .int .i64 a1_1] 36)).alloc (by simp) (.cells #[.int .i64 0, .int .i64 0] 36)).trans (hb.mono (by simp; omega))))
    have hk : w1.heap[w.heap.size + 1]? = some (.cells #[.int .i64 0, .int .i64 0] 36 (0, 0)) := (hb.block _ (by simp)).trans (by have h9 := blk_new (w.alloc (.cells #[.int .i64 a1_0, .int .i64 a1_1] 36)) (.cells #[.int .i64 0, .int .i64 0] 36); rw [show (w.alloc (.cells #[.int .i64 a1_0, .int .i64 a1_1] 36)).heap.size = w.heap.size + 1 by simp] at h9; exact h9)
    refine bodyPost_ret (results_cell_row rfl _ _ (w.heap.size + 1) 36 #[.int .i64 a1_1, .int .i64 a1_1] (0, 0) _ rfl (by refine blk_put (cs := #[.int .i64 a1_1, .int .i64 0]) ?_ 1 _ rfl; refine blk_put (cs := #[.int .i64 0, .int .i64 0]) ?_ 0 _ rfl; exact hk) Tryd.underlying36 rfl (by kernel_rfl)) rfl ?_
    exact ⟨rfl, (HB.out.setCell (by show w.heap.size ≤ w.heap.size + 1; omega) _).setCell (by show w.heap.size ≤ w.heap.size + 1; omega) _⟩
  · obtain ⟨rfl, rfl⟩ : a1_0 = r1 ∧ a1_0 = r2 := by simpa using h
    clear h
    go_enter Tryd.func75, Tryd.ntmps75
    go_wp2_with (go_at_call 32; refine (HSP.out _ _ _).mono ?_; rintro e w1 ⟨rfl, hb⟩; obtain ⟨hcl, hfr⟩ := bcell hb)
    have HB := Lib.hid (((((Below.refl _ w).alloc (Nat.le_refl _) (.cells #[.int .i64 a1_0, .int .i64 a1_1] 36)).alloc (by simp) (.cells #[.int .i64 0, .int .i64 0] 36)).trans (hb.mono (by simp; omega))))
    have hk : w1.heap[w.heap.size + 1]? = some (.cells #[.int .i64 0, .int .i64 0] 36 (0, 0)) := (hb.block _ (by simp)).trans (by have h9 := blk_new (w.alloc (.cells #[.int .i64 a1_0, .int .i64 a1_1] 36)) (.cells #[.int .i64 0, .int .i64 0] 36); rw [show (w.alloc (.cells #[.int .i64 a1_0, .int .i64 a1_1] 36)).heap.size = w.heap.size + 1 by simp] at h9; exact h9)
    refine bodyPost_ret (results_cell_row rfl _ _ (w.heap.size + 1) 36 #[.int .i64 a1_0, .int .i64 a1_0] (0, 0) _ rfl (by refine blk_put (cs := #[.int .i64 a1_0, .int .i64 0]) ?_ 1 _ rfl; refine blk_put (cs := #[.int .i64 0, .int .i64 0]) ?_ 0 _ rfl; exact hk) Tryd.underlying36 rfl (by kernel_rfl)) rfl ?_
    exact ⟨rfl, (HB.out.setCell (by show w.heap.size ≤ w.heap.size + 1; omega) _).setCell (by show w.heap.size ≤ w.heap.size + 1; omega) _⟩
end Go.Proofs.YtdeaccbolnlgpaaDoor.X
