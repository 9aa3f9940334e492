import Derived.Test.YtdeaccbolnlgpaaDoorXH2
import Derived.Deep.RegionHeld3
namespace Go.Proofs.YtdeaccbolnlgpaaDoor.X
open Go.RowKit Go.Shelf Go.Proofs.YtdeaccbolnlgpaaDoorW.PrintWords Go.Proofs.YtdeaccbolnlgpaaDoorW.PrintLast Go.Proofs.YtdeaccbolnlgpaaDoorW.PrintMore
set_option linter.unusedVariables false
set_option linter.unusedSimpArgs false

/-- The ends: worst (true) and best (false). -/
def paceN (b : Bool) : Nat := if b then 150 else 149
def timeN (b : Bool) : Nat := if b then 149 else 150
def smokeN (b : Bool) : Nat := if b then 150 else 149
def fnV (n : Nat) : Value := .func (.func n) #[] #[]
def paceS (b : Bool) (s : S36) : Int := if b then s.f0 else s.f1
def timeS (b : Bool) (s : S36) : Int := if b then s.f1 else s.f0
def smokeS (b : Bool) (s : S36) : Int := if b then s.f0 else s.f1
def endV (b : Bool) : Value := .agg #[fnV (paceN b), fnV (timeN b), fnV (smokeN b)]
/-- When somebody leaves the chamber. -/
def leaveT (b : Bool) (ch : List S81) (x : S48) : Int := timeS b x.f2 + ((rd_T81 ch x.f0).f1 + paceS b x.f1 - 1) / paceS b x.f1

theorem steps_any (a p : Int) (w : World) (ha : 0 ≤ a) (ha2 : a ≤ 100000) (hp : 1 ≤ p) (hp2 : p ≤ 3000) :
    Calls Tryd.prog 102 #[.int .i64 a, .int .i64 p] w fun e w' => e = .returned (.int .i64 ((a + p - 1) / p)) ∧ w' = w := by
  have h1 : 0 ≤ a + p - 1 := by omega
  go_enter Tryd.func102, Tryd.ntmps102
  go_wp2
  go_ret
  exact ⟨rfl, rfl⟩

theorem below_of_alloc {W W1 : World} {o : Obj} (h : W1 = W.alloc o) : Below W.heap.size W W1 := by subst h; exact (Below.refl _ _).alloc (Nat.le_refl _) _
theorem LS_keep {w A B : World} {a1 a2 a3 a4 a5 a6 a7 a8 a9 : Addr} {v1 v2 v3 v4 v5 v6 v7 v8 v9 : Value}
    (h : A.cell? a1 = some v1 ∧ A.cell? a2 = some v2 ∧ A.cell? a3 = some v3 ∧ A.cell? a4 = some v4 ∧ A.cell? a5 = some v5 ∧ A.cell? a6 = some v6 ∧ A.cell? a7 = some v7 ∧ A.cell? a8 = some v8 ∧ A.cell? a9 = some v9 ∧ Below w.heap.size w A) (hb : Below A.heap.size A B) :
    B.cell? a1 = some v1 ∧ B.cell? a2 = some v2 ∧ B.cell? a3 = some v3 ∧ B.cell? a4 = some v4 ∧ B.cell? a5 = some v5 ∧ B.cell? a6 = some v6 ∧ B.cell? a7 = some v7 ∧ B.cell? a8 = some v8 ∧ B.cell? a9 = some v9 ∧ Below w.heap.size w B := by
  obtain ⟨h1, h2, h3, h4, h5, h6, h7, h8, h9, h10⟩ := h
  exact ⟨pw_cell_below hb h1, pw_cell_below hb h2, pw_cell_below hb h3, pw_cell_below hb h4, pw_cell_below hb h5, pw_cell_below hb h6, pw_cell_below hb h7, pw_cell_below hb h8, pw_cell_below hb h9, h10.trans (hb.mono h10.size)⟩

set_option maxHeartbeats 1600000 in
set_option maxRecDepth 100000 in
theorem leaves_worst (A0 A1 A2 : Option Addr) (n0 c0 c1 n2 c2 : Nat) (ch : List S81) (x : S48) (w : World)
    (hr1 : Kd.C k81 w A1 ch.length ch) (h0 : 0 ≤ x.f0) (h1 : x.f0 < ch.length) (ha : 0 ≤ (rd_T81 ch x.f0).f1) (ha2 : (rd_T81 ch x.f0).f1 ≤ 100000)
    (hp : 1 ≤ x.f1.f0) (hp2 : x.f1.f0 ≤ 3000) (ht : 0 ≤ x.f2.f1) (ht2 : x.f2.f1 ≤ 3600) :
    Calls Tryd.prog 84 #[.agg #[.slice A0 n0 c0, .slice A1 ch.length c1, .slice A2 n2 c2], wv x, endV true] w fun e w' => e = .returned (.int .i64 (leaveT true ch x)) ∧ Below w.heap.size w w' := by
  obtain ⟨c, pc, wt⟩ := x
  obtain ⟨p0, p1⟩ := pc
  obtain ⟨t0, t1⟩ := wt
  dsimp only at h0 h1 ha ha2 hp hp2 ht ht2
  have hu36 := Tryd.underlying36
  have hu48 := Tryd.underlying48
  have hu81 := Tryd.underlying81
  have hu25 := Tryd.underlying25
  have hu103 := Tryd.underlying103
  have hu112 := Tryd.underlying112
  obtain ⟨ad, rfl, g0, g1, g2, g3⟩ := at_T81 hr1 c h0 h1
  have lg := World.block_lt_of_cell? w _ g1
  have HR := Lib.hid hr1
  clear hr1
  unfold wv endV fnV paceN timeN smokeN leaveT paceS timeS
  dsimp only
  obtain ⟨wy, hwy⟩ : ∃ wy, wy = (rd_T81 ch c).f1 := ⟨_, rfl⟩
  rw [← hwy] at g1 ha ha2 ⊢
  clear hwy g0 g2 g3
  have hd1 : 0 ≤ (wy + p0 - 1) / p0 := Int.ediv_nonneg (by omega) (by omega)
  have hd2 : (wy + p0 - 1) / p0 ≤ wy + p0 - 1 := Int.ediv_le_self _ (by omega)
  have HW := Lib.hid (show IntKind.i64.wrap (t1 + (wy + p0 - 1) / p0) = t1 + (wy + p0 - 1) / p0 from IntWalk.i64_in _ (by omega))
  clear hd1 hd2
  go_enter Tryd.func84, Tryd.ntmps84
  go_wp2
  obtain ⟨W0, hW0⟩ : ∃ W0, ((w.alloc (.cells #[.slice A0 n0 c0, .slice (some ad) ch.length c1, .slice A2 n2 c2] 103)).alloc (.cells #[.int .i64 c, .int .i64 p0, .int .i64 p1, .int .i64 t0, .int .i64 t1] 48)).alloc (.cells #[.func (.func 150) #[] #[], .func (.func 149) #[] #[], .func (.func 150) #[] #[]] 112) = W0 := ⟨_, rfl⟩
  have e1 : W0.cell? ⟨w.heap.size, 1, none⟩ = some (.slice (some ad) ch.length c1) := by rw [← hW0]; clear hW0; go_simp
  have e2 : W0.cell? ⟨w.heap.size + 1, 0, none⟩ = some (.int .i64 c) := by rw [← hW0]; clear hW0; go_simp
  have e3 : W0.cell? ⟨w.heap.size + 1, 1, none⟩ = some (.int .i64 p0) := by rw [← hW0]; clear hW0; go_simp
  have e4 : W0.cell? ⟨w.heap.size + 1, 2, none⟩ = some (.int .i64 p1) := by rw [← hW0]; clear hW0; go_simp
  have e5 : W0.cell? ⟨w.heap.size + 1, 3, none⟩ = some (.int .i64 t0) := by rw [← hW0]; clear hW0; go_simp
  have e6 : W0.cell? ⟨w.heap.size + 1, 4, none⟩ = some (.int .i64 t1) := by rw [← hW0]; clear hW0; go_simp
  have e7 : W0.cell? ⟨w.heap.size + 1 + 1, 0, none⟩ = some (.func (.func 150) #[] #[]) := by rw [← hW0]; clear hW0; go_simp
  have e8 : W0.cell? ⟨w.heap.size + 1 + 1, 1, none⟩ = some (.func (.func 149) #[] #[]) := by rw [← hW0]; clear hW0; go_simp
  have hB : Below w.heap.size w W0 := by rw [← hW0]; exact (((Below.refl _ _).alloc (Nat.le_refl _) _).alloc (by simp) _).alloc (by simp; omega) _
  have e9 : W0.cell? ⟨(ad.add (c.toNat * 4)).block, (ad.add (c.toNat * 4)).off + 1, none⟩ = some (.int .i64 wy) := pw_cell_below hB g1
  have hs : w.heap.size + 3 ≤ W0.heap.size := by rw [← hW0]; simp
  rw [hW0]
  clear hW0 g1
  have hS : W0.cell? ⟨w.heap.size, 1, none⟩ = some (.slice (some ad) ch.length c1) ∧ W0.cell? ⟨w.heap.size + 1, 0, none⟩ = some (.int .i64 c) ∧ W0.cell? ⟨w.heap.size + 1, 1, none⟩ = some (.int .i64 p0) ∧ W0.cell? ⟨w.heap.size + 1, 2, none⟩ = some (.int .i64 p1) ∧ W0.cell? ⟨w.heap.size + 1, 3, none⟩ = some (.int .i64 t0) ∧ W0.cell? ⟨w.heap.size + 1, 4, none⟩ = some (.int .i64 t1) ∧ W0.cell? ⟨w.heap.size + 1 + 1, 0, none⟩ = some (.func (.func 150) #[] #[]) ∧ W0.cell? ⟨w.heap.size + 1 + 1, 1, none⟩ = some (.func (.func 149) #[] #[]) ∧ W0.cell? ⟨(ad.add (c.toNat * 4)).block, (ad.add (c.toNat * 4)).off + 1, none⟩ = some (.int .i64 wy) ∧ Below w.heap.size w W0 := ⟨e1, e2, e3, e4, e5, e6, e7, e8, e9, hB⟩
  clear e1 e2 e3 e4 e5 e6 e7 e8 e9
  go_region_held3 (fun w' => w'.cell? ⟨w.heap.size, 1, none⟩ = some (.slice (some ad) ch.length c1) ∧ w'.cell? ⟨w.heap.size + 1, 0, none⟩ = some (.int .i64 c) ∧ w'.cell? ⟨w.heap.size + 1, 1, none⟩ = some (.int .i64 p0) ∧ w'.cell? ⟨w.heap.size + 1, 2, none⟩ = some (.int .i64 p1) ∧ w'.cell? ⟨w.heap.size + 1, 3, none⟩ = some (.int .i64 t0) ∧ w'.cell? ⟨w.heap.size + 1, 4, none⟩ = some (.int .i64 t1) ∧ w'.cell? ⟨w.heap.size + 1 + 1, 0, none⟩ = some (.func (.func 150) #[] #[]) ∧ w'.cell? ⟨w.heap.size + 1 + 1, 1, none⟩ = some (.func (.func 149) #[] #[]) ∧ w'.cell? ⟨(ad.add (c.toNat * 4)).block, (ad.add (c.toNat * 4)).off + 1, none⟩ = some (.int .i64 wy) ∧ Below w.heap.size w w')
    (first
      | exact LS_keep hS (below_drew (Below.refl _ _))
      | exact LS_keep (by assumption) hb1
      | go_keep)
    (first
      | (go_at_call 149; refine (hi_any _ _ _).mono ?_; rintro e w1 ⟨rfl, hw1⟩; have hb1 := below_of_alloc hw1; clear hw1)
      | (go_at_call 150; refine (lo_any _ _ _).mono ?_; rintro e w1 ⟨rfl, hw1⟩; have hb1 := below_of_alloc hw1; clear hw1)
      | (go_at_call 102; refine (steps_any _ _ _ (by omega) (by omega) (by omega) (by omega)).mono ?_; rintro e w1 ⟨rfl, rfl⟩))
  all_goals
    go_wp2
    go_ret
    refine ⟨by simp; exact HW.out, ?_⟩
    go_split_ands
    assumption
set_option maxHeartbeats 1600000 in
set_option maxRecDepth 100000 in
theorem leaves_best (A0 A1 A2 : Option Addr) (n0 c0 c1 n2 c2 : Nat) (ch : List S81) (x : S48) (w : World)
    (hr1 : Kd.C k81 w A1 ch.length ch) (h0 : 0 ≤ x.f0) (h1 : x.f0 < ch.length) (ha : 0 ≤ (rd_T81 ch x.f0).f1) (ha2 : (rd_T81 ch x.f0).f1 ≤ 100000)
    (hp : 1 ≤ x.f1.f1) (hp2 : x.f1.f1 ≤ 3000) (ht : 0 ≤ x.f2.f0) (ht2 : x.f2.f0 ≤ 3600) :
    Calls Tryd.prog 84 #[.agg #[.slice A0 n0 c0, .slice A1 ch.length c1, .slice A2 n2 c2], wv x, endV false] w fun e w' => e = .returned (.int .i64 (leaveT false ch x)) ∧ Below w.heap.size w w' := by
  obtain ⟨c, pc, wt⟩ := x
  obtain ⟨p0, p1⟩ := pc
  obtain ⟨t0, t1⟩ := wt
  dsimp only at h0 h1 ha ha2 hp hp2 ht ht2
  have hu36 := Tryd.underlying36
  have hu48 := Tryd.underlying48
  have hu81 := Tryd.underlying81
  have hu25 := Tryd.underlying25
  have hu103 := Tryd.underlying103
  have hu112 := Tryd.underlying112
  obtain ⟨ad, rfl, g0, g1, g2, g3⟩ := at_T81 hr1 c h0 h1
  have lg := World.block_lt_of_cell? w _ g1
  have HR := Lib.hid hr1
  clear hr1
  unfold wv endV fnV paceN timeN smokeN leaveT paceS timeS
  dsimp only
  obtain ⟨wy, hwy⟩ : ∃ wy, wy = (rd_T81 ch c).f1 := ⟨_, rfl⟩
  rw [← hwy] at g1 ha ha2 ⊢
  clear hwy g0 g2 g3
  have hd1 : 0 ≤ (wy + p1 - 1) / p1 := Int.ediv_nonneg (by omega) (by omega)
  have hd2 : (wy + p1 - 1) / p1 ≤ wy + p1 - 1 := Int.ediv_le_self _ (by omega)
  have HW := Lib.hid (show IntKind.i64.wrap (t0 + (wy + p1 - 1) / p1) = t0 + (wy + p1 - 1) / p1 from IntWalk.i64_in _ (by omega))
  clear hd1 hd2
  go_enter Tryd.func84, Tryd.ntmps84
  go_wp2
  obtain ⟨W0, hW0⟩ : ∃ W0, ((w.alloc (.cells #[.slice A0 n0 c0, .slice (some ad) ch.length c1, .slice A2 n2 c2] 103)).alloc (.cells #[.int .i64 c, .int .i64 p0, .int .i64 p1, .int .i64 t0, .int .i64 t1] 48)).alloc (.cells #[.func (.func 149) #[] #[], .func (.func 150) #[] #[], .func (.func 149) #[] #[]] 112) = W0 := ⟨_, rfl⟩
  have e1 : W0.cell? ⟨w.heap.size, 1, none⟩ = some (.slice (some ad) ch.length c1) := by rw [← hW0]; clear hW0; go_simp
  have e2 : W0.cell? ⟨w.heap.size + 1, 0, none⟩ = some (.int .i64 c) := by rw [← hW0]; clear hW0; go_simp
  have e3 : W0.cell? ⟨w.heap.size + 1, 1, none⟩ = some (.int .i64 p0) := by rw [← hW0]; clear hW0; go_simp
  have e4 : W0.cell? ⟨w.heap.size + 1, 2, none⟩ = some (.int .i64 p1) := by rw [← hW0]; clear hW0; go_simp
  have e5 : W0.cell? ⟨w.heap.size + 1, 3, none⟩ = some (.int .i64 t0) := by rw [← hW0]; clear hW0; go_simp
  have e6 : W0.cell? ⟨w.heap.size + 1, 4, none⟩ = some (.int .i64 t1) := by rw [← hW0]; clear hW0; go_simp
  have e7 : W0.cell? ⟨w.heap.size + 1 + 1, 0, none⟩ = some (.func (.func 149) #[] #[]) := by rw [← hW0]; clear hW0; go_simp
  have e8 : W0.cell? ⟨w.heap.size + 1 + 1, 1, none⟩ = some (.func (.func 150) #[] #[]) := by rw [← hW0]; clear hW0; go_simp
  have hB : Below w.heap.size w W0 := by rw [← hW0]; exact (((Below.refl _ _).alloc (Nat.le_refl _) _).alloc (by simp) _).alloc (by simp; omega) _
  have e9 : W0.cell? ⟨(ad.add (c.toNat * 4)).block, (ad.add (c.toNat * 4)).off + 1, none⟩ = some (.int .i64 wy) := pw_cell_below hB g1
  have hs : w.heap.size + 3 ≤ W0.heap.size := by rw [← hW0]; simp
  rw [hW0]
  clear hW0 g1
  have hS : W0.cell? ⟨w.heap.size, 1, none⟩ = some (.slice (some ad) ch.length c1) ∧ W0.cell? ⟨w.heap.size + 1, 0, none⟩ = some (.int .i64 c) ∧ W0.cell? ⟨w.heap.size + 1, 1, none⟩ = some (.int .i64 p0) ∧ W0.cell? ⟨w.heap.size + 1, 2, none⟩ = some (.int .i64 p1) ∧ W0.cell? ⟨w.heap.size + 1, 3, none⟩ = some (.int .i64 t0) ∧ W0.cell? ⟨w.heap.size + 1, 4, none⟩ = some (.int .i64 t1) ∧ W0.cell? ⟨w.heap.size + 1 + 1, 0, none⟩ = some (.func (.func 149) #[] #[]) ∧ W0.cell? ⟨w.heap.size + 1 + 1, 1, none⟩ = some (.func (.func 150) #[] #[]) ∧ W0.cell? ⟨(ad.add (c.toNat * 4)).block, (ad.add (c.toNat * 4)).off + 1, none⟩ = some (.int .i64 wy) ∧ Below w.heap.size w W0 := ⟨e1, e2, e3, e4, e5, e6, e7, e8, e9, hB⟩
  clear e1 e2 e3 e4 e5 e6 e7 e8 e9
  go_region_held3 (fun w' => w'.cell? ⟨w.heap.size, 1, none⟩ = some (.slice (some ad) ch.length c1) ∧ w'.cell? ⟨w.heap.size + 1, 0, none⟩ = some (.int .i64 c) ∧ w'.cell? ⟨w.heap.size + 1, 1, none⟩ = some (.int .i64 p0) ∧ w'.cell? ⟨w.heap.size + 1, 2, none⟩ = some (.int .i64 p1) ∧ w'.cell? ⟨w.heap.size + 1, 3, none⟩ = some (.int .i64 t0) ∧ w'.cell? ⟨w.heap.size + 1, 4, none⟩ = some (.int .i64 t1) ∧ w'.cell? ⟨w.heap.size + 1 + 1, 0, none⟩ = some (.func (.func 149) #[] #[]) ∧ w'.cell? ⟨w.heap.size + 1 + 1, 1, none⟩ = some (.func (.func 150) #[] #[]) ∧ w'.cell? ⟨(ad.add (c.toNat * 4)).block, (ad.add (c.toNat * 4)).off + 1, none⟩ = some (.int .i64 wy) ∧ Below w.heap.size w w')
    (first
      | exact LS_keep hS (below_drew (Below.refl _ _))
      | exact LS_keep (by assumption) hb1
      | go_keep)
    (first
      | (go_at_call 149; refine (hi_any _ _ _).mono ?_; rintro e w1 ⟨rfl, hw1⟩; have hb1 := below_of_alloc hw1; clear hw1)
      | (go_at_call 150; refine (lo_any _ _ _).mono ?_; rintro e w1 ⟨rfl, hw1⟩; have hb1 := below_of_alloc hw1; clear hw1)
      | (go_at_call 102; refine (steps_any _ _ _ (by omega) (by omega) (by omega) (by omega)).mono ?_; rintro e w1 ⟨rfl, rfl⟩))
  all_goals
    go_wp2
    go_ret
    refine ⟨by simp; exact HW.out, ?_⟩
    go_split_ands
    assumption

theorem leaves_any (b : Bool) (A0 A1 A2 : Option Addr) (n0 c0 c1 n2 c2 : Nat) (ch : List S81) (x : S48) (w : World)
    (hr1 : Kd.C k81 w A1 ch.length ch) (h0 : 0 ≤ x.f0) (h1 : x.f0 < ch.length) (ha : 0 ≤ (rd_T81 ch x.f0).f1) (ha2 : (rd_T81 ch x.f0).f1 ≤ 100000)
    (hp : 1 ≤ x.f1.f0) (hp1 : x.f1.f0 ≤ x.f1.f1) (hp2 : x.f1.f1 ≤ 3000) (ht : 0 ≤ x.f2.f0) (ht1 : x.f2.f0 ≤ x.f2.f1) (ht2 : x.f2.f1 ≤ 3600) :
    Calls Tryd.prog 84 #[.agg #[.slice A0 n0 c0, .slice A1 ch.length c1, .slice A2 n2 c2], wv x, endV b] w fun e w' => e = .returned (.int .i64 (leaveT b ch x)) ∧ Below w.heap.size w w' := by
  cases b
  · exact leaves_best A0 A1 A2 n0 c0 c1 n2 c2 ch x w hr1 h0 h1 ha ha2 (by omega) hp2 ht (by omega)
  · exact leaves_worst A0 A1 A2 n0 c0 c1 n2 c2 ch x w hr1 h0 h1 ha ha2 hp (by omega) (by omega) ht2
end Go.Proofs.YtdeaccbolnlgpaaDoor.X
