import Derived.Test.YtdeaccbolnlgpaaDoorX0
import Derived.Test.YtdeaccbolnlgpaaDoorXNA
namespace Go.Proofs.YtdeaccbolnlgpaaDoor.X
open Go.RowKit Go.Proofs.YtdeaccbolnlgpaaDoorW.PrintWords Go.Proofs.YtdeaccbolnlgpaaDoorW.PrintLast Go.Proofs.YtdeaccbolnlgpaaDoorW.PrintMore
attribute [local go_sem] max2_int min2_int max_two min_two max_three min_three max_four min_four   -- for this text's walks alone
set_option linter.unusedVariables false
set_option linter.unusedSimpArgs false

/-! ### cottonpadtop_topafter: function 49 -/
def cottonpadtop_topafter.l0 : Nat → Int → Int → List (S62) → List (S81) → List (S48) → Int → Int → Option ((List (S48)) × Bool)
 | 0, _, _, _, _, _, _, _ => none
 | k + 1, x0, x1, x3, x4, x8, x14, x15 => if x15 < x14 then (if 0 ≤ x15 then (if x15 < (x8.length : Int) then (cottonpadtop_topafter.l0 k x0 x1 x3 x4 (x8.set (x15 : Int).toNat (⟨(rd_T48 x8 x15).f0, (⟨(rd_T48 x8 x15).f1.f0, (rd_T48 x8 x15).f1.f1⟩ : S36), (⟨wrap64 (((rd_T48 x8 x15).f2.f0) + (wrap64 (60 * x0))), wrap64 (((rd_T48 x8 x15).f2.f1) + (wrap64 (60 * x1)))⟩ : S36)⟩ : S48)) x14 (wrap64 (x15 + 1))) else (none)) else (none)) else ((cottonpadref06_Check.f k x3 x4 x8).bind fun t1154 => (some (x8, (t1154 == 0))))
def cottonpadtop_topafter.f (k : Nat) (a0 : Int) (a1 : Int) (l2 : List (S48)) (l3 : List (S62)) (l4 : List (S81)) : Option ((List (S48)) × Bool) := (some (([] : List (S48)) : List (S48))).bind fun y1145 => (if y1145.length + l2.length < 3518437208883 then ((some (y1145 ++ l2 : List (S48))).bind fun y1148 => (cottonpadtop_topafter.l0 k a0 a1 l3 l4 y1148 (y1148.length : Int) 0)) else (none))
theorem cottonpadtop_topafter.mono_l : ∀ k, (∀ y0 y1 y2 y3 y4 y5 y6, LeO (cottonpadtop_topafter.l0 k y0 y1 y2 y3 y4 y5 y6) (cottonpadtop_topafter.l0 (k + 1) y0 y1 y2 y3 y4 y5 y6))
 | 0 => fun _ _ _ _ _ _ _ r h => by simp [cottonpadtop_topafter.l0] at h
 | k + 1 => by
  have ih0 := cottonpadtop_topafter.mono_l k
  ·intro y0 y1 y2 y3 y4 y5 y6
   unfold cottonpadtop_topafter.l0
   repeat' (with_reducible first | exact ih0 .. | exact cottonpadref06_Check.mono .. | exact LeO.refl .. | exact LeO.none .. | refine LeO.ite ?_ ?_ | refine LeO.bind ?_ (fun _ => ?_))
theorem cottonpadtop_topafter.mono : ∀ a0 a1 a2 a3 a4 k, LeO (cottonpadtop_topafter.f k a0 a1 a2 a3 a4) (cottonpadtop_topafter.f (k + 1) a0 a1 a2 a3 a4) := by
 intro a0 a1 a2 a3 a4 k
 have ih0 := cottonpadtop_topafter.mono_l k
 unfold cottonpadtop_topafter.f
 repeat' (with_reducible first | exact ih0 .. | exact cottonpadref06_Check.mono .. | exact LeO.refl .. | exact LeO.none .. | refine LeO.ite ?_ ?_ | refine LeO.bind ?_ (fun _ => ?_))
def cottonpadtop_topafter.T5 : Bool × List (List Nat × List Nat) := (true, [([], []), ([], []), ([], []), ([], []), ([2, 3], [2, 3]), ([4], [4]), ([5], [5]), ([6], [6]), ([], []), ([8], [8]), ([7, 9], [7, 9]), ([], []), ([], []), ([11, 12], [11, 12]), ([13], [13]), ([14], [14]), ([15], [15]), ([], []), ([17], [17]), ([16, 18], [16, 18]), ([10, 19], [10, 19]), ([0, 1, 0, 1, 2, 3, 4, 5, 6, 7, 8, 9, 10, 11, 12, 13, 14, 15, 16, 17, 18, 19, 20], [0, 1]), ([21, 0, 1, 2, 3, 4, 5, 6, 7, 8, 9, 10, 11, 12, 13, 14, 15, 16, 17, 18, 19, 20], [21]), ([22, 20, 0, 1, 2, 3, 4, 5, 6, 7, 8, 9, 10, 11, 12, 13, 14, 15, 16, 17, 18, 19, 20], [20, 22])])
def cottonpadtop_topafter.B5 : List Nat := [0, 0, 0, 0, 12, 28, 60, 124, 0, 256, 1020, 0, 0, 6144, 14336, 30720, 63488, 0, 131072, 522240, 1048572, 2097151, 4194303, 8388607]
theorem cottonpadtop_topafter.tab5 : rtab .any (opsOf Tryd.f49 5) = cottonpadtop_topafter.T5 := by kernel_rfl
theorem cottonpadtop_topafter.bits5 : waitsOk cottonpadtop_topafter.T5.2 cottonpadtop_topafter.B5 = true := by kernel_rfl
set_option maxHeartbeats 8000000 in
set_option maxRecDepth 100000 in
theorem cottonpadtop_topafter.calls (k : Nat) (a0 : Int) (a1 : Int) (A2 : Option Addr) (c2 : Nat) (l2 : List (S48)) (A3 : Option Addr) (c3 : Nat) (l3 : List (S62)) (A4 : Option Addr) (c4 : Nat) (l4 : List (S81)) (r1 : List (S48)) (r2 : Bool) (w : World) (hr2 : Kd.C k48 w A2 l2.length l2) (hc2 : l2.length ≤ c2) (hr3 : Kd.C k62 w A3 l3.length l3) (hc3 : l3.length ≤ c3) (hr4 : Kd.C k81 w A4 l4.length l4) (hc4 : l4.length ≤ c4) (gw gb : Nat) (hgw : w.heap[gw]? = some (.cells #[.slice A2 l2.length c2] 26 (0, 0))) (hgb : w.heap[gb]? = some (.cells #[.slice A3 l3.length c3, .slice A4 l4.length c4] 25 (0, 0))) (h : cottonpadtop_topafter.f k a0 a1 l2 l3 l4 = some (r1, r2)) :
  Calls Tryd.prog 49 #[.int .i64 a0, .int .i64 a1, .pointer (some ⟨gw, 0, none⟩), .pointer (some ⟨gb, 0, none⟩)] w fun e w' => ∃ v0_ : Value, e = .returned (.tuple #[v0_, .bool r2]) ∧ Kd.R k48 48 w' w.heap.size (fun _ => True) v0_ r1 ∧ Below w.heap.size w w' := by
 have hu36 := Tryd.underlying36
 have hu25 := Tryd.underlying25
 have HR2 := Aside0.mk hr2
 have HC2 := Aside0.mk hc2
 clear hr2 hc2
 have HR3 := Aside0.mk hr3
 have HC3 := Aside0.mk hc3
 clear hr3 hc3
 have HR4 := Aside0.mk hr4
 have HC4 := Aside0.mk hc4
 clear hr4 hc4
 have hu26 := Tryd.underlying26
 have hzw : w.cell? ⟨gw, 0, none⟩ = some (.slice A2 l2.length c2) := blk_cell hgw 0
 have hzb0 : w.cell? ⟨gb, 0, none⟩ = some (.slice A3 l3.length c3) := blk_cell hgb 0
 have hzb1 : w.cell? ⟨gb, 1, none⟩ = some (.slice A4 l4.length c4) := blk_cell hgb 1
 clear hgw hgb
 have HZW := Aside0.mk hzw
 have HZ0 := Aside0.mk hzb0
 have HZ1 := Aside0.mk hzb1
 have HB := Aside0.mk (Below.refl w.heap.size w)
 have H : ((some (([] : List (S48)) : List (S48))).bind fun y1145 => (if y1145.length + l2.length < 3518437208883 then ((some (y1145 ++ l2 : List (S48))).bind fun y1148 => (cottonpadtop_topafter.l0 k a0 a1 l3 l4 y1148 (y1148.length : Int) 0)) else (none))) = some (r1, r2) := h
 clear h
 obtain ⟨y1145, hy1145⟩ : ∃ y_ : List (S48), y_ = (([] : List (S48))) := ⟨_, rfl⟩
 replace H : (if y1145.length + l2.length < 3518437208883 then ((some (y1145 ++ l2 : List (S48))).bind fun y1148 => (cottonpadtop_topafter.l0 k a0 a1 l3 l4 y1148 (y1148.length : Int) 0)) else (none)) = some (r1, r2) := by first | (rw [hy1145]; with_reducible exact H) | (have H2_ := (Option.bind_some _ _).symm.trans H; rw [hy1145]; with_reducible exact H2_) | (have H2_ := (Option.bind_some _ _).symm.trans H; with_reducible exact H2_) | with_reducible exact H | (rw [hy1145]; exact H) | exact H
 have Ny1145 := Aside0.mk hy1145
 clear hy1145
 by_cases c6 : y1145.length + l2.length < 3518437208883
 ·rw [if_pos c6] at H
  have LMc6 := Aside0.mk c6
  clear c6
  obtain ⟨y1148, hy1148⟩ : ∃ y_ : List (S48), y_ = (y1145 ++ l2) := ⟨_, rfl⟩
  replace H : (cottonpadtop_topafter.l0 k a0 a1 l3 l4 y1148 (y1148.length : Int) 0) = some (r1, r2) := by first | (rw [hy1148]; with_reducible exact H) | (have H2_ := (Option.bind_some _ _).symm.trans H; rw [hy1148]; with_reducible exact H2_) | (have H2_ := (Option.bind_some _ _).symm.trans H; with_reducible exact H2_) | with_reducible exact H | (rw [hy1148]; exact H) | exact H
  have Ny1148 := Aside0.mk hy1148
  clear hy1148
  have H' := Aside0.mk H
  clear H
  go_enter Tryd.func49, Tryd.ntmps49
  have hzw_ := ce_ HB HZW.out
  have hzb0_ := ce_ HB HZ0.out
  have hzb1_ := ce_ HB HZ1.out
  go_wp2_with (first | ((with_reducible refine gate_dst (N := 10) rfl ?_); refine Kd.R_lit k48 _ 48 ?hg (N := 10) ?hd (xs := ([] : List (S48))) (inner := []) (ok := fun _ => True) (okp := fun _ => True) ?hr ?hp (fun _ hk => hk) trivial (Below.refl _ _) (Nat.le_refl _) (by simp) ?_; (case hd => rfl); (case hg => rfl); (case hr => exact gs_); (case hp => exact (Reps.none _ _)); intro v1146 w7 ho8 hb hg_ hnew_; clear hg_ hnew_; (first | rw [← Ny1145.out] at ho8 | (simp only [Int.reduceToNat] at ho8; rw [← Ny1145.out] at ho8)); have n0_ := Aside0.mk (Kd.R_lower ho8 (below_size (be_ HB))); have n1_ := bs_ HB hb; clear HB; have HO1147 := n0_; have HB := n1_; have hzw_ := ce_ HB HZW.out; have hzb0_ := ce_ HB HZ0.out; have hzb1_ := ce_ HB HZ1.out; clear n0_ n1_; clear hb ho8) | ((with_reducible refine gate_builtin (b := .append) (xs := #[.tmp 10, .tmp 11]) rfl ?_); at_builtin; refine Kd.R_append_rows k48 (w0 := w) w.heap.size rfl (.tmp 10) (.tmp 11) 26 48 (.agg #[(.int .i64 0), (.int .i64 0), (.int .i64 0), (.int .i64 0), (.int .i64 0)]) 40 rfl Tryd.underlying26 info48 rfl (by decide) (by omega) v1146 y1145 l2 _ _ _ (fun _ => True) (fun _ => False) rfl rfl ?aO ?aR (fun _ _ h => h) (fun _ h => h.elim) ?aF ?aB ?aS ?aL ?_; (case aR => exact kc_ HR2 HB); (case aB => exact (be_ HB)); (case aF => exact (fun _ _ => trivial)); (case aO => exact (ro_ HO1147)); (case aS => exact (below_size (be_ HB))); (case aL => have := LMc6.out; omega); intro v1149 w9 ho hb hg hat; rw [← Ny1148.out] at ho; have n0_ := Aside0.mk (hb); have n1_ := Aside0.mk (ho); clear HB; clear HO1147; have HB := n0_; have hzw_ := ce_ HB HZW.out; have hzb0_ := ce_ HB HZ0.out; have hzb1_ := ce_ HB HZ1.out; have HO1150 := n1_; clear n0_ n1_; clear ho hb hg hat; obtain ⟨Ao10, co10, eo10⟩ := Kd.R_slice HO1150.out; subst eo10))
  go_loopg [15] k (fun kq v15 w' => ∃ (x8_1 : List (S48)) (x15_1 : Int), v15 = .int .i64 x15_1 ∧ Aside0 (cottonpadtop_topafter.l0 kq a0 a1 l3 l4 x8_1 (y1148.length : Int) x15_1 = some (r1, r2)) ∧ Aside0 (kq ≤ k) ∧ Aside0 (Kd.R k48 48 w' w.heap.size (fun _ => True) (.slice Ao10 y1148.length co10) x8_1) ∧ Aside0 (Below w.heap.size w w'))
  case atStart => exact ⟨(y1148), (0), (by first | rfl | (simp; done) | (simp [*]; done)), H', ⟨Nat.le_refl _⟩, ⟨by (with_reducible repeat (first | apply Kd.R_alloc | apply Kd.R_drewN | apply Kd.R_drew)); exact HO1150.out⟩, ⟨be_ HB⟩⟩
  case round =>
   clear H'
   try clear c2
   try clear p2
   try clear c3
   try clear c4
   try clear c6
   obtain ⟨x8_1, x15_1, rfl, HA, HK1, HO_8, HB⟩ := hrel
   have hl8_1 := (Kd.R_reads' HO_8.out).1
   rw [hl8_1] at HO_8
   (try simp only [hl8_1])
   cases gk with
   | zero => exact absurd HA.out (by simp [cottonpadtop_topafter.l0])
   | succ k1 =>
    have H := HA.out
    clear HA
    simp only [cottonpadtop_topafter.l0] at H
    by_cases c11 : x15_1 < (y1148.length : Int)
    ·rw [if_pos c11] at H
     have c11b0 : decide (x15_1 < (y1148.length : Int)) = true := decide_eq_true c11
     clear c11
     by_cases c12 : 0 ≤ x15_1
     ·rw [if_pos c12] at H
      have c12b0 : decide (0 ≤ x15_1) = true := decide_eq_true c12
      clear c12
      by_cases c13 : x15_1 < (x8_1.length : Int)
      ·rw [if_pos c13] at H
       have c13b0 : decide (x15_1 < (x8_1.length : Int)) = true := decide_eq_true c13
       clear c13
       obtain ⟨y1153, hy1153⟩ : ∃ y_ : List (S48), y_ = (x8_1.set (x15_1 : Int).toNat (⟨(rd_T48 x8_1 x15_1).f0, (⟨(rd_T48 x8_1 x15_1).f1.f0, (rd_T48 x8_1 x15_1).f1.f1⟩ : S36), (⟨wrap64 (((rd_T48 x8_1 x15_1).f2.f0) + (wrap64 (60 * a0))), wrap64 (((rd_T48 x8_1 x15_1).f2.f1) + (wrap64 (60 * a1)))⟩ : S36)⟩ : S48)) := ⟨_, rfl⟩
       replace H : (cottonpadtop_topafter.l0 k1 a0 a1 l3 l4 y1153 (y1148.length : Int) (wrap64 (x15_1 + 1))) = some (r1, r2) := by first | (rw [hy1153]; with_reducible exact H) | (have H2_ := (Option.bind_some _ _).symm.trans H; rw [hy1153]; with_reducible exact H2_) | (have H2_ := (Option.bind_some _ _).symm.trans H; with_reducible exact H2_) | with_reducible exact H | (rw [hy1153]; exact H) | exact H
       have Ny1153 := Aside0.mk hy1153
       clear hy1153
       have H' := Aside0.mk H
       clear H
       have hzw_ := ce_ HB HZW.out
       have hzb0_ := ce_ HB HZ0.out
       have hzb1_ := ce_ HB HZ1.out
       try go_wp2
       replace HO_8 := Aside0.mk (Kd.R_drew HO_8.out)
       replace HB := Aside0.mk (below_drew1 HB.out)
       have p1151 : 0 ≤ (x15_1 : Int) := of_decide_eq_true as_
       have q1151 : x15_1 < (x8_1.length : Int) := of_decide_eq_true as_
       obtain ⟨ad1151, e1151, hx1151_0, hx1151_1, hx1151_2, hx1151_3, hx1151_4⟩ := at_T48 (Kd.R_reads' HO_8.out).2.2 x15_1 p1151 q1151
       cases e1151
       replace p1151 := eq_true p1151
       replace q1151 := eq_true q1151
       have p1152 : 0 ≤ (x15_1 : Int) := of_decide_eq_true as_
       have q1152 : x15_1 < (x8_1.length : Int) := of_decide_eq_true as_
       obtain ⟨ad1152, e1152, hx1152_0, hx1152_1, hx1152_2, hx1152_3, hx1152_4⟩ := at_T48 (Kd.R_reads' HO_8.out).2.2 x15_1 p1152 q1152
       obtain rfl : ad1151 = ad1152 := (by injection e1152)
       replace p1152 := eq_true p1152
       replace q1152 := eq_true q1152
       have p14 : 0 ≤ (x15_1 : Int) := of_decide_eq_true as_
       have q14 : (x15_1 : Int) < ((x8_1.length : Int) : Int) := of_decide_eq_true as_
       obtain ⟨go14, co14, eo14, gb14, gl14, cl14, HG14⟩ := Kd.R_form HO_8.out (by omega)
       (first | cases eo14 | (injection eo14 with ea_ en_ ec_; (first | subst ea_ | (injection ea_ with ea_; subst ea_)); subst ec_; clear en_))
       have GB14 := Aside0.mk gb14
       have GG14 := Aside0.mk HG14
       clear gb14 gl14 HG14
       (first | simp only [add_plain] at hx1151_0 | skip)
       (first | simp only [add_plain] at hx1151_1 | skip)
       (first | simp only [add_plain] at hx1151_2 | skip)
       (first | simp only [add_plain] at hx1151_3 | skip)
       (first | simp only [add_plain] at hx1151_4 | skip)
       (first | simp only [add_plain] at hx1152_0 | skip)
       (first | simp only [add_plain] at hx1152_1 | skip)
       (first | simp only [add_plain] at hx1152_2 | skip)
       (first | simp only [add_plain] at hx1152_3 | skip)
       (first | simp only [add_plain] at hx1152_4 | skip)
       obtain ⟨ce14, hcl14, hM14, hcc14, hfr14⟩ := Kd.R_elem HO_8.out z48 (x15_1 : Int) p14 q14
       obtain rfl := k48_openM hM14
       have hx14_0 : World.cell? _ ⟨go14, (x15_1 : Int).toNat * 5, none⟩ = some (.int .i64 ((rd_T48 x8_1 x15_1).f0)) := hcc14 0 _ rfl
       have hx14_1 : World.cell? _ ⟨go14, (x15_1 : Int).toNat * 5 + 1, none⟩ = some (.int .i64 ((rd_T48 x8_1 x15_1).f1.f0)) := hcc14 1 _ rfl
       have hx14_2 : World.cell? _ ⟨go14, (x15_1 : Int).toNat * 5 + 2, none⟩ = some (.int .i64 ((rd_T48 x8_1 x15_1).f1.f1)) := hcc14 2 _ rfl
       have hx14_3 : World.cell? _ ⟨go14, (x15_1 : Int).toNat * 5 + 3, none⟩ = some (.int .i64 ((rd_T48 x8_1 x15_1).f2.f0)) := hcc14 3 _ rfl
       have hx14_4 : World.cell? _ ⟨go14, (x15_1 : Int).toNat * 5 + 4, none⟩ = some (.int .i64 ((rd_T48 x8_1 x15_1).f2.f1)) := hcc14 4 _ rfl
       have hf14_0 : World.frozen? _ ⟨go14, (x15_1 : Int).toNat * 5, none⟩ = false := hfr14 0
       have hf14_1 : World.frozen? _ ⟨go14, (x15_1 : Int).toNat * 5 + 1, none⟩ = false := hfr14 1
       have hf14_2 : World.frozen? _ ⟨go14, (x15_1 : Int).toNat * 5 + 2, none⟩ = false := hfr14 2
       have hf14_3 : World.frozen? _ ⟨go14, (x15_1 : Int).toNat * 5 + 3, none⟩ = false := hfr14 3
       have hf14_4 : World.frozen? _ ⟨go14, (x15_1 : Int).toNat * 5 + 4, none⟩ = false := hfr14 4
       clear hcl14 hcc14 hfr14 hM14
       replace p14 := eq_true p14
       replace q14 := eq_true q14
       obtain ⟨ce16, hcl16, hM16, hcc16, hfr16⟩ := Kd.R_elem HO_8.out z48 (x15_1 : Int) (of_decide_eq_true as_) (by have h_ : (x15_1 : Int) < ((x8_1.length : Int) : Int) := of_decide_eq_true as_; first | exact h_ | (have e_ := (Kd.R_reads' HO_8.out).1; omega) | simpa using h_)
       obtain rfl := k48_openM hM16
       have HP16 := (Kd.R_seg HO_8.out (x15_1 : Int) (of_decide_eq_true as_) (by have h_ : (x15_1 : Int) < ((x8_1.length : Int) : Int) := of_decide_eq_true as_; first | exact h_ | (have e_ := (Kd.R_reads' HO_8.out).1; omega) | simpa using h_) (seg := [.int .i64 (wrap64 (((rd_T48 x8_1 x15_1).f2.f0) + (wrap64 (60 * a0)))), .int .i64 (wrap64 (((rd_T48 x8_1 x15_1).f2.f1) + (wrap64 (60 * a1))))]) (j := 3) hcl16 hcc16 (show 5 ≤ 5 from by decide) (x' := (⟨(rd_T48 x8_1 x15_1).f0, (⟨(rd_T48 x8_1 x15_1).f1.f0, (rd_T48 x8_1 x15_1).f1.f1⟩ : S36), (⟨wrap64 (((rd_T48 x8_1 x15_1).f2.f0) + (wrap64 (60 * a0))), wrap64 (((rd_T48 x8_1 x15_1).f2.f1) + (wrap64 (60 * a1)))⟩ : S36)⟩ : S48)) (k48_mkM _ _ _ (⟨(rd_T48 x8_1 x15_1).f0, (⟨(rd_T48 x8_1 x15_1).f1.f0, (rd_T48 x8_1 x15_1).f1.f1⟩ : S36), (⟨wrap64 (((rd_T48 x8_1 x15_1).f2.f0) + (wrap64 (60 * a0))), wrap64 (((rd_T48 x8_1 x15_1).f2.f1) + (wrap64 (60 * a1)))⟩ : S36)⟩ : S48) ) (fun _ hk => hk)).1
       rw [← Ny1153.out] at HP16
       have HQ16 := Aside0.mk HP16
       clear hcl16 hcc16 hfr16 hM16 HP16
       refine start_ (n := 24) (S := fun w' => w'.cell? ⟨go14, ((x15_1).toNat * 5), none⟩ = some (.int .i64 ((rd_T48 x8_1 x15_1).f0)) ∧ w'.cell? ⟨go14, ((x15_1).toNat * 5) + 1, none⟩ = some (.int .i64 ((rd_T48 x8_1 x15_1).f1.f0)) ∧ w'.cell? ⟨go14, ((x15_1).toNat * 5) + 2, none⟩ = some (.int .i64 ((rd_T48 x8_1 x15_1).f1.f1)) ∧ w'.cell? ⟨go14, ((x15_1).toNat * 5) + 3, none⟩ = some (.int .i64 ((rd_T48 x8_1 x15_1).f2.f0)) ∧ w'.cell? ⟨go14, ((x15_1).toNat * 5) + 4, none⟩ = some (.int .i64 ((rd_T48 x8_1 x15_1).f2.f1)) ∧ w'.cell? ⟨go14, ((x15_1).toNat * 5), none⟩ = some (.int .i64 ((rd_T48 x8_1 x15_1).f0)) ∧ w'.cell? ⟨go14, ((x15_1).toNat * 5) + 1, none⟩ = some (.int .i64 ((rd_T48 x8_1 x15_1).f1.f0)) ∧ w'.cell? ⟨go14, ((x15_1).toNat * 5) + 2, none⟩ = some (.int .i64 ((rd_T48 x8_1 x15_1).f1.f1)) ∧ w'.cell? ⟨go14, ((x15_1).toNat * 5) + 3, none⟩ = some (.int .i64 ((rd_T48 x8_1 x15_1).f2.f0)) ∧ w'.cell? ⟨go14, ((x15_1).toNat * 5) + 4, none⟩ = some (.int .i64 ((rd_T48 x8_1 x15_1).f2.f1))) (ds := [23]) (bm_ 24 0) (by kernel_rfl) rfl rfl ⟨hx1151_0, hx1151_1, hx1151_2, hx1151_3, hx1151_4, hx1152_0, hx1152_1, hx1152_2, hx1152_3, hx1152_4⟩ (fun hHeld => ?_); refine with_tabW cottonpadtop_topafter.tab5 cottonpadtop_topafter.bits5 (fun HT_ HW_ => ?_)
       generalize wr.drew = w15 at HO_8 HB GG14 HQ16 hf14_0 hf14_1 hf14_2 hf14_3 hf14_4 hx1151_0 hx1151_1 hx1151_2 hx1151_3 hx1151_4 hx1152_0 hx1152_1 hx1152_2 hx1152_3 hx1152_4 hx14_0 hx14_1 hx14_2 hx14_3 hx14_4 hHeld ⊢
       refine pr_ 0 18 24 1 HT_ rfl rfl ?_
       refine pr_ 1 19 24 3 HT_ rfl rfl ?_
       refine pr_ 2 20 24 7 HT_ rfl rfl ?_
       refine pr_ 3 21 24 15 HT_ rfl rfl ?_
       refine pr_ 4 22 24 31 HT_ rfl rfl ?_
       refine pr_ 5 23 24 63 HT_ rfl rfl ?_
       refine pr_ 6 24 24 127 HT_ rfl rfl ?_
       refine pr_ 8 26 24 383 HT_ rfl rfl ?_
       refine pr_ 9 27 24 895 HT_ rfl rfl ?_
       refine pr_ 11 29 24 2943 HT_ rfl rfl ?_
       refine pr_ 12 30 24 7039 HT_ rfl rfl ?_
       refine pr_ 13 31 24 15231 HT_ rfl rfl ?_
       refine pr_ 14 32 24 31615 HT_ rfl rfl ?_
       refine pr_ 15 33 24 64383 HT_ rfl rfl ?_
       refine pr_ 17 35 24 195455 HT_ rfl rfl ?_
       refine pr_ 18 36 24 457599 HT_ rfl rfl ?_
       refine ta_ 7 25 24 457727 HT_ HW_ rfl rfl hHeld ?_
       refine pr_ 10 28 24 458751 HT_ rfl rfl ?_
       refine ta_ 16 34 24 524287 HT_ HW_ rfl rfl hHeld ?_
       refine pr_ 19 37 24 1048575 HT_ rfl rfl ?_
       refine pr_ 20 38 24 2097151 HT_ rfl rfl ?_
       refine pr_ 21 39 24 4194303 HT_ rfl rfl ?_
       refine pr_ 22 40 24 8388607 HT_ rfl rfl ?_
       refine last_ (i := 23) (N := none) (bm_ 24 16777215) rfl rfl (one_of HT_.out (by kernel_rfl)) (by decide) (fun K hK => ?_)
       refine skip_ (w1 := ?_) (by rfl) rfl ?_ ?_
       rotate_left
       ·go_simp
        rfl
       refine hK.out _ _ ?_
       clear hK K
       refine done_ (done_of HT_.out (by kernel_rfl)) ?_
       have hzw_ := ce_ HB HZW.out
       have hzb0_ := ce_ HB HZ0.out
       have hzb1_ := ce_ HB HZ1.out
       try go_wp2
       (try simp only [← hl8_1])
       go_roundg k1
       case measure => have := HK1.out; omega
       case rel => exact ⟨(y1153), (wrap64 (x15_1 + 1)), (by first | rfl | (simp; done) | (simp [*]; done)), H', ⟨by have := HK1.out; omega⟩, ⟨by (try simp only [hl8_1]); (with_reducible repeat (first | apply Kd.R_alloc | apply Kd.R_drewN | apply Kd.R_drew)); exact HQ16.out⟩, ⟨by repeat (first | (with_reducible first | exact HB.out | apply below_alloc | apply pw_below_drewN | apply below_drew1 | refine below_set ?_ GB14.out | refine below_set ?_ GB14.out) | exact HB.out)⟩⟩
      ·rw [if_neg c13] at H
       exact absurd H (by simp)
     ·rw [if_neg c12] at H
      exact absurd H (by simp)
    ·rw [if_neg c11] at H
     have c11b0 : decide (x15_1 < (y1148.length : Int)) = false := decide_eq_false c11
     (try have c11b0z : decide (x15_1 < (x8_1.length : Int)) = false := by rw [← hl8_1]; exact c11b0)
     clear c11
     replace H := Option.bind_eq_some_iff.mp H
     obtain ⟨t1154, A170, H⟩ := H
     replace H : (some (x8_1, (t1154 == 0))) = some (r1, r2) := H
     have A17 := Aside0.mk A170
     clear A170
     simp only [Option.some.injEq, Prod.mk.injEq] at H
     obtain ⟨rfl, rfl⟩ := H
     have hzw_ := ce_ HB HZW.out
     have hzb0_ := ce_ HB HZ0.out
     have hzb1_ := ce_ HB HZ1.out
     go_wp2_with (first | ((with_reducible refine gate_callee (f := 22) rfl ?_); refine goesL_ (some 45) rfl rfl Tryd.func22 (by kernel_rfl) rfl #[.agg #[.slice A3 l3.length c3, .slice A4 l4.length c4], .slice Ao10 x8_1.length co10] rfl ls_ ?_; (with_reducible refine (cottonpadref06_Check.calls k1 _ _ l3 _ _ l4 _ _ x8_1 t1154 _ ?side1 ?side2 ?side3 ?side4 ?side5 ?side6 A17.out).mono ?_); (case side1 => exact kc_ HR3 HB); (case side2 => exact HC3.out); (case side3 => exact kc_ HR4 HB); (case side4 => exact HC4.out); (case side5 => exact kd_ (Kd.R_reads' HO_8.out).2.2); (case side6 => exact (Kd.R_reads' HO_8.out).2.1); rintro e w18 ⟨rfl, hb⟩; refine ⟨_, rfl, ?_⟩; have n0_ := rb_ HO_8 hb; have n1_ := bs_ HB hb; clear HO_8; clear HB; have HO_8 := n0_; have HB := n1_; have hzw_ := ce_ HB HZW.out; have hzb0_ := ce_ HB HZ0.out; have hzb1_ := ce_ HB HZ1.out; clear n0_ n1_; (try clear hb); (try clear hb2); (try clear hk); (try clear hi)))
     go_ret2
     exact ⟨_, rf_, by (with_reducible repeat (first | apply Kd.R_alloc | apply Kd.R_drewN | apply Kd.R_drew)); exact HO_8.out, be_ HB⟩
 ·rw [if_neg c6] at H
  exact absurd H (by simp)

end Go.Proofs.YtdeaccbolnlgpaaDoor.X
