import Derived.Test.YtdeaccbolnlgpaaDoorX0
import Derived.Test.YtdeaccbolnlgpaaDoorXN16
import Derived.Test.YtdeaccbolnlgpaaDoorXF44
namespace Go.Proofs.YtdeaccbolnlgpaaDoor.X
open Go.RowKit Go.Proofs.YtdeaccbolnlgpaaDoorW.PrintWords Go.Proofs.YtdeaccbolnlgpaaDoorW.PrintLast Go.Proofs.YtdeaccbolnlgpaaDoorW.PrintMore
attribute [local go_sem] max2_int min2_int max_two min_two max_three min_three max_four min_four   -- for this text's walks alone
set_option linter.unusedVariables false
set_option linter.unusedSimpArgs false

/-! ### cottonpadlaw06_fixed: function 44 -/
mutual
def cottonpadlaw06_fixedW.l0 : Nat → Bool → List (S48) → Int → Int → List (S62) → List (S81) → Option ((List (S62)) × (List (S81)) × (List (S48)))
 | 0, _, _, _, _, _, _ => none
 | k + 1, x2, x9, x24, x25, x712000, x712001 => if x25 < x24 then (if 0 ≤ x25 then (if x25 < (x712000.length : Int) then ((cottonpadlaw06_fixedlate.f x2 ((rd_T62 x712000 x25).f2.f0) ((rd_T62 x712000 x25).f2.f1)).bind fun bt713 => ((cottonpadlaw06_fixedearly.f x2 ((rd_T62 x712000 x25).f3.f0) ((rd_T62 x712000 x25).f3.f1)).bind fun bt716 => ((some (x712000.set (x25 : Int).toNat (⟨(rd_T62 x712000 x25).f0, (rd_T62 x712000 x25).f1, (⟨bt713.1, bt713.2⟩ : S36), (⟨(rd_T62 x712000 x25).f3.f0, (rd_T62 x712000 x25).f3.f1⟩ : S36)⟩ : S62) : List (S62))).bind fun y718 => (cottonpadlaw06_fixedW.l0 k x2 x9 x24 (wrap64 (x25 + 1)) (y718.set (x25 : Int).toNat (⟨(rd_T62 y718 x25).f0, (rd_T62 y718 x25).f1, (⟨(rd_T62 y718 x25).f2.f0, (rd_T62 y718 x25).f2.f1⟩ : S36), (⟨bt716.1, bt716.2⟩ : S36)⟩ : S62)) x712001)))) else (none)) else (none)) else (cottonpadlaw06_fixedW.l1 k x2 x9 (x712001.length : Int) 0 x712000 x712001)
def cottonpadlaw06_fixedW.l1 : Nat → Bool → List (S48) → Int → Int → List (S62) → List (S81) → Option ((List (S62)) × (List (S81)) × (List (S48)))
 | 0, _, _, _, _, _, _ => none
 | k + 1, x2, x9, x57, x58, x712000, x712001 => if x58 < x57 then (if 0 ≤ x58 then (if x58 < (x712001.length : Int) then ((cottonpadlaw06_fixedearly.f x2 ((rd_T81 x712001 x58).f2.f0) ((rd_T81 x712001 x58).f2.f1)).bind fun bt721 => (cottonpadlaw06_fixedW.l1 k x2 x9 x57 (wrap64 (x58 + 1)) x712000 (x712001.set (x58 : Int).toNat (⟨(rd_T81 x712001 x58).f0, (rd_T81 x712001 x58).f1, (⟨bt721.1, bt721.2⟩ : S36)⟩ : S81)))) else (none)) else (none)) else (cottonpadlaw06_fixedW.l2 k x2 x9 (x9.length : Int) 0 x712000 x712001)
def cottonpadlaw06_fixedW.l2 : Nat → Bool → List (S48) → Int → Int → List (S62) → List (S81) → Option ((List (S62)) × (List (S81)) × (List (S48)))
 | 0, _, _, _, _, _, _ => none
 | k + 1, x2, x9, x76, x77, x712000, x712001 => if x77 < x76 then (if 0 ≤ x77 then (if x77 < (x9.length : Int) then ((cottonpadlaw06_fixedearly.f x2 ((rd_T48 x9 x77).f1.f0) ((rd_T48 x9 x77).f1.f1)).bind fun bt725 => ((cottonpadlaw06_fixedlate.f x2 ((rd_T48 x9 x77).f2.f0) ((rd_T48 x9 x77).f2.f1)).bind fun bt728 => ((some (x9.set (x77 : Int).toNat (⟨(rd_T48 x9 x77).f0, (⟨bt725.1, bt725.2⟩ : S36), (⟨(rd_T48 x9 x77).f2.f0, (rd_T48 x9 x77).f2.f1⟩ : S36)⟩ : S48) : List (S48))).bind fun y730 => (cottonpadlaw06_fixedW.l2 k x2 (y730.set (x77 : Int).toNat (⟨(rd_T48 y730 x77).f0, (⟨(rd_T48 y730 x77).f1.f0, (rd_T48 y730 x77).f1.f1⟩ : S36), (⟨bt728.1, bt728.2⟩ : S36)⟩ : S48)) x76 (wrap64 (x77 + 1)) x712000 x712001)))) else (none)) else (none)) else (some (x712000, x712001, x9))
end
def cottonpadlaw06_fixedW.f (k : Nat) (l0_0 : List (S62)) (l0_1 : List (S81)) (l1 : List (S48)) (a2 : Bool) : Option ((List (S62)) × (List (S81)) × (List (S48))) := (cottonpadref06_Twin.f l0_0 l0_1).bind fun bt699 => ((some (([] : List (S48)) : List (S48))).bind fun y705 => (if y705.length + l1.length < 3518437208883 then (cottonpadlaw06_fixedW.l0 k a2 (y705 ++ l1) (bt699.1.length : Int) 0 bt699.1 bt699.2) else (none)))
theorem cottonpadlaw06_fixedW.mono_l : ∀ k, (∀ y0 y1 y2 y3 y4 y5, LeO (cottonpadlaw06_fixedW.l0 k y0 y1 y2 y3 y4 y5) (cottonpadlaw06_fixedW.l0 (k + 1) y0 y1 y2 y3 y4 y5)) ∧ (∀ y0 y1 y2 y3 y4 y5, LeO (cottonpadlaw06_fixedW.l1 k y0 y1 y2 y3 y4 y5) (cottonpadlaw06_fixedW.l1 (k + 1) y0 y1 y2 y3 y4 y5)) ∧ (∀ y0 y1 y2 y3 y4 y5, LeO (cottonpadlaw06_fixedW.l2 k y0 y1 y2 y3 y4 y5) (cottonpadlaw06_fixedW.l2 (k + 1) y0 y1 y2 y3 y4 y5))
 | 0 => ⟨fun _ _ _ _ _ _ r h => by simp [cottonpadlaw06_fixedW.l0] at h, fun _ _ _ _ _ _ r h => by simp [cottonpadlaw06_fixedW.l1] at h, fun _ _ _ _ _ _ r h => by simp [cottonpadlaw06_fixedW.l2] at h⟩
 | k + 1 => by
  obtain ⟨ih0, ih1, ih2⟩ := cottonpadlaw06_fixedW.mono_l k
  refine ⟨?_, ?_, ?_⟩
  ·intro y0 y1 y2 y3 y4 y5
   unfold cottonpadlaw06_fixedW.l0
   repeat' (with_reducible first | exact ih0 .. | exact ih1 .. | exact ih2 .. | exact LeO.refl .. | exact LeO.none .. | refine LeO.ite ?_ ?_ | refine LeO.bind ?_ (fun _ => ?_))
  ·intro y0 y1 y2 y3 y4 y5
   unfold cottonpadlaw06_fixedW.l1
   repeat' (with_reducible first | exact ih0 .. | exact ih1 .. | exact ih2 .. | exact LeO.refl .. | exact LeO.none .. | refine LeO.ite ?_ ?_ | refine LeO.bind ?_ (fun _ => ?_))
  ·intro y0 y1 y2 y3 y4 y5
   unfold cottonpadlaw06_fixedW.l2
   repeat' (with_reducible first | exact ih0 .. | exact ih1 .. | exact ih2 .. | exact LeO.refl .. | exact LeO.none .. | refine LeO.ite ?_ ?_ | refine LeO.bind ?_ (fun _ => ?_))
theorem cottonpadlaw06_fixedW.mono : ∀ a0 a1 a2 a3 k, LeO (cottonpadlaw06_fixedW.f k a0 a1 a2 a3) (cottonpadlaw06_fixedW.f (k + 1) a0 a1 a2 a3) := by
 intro a0 a1 a2 a3 k
 obtain ⟨ih0, ih1, ih2⟩ := cottonpadlaw06_fixedW.mono_l k
 unfold cottonpadlaw06_fixedW.f
 repeat' (with_reducible first | exact ih0 .. | exact ih1 .. | exact ih2 .. | exact LeO.refl .. | exact LeO.none .. | refine LeO.ite ?_ ?_ | refine LeO.bind ?_ (fun _ => ?_))
def cottonpadlaw06_fixedW.T7 : Bool × List (List Nat × List Nat) := (true, [([], []), ([0], [0]), ([], []), ([], []), ([3], [3]), ([], []), ([], []), ([], []), ([7], [7]), ([], []), ([8, 9], [8, 9]), ([10], [10]), ([11], [11]), ([6, 12], [6, 12]), ([], []), ([], []), ([15], [15]), ([], []), ([16, 17], [16, 17]), ([18], [18]), ([19], [19]), ([14, 20, 13], [14, 20]), ([1, 2, 0, 1, 2, 6, 7, 8, 9, 10, 11, 12, 13, 20, 21], [1, 2]), ([22, 0, 1, 2, 6, 7, 8, 9, 10, 11, 12, 13, 20, 21], [22]), ([23, 13, 21, 0, 1, 2, 6, 7, 8, 9, 10, 11, 12, 13, 20, 21], [13, 23]), ([4, 5, 0, 1, 2, 3, 4, 5, 6, 7, 8, 9, 10, 11, 12, 13, 14, 15, 16, 17, 18, 19, 20, 21, 22, 23, 24], [4, 5]), ([25, 0, 1, 2, 3, 4, 5, 6, 7, 8, 9, 10, 11, 12, 13, 14, 15, 16, 17, 18, 19, 20, 21, 22, 23, 24], [25]), ([26, 21, 24, 0, 1, 2, 3, 4, 5, 6, 7, 8, 9, 10, 11, 12, 13, 14, 15, 16, 17, 18, 19, 20, 21, 22, 23, 24], [21, 26])])
def cottonpadlaw06_fixedW.B7 : List Nat := [0, 1, 0, 0, 8, 0, 0, 0, 128, 0, 896, 1920, 3968, 8128, 0, 0, 32768, 0, 229376, 491520, 1015808, 2097088, 4194247, 8388551, 16777159, 33554431, 67108863, 134217727]
theorem cottonpadlaw06_fixedW.tab7 : rtab .any (opsOf Tryd.f44 7) = cottonpadlaw06_fixedW.T7 := by kernel_rfl
theorem cottonpadlaw06_fixedW.bits7 : waitsOk cottonpadlaw06_fixedW.T7.2 cottonpadlaw06_fixedW.B7 = true := by kernel_rfl
def cottonpadlaw06_fixedW.T12 : Bool × List (List Nat × List Nat) := (true, [([], []), ([0], [0]), ([], []), ([], []), ([], []), ([4], [4]), ([], []), ([5, 6], [5, 6]), ([7], [7]), ([8], [8]), ([3, 9], [3, 9]), ([1, 2, 0, 1, 2, 3, 4, 5, 6, 7, 8, 9, 10], [1, 2]), ([11, 0, 1, 2, 3, 4, 5, 6, 7, 8, 9, 10], [11]), ([12, 10, 10, 0, 1, 2, 3, 4, 5, 6, 7, 8, 9, 10], [10, 12])])
def cottonpadlaw06_fixedW.B12 : List Nat := [0, 1, 0, 0, 0, 16, 0, 112, 240, 496, 1016, 2047, 4095, 8191]
theorem cottonpadlaw06_fixedW.tab12 : rtab .any (opsOf Tryd.f44 12) = cottonpadlaw06_fixedW.T12 := by kernel_rfl
theorem cottonpadlaw06_fixedW.bits12 : waitsOk cottonpadlaw06_fixedW.T12.2 cottonpadlaw06_fixedW.B12 = true := by kernel_rfl
def cottonpadlaw06_fixedW.T17 : Bool × List (List Nat × List Nat) := (true, [([], []), ([], []), ([], []), ([], []), ([], []), ([], []), ([], []), ([5, 6], [5, 6]), ([7], [7]), ([8], [8]), ([4, 9], [4, 9]), ([], []), ([], []), ([], []), ([12, 13], [12, 13]), ([14], [14]), ([15], [15]), ([11, 16, 10], [11, 16]), ([0, 1, 0, 1, 4, 5, 6, 7, 8, 9, 10, 16, 17], [0, 1]), ([18, 0, 1, 4, 5, 6, 7, 8, 9, 10, 16, 17], [18]), ([19, 10, 17, 0, 1, 4, 5, 6, 7, 8, 9, 10, 16, 17], [10, 19]), ([2, 3, 0, 1, 2, 3, 4, 5, 6, 7, 8, 9, 10, 11, 12, 13, 14, 15, 16, 17, 18, 19, 20], [2, 3]), ([21, 0, 1, 2, 3, 4, 5, 6, 7, 8, 9, 10, 11, 12, 13, 14, 15, 16, 17, 18, 19, 20], [21]), ([22, 17, 20, 0, 1, 2, 3, 4, 5, 6, 7, 8, 9, 10, 11, 12, 13, 14, 15, 16, 17, 18, 19, 20], [17, 22])])
def cottonpadlaw06_fixedW.B17 : List Nat := [0, 0, 0, 0, 0, 0, 0, 96, 224, 480, 1008, 0, 0, 0, 12288, 28672, 61440, 131056, 262131, 524275, 1048563, 2097151, 4194303, 8388607]
theorem cottonpadlaw06_fixedW.tab17 : rtab .any (opsOf Tryd.f44 17) = cottonpadlaw06_fixedW.T17 := by kernel_rfl
theorem cottonpadlaw06_fixedW.bits17 : waitsOk cottonpadlaw06_fixedW.T17.2 cottonpadlaw06_fixedW.B17 = true := by kernel_rfl
set_option maxHeartbeats 8000000 in
set_option maxRecDepth 100000 in
theorem cottonpadlaw06_fixedW.calls (k : Nat) (A0_0 : Option Addr) (c0_0 : Nat) (l0_0 : List (S62)) (A0_1 : Option Addr) (c0_1 : Nat) (l0_1 : List (S81)) (A1 : Option Addr) (c1 : Nat) (l1 : List (S48)) (a2 : Bool) (r1 : List (S62)) (r2 : List (S81)) (r3 : List (S48)) (w : World) (hr0_0 : Kd.C k62 w A0_0 l0_0.length l0_0) (hc0_0 : l0_0.length ≤ c0_0) (hr0_1 : Kd.C k81 w A0_1 l0_1.length l0_1) (hc0_1 : l0_1.length ≤ c0_1) (hr1 : Kd.C k48 w A1 l1.length l1) (hc1 : l1.length ≤ c1) (h : cottonpadlaw06_fixedW.f k l0_0 l0_1 l1 a2 = some (r1, r2, r3)) :
  Calls Tryd.prog 44 #[.agg #[.slice A0_0 l0_0.length c0_0, .slice A0_1 l0_1.length c0_1], .slice A1 l1.length c1, .bool a2] w fun e w' => ∃ v0_ v1_ v2_ : Value, e = .returned (.tuple #[.agg #[v0_, v1_], v2_]) ∧ Kd.R k62 62 w' w.heap.size (fun _ => True) v0_ r1 ∧ Kd.R k81 81 w' w.heap.size (fun _ => True) v1_ r2 ∧ Kd.R k48 48 w' w.heap.size (fun _ => True) v2_ r3 ∧ Below w.heap.size w w' := by
 have hu25 := Tryd.underlying25
 have hu36 := Tryd.underlying36
 have HR0_0 := Aside0.mk hr0_0
 have HC0_0 := Aside0.mk hc0_0
 clear hr0_0 hc0_0
 have HR0_1 := Aside0.mk hr0_1
 have HC0_1 := Aside0.mk hc0_1
 clear hr0_1 hc0_1
 have HR1 := Aside0.mk hr1
 have HC1 := Aside0.mk hc1
 clear hr1 hc1
 have HB := Aside0.mk (Below.refl w.heap.size w)
 have H : ((cottonpadref06_Twin.f l0_0 l0_1).bind fun bt699 => ((some (([] : List (S48)) : List (S48))).bind fun y705 => (if y705.length + l1.length < 3518437208883 then (cottonpadlaw06_fixedW.l0 k a2 (y705 ++ l1) (bt699.1.length : Int) 0 bt699.1 bt699.2) else (none)))) = some (r1, r2, r3) := h
 clear h
 replace H := Option.bind_eq_some_iff.mp H
 obtain ⟨⟨t699, t702⟩, A40, H⟩ := H
 replace H : ((some (([] : List (S48)) : List (S48))).bind fun y705 => (if y705.length + l1.length < 3518437208883 then (cottonpadlaw06_fixedW.l0 k a2 (y705 ++ l1) (t699.length : Int) 0 t699 t702) else (none))) = some (r1, r2, r3) := H
 have A4 := Aside0.mk A40
 clear A40
 obtain ⟨y705, hy705⟩ : ∃ y_ : List (S48), y_ = (([] : List (S48))) := ⟨_, rfl⟩
 replace H : (if y705.length + l1.length < 3518437208883 then (cottonpadlaw06_fixedW.l0 k a2 (y705 ++ l1) (t699.length : Int) 0 t699 t702) else (none)) = some (r1, r2, r3) := by first | (rw [hy705]; with_reducible exact H) | (have H2_ := (Option.bind_some _ _).symm.trans H; rw [hy705]; with_reducible exact H2_) | (have H2_ := (Option.bind_some _ _).symm.trans H; with_reducible exact H2_) | with_reducible exact H | (rw [hy705]; exact H) | exact H
 have Ny705 := Aside0.mk hy705
 clear hy705
 by_cases c5 : y705.length + l1.length < 3518437208883
 ·rw [if_pos c5] at H
  have LMc5 := Aside0.mk c5
  clear c5
  obtain ⟨y708, hy708⟩ : ∃ y_ : List (S48), y_ = (y705 ++ l1) := ⟨_, rfl⟩
  replace H : (cottonpadlaw06_fixedW.l0 k a2 y708 (t699.length : Int) 0 t699 t702) = some (r1, r2, r3) := by first | (rw [hy708]; with_reducible exact H) | (have H2_ := (Option.bind_some _ _).symm.trans H; rw [hy708]; with_reducible exact H2_) | (have H2_ := (Option.bind_some _ _).symm.trans H; with_reducible exact H2_) | with_reducible exact H | (rw [hy708]; exact H) | exact H
  have Ny708 := Aside0.mk hy708
  clear hy708
  have H' := Aside0.mk H
  clear H
  go_enter Tryd.func44, Tryd.ntmps44
  go_wp2_with (first | ((with_reducible refine gate_dst (N := 3) rfl ?_); refine box_event ?hg (N := 3) ?hd (cs := #[.slice A0_0 l0_0.length c0_0, .slice A0_1 l0_1.length c0_1]) (t := 25) ?hr ?_; (case hd => rfl); (case hg => rfl); (case hr => exact gs_); intro gb696 hg w6 hbox hb; have BK696 := Aside0.mk (hbox); have GW696 := hl_ hg (be_ HB); have GE696 := hl_ hg (be_ HB); replace HB := bs_ HB hb; clear hb hbox hg) | ((with_reducible refine gate_dst (N := 5) rfl ?_); refine box_event ?hg (N := 5) ?hd (cs := #[.bool a2]) (t := 4) ?hr ?_; (case hd => rfl); (case hg => rfl); (case hr => exact gs_); intro gb697 hg w7 hbox hb; have BK697 := Aside0.mk (hbox); have GW697 := hl_ hg (be1_ HB GE696); have GE697 := hl_ hg (be1_ HB GE696); replace HB := bs1_ HB GE696 hb; have NB696_697 := Aside0.mk ((by rw [hg]; exact Nat.ne_of_lt (blk_lt (bk_ BK696)) : gb696 ≠ gb697)); have NB697_696 := Aside0.mk ((by rw [hg]; exact Nat.ne_of_gt (blk_lt (bk_ BK696)) : gb697 ≠ gb696)); replace BK696 := bb_ BK696 hb; clear hb hbox hg) | ((with_reducible refine gate_dst (N := 6) rfl ?_); refine box_event ?hg (N := 6) ?hd (cs := #[.slice none 0 0, .slice none 0 0]) (t := 25) ?hr ?_; (case hd => rfl); (case hg => rfl); (case hr => exact gs_); intro gb698 hg w8 hbox hb; have BK698 := Aside0.mk (hbox); have GW698 := hl_ hg (be2_ HB GE696 GE697); have GE698 := hl_ hg (be2_ HB GE696 GE697); replace HB := bs2_ HB GE696 GE697 hb; have NB696_698 := Aside0.mk ((by rw [hg]; exact Nat.ne_of_lt (blk_lt (bk_ BK696)) : gb696 ≠ gb698)); have NB698_696 := Aside0.mk ((by rw [hg]; exact Nat.ne_of_gt (blk_lt (bk_ BK696)) : gb698 ≠ gb696)); replace BK696 := bb_ BK696 hb; have NB697_698 := Aside0.mk ((by rw [hg]; exact Nat.ne_of_lt (blk_lt (bk_ BK697)) : gb697 ≠ gb698)); have NB698_697 := Aside0.mk ((by rw [hg]; exact Nat.ne_of_gt (blk_lt (bk_ BK697)) : gb698 ≠ gb697)); replace BK697 := bb_ BK697 hb; clear hb hbox hg; have hnb9 := NB696_697.out; have hnc9 := NB697_696.out; have hnb10 := NB696_698.out; have hnc10 := NB698_696.out; have hcz11_0 : w8.cell? ⟨gb696, 0, none⟩ = some (.slice A0_0 l0_0.length c0_0) := bc_ BK696 0; have hcz11_1 : w8.cell? ⟨gb696, 1, none⟩ = some (.slice A0_1 l0_1.length c0_1) := bc_ BK696 1; have hfz11_0 := blk_frozen BK696.out 0; have hfz11_1 := blk_frozen BK696.out 1) | ((with_reducible refine gate_callee (f := 16) rfl ?_); refine goesL_ (some 16) rfl rfl Tryd.func16 (by kernel_rfl) rfl #[.agg #[.slice A0_0 l0_0.length c0_0, .slice A0_1 l0_1.length c0_1]] rfl ls_ ?_; (with_reducible refine (cottonpadref06_Twin.calls _ _ l0_0 _ _ l0_1 t699 t702 _ ?side1 ?side2 ?side3 ?side4 A4.out).mono ?_); (case side1 => exact kc_ HR0_0 HB); (case side2 => exact HC0_0.out); (case side3 => exact kc_ HR0_1 HB); (case side4 => exact HC0_1.out); rintro e w12 ⟨v700, v703, rfl, ho0, ho1, hb⟩; refine ⟨_, rfl, ?_⟩; have HO701 := Aside0.mk (Kd.R_lower ho0 (below_size (be3_ HB GE696 GE697 GE698))); have HO704 := Aside0.mk (Kd.R_lower ho1 (below_size (be3_ HB GE696 GE697 GE698))); replace BK696 := bb_ BK696 hb; replace BK697 := bb_ BK697 hb; replace BK698 := bb_ BK698 hb; replace HB := bs3_ HB GE696 GE697 GE698 hb; (try clear hb); (try clear hb2); (try clear hk); (try clear hi); (try clear ho0); (try clear ho1)) | ((with_reducible refine gate_dst (N := 17) rfl ?_); refine Kd.R_lit k48 _ 48 ?hg (N := 17) ?hd (xs := ([] : List (S48))) (inner := []) (ok := fun _ => True) (okp := fun _ => True) ?hr ?hp (fun _ hk => hk) trivial (Below.refl _ _) (Nat.le_refl _) (by simp) ?_; (case hd => rfl); (case hg => rfl); (case hr => exact gs_); (case hp => exact (Reps.none _ _)); intro v706 w13 ho14 hb hg_ hnew_; clear hg_ hnew_; (first | rw [← Ny705.out] at ho14 | (simp only [Int.reduceToNat] at ho14; rw [← Ny705.out] at ho14)); replace HO701 := rb_ HO701 hb; replace HO704 := rb_ HO704 hb; have HO707 := Aside0.mk (Kd.R_lower ho14 (below_size (be3_ HB GE696 GE697 GE698))); replace BK696 := bb_ BK696 hb; replace BK697 := bb_ BK697 hb; replace BK698 := bb_ BK698 hb; replace HB := bs3_ HB GE696 GE697 GE698 hb; clear hb ho14) | ((with_reducible refine gate_builtin (b := .append) (xs := #[.tmp 17, .tmp 18]) rfl ?_); at_builtin; refine Kd.R_append_rows k48 (w0 := w) w.heap.size rfl (.tmp 17) (.tmp 18) 26 48 (.agg #[(.int .i64 0), (.int .i64 0), (.int .i64 0), (.int .i64 0), (.int .i64 0)]) 40 rfl Tryd.underlying26 info48 rfl (by decide) (by omega) v706 y705 l1 _ _ _ (fun _ => True) (fun _ => False) rfl rfl ?aO ?aR (fun _ _ h => h) (fun _ h => h.elim) ?aF ?aB ?aS ?aL ?_; (case aR => exact kc_ HR1 HB); (case aB => exact (be3_ HB GE696 GE697 GE698)); (case aF => exact (fun _ _ => trivial)); (case aO => exact (ro_ HO707)); (case aS => exact (below_size (be3_ HB GE696 GE697 GE698))); (case aL => have := LMc5.out; omega); intro v709 w15 ho hb hg hat; rw [← Ny708.out] at ho; replace BK696 := Aside0.mk (blk_grown (g := gb696) (o := .cells #[.slice A0_0 l0_0.length c0_0, .slice A0_1 l0_1.length c0_1] 25 (0, 0)) (bk_ BK696) hg (Kd.R_ne HO707.out BK696.out (by decide))); replace BK697 := Aside0.mk (blk_grown (g := gb697) (o := .cells #[.bool a2] 4 (0, 0)) (bk_ BK697) hg (Kd.R_ne HO707.out BK697.out (by decide))); replace BK698 := Aside0.mk (blk_grown (g := gb698) (o := .cells #[.slice none 0 0, .slice none 0 0] 25 (0, 0)) (bk_ BK698) hg (Kd.R_ne HO707.out BK698.out (by decide))); replace HO701 := Aside0.mk (Kd.R_over' (ro_ HO701) (Kd.R_typed (ro_ HO707)) (by decide) hg); replace HO704 := Aside0.mk (Kd.R_over' (ro_ HO704) (Kd.R_typed (ro_ HO707)) (by decide) hg); replace HB := Aside0.mk (hb); have HO710 := Aside0.mk (ho); clear HO707; clear ho hb hg hat) | ((with_reducible refine gate_dst (N := 8) rfl ?_); refine box_event ?hg (N := 8) ?hd (cs := #[.slice none 0 0, .slice none 0 0]) (t := 25) ?hr ?_; (case hd => rfl); (case hg => rfl); (case hr => exact gs_); intro gb711 hg w16 hbox hb; replace HO701 := rb_ HO701 hb; replace HO704 := rb_ HO704 hb; replace HO710 := rb_ HO710 hb; have BK711 := Aside0.mk (hbox); have GW711 := hl_ hg (be3_ HB GE696 GE697 GE698); have GE711 := hl_ hg (be3_ HB GE696 GE697 GE698); replace HB := bs3_ HB GE696 GE697 GE698 hb; have NB696_711 := Aside0.mk ((by rw [hg]; exact Nat.ne_of_lt (blk_lt (bk_ BK696)) : gb696 ≠ gb711)); have NB711_696 := Aside0.mk ((by rw [hg]; exact Nat.ne_of_gt (blk_lt (bk_ BK696)) : gb711 ≠ gb696)); replace BK696 := bb_ BK696 hb; have NB697_711 := Aside0.mk ((by rw [hg]; exact Nat.ne_of_lt (blk_lt (bk_ BK697)) : gb697 ≠ gb711)); have NB711_697 := Aside0.mk ((by rw [hg]; exact Nat.ne_of_gt (blk_lt (bk_ BK697)) : gb711 ≠ gb697)); replace BK697 := bb_ BK697 hb; have NB698_711 := Aside0.mk ((by rw [hg]; exact Nat.ne_of_lt (blk_lt (bk_ BK698)) : gb698 ≠ gb711)); have NB711_698 := Aside0.mk ((by rw [hg]; exact Nat.ne_of_gt (blk_lt (bk_ BK698)) : gb711 ≠ gb698)); replace BK698 := bb_ BK698 hb; clear hb hbox hg; obtain ⟨Ao17, co17, eo17⟩ := Kd.R_slice HO701.out; subst eo17; have hnb18 := NB711_696.out; have hnc18 := NB696_711.out; have hnb19 := NB711_697.out; have hnc19 := NB697_711.out; have hnb20 := NB711_698.out; have hnc20 := NB698_711.out; have hcz21_0 : w16.cell? ⟨gb711, 0, none⟩ = some (.slice none 0 0) := bc_ BK711 0; have hcz21_1 : w16.cell? ⟨gb711, 1, none⟩ = some (.slice none 0 0) := bc_ BK711 1; have hfz21_0 := blk_frozen BK711.out 0; have hfz21_1 := blk_frozen BK711.out 1; obtain ⟨Ao22, co22, eo22⟩ := Kd.R_slice HO704.out; subst eo22))
  go_loopg [25] k (fun kq v25 w' => ∃ (x25_1 : Int) (x712000_1 : List (S62)) (u712000 : Value), v25 = .int .i64 x25_1 ∧ Aside0 (cottonpadlaw06_fixedW.l0 kq a2 y708 (t699.length : Int) x25_1 x712000_1 t702 = some (r1, r2, r3)) ∧ Aside0 (kq ≤ k) ∧ Aside0 (Kd.R k48 48 w' w.heap.size (fun _ => True) v709 y708) ∧ Aside0 (Kd.R k62 62 w' w.heap.size (fun _ => True) u712000 x712000_1) ∧ Aside0 (Kd.R k81 81 w' w.heap.size (fun _ => True) (.slice Ao22 t702.length co22) t702) ∧ Aside0 (w'.heap[gb696]? = some (.cells #[(.slice A0_0 l0_0.length c0_0), (.slice A0_1 l0_1.length c0_1)] 25 (0, 0))) ∧ Aside0 (w'.heap[gb697]? = some (.cells #[.bool a2] 4 (0, 0))) ∧ Aside0 (w'.heap[gb698]? = some (.cells #[(.slice none 0 0), (.slice none 0 0)] 25 (0, 0))) ∧ Aside0 (w'.heap[gb711]? = some (.cells #[u712000, (.slice Ao22 t702.length co22)] 25 (0, 0))) ∧ Aside0 (Below w.heap.size w w'))
  case atStart => exact ⟨(0), (t699), (.slice Ao17 t699.length co17), (by first | rfl | (simp; done) | (simp [*]; done)), H', ⟨Nat.le_refl _⟩, ⟨by (with_reducible repeat (first | apply Kd.R_alloc | apply Kd.R_drewN | apply Kd.R_drew)); exact Kd.R_mono (Kd.R_far (p := ⟨gb711, 1, none⟩) (Kd.R_far (p := ⟨gb711, 0, none⟩) (Kd.R_types HO710.out BK711.out (by decide)) (fun _ hk => hk.2) (.slice Ao17 t699.length co17)) (fun _ hk => hk.2) (.slice Ao22 t702.length co22)) (fun _ hk => trivial)⟩, ⟨by (with_reducible repeat (first | apply Kd.R_alloc | apply Kd.R_drewN | apply Kd.R_drew)); exact Kd.R_mono (Kd.R_far (p := ⟨gb711, 1, none⟩) (Kd.R_far (p := ⟨gb711, 0, none⟩) (Kd.R_types HO701.out BK711.out (by decide)) (fun _ hk => hk.2) (.slice Ao17 t699.length co17)) (fun _ hk => hk.2) (.slice Ao22 t702.length co22)) (fun _ hk => trivial)⟩, ⟨by (with_reducible repeat (first | apply Kd.R_alloc | apply Kd.R_drewN | apply Kd.R_drew)); exact Kd.R_mono (Kd.R_far (p := ⟨gb711, 1, none⟩) (Kd.R_far (p := ⟨gb711, 0, none⟩) (Kd.R_types HO704.out BK711.out (by decide)) (fun _ hk => hk.2) (.slice Ao17 t699.length co17)) (fun _ hk => hk.2) (.slice Ao22 t702.length co22)) (fun _ hk => trivial)⟩, ⟨by refine bx_ ?_; refine blk_far ?_ NB696_711.out _; refine bx_ ?_; refine blk_far ?_ NB696_711.out _; refine bx_ ?_; exact BK696.out⟩, ⟨by refine bx_ ?_; refine blk_far ?_ NB697_711.out _; refine bx_ ?_; refine blk_far ?_ NB697_711.out _; refine bx_ ?_; exact BK697.out⟩, ⟨by refine bx_ ?_; refine blk_far ?_ NB698_711.out _; refine bx_ ?_; refine blk_far ?_ NB698_711.out _; refine bx_ ?_; exact BK698.out⟩, ⟨by refine bx_ ?_; refine blk_put (cs := #[.slice Ao17 t699.length co17, .slice none 0 0]) ?_ 1 _ rfl; refine bx_ ?_; refine blk_put (cs := #[.slice none 0 0, .slice none 0 0]) ?_ 0 _ rfl; refine bx_ ?_; exact BK711.out⟩, ⟨by repeat (first | (with_reducible first | exact HB.out | apply below_alloc | apply pw_below_drewN | apply below_drew1 | refine below_set ?_ GE696.out | refine below_set ?_ GE697.out | refine below_set ?_ GE698.out | refine below_set ?_ GE711.out) | exact HB.out)⟩⟩
  case round =>
   clear H'
   try clear c1
   try clear c2
   try clear p2
   try clear c4
   try clear c5
   try clear c9
   try clear c10
   try clear c16
   try clear c18
   try clear c19
   try clear c20
   try clear hcz11_0
   try clear hcz11_1
   try clear hcz21_0
   try clear hcz21_1
   try clear hfz11_0
   try clear hfz11_1
   try clear hfz21_0
   try clear hfz21_1
   obtain ⟨x25_1, x712000_1, u712000, rfl, HA, HK1, HO_9, HO_712000, HO_712001, BK696, BK697, BK698, BK711, HB⟩ := hrel
   cases gk with
   | zero => exact absurd HA.out (by simp [cottonpadlaw06_fixedW.l0])
   | succ k1 =>
    have H := HA.out
    clear HA
    simp only [cottonpadlaw06_fixedW.l0] at H
    by_cases c23 : x25_1 < (t699.length : Int)
    ·rw [if_pos c23] at H
     have c23b0 : decide (x25_1 < (t699.length : Int)) = true := decide_eq_true c23
     clear c23
     by_cases c24 : 0 ≤ x25_1
     ·rw [if_pos c24] at H
      have c24b0 : decide (0 ≤ x25_1) = true := decide_eq_true c24
      clear c24
      by_cases c25 : x25_1 < (x712000_1.length : Int)
      ·rw [if_pos c25] at H
       have c25b0 : decide (x25_1 < (x712000_1.length : Int)) = true := decide_eq_true c25
       clear c25
       replace H := Option.bind_eq_some_iff.mp H
       obtain ⟨⟨t713, t714⟩, A260, H⟩ := H
       replace H : ((cottonpadlaw06_fixedearly.f a2 ((rd_T62 x712000_1 x25_1).f3.f0) ((rd_T62 x712000_1 x25_1).f3.f1)).bind fun bt716 => ((some (x712000_1.set (x25_1 : Int).toNat (⟨(rd_T62 x712000_1 x25_1).f0, (rd_T62 x712000_1 x25_1).f1, (⟨t713, t714⟩ : S36), (⟨(rd_T62 x712000_1 x25_1).f3.f0, (rd_T62 x712000_1 x25_1).f3.f1⟩ : S36)⟩ : S62) : List (S62))).bind fun y718 => (cottonpadlaw06_fixedW.l0 k1 a2 y708 (t699.length : Int) (wrap64 (x25_1 + 1)) (y718.set (x25_1 : Int).toNat (⟨(rd_T62 y718 x25_1).f0, (rd_T62 y718 x25_1).f1, (⟨(rd_T62 y718 x25_1).f2.f0, (rd_T62 y718 x25_1).f2.f1⟩ : S36), (⟨bt716.1, bt716.2⟩ : S36)⟩ : S62)) t702))) = some (r1, r2, r3) := H
       have A26 := Aside0.mk A260
       clear A260
       replace H := Option.bind_eq_some_iff.mp H
       obtain ⟨⟨t716, t717⟩, A270, H⟩ := H
       replace H : ((some (x712000_1.set (x25_1 : Int).toNat (⟨(rd_T62 x712000_1 x25_1).f0, (rd_T62 x712000_1 x25_1).f1, (⟨t713, t714⟩ : S36), (⟨(rd_T62 x712000_1 x25_1).f3.f0, (rd_T62 x712000_1 x25_1).f3.f1⟩ : S36)⟩ : S62) : List (S62))).bind fun y718 => (cottonpadlaw06_fixedW.l0 k1 a2 y708 (t699.length : Int) (wrap64 (x25_1 + 1)) (y718.set (x25_1 : Int).toNat (⟨(rd_T62 y718 x25_1).f0, (rd_T62 y718 x25_1).f1, (⟨(rd_T62 y718 x25_1).f2.f0, (rd_T62 y718 x25_1).f2.f1⟩ : S36), (⟨t716, t717⟩ : S36)⟩ : S62)) t702)) = some (r1, r2, r3) := H
       have A27 := Aside0.mk A270
       clear A270
       obtain ⟨y718, hy718⟩ : ∃ y_ : List (S62), y_ = (x712000_1.set (x25_1 : Int).toNat (⟨(rd_T62 x712000_1 x25_1).f0, (rd_T62 x712000_1 x25_1).f1, (⟨t713, t714⟩ : S36), (⟨(rd_T62 x712000_1 x25_1).f3.f0, (rd_T62 x712000_1 x25_1).f3.f1⟩ : S36)⟩ : S62)) := ⟨_, rfl⟩
       replace H : (cottonpadlaw06_fixedW.l0 k1 a2 y708 (t699.length : Int) (wrap64 (x25_1 + 1)) (y718.set (x25_1 : Int).toNat (⟨(rd_T62 y718 x25_1).f0, (rd_T62 y718 x25_1).f1, (⟨(rd_T62 y718 x25_1).f2.f0, (rd_T62 y718 x25_1).f2.f1⟩ : S36), (⟨t716, t717⟩ : S36)⟩ : S62)) t702) = some (r1, r2, r3) := by first | (rw [hy718]; with_reducible exact H) | (have H2_ := (Option.bind_some _ _).symm.trans H; rw [hy718]; with_reducible exact H2_) | (have H2_ := (Option.bind_some _ _).symm.trans H; with_reducible exact H2_) | with_reducible exact H | (rw [hy718]; exact H) | exact H
       have Ny718 := Aside0.mk hy718
       clear hy718
       obtain ⟨y719, hy719⟩ : ∃ y_ : List (S62), y_ = (y718.set (x25_1 : Int).toNat (⟨(rd_T62 y718 x25_1).f0, (rd_T62 y718 x25_1).f1, (⟨(rd_T62 y718 x25_1).f2.f0, (rd_T62 y718 x25_1).f2.f1⟩ : S36), (⟨t716, t717⟩ : S36)⟩ : S62)) := ⟨_, rfl⟩
       replace H : (cottonpadlaw06_fixedW.l0 k1 a2 y708 (t699.length : Int) (wrap64 (x25_1 + 1)) y719 t702) = some (r1, r2, r3) := by first | (rw [hy719]; with_reducible exact H) | (have H2_ := (Option.bind_some _ _).symm.trans H; rw [hy719]; with_reducible exact H2_) | (have H2_ := (Option.bind_some _ _).symm.trans H; with_reducible exact H2_) | with_reducible exact H | (rw [hy719]; exact H) | exact H
       have Ny719 := Aside0.mk hy719
       clear hy719
       have H' := Aside0.mk H
       clear H
       try go_wp2
       replace HO_9 := Aside0.mk (Kd.R_drew HO_9.out)
       replace HO_712000 := Aside0.mk (Kd.R_drew HO_712000.out)
       replace HO_712001 := Aside0.mk (Kd.R_drew HO_712001.out)
       replace BK696 := Aside0.mk (blk_drew BK696.out)
       replace BK697 := Aside0.mk (blk_drew BK697.out)
       replace BK698 := Aside0.mk (blk_drew BK698.out)
       replace BK711 := Aside0.mk (blk_drew BK711.out)
       replace HB := Aside0.mk (below_drew1 HB.out)
       obtain ⟨Ao31, co31, eo31⟩ := Kd.R_slice HO_712000.out
       (first | subst eo31 | (injection eo31 with f1_ f2_ f3_; have f4_ := f1_.symm; have f5_ := f3_.symm; clear f1_ f2_ f3_; subst f4_; subst f5_))
       have p712 : 0 ≤ (x25_1 : Int) := of_decide_eq_true as_
       have q712 : x25_1 < (x712000_1.length : Int) := of_decide_eq_true as_
       obtain ⟨ad712, e712, hx712_0, hx712_1, hx712_2, hx712_3, hx712_4, hx712_5⟩ := at_T62 (Kd.R_reads' HO_712000.out).2.2 x25_1 p712 q712
       cases e712
       replace p712 := eq_true p712
       replace q712 := eq_true q712
       have p715 : 0 ≤ (x25_1 : Int) := of_decide_eq_true as_
       have q715 : x25_1 < (x712000_1.length : Int) := of_decide_eq_true as_
       obtain ⟨ad715, e715, hx715_0, hx715_1, hx715_2, hx715_3, hx715_4, hx715_5⟩ := at_T62 (Kd.R_reads' HO_712000.out).2.2 x25_1 p715 q715
       obtain rfl : ad712 = ad715 := (by injection e715)
       replace p715 := eq_true p715
       replace q715 := eq_true q715
       refine start_ (n := 28) (S := fun w' => w'.cell? ⟨gb711, 0, none⟩ = some (.slice (some ad712) x712000_1.length co31) ∧ w'.cell? ⟨gb711, 1, none⟩ = some (.slice Ao22 t702.length co22) ∧ w'.cell? ⟨(ad712.add ((x25_1).toNat * 6)).block, (ad712.add ((x25_1).toNat * 6)).off + 4, none⟩ = some (.int .i64 ((rd_T62 x712000_1 x25_1).f3.f0)) ∧ w'.cell? ⟨(ad712.add ((x25_1).toNat * 6)).block, (ad712.add ((x25_1).toNat * 6)).off + 5, none⟩ = some (.int .i64 ((rd_T62 x712000_1 x25_1).f3.f1))) (ds := [27]) (bm_ 28 0) (by kernel_rfl) rfl rfl ⟨bc_ BK711 0, bc_ BK711 1, hx712_4, hx712_5⟩ (fun hHeld => ?_); refine with_tabW cottonpadlaw06_fixedW.tab7 cottonpadlaw06_fixedW.bits7 (fun HT_ HW_ => ?_)
       generalize wr.drew = w30 at HO_9 HO_712000 HO_712001 BK696 BK697 BK698 BK711 HB hx712_0 hx712_1 hx712_2 hx712_3 hx712_4 hx712_5 hx715_0 hx715_1 hx715_2 hx715_3 hx715_4 hx715_5 hHeld ⊢
       refine pr_ 0 28 28 1 HT_ rfl rfl ?_
       refine pr_ 2 30 28 5 HT_ rfl rfl ?_
       refine pr_ 3 31 28 13 HT_ rfl rfl ?_
       refine pr_ 5 33 28 45 HT_ rfl rfl ?_
       refine pr_ 6 34 28 109 HT_ rfl rfl ?_
       refine pr_ 7 35 28 237 HT_ rfl rfl ?_
       refine pr_ 9 37 28 749 HT_ rfl rfl ?_
       refine pr_ 14 42 28 17133 HT_ rfl rfl ?_
       refine pr_ 15 43 28 49901 HT_ rfl rfl ?_
       refine pr_ 17 45 28 180973 HT_ rfl rfl ?_
       refine ta_ 1 29 28 180975 HT_ HW_ rfl rfl hHeld ?_
       refine ta_ 4 32 28 180991 HT_ HW_ rfl rfl hHeld ?_
       refine ta_ 8 36 28 181247 HT_ HW_ rfl rfl hHeld ?_
       refine pr_ 10 38 28 182271 HT_ rfl rfl ?_
       refine pr_ 11 39 28 184319 HT_ rfl rfl ?_
       refine ta_ 16 44 28 249855 HT_ HW_ rfl rfl hHeld ?_
       refine pr_ 18 46 28 511999 HT_ rfl rfl ?_
       refine pr_ 19 47 28 1036287 HT_ rfl rfl ?_
       refine ta_ 20 48 28 2084863 HT_ HW_ rfl rfl hHeld ?_
       refine one_ (i := 12) (N := some 40) (bm_ 28 2088959) rfl rfl (one_of HT_.out (by kernel_rfl)) (by decide) (fun K hK => ?_)
       refine value_ (w1 := ?_) (v := ?_) (by rfl) rfl ?_ ?_
       rotate_left 2
       ·go_simp
        constructor
        ·rfl
        ·rfl
       refine hK.out _ _ hHeld (fun hHeld => ?_)
       clear hK K
       refine norm_ (a' := ?_) ?_ ?_
       rotate_left
       ·show Act.put _ (some 40) _ = _
        simp only [Act.put, List.setIfInBounds_toArray, List.set_cons_zero, List.set_cons_succ, i64_w, i32_w]
        rfl
       refine one_ (i := 13) (N := some 41) (bm_ 28 2097151) rfl rfl (one_of HT_.out (by kernel_rfl)) (by decide) (fun K hK => ?_)
       refine goesC_ Tryd.func74 (by kernel_rfl) rfl #[.pointer (some ⟨gb697, 0, none⟩)] #[.agg #[.int .i64 ((rd_T62 x712000_1 x25_1).f2.f0), .int .i64 ((rd_T62 x712000_1 x25_1).f2.f1)], .pointer (some ⟨gb697, 0, none⟩)] (by rfl) rfl rfl rfl (by first | rfl | (simp only [List.map_toArray, List.map_cons, List.map_nil, List.append_toArray, List.cons_append, List.nil_append]; done) | (simp only [List.map_toArray, List.map_cons, List.map_nil, List.append_toArray, List.cons_append, List.nil_append]; rfl)) ?_
       with_reducible refine (cottonpadlaw06_fixedlate.calls gb697 a2 ((rd_T62 x712000_1 x25_1).f2.f0) ((rd_T62 x712000_1 x25_1).f2.f1) t713 t714 _ BK697.out A26.out).mono ?_
       rintro e w32 ⟨rfl, hb⟩
       have HS2_ := (hb.cell (World.block_lt_of_cell? _ _ (hHeld.2.2.1))).trans (hHeld.2.2.1)
       have HS3_ := (hb.cell (World.block_lt_of_cell? _ _ (hHeld.2.2.2))).trans (hHeld.2.2.2)
       refine ⟨_, rfl, ?_⟩
       replace HO_9 := rb_ HO_9 hb
       replace HO_712000 := rb_ HO_712000 hb
       replace HO_712001 := rb_ HO_712001 hb
       replace BK696 := bb_ BK696 hb
       replace BK697 := bb_ BK697 hb
       replace BK698 := bb_ BK698 hb
       replace BK711 := bb_ BK711 hb
       replace HB := Aside0.mk (below_step (by repeat (first | (with_reducible first | exact HB.out | apply below_alloc | apply pw_below_drewN | apply below_drew1 | refine below_set ?_ GE696.out | refine below_set ?_ GE697.out | refine below_set ?_ GE698.out | refine below_set ?_ GE711.out) | exact HB.out)) hb)
       (try clear hb)
       (try clear hb2)
       (try clear hk)
       (try clear hi)
       refine hK.out _ _ ⟨bc_ BK711 0, bc_ BK711 1, HS2_, HS3_⟩ (fun hHeld => ?_)
       clear hK K
       refine norm_ (a' := ?_) ?_ ?_
       rotate_left
       ·show Act.put _ (some 41) _ = _
        simp only [Act.put, List.setIfInBounds_toArray, List.set_cons_zero, List.set_cons_succ, i64_w, i32_w]
        rfl
       refine one_ (i := 21) (N := some 49) (bm_ 28 4194303) rfl rfl (one_of HT_.out (by kernel_rfl)) (by decide) (fun K hK => ?_)
       refine goesC_ Tryd.func75 (by kernel_rfl) rfl #[.pointer (some ⟨gb697, 0, none⟩)] #[.agg #[.int .i64 ((rd_T62 x712000_1 x25_1).f3.f0), .int .i64 ((rd_T62 x712000_1 x25_1).f3.f1)], .pointer (some ⟨gb697, 0, none⟩)] (by rfl) rfl rfl rfl (by first | rfl | (simp only [List.map_toArray, List.map_cons, List.map_nil, List.append_toArray, List.cons_append, List.nil_append]; done) | (simp only [List.map_toArray, List.map_cons, List.map_nil, List.append_toArray, List.cons_append, List.nil_append]; rfl)) ?_
       with_reducible refine (cottonpadlaw06_fixedearly.calls gb697 a2 ((rd_T62 x712000_1 x25_1).f3.f0) ((rd_T62 x712000_1 x25_1).f3.f1) t716 t717 _ BK697.out A27.out).mono ?_
       rintro e w33 ⟨rfl, hb⟩
       have HS2_ := (hb.cell (World.block_lt_of_cell? _ _ (hHeld.2.2.1))).trans (hHeld.2.2.1)
       have HS3_ := (hb.cell (World.block_lt_of_cell? _ _ (hHeld.2.2.2))).trans (hHeld.2.2.2)
       refine ⟨_, rfl, ?_⟩
       replace HO_9 := rb_ HO_9 hb
       replace HO_712000 := rb_ HO_712000 hb
       replace HO_712001 := rb_ HO_712001 hb
       replace BK696 := bb_ BK696 hb
       replace BK697 := bb_ BK697 hb
       replace BK698 := bb_ BK698 hb
       replace BK711 := bb_ BK711 hb
       replace HB := Aside0.mk (below_step (by repeat (first | (with_reducible first | exact HB.out | apply below_alloc | apply pw_below_drewN | apply below_drew1 | refine below_set ?_ GE696.out | refine below_set ?_ GE697.out | refine below_set ?_ GE698.out | refine below_set ?_ GE711.out) | exact HB.out)) hb)
       (try clear hb)
       (try clear hb2)
       (try clear hk)
       (try clear hi)
       have p28 : 0 ≤ (x25_1 : Int) := of_decide_eq_true as_
       have q28 : (x25_1 : Int) < ((x712000_1.length : Int) : Int) := of_decide_eq_true as_
       obtain ⟨go28, co28, eo28, gb28, gl28, cl28, HG28⟩ := Kd.R_form HO_712000.out (by omega)
       (first | cases eo28 | (injection eo28 with ea_ en_ ec_; (first | subst ea_ | (injection ea_ with ea_; subst ea_)); subst ec_; clear en_))
       have GB28 := Aside0.mk gb28
       have GG28 := Aside0.mk HG28
       clear gb28 gl28 HG28
       (first | simp only [add_plain] at hx712_0 | skip)
       (first | simp only [add_plain] at hx712_1 | skip)
       (first | simp only [add_plain] at hx712_2 | skip)
       (first | simp only [add_plain] at hx712_3 | skip)
       (first | simp only [add_plain] at hx712_4 | skip)
       (first | simp only [add_plain] at hx712_5 | skip)
       (first | simp only [add_plain] at hx715_0 | skip)
       (first | simp only [add_plain] at hx715_1 | skip)
       (first | simp only [add_plain] at hx715_2 | skip)
       (first | simp only [add_plain] at hx715_3 | skip)
       (first | simp only [add_plain] at hx715_4 | skip)
       (first | simp only [add_plain] at hx715_5 | skip)
       obtain ⟨ce28, hcl28, hM28, hcc28, hfr28⟩ := Kd.R_elem HO_712000.out z62 (x25_1 : Int) p28 q28
       obtain rfl := k62_openM hM28
       have hx28_0 : World.cell? _ ⟨go28, (x25_1 : Int).toNat * 6, none⟩ = some (.int .i64 ((rd_T62 x712000_1 x25_1).f0)) := hcc28 0 _ rfl
       have hx28_1 : World.cell? _ ⟨go28, (x25_1 : Int).toNat * 6 + 1, none⟩ = some (.int .i64 ((rd_T62 x712000_1 x25_1).f1)) := hcc28 1 _ rfl
       have hx28_2 : World.cell? _ ⟨go28, (x25_1 : Int).toNat * 6 + 2, none⟩ = some (.int .i64 ((rd_T62 x712000_1 x25_1).f2.f0)) := hcc28 2 _ rfl
       have hx28_3 : World.cell? _ ⟨go28, (x25_1 : Int).toNat * 6 + 3, none⟩ = some (.int .i64 ((rd_T62 x712000_1 x25_1).f2.f1)) := hcc28 3 _ rfl
       have hx28_4 : World.cell? _ ⟨go28, (x25_1 : Int).toNat * 6 + 4, none⟩ = some (.int .i64 ((rd_T62 x712000_1 x25_1).f3.f0)) := hcc28 4 _ rfl
       have hx28_5 : World.cell? _ ⟨go28, (x25_1 : Int).toNat * 6 + 5, none⟩ = some (.int .i64 ((rd_T62 x712000_1 x25_1).f3.f1)) := hcc28 5 _ rfl
       have hf28_0 : World.frozen? _ ⟨go28, (x25_1 : Int).toNat * 6, none⟩ = false := hfr28 0
       have hf28_1 : World.frozen? _ ⟨go28, (x25_1 : Int).toNat * 6 + 1, none⟩ = false := hfr28 1
       have hf28_2 : World.frozen? _ ⟨go28, (x25_1 : Int).toNat * 6 + 2, none⟩ = false := hfr28 2
       have hf28_3 : World.frozen? _ ⟨go28, (x25_1 : Int).toNat * 6 + 3, none⟩ = false := hfr28 3
       have hf28_4 : World.frozen? _ ⟨go28, (x25_1 : Int).toNat * 6 + 4, none⟩ = false := hfr28 4
       have hf28_5 : World.frozen? _ ⟨go28, (x25_1 : Int).toNat * 6 + 5, none⟩ = false := hfr28 5
       clear hcl28 hcc28 hfr28 hM28
       replace p28 := eq_true p28
       replace q28 := eq_true q28
       obtain ⟨ce34, hcl34, hM34, hcc34, hfr34⟩ := Kd.R_elem HO_712000.out z62 (x25_1 : Int) (of_decide_eq_true as_) (by have h_ : (x25_1 : Int) < ((x712000_1.length : Int) : Int) := of_decide_eq_true as_; first | exact h_ | (have e_ := (Kd.R_reads' HO_712000.out).1; omega) | simpa using h_)
       obtain rfl := k62_openM hM34
       have HP34 := (Kd.R_seg HO_712000.out (x25_1 : Int) (of_decide_eq_true as_) (by have h_ : (x25_1 : Int) < ((x712000_1.length : Int) : Int) := of_decide_eq_true as_; first | exact h_ | (have e_ := (Kd.R_reads' HO_712000.out).1; omega) | simpa using h_) (seg := [.int .i64 t713, .int .i64 t714]) (j := 2) hcl34 hcc34 (show 4 ≤ 6 from by decide) (x' := (⟨(rd_T62 x712000_1 x25_1).f0, (rd_T62 x712000_1 x25_1).f1, (⟨t713, t714⟩ : S36), (⟨(rd_T62 x712000_1 x25_1).f3.f0, (rd_T62 x712000_1 x25_1).f3.f1⟩ : S36)⟩ : S62)) (k62_mkM _ _ _ (⟨(rd_T62 x712000_1 x25_1).f0, (rd_T62 x712000_1 x25_1).f1, (⟨t713, t714⟩ : S36), (⟨(rd_T62 x712000_1 x25_1).f3.f0, (rd_T62 x712000_1 x25_1).f3.f1⟩ : S36)⟩ : S62) ) (fun _ hk => hk)).1
       rw [← Ny718.out] at HP34
       have HQ34 := Aside0.mk HP34
       clear hcl34 hcc34 hfr34 hM34 HP34
       have p29 : 0 ≤ (x25_1 : Int) := of_decide_eq_true as_
       have q29 : (x25_1 : Int) < ((x712000_1.length : Int) : Int) := of_decide_eq_true as_
       replace p29 := eq_true p29
       replace q29 := eq_true q29
       obtain ⟨ce35, hcl35, hM35, hcc35, hfr35⟩ := Kd.R_elem HQ34.out z62 (x25_1 : Int) (of_decide_eq_true as_) (by have h_ : (x25_1 : Int) < ((x712000_1.length : Int) : Int) := of_decide_eq_true as_; first | exact h_ | (have e_ := (Kd.R_reads' HO_712000.out).1; omega) | simpa using h_)
       obtain rfl := k62_openM hM35
       have HP35 := (Kd.R_seg HQ34.out (x25_1 : Int) (of_decide_eq_true as_) (by have h_ : (x25_1 : Int) < ((x712000_1.length : Int) : Int) := of_decide_eq_true as_; first | exact h_ | (have e_ := (Kd.R_reads' HO_712000.out).1; omega) | simpa using h_) (seg := [.int .i64 t716, .int .i64 t717]) (j := 4) hcl35 hcc35 (show 6 ≤ 6 from by decide) (x' := (⟨(rd_T62 y718 x25_1).f0, (rd_T62 y718 x25_1).f1, (⟨(rd_T62 y718 x25_1).f2.f0, (rd_T62 y718 x25_1).f2.f1⟩ : S36), (⟨t716, t717⟩ : S36)⟩ : S62)) (k62_mkM _ _ _ (⟨(rd_T62 y718 x25_1).f0, (rd_T62 y718 x25_1).f1, (⟨(rd_T62 y718 x25_1).f2.f0, (rd_T62 y718 x25_1).f2.f1⟩ : S36), (⟨t716, t717⟩ : S36)⟩ : S62) ) (fun _ hk => hk)).1
       rw [← Ny719.out] at HP35
       have HQ35 := Aside0.mk HP35
       clear hcl35 hcc35 hfr35 hM35 HP35
       refine hK.out _ _ ⟨bc_ BK711 0, bc_ BK711 1, HS2_, HS3_⟩ (fun hHeld => ?_)
       clear hK K
       refine norm_ (a' := ?_) ?_ ?_
       rotate_left
       ·show Act.put _ (some 49) _ = _
        simp only [Act.put, List.setIfInBounds_toArray, List.set_cons_zero, List.set_cons_succ, i64_w, i32_w]
        rfl
       refine pr_ 22 50 28 8388607 HT_ rfl rfl ?_
       refine pr_ 23 51 28 16777215 HT_ rfl rfl ?_
       refine one_ (i := 24) (N := none) (bm_ 28 33554431) rfl rfl (one_of HT_.out (by kernel_rfl)) (by decide) (fun K hK => ?_)
       refine skip_ (w1 := ?_) (by rfl) rfl ?_ ?_
       rotate_left
       ·go_simp
        rfl
       refine hK.out _ _ ⟨(blk_cell (blk_far (blk_far BK711.out (by have h_ := Kd.R_ne HO_712000.out BK711.out (by decide); intro e_; exact h_ (by rw [e_]; rfl)) _) (by have h_ := Kd.R_ne HO_712000.out BK711.out (by decide); intro e_; exact h_ (by rw [e_]; rfl)) _) 0).trans rfl, (blk_cell (blk_far (blk_far BK711.out (by have h_ := Kd.R_ne HO_712000.out BK711.out (by decide); intro e_; exact h_ (by rw [e_]; rfl)) _) (by have h_ := Kd.R_ne HO_712000.out BK711.out (by decide); intro e_; exact h_ (by rw [e_]; rfl)) _) 1).trans rfl, (by (try simp only [add_plain]); exact (World.cell?_setCell_other _ _ _ _ (by intro h_; simp only [Addr.mk.injEq] at h_; omega)).trans ((World.cell?_setCell_other _ _ _ _ (by intro h_; simp only [Addr.mk.injEq] at h_; omega)).trans hx28_4)), (by (try simp only [add_plain]); exact (World.cell?_setCell_other _ _ _ _ (by intro h_; simp only [Addr.mk.injEq] at h_; omega)).trans ((World.cell?_setCell_other _ _ _ _ (by intro h_; simp only [Addr.mk.injEq] at h_; omega)).trans hx28_5))⟩ (fun hHeld => ?_)
       clear hK K
       refine pr_ 25 52 28 67108863 HT_ rfl rfl ?_
       refine pr_ 26 53 28 134217727 HT_ rfl rfl ?_
       refine last_ (i := 27) (N := none) (bm_ 28 268435455) rfl rfl (one_of HT_.out (by kernel_rfl)) (by decide) (fun K hK => ?_)
       refine skip_ (w1 := ?_) (by rfl) rfl ?_ ?_
       rotate_left
       ·go_simp
        rfl
       refine hK.out _ _ ?_
       clear hK K
       refine done_ (done_of HT_.out (by kernel_rfl)) ?_
       try go_wp2
       go_roundg k1
       case measure => have := HK1.out; omega
       case rel => exact ⟨(wrap64 (x25_1 + 1)), (y719), (.slice (some ⟨go28, 0, none⟩) x712000_1.length co31), (by first | rfl | (simp; done) | (simp [*]; done)), H', ⟨by have := HK1.out; omega⟩, ⟨by (with_reducible repeat (first | apply Kd.R_alloc | apply Kd.R_drewN | apply Kd.R_drew)); exact Kd.R_mono (Kd.R_far (p := ⟨go28, (x25_1 : Int).toNat * 6 + 5, none⟩) (Kd.R_far (p := ⟨go28, (x25_1 : Int).toNat * 6 + 4, none⟩) (Kd.R_far (p := ⟨go28, (x25_1 : Int).toNat * 6 + 3, none⟩) (Kd.R_far (p := ⟨go28, (x25_1 : Int).toNat * 6 + 2, none⟩) (Kd.R_types HO_9.out GG28.out (by decide)) (fun _ hk => hk.2) (.int .i64 t713)) (fun _ hk => hk.2) (.int .i64 t714)) (fun _ hk => hk.2) (.int .i64 t716)) (fun _ hk => hk.2) (.int .i64 t717)) (fun _ hk => trivial)⟩, ⟨by (with_reducible repeat (first | apply Kd.R_alloc | apply Kd.R_drewN | apply Kd.R_drew)); exact HQ35.out⟩, ⟨by (with_reducible repeat (first | apply Kd.R_alloc | apply Kd.R_drewN | apply Kd.R_drew)); exact Kd.R_mono (Kd.R_far (p := ⟨go28, (x25_1 : Int).toNat * 6 + 5, none⟩) (Kd.R_far (p := ⟨go28, (x25_1 : Int).toNat * 6 + 4, none⟩) (Kd.R_far (p := ⟨go28, (x25_1 : Int).toNat * 6 + 3, none⟩) (Kd.R_far (p := ⟨go28, (x25_1 : Int).toNat * 6 + 2, none⟩) (Kd.R_types HO_712001.out GG28.out (by decide)) (fun _ hk => hk.2) (.int .i64 t713)) (fun _ hk => hk.2) (.int .i64 t714)) (fun _ hk => hk.2) (.int .i64 t716)) (fun _ hk => hk.2) (.int .i64 t717)) (fun _ hk => trivial)⟩, ⟨by refine bx_ ?_; refine blk_far ?_ (by have h_ := Kd.R_ne HO_712000.out BK696.out (by decide); intro e_; exact h_ (by rw [e_]; rfl)) _; refine bx_ ?_; refine blk_far ?_ (by have h_ := Kd.R_ne HO_712000.out BK696.out (by decide); intro e_; exact h_ (by rw [e_]; rfl)) _; refine bx_ ?_; refine blk_far ?_ (by have h_ := Kd.R_ne HO_712000.out BK696.out (by decide); intro e_; exact h_ (by rw [e_]; rfl)) _; refine bx_ ?_; refine blk_far ?_ (by have h_ := Kd.R_ne HO_712000.out BK696.out (by decide); intro e_; exact h_ (by rw [e_]; rfl)) _; refine bx_ ?_; exact BK696.out⟩, ⟨by refine bx_ ?_; refine blk_far ?_ (by have h_ := Kd.R_ne HO_712000.out BK697.out (by decide); intro e_; exact h_ (by rw [e_]; rfl)) _; refine bx_ ?_; refine blk_far ?_ (by have h_ := Kd.R_ne HO_712000.out BK697.out (by decide); intro e_; exact h_ (by rw [e_]; rfl)) _; refine bx_ ?_; refine blk_far ?_ (by have h_ := Kd.R_ne HO_712000.out BK697.out (by decide); intro e_; exact h_ (by rw [e_]; rfl)) _; refine bx_ ?_; refine blk_far ?_ (by have h_ := Kd.R_ne HO_712000.out BK697.out (by decide); intro e_; exact h_ (by rw [e_]; rfl)) _; refine bx_ ?_; exact BK697.out⟩, ⟨by refine bx_ ?_; refine blk_far ?_ (by have h_ := Kd.R_ne HO_712000.out BK698.out (by decide); intro e_; exact h_ (by rw [e_]; rfl)) _; refine bx_ ?_; refine blk_far ?_ (by have h_ := Kd.R_ne HO_712000.out BK698.out (by decide); intro e_; exact h_ (by rw [e_]; rfl)) _; refine bx_ ?_; refine blk_far ?_ (by have h_ := Kd.R_ne HO_712000.out BK698.out (by decide); intro e_; exact h_ (by rw [e_]; rfl)) _; refine bx_ ?_; refine blk_far ?_ (by have h_ := Kd.R_ne HO_712000.out BK698.out (by decide); intro e_; exact h_ (by rw [e_]; rfl)) _; refine bx_ ?_; exact BK698.out⟩, ⟨by refine bx_ ?_; refine blk_far ?_ (by have h_ := Kd.R_ne HO_712000.out BK711.out (by decide); intro e_; exact h_ (by rw [e_]; rfl)) _; refine bx_ ?_; refine blk_far ?_ (by have h_ := Kd.R_ne HO_712000.out BK711.out (by decide); intro e_; exact h_ (by rw [e_]; rfl)) _; refine bx_ ?_; refine blk_far ?_ (by have h_ := Kd.R_ne HO_712000.out BK711.out (by decide); intro e_; exact h_ (by rw [e_]; rfl)) _; refine bx_ ?_; refine blk_far ?_ (by have h_ := Kd.R_ne HO_712000.out BK711.out (by decide); intro e_; exact h_ (by rw [e_]; rfl)) _; refine bx_ ?_; exact BK711.out⟩, ⟨by repeat (first | (with_reducible first | exact HB.out | apply below_alloc | apply pw_below_drewN | apply below_drew1 | refine below_set ?_ GB28.out | refine below_set ?_ GB28.out | refine below_set ?_ GB28.out | refine below_set ?_ GB28.out | refine below_set ?_ GE696.out | refine below_set ?_ GE697.out | refine below_set ?_ GE698.out | refine below_set ?_ GE711.out) | exact HB.out)⟩⟩
      ·rw [if_neg c25] at H
       exact absurd H (by simp)
     ·rw [if_neg c24] at H
      exact absurd H (by simp)
    ·rw [if_neg c23] at H
     have c23b0 : decide (x25_1 < (t699.length : Int)) = false := decide_eq_false c23
     clear c23
     have H' := Aside0.mk H
     clear H
     have hnb36 := NB711_696.out
     have hnc36 := NB696_711.out
     have hnb37 := NB711_697.out
     have hnc37 := NB697_711.out
     have hnb38 := NB711_698.out
     have hnc38 := NB698_711.out
     have hcz39_0 : wr.cell? ⟨gb711, 0, none⟩ = some (u712000) := bc_ BK711 0
     have hcz39_1 : wr.cell? ⟨gb711, 1, none⟩ = some (.slice Ao22 t702.length co22) := bc_ BK711 1
     have hfz39_0 := blk_frozen BK711.out 0
     have hfz39_1 := blk_frozen BK711.out 1
     go_wp2
     go_loopg [58] k1 (fun kq v58 w' => ∃ (x58_2 : Int) (x712001_2 : List (S81)) (u712001 : Value), v58 = .int .i64 x58_2 ∧ Aside0 (cottonpadlaw06_fixedW.l1 kq a2 y708 (t702.length : Int) x58_2 x712000_1 x712001_2 = some (r1, r2, r3)) ∧ Aside0 (kq ≤ k1) ∧ Aside0 (Kd.R k48 48 w' w.heap.size (fun _ => True) v709 y708) ∧ Aside0 (Kd.R k62 62 w' w.heap.size (fun _ => True) u712000 x712000_1) ∧ Aside0 (Kd.R k81 81 w' w.heap.size (fun _ => True) u712001 x712001_2) ∧ Aside0 (w'.heap[gb696]? = some (.cells #[(.slice A0_0 l0_0.length c0_0), (.slice A0_1 l0_1.length c0_1)] 25 (0, 0))) ∧ Aside0 (w'.heap[gb697]? = some (.cells #[.bool a2] 4 (0, 0))) ∧ Aside0 (w'.heap[gb698]? = some (.cells #[(.slice none 0 0), (.slice none 0 0)] 25 (0, 0))) ∧ Aside0 (w'.heap[gb711]? = some (.cells #[u712000, u712001] 25 (0, 0))) ∧ Aside0 (Below w.heap.size w w'))
     case atStart => exact ⟨(0), (t702), (.slice Ao22 t702.length co22), (by first | rfl | (simp; done) | (simp [*]; done)), H', ⟨Nat.le_refl _⟩, ⟨by (with_reducible repeat (first | apply Kd.R_alloc | apply Kd.R_drewN | apply Kd.R_drew)); exact HO_9.out⟩, ⟨by (with_reducible repeat (first | apply Kd.R_alloc | apply Kd.R_drewN | apply Kd.R_drew)); exact HO_712000.out⟩, ⟨by (with_reducible repeat (first | apply Kd.R_alloc | apply Kd.R_drewN | apply Kd.R_drew)); exact HO_712001.out⟩, ⟨by refine bx_ ?_; exact BK696.out⟩, ⟨by refine bx_ ?_; exact BK697.out⟩, ⟨by refine bx_ ?_; exact BK698.out⟩, ⟨by refine bx_ ?_; exact BK711.out⟩, ⟨by repeat (first | (with_reducible first | exact HB.out | apply below_alloc | apply pw_below_drewN | apply below_drew1 | refine below_set ?_ GE696.out | refine below_set ?_ GE697.out | refine below_set ?_ GE698.out | refine below_set ?_ GE711.out) | exact HB.out)⟩⟩
     case round =>
      clear H'
      try clear c1
      try clear c2
      try clear p2
      try clear q2
      try clear hx2
      try clear c3
      try clear c4
      try clear c5
      try clear p6
      try clear c7
      try clear p7
      try clear q7
      try clear hx7
      try clear c9
      try clear c10
      try clear c16
      try clear c18
      try clear c19
      try clear c20
      try clear c23
      try clear c23b0
      try clear c24
      try clear c24b0
      try clear c25
      try clear c25b0
      try clear c28
      try clear p28
      try clear q28
      try clear hx28
      try clear hf28
      try clear p29
      try clear q29
      try clear c34
      try clear c35
      try clear c36
      try clear c37
      try clear c38
      try clear hcz11_0
      try clear hcz11_1
      try clear hcz21_0
      try clear hcz21_1
      try clear hcz39_0
      try clear hcz39_1
      try clear hfz11_0
      try clear hfz11_1
      try clear hfz21_0
      try clear hfz21_1
      try clear hfz39_0
      try clear hfz39_1
      try clear hx28_0
      try clear hx28_1
      try clear hx28_2
      try clear hx28_3
      try clear hx28_4
      try clear hx28_5
      try clear hx712_0
      try clear hx712_1
      try clear hx712_2
      try clear hx712_3
      try clear hx712_4
      try clear hx712_5
      try clear hx715_0
      try clear hx715_1
      try clear hx715_2
      try clear hx715_3
      try clear hx715_4
      try clear hx715_5
      try clear p2
      try clear p28
      try clear p29
      try clear p712
      try clear p715
      try clear q28
      try clear q29
      try clear q712
      try clear q715
      obtain ⟨x58_2, x712001_2, u712001, rfl, HA, HK2, HO_9, HO_712000, HO_712001, BK696, BK697, BK698, BK711, HB⟩ := hrel
      cases gk with
      | zero => exact absurd HA.out (by simp [cottonpadlaw06_fixedW.l1])
      | succ k2 =>
       have H := HA.out
       clear HA
       simp only [cottonpadlaw06_fixedW.l1] at H
       by_cases c40 : x58_2 < (t702.length : Int)
       ·rw [if_pos c40] at H
        have c40b0 : decide (x58_2 < (t702.length : Int)) = true := decide_eq_true c40
        clear c40
        by_cases c41 : 0 ≤ x58_2
        ·rw [if_pos c41] at H
         have c41b0 : decide (0 ≤ x58_2) = true := decide_eq_true c41
         clear c41
         by_cases c42 : x58_2 < (x712001_2.length : Int)
         ·rw [if_pos c42] at H
          have c42b0 : decide (x58_2 < (x712001_2.length : Int)) = true := decide_eq_true c42
          clear c42
          replace H := Option.bind_eq_some_iff.mp H
          obtain ⟨⟨t721, t722⟩, A430, H⟩ := H
          replace H : (cottonpadlaw06_fixedW.l1 k2 a2 y708 (t702.length : Int) (wrap64 (x58_2 + 1)) x712000_1 (x712001_2.set (x58_2 : Int).toNat (⟨(rd_T81 x712001_2 x58_2).f0, (rd_T81 x712001_2 x58_2).f1, (⟨t721, t722⟩ : S36)⟩ : S81))) = some (r1, r2, r3) := H
          have A43 := Aside0.mk A430
          clear A430
          obtain ⟨y723, hy723⟩ : ∃ y_ : List (S81), y_ = (x712001_2.set (x58_2 : Int).toNat (⟨(rd_T81 x712001_2 x58_2).f0, (rd_T81 x712001_2 x58_2).f1, (⟨t721, t722⟩ : S36)⟩ : S81)) := ⟨_, rfl⟩
          replace H : (cottonpadlaw06_fixedW.l1 k2 a2 y708 (t702.length : Int) (wrap64 (x58_2 + 1)) x712000_1 y723) = some (r1, r2, r3) := by first | (rw [hy723]; with_reducible exact H) | (have H2_ := (Option.bind_some _ _).symm.trans H; rw [hy723]; with_reducible exact H2_) | (have H2_ := (Option.bind_some _ _).symm.trans H; with_reducible exact H2_) | with_reducible exact H | (rw [hy723]; exact H) | exact H
          have Ny723 := Aside0.mk hy723
          clear hy723
          have H' := Aside0.mk H
          clear H
          try go_wp2
          replace HO_9 := Aside0.mk (Kd.R_drew HO_9.out)
          replace HO_712000 := Aside0.mk (Kd.R_drew HO_712000.out)
          replace HO_712001 := Aside0.mk (Kd.R_drew HO_712001.out)
          replace BK696 := Aside0.mk (blk_drew BK696.out)
          replace BK697 := Aside0.mk (blk_drew BK697.out)
          replace BK698 := Aside0.mk (blk_drew BK698.out)
          replace BK711 := Aside0.mk (blk_drew BK711.out)
          replace HB := Aside0.mk (below_drew1 HB.out)
          obtain ⟨Ao46, co46, eo46⟩ := Kd.R_slice HO_712001.out
          (first | subst eo46 | (injection eo46 with f1_ f2_ f3_; have f4_ := f1_.symm; have f5_ := f3_.symm; clear f1_ f2_ f3_; subst f4_; subst f5_))
          have p720 : 0 ≤ (x58_2 : Int) := of_decide_eq_true as_
          have q720 : x58_2 < (x712001_2.length : Int) := of_decide_eq_true as_
          obtain ⟨ad720, e720, hx720_0, hx720_1, hx720_2, hx720_3⟩ := at_T81 (Kd.R_reads' HO_712001.out).2.2 x58_2 p720 q720
          cases e720
          replace p720 := eq_true p720
          replace q720 := eq_true q720
          refine start_ (n := 14) (S := fun w' => w'.cell? ⟨gb711, 0, none⟩ = some (u712000) ∧ w'.cell? ⟨gb711, 1, none⟩ = some (.slice (some ad720) x712001_2.length co46) ∧ w'.cell? (ad720.add ((x58_2).toNat * 4)) = some (.int .i64 ((rd_T81 x712001_2 x58_2).f0)) ∧ w'.cell? ⟨(ad720.add ((x58_2).toNat * 4)).block, (ad720.add ((x58_2).toNat * 4)).off + 1, none⟩ = some (.int .i64 ((rd_T81 x712001_2 x58_2).f1)) ∧ w'.cell? ⟨(ad720.add ((x58_2).toNat * 4)).block, (ad720.add ((x58_2).toNat * 4)).off + 2, none⟩ = some (.int .i64 ((rd_T81 x712001_2 x58_2).f2.f0)) ∧ w'.cell? ⟨(ad720.add ((x58_2).toNat * 4)).block, (ad720.add ((x58_2).toNat * 4)).off + 3, none⟩ = some (.int .i64 ((rd_T81 x712001_2 x58_2).f2.f1))) (ds := [13]) (bm_ 14 0) (by kernel_rfl) rfl rfl ⟨bc_ BK711 0, bc_ BK711 1, hx720_0, hx720_1, hx720_2, hx720_3⟩ (fun hHeld => ?_); refine with_tabW cottonpadlaw06_fixedW.tab12 cottonpadlaw06_fixedW.bits12 (fun HT_ HW_ => ?_)
          generalize wr.drew = w45 at HO_9 HO_712000 HO_712001 BK696 BK697 BK698 BK711 HB hx720_0 hx720_1 hx720_2 hx720_3 hHeld ⊢
          refine pr_ 0 61 14 1 HT_ rfl rfl ?_
          refine pr_ 2 63 14 5 HT_ rfl rfl ?_
          refine pr_ 3 64 14 13 HT_ rfl rfl ?_
          refine pr_ 4 65 14 29 HT_ rfl rfl ?_
          refine pr_ 6 67 14 93 HT_ rfl rfl ?_
          refine ta_ 1 62 14 95 HT_ HW_ rfl rfl hHeld ?_
          refine ta_ 5 66 14 127 HT_ HW_ rfl rfl hHeld ?_
          refine pr_ 7 68 14 255 HT_ rfl rfl ?_
          refine pr_ 8 69 14 511 HT_ rfl rfl ?_
          refine ta_ 9 70 14 1023 HT_ HW_ rfl rfl hHeld ?_
          refine one_ (i := 10) (N := some 71) (bm_ 14 2047) rfl rfl (one_of HT_.out (by kernel_rfl)) (by decide) (fun K hK => ?_)
          refine goesC_ Tryd.func75 (by kernel_rfl) rfl #[.pointer (some ⟨gb697, 0, none⟩)] #[.agg #[.int .i64 ((rd_T81 x712001_2 x58_2).f2.f0), .int .i64 ((rd_T81 x712001_2 x58_2).f2.f1)], .pointer (some ⟨gb697, 0, none⟩)] (by rfl) rfl rfl rfl (by first | rfl | (simp only [List.map_toArray, List.map_cons, List.map_nil, List.append_toArray, List.cons_append, List.nil_append]; done) | (simp only [List.map_toArray, List.map_cons, List.map_nil, List.append_toArray, List.cons_append, List.nil_append]; rfl)) ?_
          with_reducible refine (cottonpadlaw06_fixedearly.calls gb697 a2 ((rd_T81 x712001_2 x58_2).f2.f0) ((rd_T81 x712001_2 x58_2).f2.f1) t721 t722 _ BK697.out A43.out).mono ?_
          rintro e w47 ⟨rfl, hb⟩
          have HS2_ := (hb.cell (World.block_lt_of_cell? _ _ (hHeld.2.2.1))).trans (hHeld.2.2.1)
          have HS3_ := (hb.cell (World.block_lt_of_cell? _ _ (hHeld.2.2.2.1))).trans (hHeld.2.2.2.1)
          have HS4_ := (hb.cell (World.block_lt_of_cell? _ _ (hHeld.2.2.2.2.1))).trans (hHeld.2.2.2.2.1)
          have HS5_ := (hb.cell (World.block_lt_of_cell? _ _ (hHeld.2.2.2.2.2))).trans (hHeld.2.2.2.2.2)
          refine ⟨_, rfl, ?_⟩
          replace HO_9 := rb_ HO_9 hb
          replace HO_712000 := rb_ HO_712000 hb
          replace HO_712001 := rb_ HO_712001 hb
          replace BK696 := bb_ BK696 hb
          replace BK697 := bb_ BK697 hb
          replace BK698 := bb_ BK698 hb
          replace BK711 := bb_ BK711 hb
          replace HB := Aside0.mk (below_step (by repeat (first | (with_reducible first | exact HB.out | apply below_alloc | apply pw_below_drewN | apply below_drew1 | refine below_set ?_ GE696.out | refine below_set ?_ GE697.out | refine below_set ?_ GE698.out | refine below_set ?_ GE711.out) | exact HB.out)) hb)
          (try clear hb)
          (try clear hb2)
          (try clear hk)
          (try clear hi)
          have p44 : 0 ≤ (x58_2 : Int) := of_decide_eq_true as_
          have q44 : (x58_2 : Int) < ((x712001_2.length : Int) : Int) := of_decide_eq_true as_
          obtain ⟨go44, co44, eo44, gb44, gl44, cl44, HG44⟩ := Kd.R_form HO_712001.out (by omega)
          (first | cases eo44 | (injection eo44 with ea_ en_ ec_; (first | subst ea_ | (injection ea_ with ea_; subst ea_)); subst ec_; clear en_))
          have GB44 := Aside0.mk gb44
          have GG44 := Aside0.mk HG44
          clear gb44 gl44 HG44
          (first | simp only [add_plain] at hx720_0 | skip)
          (first | simp only [add_plain] at hx720_1 | skip)
          (first | simp only [add_plain] at hx720_2 | skip)
          (first | simp only [add_plain] at hx720_3 | skip)
          obtain ⟨ce44, hcl44, hM44, hcc44, hfr44⟩ := Kd.R_elem HO_712001.out z81 (x58_2 : Int) p44 q44
          obtain rfl := k81_openM hM44
          have hx44_0 : World.cell? _ ⟨go44, (x58_2 : Int).toNat * 4, none⟩ = some (.int .i64 ((rd_T81 x712001_2 x58_2).f0)) := hcc44 0 _ rfl
          have hx44_1 : World.cell? _ ⟨go44, (x58_2 : Int).toNat * 4 + 1, none⟩ = some (.int .i64 ((rd_T81 x712001_2 x58_2).f1)) := hcc44 1 _ rfl
          have hx44_2 : World.cell? _ ⟨go44, (x58_2 : Int).toNat * 4 + 2, none⟩ = some (.int .i64 ((rd_T81 x712001_2 x58_2).f2.f0)) := hcc44 2 _ rfl
          have hx44_3 : World.cell? _ ⟨go44, (x58_2 : Int).toNat * 4 + 3, none⟩ = some (.int .i64 ((rd_T81 x712001_2 x58_2).f2.f1)) := hcc44 3 _ rfl
          have hf44_0 : World.frozen? _ ⟨go44, (x58_2 : Int).toNat * 4, none⟩ = false := hfr44 0
          have hf44_1 : World.frozen? _ ⟨go44, (x58_2 : Int).toNat * 4 + 1, none⟩ = false := hfr44 1
          have hf44_2 : World.frozen? _ ⟨go44, (x58_2 : Int).toNat * 4 + 2, none⟩ = false := hfr44 2
          have hf44_3 : World.frozen? _ ⟨go44, (x58_2 : Int).toNat * 4 + 3, none⟩ = false := hfr44 3
          clear hcl44 hcc44 hfr44 hM44
          replace p44 := eq_true p44
          replace q44 := eq_true q44
          obtain ⟨ce48, hcl48, hM48, hcc48, hfr48⟩ := Kd.R_elem HO_712001.out z81 (x58_2 : Int) (of_decide_eq_true as_) (by have h_ : (x58_2 : Int) < ((x712001_2.length : Int) : Int) := of_decide_eq_true as_; first | exact h_ | (have e_ := (Kd.R_reads' HO_712001.out).1; omega) | simpa using h_)
          obtain rfl := k81_openM hM48
          have HP48 := (Kd.R_seg HO_712001.out (x58_2 : Int) (of_decide_eq_true as_) (by have h_ : (x58_2 : Int) < ((x712001_2.length : Int) : Int) := of_decide_eq_true as_; first | exact h_ | (have e_ := (Kd.R_reads' HO_712001.out).1; omega) | simpa using h_) (seg := [.int .i64 t721, .int .i64 t722]) (j := 2) hcl48 hcc48 (show 4 ≤ 4 from by decide) (x' := (⟨(rd_T81 x712001_2 x58_2).f0, (rd_T81 x712001_2 x58_2).f1, (⟨t721, t722⟩ : S36)⟩ : S81)) (k81_mkM _ _ _ (⟨(rd_T81 x712001_2 x58_2).f0, (rd_T81 x712001_2 x58_2).f1, (⟨t721, t722⟩ : S36)⟩ : S81) ) (fun _ hk => hk)).1
          rw [← Ny723.out] at HP48
          have HQ48 := Aside0.mk HP48
          clear hcl48 hcc48 hfr48 hM48 HP48
          refine hK.out _ _ ⟨bc_ BK711 0, bc_ BK711 1, HS2_, HS3_, HS4_, HS5_⟩ (fun hHeld => ?_)
          clear hK K
          refine norm_ (a' := ?_) ?_ ?_
          rotate_left
          ·show Act.put _ (some 71) _ = _
           simp only [Act.put, List.setIfInBounds_toArray, List.set_cons_zero, List.set_cons_succ, i64_w, i32_w]
           rfl
          refine pr_ 11 72 14 4095 HT_ rfl rfl ?_
          refine pr_ 12 73 14 8191 HT_ rfl rfl ?_
          refine last_ (i := 13) (N := none) (bm_ 14 16383) rfl rfl (one_of HT_.out (by kernel_rfl)) (by decide) (fun K hK => ?_)
          refine skip_ (w1 := ?_) (by rfl) rfl ?_ ?_
          rotate_left
          ·go_simp
           rfl
          refine hK.out _ _ ?_
          clear hK K
          refine done_ (done_of HT_.out (by kernel_rfl)) ?_
          try go_wp2
          go_roundg k2
          case measure => have := HK1.out; have := HK2.out; omega
          case rel => exact ⟨(wrap64 (x58_2 + 1)), (y723), (.slice (some ⟨go44, 0, none⟩) x712001_2.length co46), (by first | rfl | (simp; done) | (simp [*]; done)), H', ⟨by have := HK1.out; have := HK2.out; omega⟩, ⟨by (with_reducible repeat (first | apply Kd.R_alloc | apply Kd.R_drewN | apply Kd.R_drew)); exact Kd.R_mono (Kd.R_far (p := ⟨go44, (x58_2 : Int).toNat * 4 + 3, none⟩) (Kd.R_far (p := ⟨go44, (x58_2 : Int).toNat * 4 + 2, none⟩) (Kd.R_types HO_9.out GG44.out (by decide)) (fun _ hk => hk.2) (.int .i64 t721)) (fun _ hk => hk.2) (.int .i64 t722)) (fun _ hk => trivial)⟩, ⟨by (with_reducible repeat (first | apply Kd.R_alloc | apply Kd.R_drewN | apply Kd.R_drew)); exact Kd.R_mono (Kd.R_far (p := ⟨go44, (x58_2 : Int).toNat * 4 + 3, none⟩) (Kd.R_far (p := ⟨go44, (x58_2 : Int).toNat * 4 + 2, none⟩) (Kd.R_types HO_712000.out GG44.out (by decide)) (fun _ hk => hk.2) (.int .i64 t721)) (fun _ hk => hk.2) (.int .i64 t722)) (fun _ hk => trivial)⟩, ⟨by (with_reducible repeat (first | apply Kd.R_alloc | apply Kd.R_drewN | apply Kd.R_drew)); exact HQ48.out⟩, ⟨by refine bx_ ?_; refine blk_far ?_ (by have h_ := Kd.R_ne HO_712001.out BK696.out (by decide); intro e_; exact h_ (by rw [e_]; rfl)) _; refine bx_ ?_; refine blk_far ?_ (by have h_ := Kd.R_ne HO_712001.out BK696.out (by decide); intro e_; exact h_ (by rw [e_]; rfl)) _; refine bx_ ?_; exact BK696.out⟩, ⟨by refine bx_ ?_; refine blk_far ?_ (by have h_ := Kd.R_ne HO_712001.out BK697.out (by decide); intro e_; exact h_ (by rw [e_]; rfl)) _; refine bx_ ?_; refine blk_far ?_ (by have h_ := Kd.R_ne HO_712001.out BK697.out (by decide); intro e_; exact h_ (by rw [e_]; rfl)) _; refine bx_ ?_; exact BK697.out⟩, ⟨by refine bx_ ?_; refine blk_far ?_ (by have h_ := Kd.R_ne HO_712001.out BK698.out (by decide); intro e_; exact h_ (by rw [e_]; rfl)) _; refine bx_ ?_; refine blk_far ?_ (by have h_ := Kd.R_ne HO_712001.out BK698.out (by decide); intro e_; exact h_ (by rw [e_]; rfl)) _; refine bx_ ?_; exact BK698.out⟩, ⟨by refine bx_ ?_; refine blk_far ?_ (by have h_ := Kd.R_ne HO_712001.out BK711.out (by decide); intro e_; exact h_ (by rw [e_]; rfl)) _; refine bx_ ?_; refine blk_far ?_ (by have h_ := Kd.R_ne HO_712001.out BK711.out (by decide); intro e_; exact h_ (by rw [e_]; rfl)) _; refine bx_ ?_; exact BK711.out⟩, ⟨by repeat (first | (with_reducible first | exact HB.out | apply below_alloc | apply pw_below_drewN | apply below_drew1 | refine below_set ?_ GB44.out | refine below_set ?_ GB44.out | refine below_set ?_ GE696.out | refine below_set ?_ GE697.out | refine below_set ?_ GE698.out | refine below_set ?_ GE711.out) | exact HB.out)⟩⟩
         ·rw [if_neg c42] at H
          exact absurd H (by simp)
        ·rw [if_neg c41] at H
         exact absurd H (by simp)
       ·rw [if_neg c40] at H
        have c40b0 : decide (x58_2 < (t702.length : Int)) = false := decide_eq_false c40
        clear c40
        have H' := Aside0.mk H
        clear H
        obtain ⟨Ao49, co49, eo49⟩ := Kd.R_slice HO_9.out
        subst eo49
        go_wp2
        go_loopg [77] k2 (fun kq v77 w' => ∃ (x9_3 : List (S48)) (x77_3 : Int), v77 = .int .i64 x77_3 ∧ Aside0 (cottonpadlaw06_fixedW.l2 kq a2 x9_3 (y708.length : Int) x77_3 x712000_1 x712001_2 = some (r1, r2, r3)) ∧ Aside0 (kq ≤ k2) ∧ Aside0 (Kd.R k48 48 w' w.heap.size (fun _ => True) (.slice Ao49 y708.length co49) x9_3) ∧ Aside0 (Kd.R k62 62 w' w.heap.size (fun _ => True) u712000 x712000_1) ∧ Aside0 (Kd.R k81 81 w' w.heap.size (fun _ => True) u712001 x712001_2) ∧ Aside0 (w'.heap[gb696]? = some (.cells #[(.slice A0_0 l0_0.length c0_0), (.slice A0_1 l0_1.length c0_1)] 25 (0, 0))) ∧ Aside0 (w'.heap[gb697]? = some (.cells #[.bool a2] 4 (0, 0))) ∧ Aside0 (w'.heap[gb698]? = some (.cells #[(.slice none 0 0), (.slice none 0 0)] 25 (0, 0))) ∧ Aside0 (w'.heap[gb711]? = some (.cells #[u712000, u712001] 25 (0, 0))) ∧ Aside0 (Below w.heap.size w w'))
        case atStart => exact ⟨(y708), (0), (by first | rfl | (simp; done) | (simp [*]; done)), H', ⟨Nat.le_refl _⟩, ⟨by (with_reducible repeat (first | apply Kd.R_alloc | apply Kd.R_drewN | apply Kd.R_drew)); exact HO_9.out⟩, ⟨by (with_reducible repeat (first | apply Kd.R_alloc | apply Kd.R_drewN | apply Kd.R_drew)); exact HO_712000.out⟩, ⟨by (with_reducible repeat (first | apply Kd.R_alloc | apply Kd.R_drewN | apply Kd.R_drew)); exact HO_712001.out⟩, ⟨by refine bx_ ?_; exact BK696.out⟩, ⟨by refine bx_ ?_; exact BK697.out⟩, ⟨by refine bx_ ?_; exact BK698.out⟩, ⟨by refine bx_ ?_; exact BK711.out⟩, ⟨by repeat (first | (with_reducible first | exact HB.out | apply below_alloc | apply pw_below_drewN | apply below_drew1 | refine below_set ?_ GE696.out | refine below_set ?_ GE697.out | refine below_set ?_ GE698.out | refine below_set ?_ GE711.out) | exact HB.out)⟩⟩
        case round =>
         clear H'
         try clear c1
         try clear c2
         try clear p2
         try clear q2
         try clear hx2
         try clear c3
         try clear c4
         try clear p4
         try clear q4
         try clear hx4
         try clear hf4
         try clear c5
         try clear p6
         try clear c7
         try clear p7
         try clear q7
         try clear hx7
         try clear c9
         try clear c10
         try clear c16
         try clear c18
         try clear c19
         try clear c20
         try clear c23
         try clear c23b0
         try clear c24
         try clear c24b0
         try clear c25
         try clear c25b0
         try clear c28
         try clear p28
         try clear q28
         try clear hx28
         try clear hf28
         try clear p29
         try clear q29
         try clear c34
         try clear c35
         try clear c36
         try clear c37
         try clear c38
         try clear c40
         try clear c40b0
         try clear c41
         try clear c41b0
         try clear c42
         try clear c42b0
         try clear c44
         try clear p44
         try clear q44
         try clear hx44
         try clear hf44
         try clear c48
         try clear hcz11_0
         try clear hcz11_1
         try clear hcz21_0
         try clear hcz21_1
         try clear hcz39_0
         try clear hcz39_1
         try clear hfz11_0
         try clear hfz11_1
         try clear hfz21_0
         try clear hfz21_1
         try clear hfz39_0
         try clear hfz39_1
         try clear hx28_0
         try clear hx28_1
         try clear hx28_2
         try clear hx28_3
         try clear hx28_4
         try clear hx28_5
         try clear hx44_0
         try clear hx44_1
         try clear hx44_2
         try clear hx44_3
         try clear hx712_0
         try clear hx712_1
         try clear hx712_2
         try clear hx712_3
         try clear hx712_4
         try clear hx712_5
         try clear hx715_0
         try clear hx715_1
         try clear hx715_2
         try clear hx715_3
         try clear hx715_4
         try clear hx715_5
         try clear hx720_0
         try clear hx720_1
         try clear hx720_2
         try clear hx720_3
         try clear p2
         try clear p28
         try clear p29
         try clear p44
         try clear p6
         try clear p7
         try clear p712
         try clear p715
         try clear p720
         try clear q2
         try clear q28
         try clear q29
         try clear q44
         try clear q7
         try clear q712
         try clear q715
         try clear q720
         obtain ⟨x9_3, x77_3, rfl, HA, HK3, HO_9, HO_712000, HO_712001, BK696, BK697, BK698, BK711, HB⟩ := hrel
         have hl9_3 := (Kd.R_reads' HO_9.out).1
         rw [hl9_3] at HO_9
         (try simp only [hl9_3])
         (try simp only [hl9_3] at BK696)
         (try simp only [hl9_3] at BK697)
         (try simp only [hl9_3] at BK698)
         (try simp only [hl9_3] at BK711)
         (try simp only [hl9_3] at HO_712000)
         (try simp only [hl9_3] at HO_712001)
         cases gk with
         | zero => exact absurd HA.out (by simp [cottonpadlaw06_fixedW.l2])
         | succ k3 =>
          have H := HA.out
          clear HA
          simp only [cottonpadlaw06_fixedW.l2] at H
          by_cases c50 : x77_3 < (y708.length : Int)
          ·rw [if_pos c50] at H
           have c50b0 : decide (x77_3 < (y708.length : Int)) = true := decide_eq_true c50
           clear c50
           by_cases c51 : 0 ≤ x77_3
           ·rw [if_pos c51] at H
            have c51b0 : decide (0 ≤ x77_3) = true := decide_eq_true c51
            clear c51
            by_cases c52 : x77_3 < (x9_3.length : Int)
            ·rw [if_pos c52] at H
             have c52b0 : decide (x77_3 < (x9_3.length : Int)) = true := decide_eq_true c52
             clear c52
             replace H := Option.bind_eq_some_iff.mp H
             obtain ⟨⟨t725, t726⟩, A530, H⟩ := H
             replace H : ((cottonpadlaw06_fixedlate.f a2 ((rd_T48 x9_3 x77_3).f2.f0) ((rd_T48 x9_3 x77_3).f2.f1)).bind fun bt728 => ((some (x9_3.set (x77_3 : Int).toNat (⟨(rd_T48 x9_3 x77_3).f0, (⟨t725, t726⟩ : S36), (⟨(rd_T48 x9_3 x77_3).f2.f0, (rd_T48 x9_3 x77_3).f2.f1⟩ : S36)⟩ : S48) : List (S48))).bind fun y730 => (cottonpadlaw06_fixedW.l2 k3 a2 (y730.set (x77_3 : Int).toNat (⟨(rd_T48 y730 x77_3).f0, (⟨(rd_T48 y730 x77_3).f1.f0, (rd_T48 y730 x77_3).f1.f1⟩ : S36), (⟨bt728.1, bt728.2⟩ : S36)⟩ : S48)) (y708.length : Int) (wrap64 (x77_3 + 1)) x712000_1 x712001_2))) = some (r1, r2, r3) := H
             have A53 := Aside0.mk A530
             clear A530
             replace H := Option.bind_eq_some_iff.mp H
             obtain ⟨⟨t728, t729⟩, A540, H⟩ := H
             replace H : ((some (x9_3.set (x77_3 : Int).toNat (⟨(rd_T48 x9_3 x77_3).f0, (⟨t725, t726⟩ : S36), (⟨(rd_T48 x9_3 x77_3).f2.f0, (rd_T48 x9_3 x77_3).f2.f1⟩ : S36)⟩ : S48) : List (S48))).bind fun y730 => (cottonpadlaw06_fixedW.l2 k3 a2 (y730.set (x77_3 : Int).toNat (⟨(rd_T48 y730 x77_3).f0, (⟨(rd_T48 y730 x77_3).f1.f0, (rd_T48 y730 x77_3).f1.f1⟩ : S36), (⟨t728, t729⟩ : S36)⟩ : S48)) (y708.length : Int) (wrap64 (x77_3 + 1)) x712000_1 x712001_2)) = some (r1, r2, r3) := H
             have A54 := Aside0.mk A540
             clear A540
             obtain ⟨y730, hy730⟩ : ∃ y_ : List (S48), y_ = (x9_3.set (x77_3 : Int).toNat (⟨(rd_T48 x9_3 x77_3).f0, (⟨t725, t726⟩ : S36), (⟨(rd_T48 x9_3 x77_3).f2.f0, (rd_T48 x9_3 x77_3).f2.f1⟩ : S36)⟩ : S48)) := ⟨_, rfl⟩
             replace H : (cottonpadlaw06_fixedW.l2 k3 a2 (y730.set (x77_3 : Int).toNat (⟨(rd_T48 y730 x77_3).f0, (⟨(rd_T48 y730 x77_3).f1.f0, (rd_T48 y730 x77_3).f1.f1⟩ : S36), (⟨t728, t729⟩ : S36)⟩ : S48)) (y708.length : Int) (wrap64 (x77_3 + 1)) x712000_1 x712001_2) = some (r1, r2, r3) := by first | (rw [hy730]; with_reducible exact H) | (have H2_ := (Option.bind_some _ _).symm.trans H; rw [hy730]; with_reducible exact H2_) | (have H2_ := (Option.bind_some _ _).symm.trans H; with_reducible exact H2_) | with_reducible exact H | (rw [hy730]; exact H) | exact H
             have Ny730 := Aside0.mk hy730
             clear hy730
             obtain ⟨y731, hy731⟩ : ∃ y_ : List (S48), y_ = (y730.set (x77_3 : Int).toNat (⟨(rd_T48 y730 x77_3).f0, (⟨(rd_T48 y730 x77_3).f1.f0, (rd_T48 y730 x77_3).f1.f1⟩ : S36), (⟨t728, t729⟩ : S36)⟩ : S48)) := ⟨_, rfl⟩
             replace H : (cottonpadlaw06_fixedW.l2 k3 a2 y731 (y708.length : Int) (wrap64 (x77_3 + 1)) x712000_1 x712001_2) = some (r1, r2, r3) := by first | (rw [hy731]; with_reducible exact H) | (have H2_ := (Option.bind_some _ _).symm.trans H; rw [hy731]; with_reducible exact H2_) | (have H2_ := (Option.bind_some _ _).symm.trans H; with_reducible exact H2_) | with_reducible exact H | (rw [hy731]; exact H) | exact H
             have Ny731 := Aside0.mk hy731
             clear hy731
             have H' := Aside0.mk H
             clear H
             try go_wp2
             replace HO_9 := Aside0.mk (Kd.R_drew HO_9.out)
             replace HO_712000 := Aside0.mk (Kd.R_drew HO_712000.out)
             replace HO_712001 := Aside0.mk (Kd.R_drew HO_712001.out)
             replace BK696 := Aside0.mk (blk_drew BK696.out)
             replace BK697 := Aside0.mk (blk_drew BK697.out)
             replace BK698 := Aside0.mk (blk_drew BK698.out)
             replace BK711 := Aside0.mk (blk_drew BK711.out)
             replace HB := Aside0.mk (below_drew1 HB.out)
             have p724 : 0 ≤ (x77_3 : Int) := of_decide_eq_true as_
             have q724 : x77_3 < (x9_3.length : Int) := of_decide_eq_true as_
             obtain ⟨ad724, e724, hx724_0, hx724_1, hx724_2, hx724_3, hx724_4⟩ := at_T48 (Kd.R_reads' HO_9.out).2.2 x77_3 p724 q724
             cases e724
             replace p724 := eq_true p724
             replace q724 := eq_true q724
             have p727 : 0 ≤ (x77_3 : Int) := of_decide_eq_true as_
             have q727 : x77_3 < (x9_3.length : Int) := of_decide_eq_true as_
             obtain ⟨ad727, e727, hx727_0, hx727_1, hx727_2, hx727_3, hx727_4⟩ := at_T48 (Kd.R_reads' HO_9.out).2.2 x77_3 p727 q727
             obtain rfl : ad724 = ad727 := (by injection e727)
             replace p727 := eq_true p727
             replace q727 := eq_true q727
             refine start_ (n := 24) (S := fun w' => w'.cell? (ad724.add ((x77_3).toNat * 5)) = some (.int .i64 ((rd_T48 x9_3 x77_3).f0)) ∧ w'.cell? ⟨(ad724.add ((x77_3).toNat * 5)).block, (ad724.add ((x77_3).toNat * 5)).off + 1, none⟩ = some (.int .i64 ((rd_T48 x9_3 x77_3).f1.f0)) ∧ w'.cell? ⟨(ad724.add ((x77_3).toNat * 5)).block, (ad724.add ((x77_3).toNat * 5)).off + 2, none⟩ = some (.int .i64 ((rd_T48 x9_3 x77_3).f1.f1)) ∧ w'.cell? ⟨(ad724.add ((x77_3).toNat * 5)).block, (ad724.add ((x77_3).toNat * 5)).off + 3, none⟩ = some (.int .i64 ((rd_T48 x9_3 x77_3).f2.f0)) ∧ w'.cell? ⟨(ad724.add ((x77_3).toNat * 5)).block, (ad724.add ((x77_3).toNat * 5)).off + 4, none⟩ = some (.int .i64 ((rd_T48 x9_3 x77_3).f2.f1)) ∧ w'.cell? (ad724.add ((x77_3).toNat * 5)) = some (.int .i64 ((rd_T48 x9_3 x77_3).f0)) ∧ w'.cell? ⟨(ad724.add ((x77_3).toNat * 5)).block, (ad724.add ((x77_3).toNat * 5)).off + 1, none⟩ = some (.int .i64 ((rd_T48 x9_3 x77_3).f1.f0)) ∧ w'.cell? ⟨(ad724.add ((x77_3).toNat * 5)).block, (ad724.add ((x77_3).toNat * 5)).off + 2, none⟩ = some (.int .i64 ((rd_T48 x9_3 x77_3).f1.f1)) ∧ w'.cell? ⟨(ad724.add ((x77_3).toNat * 5)).block, (ad724.add ((x77_3).toNat * 5)).off + 3, none⟩ = some (.int .i64 ((rd_T48 x9_3 x77_3).f2.f0)) ∧ w'.cell? ⟨(ad724.add ((x77_3).toNat * 5)).block, (ad724.add ((x77_3).toNat * 5)).off + 4, none⟩ = some (.int .i64 ((rd_T48 x9_3 x77_3).f2.f1))) (ds := [20, 23]) (bm_ 24 0) (by kernel_rfl) rfl rfl ⟨hx724_0, hx724_1, hx724_2, hx724_3, hx724_4, hx727_0, hx727_1, hx727_2, hx727_3, hx727_4⟩ (fun hHeld => ?_); refine with_tabW cottonpadlaw06_fixedW.tab17 cottonpadlaw06_fixedW.bits17 (fun HT_ HW_ => ?_)
             generalize wr.drew = w57 at HO_9 HO_712000 HO_712001 BK696 BK697 BK698 BK711 HB hx724_0 hx724_1 hx724_2 hx724_3 hx724_4 hx727_0 hx727_1 hx727_2 hx727_3 hx727_4 hHeld ⊢
             refine pr_ 0 80 24 1 HT_ rfl rfl ?_
             refine pr_ 1 81 24 3 HT_ rfl rfl ?_
             refine pr_ 2 82 24 7 HT_ rfl rfl ?_
             refine pr_ 3 83 24 15 HT_ rfl rfl ?_
             refine pr_ 4 84 24 31 HT_ rfl rfl ?_
             refine pr_ 5 85 24 63 HT_ rfl rfl ?_
             refine pr_ 6 86 24 127 HT_ rfl rfl ?_
             refine pr_ 7 87 24 255 HT_ rfl rfl ?_
             refine pr_ 8 88 24 511 HT_ rfl rfl ?_
             refine pr_ 11 91 24 2559 HT_ rfl rfl ?_
             refine pr_ 12 92 24 6655 HT_ rfl rfl ?_
             refine pr_ 13 93 24 14847 HT_ rfl rfl ?_
             refine pr_ 14 94 24 31231 HT_ rfl rfl ?_
             refine pr_ 15 95 24 63999 HT_ rfl rfl ?_
             refine ta_ 9 89 24 64511 HT_ HW_ rfl rfl hHeld ?_
             refine ta_ 16 96 24 130047 HT_ HW_ rfl rfl hHeld ?_
             refine one_ (i := 10) (N := some 90) (bm_ 24 131071) rfl rfl (one_of HT_.out (by kernel_rfl)) (by decide) (fun K hK => ?_)
             refine goesC_ Tryd.func75 (by kernel_rfl) rfl #[.pointer (some ⟨gb697, 0, none⟩)] #[.agg #[.int .i64 ((rd_T48 x9_3 x77_3).f1.f0), .int .i64 ((rd_T48 x9_3 x77_3).f1.f1)], .pointer (some ⟨gb697, 0, none⟩)] (by rfl) rfl rfl rfl (by first | rfl | (simp only [List.map_toArray, List.map_cons, List.map_nil, List.append_toArray, List.cons_append, List.nil_append]; done) | (simp only [List.map_toArray, List.map_cons, List.map_nil, List.append_toArray, List.cons_append, List.nil_append]; rfl)) ?_
             with_reducible refine (cottonpadlaw06_fixedearly.calls gb697 a2 ((rd_T48 x9_3 x77_3).f1.f0) ((rd_T48 x9_3 x77_3).f1.f1) t725 t726 _ BK697.out A53.out).mono ?_
             rintro e w58 ⟨rfl, hb⟩
             have HS0_ := (hb.cell (World.block_lt_of_cell? _ _ (hHeld.1))).trans (hHeld.1)
             have HS1_ := (hb.cell (World.block_lt_of_cell? _ _ (hHeld.2.1))).trans (hHeld.2.1)
             have HS2_ := (hb.cell (World.block_lt_of_cell? _ _ (hHeld.2.2.1))).trans (hHeld.2.2.1)
             have HS3_ := (hb.cell (World.block_lt_of_cell? _ _ (hHeld.2.2.2.1))).trans (hHeld.2.2.2.1)
             have HS4_ := (hb.cell (World.block_lt_of_cell? _ _ (hHeld.2.2.2.2.1))).trans (hHeld.2.2.2.2.1)
             have HS5_ := (hb.cell (World.block_lt_of_cell? _ _ (hHeld.2.2.2.2.2.1))).trans (hHeld.2.2.2.2.2.1)
             have HS6_ := (hb.cell (World.block_lt_of_cell? _ _ (hHeld.2.2.2.2.2.2.1))).trans (hHeld.2.2.2.2.2.2.1)
             have HS7_ := (hb.cell (World.block_lt_of_cell? _ _ (hHeld.2.2.2.2.2.2.2.1))).trans (hHeld.2.2.2.2.2.2.2.1)
             have HS8_ := (hb.cell (World.block_lt_of_cell? _ _ (hHeld.2.2.2.2.2.2.2.2.1))).trans (hHeld.2.2.2.2.2.2.2.2.1)
             have HS9_ := (hb.cell (World.block_lt_of_cell? _ _ (hHeld.2.2.2.2.2.2.2.2.2))).trans (hHeld.2.2.2.2.2.2.2.2.2)
             refine ⟨_, rfl, ?_⟩
             replace HO_9 := rb_ HO_9 hb
             replace HO_712000 := rb_ HO_712000 hb
             replace HO_712001 := rb_ HO_712001 hb
             replace BK696 := bb_ BK696 hb
             replace BK697 := bb_ BK697 hb
             replace BK698 := bb_ BK698 hb
             replace BK711 := bb_ BK711 hb
             replace HB := Aside0.mk (below_step (by repeat (first | (with_reducible first | exact HB.out | apply below_alloc | apply pw_below_drewN | apply below_drew1 | refine below_set ?_ GE696.out | refine below_set ?_ GE697.out | refine below_set ?_ GE698.out | refine below_set ?_ GE711.out) | exact HB.out)) hb)
             (try clear hb)
             (try clear hb2)
             (try clear hk)
             (try clear hi)
             refine hK.out _ _ ⟨HS0_, HS1_, HS2_, HS3_, HS4_, HS5_, HS6_, HS7_, HS8_, HS9_⟩ (fun hHeld => ?_)
             clear hK K
             refine norm_ (a' := ?_) ?_ ?_
             rotate_left
             ·show Act.put _ (some 90) _ = _
              simp only [Act.put, List.setIfInBounds_toArray, List.set_cons_zero, List.set_cons_succ, i64_w, i32_w]
              rfl
             refine one_ (i := 17) (N := some 97) (bm_ 24 262143) rfl rfl (one_of HT_.out (by kernel_rfl)) (by decide) (fun K hK => ?_)
             refine goesC_ Tryd.func74 (by kernel_rfl) rfl #[.pointer (some ⟨gb697, 0, none⟩)] #[.agg #[.int .i64 ((rd_T48 x9_3 x77_3).f2.f0), .int .i64 ((rd_T48 x9_3 x77_3).f2.f1)], .pointer (some ⟨gb697, 0, none⟩)] (by rfl) rfl rfl rfl (by first | rfl | (simp only [List.map_toArray, List.map_cons, List.map_nil, List.append_toArray, List.cons_append, List.nil_append]; done) | (simp only [List.map_toArray, List.map_cons, List.map_nil, List.append_toArray, List.cons_append, List.nil_append]; rfl)) ?_
             with_reducible refine (cottonpadlaw06_fixedlate.calls gb697 a2 ((rd_T48 x9_3 x77_3).f2.f0) ((rd_T48 x9_3 x77_3).f2.f1) t728 t729 _ BK697.out A54.out).mono ?_
             rintro e w59 ⟨rfl, hb⟩
             have HS0_ := (hb.cell (World.block_lt_of_cell? _ _ (hHeld.1))).trans (hHeld.1)
             have HS1_ := (hb.cell (World.block_lt_of_cell? _ _ (hHeld.2.1))).trans (hHeld.2.1)
             have HS2_ := (hb.cell (World.block_lt_of_cell? _ _ (hHeld.2.2.1))).trans (hHeld.2.2.1)
             have HS3_ := (hb.cell (World.block_lt_of_cell? _ _ (hHeld.2.2.2.1))).trans (hHeld.2.2.2.1)
             have HS4_ := (hb.cell (World.block_lt_of_cell? _ _ (hHeld.2.2.2.2.1))).trans (hHeld.2.2.2.2.1)
             have HS5_ := (hb.cell (World.block_lt_of_cell? _ _ (hHeld.2.2.2.2.2.1))).trans (hHeld.2.2.2.2.2.1)
             have HS6_ := (hb.cell (World.block_lt_of_cell? _ _ (hHeld.2.2.2.2.2.2.1))).trans (hHeld.2.2.2.2.2.2.1)
             have HS7_ := (hb.cell (World.block_lt_of_cell? _ _ (hHeld.2.2.2.2.2.2.2.1))).trans (hHeld.2.2.2.2.2.2.2.1)
             have HS8_ := (hb.cell (World.block_lt_of_cell? _ _ (hHeld.2.2.2.2.2.2.2.2.1))).trans (hHeld.2.2.2.2.2.2.2.2.1)
             have HS9_ := (hb.cell (World.block_lt_of_cell? _ _ (hHeld.2.2.2.2.2.2.2.2.2))).trans (hHeld.2.2.2.2.2.2.2.2.2)
             refine ⟨_, rfl, ?_⟩
             replace HO_9 := rb_ HO_9 hb
             replace HO_712000 := rb_ HO_712000 hb
             replace HO_712001 := rb_ HO_712001 hb
             replace BK696 := bb_ BK696 hb
             replace BK697 := bb_ BK697 hb
             replace BK698 := bb_ BK698 hb
             replace BK711 := bb_ BK711 hb
             replace HB := Aside0.mk (below_step (by repeat (first | (with_reducible first | exact HB.out | apply below_alloc | apply pw_below_drewN | apply below_drew1 | refine below_set ?_ GE696.out | refine below_set ?_ GE697.out | refine below_set ?_ GE698.out | refine below_set ?_ GE711.out) | exact HB.out)) hb)
             (try clear hb)
             (try clear hb2)
             (try clear hk)
             (try clear hi)
             have p55 : 0 ≤ (x77_3 : Int) := of_decide_eq_true as_
             have q55 : (x77_3 : Int) < ((x9_3.length : Int) : Int) := of_decide_eq_true as_
             obtain ⟨go55, co55, eo55, gb55, gl55, cl55, HG55⟩ := Kd.R_form HO_9.out (by omega)
             (first | cases eo55 | (injection eo55 with ea_ en_ ec_; (first | subst ea_ | (injection ea_ with ea_; subst ea_)); subst ec_; clear en_))
             have GB55 := Aside0.mk gb55
             have GG55 := Aside0.mk HG55
             clear gb55 gl55 HG55
             (first | simp only [add_plain] at hx724_0 | skip)
             (first | simp only [add_plain] at hx724_1 | skip)
             (first | simp only [add_plain] at hx724_2 | skip)
             (first | simp only [add_plain] at hx724_3 | skip)
             (first | simp only [add_plain] at hx724_4 | skip)
             (first | simp only [add_plain] at hx727_0 | skip)
             (first | simp only [add_plain] at hx727_1 | skip)
             (first | simp only [add_plain] at hx727_2 | skip)
             (first | simp only [add_plain] at hx727_3 | skip)
             (first | simp only [add_plain] at hx727_4 | skip)
             obtain ⟨ce55, hcl55, hM55, hcc55, hfr55⟩ := Kd.R_elem HO_9.out z48 (x77_3 : Int) p55 q55
             obtain rfl := k48_openM hM55
             have hx55_0 : World.cell? _ ⟨go55, (x77_3 : Int).toNat * 5, none⟩ = some (.int .i64 ((rd_T48 x9_3 x77_3).f0)) := hcc55 0 _ rfl
             have hx55_1 : World.cell? _ ⟨go55, (x77_3 : Int).toNat * 5 + 1, none⟩ = some (.int .i64 ((rd_T48 x9_3 x77_3).f1.f0)) := hcc55 1 _ rfl
             have hx55_2 : World.cell? _ ⟨go55, (x77_3 : Int).toNat * 5 + 2, none⟩ = some (.int .i64 ((rd_T48 x9_3 x77_3).f1.f1)) := hcc55 2 _ rfl
             have hx55_3 : World.cell? _ ⟨go55, (x77_3 : Int).toNat * 5 + 3, none⟩ = some (.int .i64 ((rd_T48 x9_3 x77_3).f2.f0)) := hcc55 3 _ rfl
             have hx55_4 : World.cell? _ ⟨go55, (x77_3 : Int).toNat * 5 + 4, none⟩ = some (.int .i64 ((rd_T48 x9_3 x77_3).f2.f1)) := hcc55 4 _ rfl
             have hf55_0 : World.frozen? _ ⟨go55, (x77_3 : Int).toNat * 5, none⟩ = false := hfr55 0
             have hf55_1 : World.frozen? _ ⟨go55, (x77_3 : Int).toNat * 5 + 1, none⟩ = false := hfr55 1
             have hf55_2 : World.frozen? _ ⟨go55, (x77_3 : Int).toNat * 5 + 2, none⟩ = false := hfr55 2
             have hf55_3 : World.frozen? _ ⟨go55, (x77_3 : Int).toNat * 5 + 3, none⟩ = false := hfr55 3
             have hf55_4 : World.frozen? _ ⟨go55, (x77_3 : Int).toNat * 5 + 4, none⟩ = false := hfr55 4
             clear hcl55 hcc55 hfr55 hM55
             replace p55 := eq_true p55
             replace q55 := eq_true q55
             obtain ⟨ce60, hcl60, hM60, hcc60, hfr60⟩ := Kd.R_elem HO_9.out z48 (x77_3 : Int) (of_decide_eq_true as_) (by have h_ : (x77_3 : Int) < ((x9_3.length : Int) : Int) := of_decide_eq_true as_; first | exact h_ | (have e_ := (Kd.R_reads' HO_9.out).1; omega) | simpa using h_)
             obtain rfl := k48_openM hM60
             have HP60 := (Kd.R_seg HO_9.out (x77_3 : Int) (of_decide_eq_true as_) (by have h_ : (x77_3 : Int) < ((x9_3.length : Int) : Int) := of_decide_eq_true as_; first | exact h_ | (have e_ := (Kd.R_reads' HO_9.out).1; omega) | simpa using h_) (seg := [.int .i64 t725, .int .i64 t726]) (j := 1) hcl60 hcc60 (show 3 ≤ 5 from by decide) (x' := (⟨(rd_T48 x9_3 x77_3).f0, (⟨t725, t726⟩ : S36), (⟨(rd_T48 x9_3 x77_3).f2.f0, (rd_T48 x9_3 x77_3).f2.f1⟩ : S36)⟩ : S48)) (k48_mkM _ _ _ (⟨(rd_T48 x9_3 x77_3).f0, (⟨t725, t726⟩ : S36), (⟨(rd_T48 x9_3 x77_3).f2.f0, (rd_T48 x9_3 x77_3).f2.f1⟩ : S36)⟩ : S48) ) (fun _ hk => hk)).1
             rw [← Ny730.out] at HP60
             have HQ60 := Aside0.mk HP60
             clear hcl60 hcc60 hfr60 hM60 HP60
             have p56 : 0 ≤ (x77_3 : Int) := of_decide_eq_true as_
             have q56 : (x77_3 : Int) < ((x9_3.length : Int) : Int) := of_decide_eq_true as_
             replace p56 := eq_true p56
             replace q56 := eq_true q56
             obtain ⟨ce61, hcl61, hM61, hcc61, hfr61⟩ := Kd.R_elem HQ60.out z48 (x77_3 : Int) (of_decide_eq_true as_) (by have h_ : (x77_3 : Int) < ((x9_3.length : Int) : Int) := of_decide_eq_true as_; first | exact h_ | (have e_ := (Kd.R_reads' HO_9.out).1; omega) | simpa using h_)
             obtain rfl := k48_openM hM61
             have HP61 := (Kd.R_seg HQ60.out (x77_3 : Int) (of_decide_eq_true as_) (by have h_ : (x77_3 : Int) < ((x9_3.length : Int) : Int) := of_decide_eq_true as_; first | exact h_ | (have e_ := (Kd.R_reads' HO_9.out).1; omega) | simpa using h_) (seg := [.int .i64 t728, .int .i64 t729]) (j := 3) hcl61 hcc61 (show 5 ≤ 5 from by decide) (x' := (⟨(rd_T48 y730 x77_3).f0, (⟨(rd_T48 y730 x77_3).f1.f0, (rd_T48 y730 x77_3).f1.f1⟩ : S36), (⟨t728, t729⟩ : S36)⟩ : S48)) (k48_mkM _ _ _ (⟨(rd_T48 y730 x77_3).f0, (⟨(rd_T48 y730 x77_3).f1.f0, (rd_T48 y730 x77_3).f1.f1⟩ : S36), (⟨t728, t729⟩ : S36)⟩ : S48) ) (fun _ hk => hk)).1
             rw [← Ny731.out] at HP61
             have HQ61 := Aside0.mk HP61
             clear hcl61 hcc61 hfr61 hM61 HP61
             refine hK.out _ _ ⟨HS0_, HS1_, HS2_, HS3_, HS4_, HS5_, HS6_, HS7_, HS8_, HS9_⟩ (fun hHeld => ?_)
             clear hK K
             refine norm_ (a' := ?_) ?_ ?_
             rotate_left
             ·show Act.put _ (some 97) _ = _
              simp only [Act.put, List.setIfInBounds_toArray, List.set_cons_zero, List.set_cons_succ, i64_w, i32_w]
              rfl
             refine pr_ 18 98 24 524287 HT_ rfl rfl ?_
             refine pr_ 19 99 24 1048575 HT_ rfl rfl ?_
             refine last_ (i := 20) (N := none) (bm_ 24 2097151) rfl rfl (one_of HT_.out (by kernel_rfl)) (by decide) (fun K hK => ?_)
             refine skip_ (w1 := ?_) (by rfl) rfl ?_ ?_
             rotate_left
             ·go_simp
              rfl
             refine hK.out _ _ ?_
             clear hK K
             refine pr_ 21 100 24 4194303 HT_ rfl rfl ?_
             refine pr_ 22 101 24 8388607 HT_ rfl rfl ?_
             refine last_ (i := 23) (N := none) (bm_ 24 16777215) rfl rfl (one_of HT_.out (by kernel_rfl)) (by decide) (fun K hK => ?_)
             refine skip_ (w1 := ?_) (by rfl) rfl ?_ ?_
             rotate_left
             ·go_simp
              rfl
             refine hK.out _ _ ?_
             clear hK K
             refine done_ (done_of HT_.out (by kernel_rfl)) ?_
             try go_wp2
             (try simp only [← hl9_3])
             go_roundg k3
             case measure => have := HK1.out; have := HK2.out; have := HK3.out; omega
             case rel => exact ⟨(y731), (wrap64 (x77_3 + 1)), (by first | rfl | (simp; done) | (simp [*]; done)), H', ⟨by have := HK1.out; have := HK2.out; have := HK3.out; omega⟩, ⟨by (try simp only [hl9_3]); (with_reducible repeat (first | apply Kd.R_alloc | apply Kd.R_drewN | apply Kd.R_drew)); exact HQ61.out⟩, ⟨by (try simp only [hl9_3]); (with_reducible repeat (first | apply Kd.R_alloc | apply Kd.R_drewN | apply Kd.R_drew)); exact Kd.R_mono (Kd.R_far (p := ⟨go55, (x77_3 : Int).toNat * 5 + 4, none⟩) (Kd.R_far (p := ⟨go55, (x77_3 : Int).toNat * 5 + 3, none⟩) (Kd.R_far (p := ⟨go55, (x77_3 : Int).toNat * 5 + 2, none⟩) (Kd.R_far (p := ⟨go55, (x77_3 : Int).toNat * 5 + 1, none⟩) (Kd.R_types HO_712000.out GG55.out (by decide)) (fun _ hk => hk.2) (.int .i64 t725)) (fun _ hk => hk.2) (.int .i64 t726)) (fun _ hk => hk.2) (.int .i64 t728)) (fun _ hk => hk.2) (.int .i64 t729)) (fun _ hk => trivial)⟩, ⟨by (try simp only [hl9_3]); (with_reducible repeat (first | apply Kd.R_alloc | apply Kd.R_drewN | apply Kd.R_drew)); exact Kd.R_mono (Kd.R_far (p := ⟨go55, (x77_3 : Int).toNat * 5 + 4, none⟩) (Kd.R_far (p := ⟨go55, (x77_3 : Int).toNat * 5 + 3, none⟩) (Kd.R_far (p := ⟨go55, (x77_3 : Int).toNat * 5 + 2, none⟩) (Kd.R_far (p := ⟨go55, (x77_3 : Int).toNat * 5 + 1, none⟩) (Kd.R_types HO_712001.out GG55.out (by decide)) (fun _ hk => hk.2) (.int .i64 t725)) (fun _ hk => hk.2) (.int .i64 t726)) (fun _ hk => hk.2) (.int .i64 t728)) (fun _ hk => hk.2) (.int .i64 t729)) (fun _ hk => trivial)⟩, ⟨by (try simp only [hl9_3]); refine bx_ ?_; refine blk_far ?_ (by have h_ := Kd.R_ne HO_9.out BK696.out (by decide); intro e_; exact h_ (by rw [e_]; rfl)) _; refine bx_ ?_; refine blk_far ?_ (by have h_ := Kd.R_ne HO_9.out BK696.out (by decide); intro e_; exact h_ (by rw [e_]; rfl)) _; refine bx_ ?_; refine blk_far ?_ (by have h_ := Kd.R_ne HO_9.out BK696.out (by decide); intro e_; exact h_ (by rw [e_]; rfl)) _; refine bx_ ?_; refine blk_far ?_ (by have h_ := Kd.R_ne HO_9.out BK696.out (by decide); intro e_; exact h_ (by rw [e_]; rfl)) _; refine bx_ ?_; exact BK696.out⟩, ⟨by (try simp only [hl9_3]); refine bx_ ?_; refine blk_far ?_ (by have h_ := Kd.R_ne HO_9.out BK697.out (by decide); intro e_; exact h_ (by rw [e_]; rfl)) _; refine bx_ ?_; refine blk_far ?_ (by have h_ := Kd.R_ne HO_9.out BK697.out (by decide); intro e_; exact h_ (by rw [e_]; rfl)) _; refine bx_ ?_; refine blk_far ?_ (by have h_ := Kd.R_ne HO_9.out BK697.out (by decide); intro e_; exact h_ (by rw [e_]; rfl)) _; refine bx_ ?_; refine blk_far ?_ (by have h_ := Kd.R_ne HO_9.out BK697.out (by decide); intro e_; exact h_ (by rw [e_]; rfl)) _; refine bx_ ?_; exact BK697.out⟩, ⟨by (try simp only [hl9_3]); refine bx_ ?_; refine blk_far ?_ (by have h_ := Kd.R_ne HO_9.out BK698.out (by decide); intro e_; exact h_ (by rw [e_]; rfl)) _; refine bx_ ?_; refine blk_far ?_ (by have h_ := Kd.R_ne HO_9.out BK698.out (by decide); intro e_; exact h_ (by rw [e_]; rfl)) _; refine bx_ ?_; refine blk_far ?_ (by have h_ := Kd.R_ne HO_9.out BK698.out (by decide); intro e_; exact h_ (by rw [e_]; rfl)) _; refine bx_ ?_; refine blk_far ?_ (by have h_ := Kd.R_ne HO_9.out BK698.out (by decide); intro e_; exact h_ (by rw [e_]; rfl)) _; refine bx_ ?_; exact BK698.out⟩, ⟨by (try simp only [hl9_3]); refine bx_ ?_; refine blk_far ?_ (by have h_ := Kd.R_ne HO_9.out BK711.out (by decide); intro e_; exact h_ (by rw [e_]; rfl)) _; refine bx_ ?_; refine blk_far ?_ (by have h_ := Kd.R_ne HO_9.out BK711.out (by decide); intro e_; exact h_ (by rw [e_]; rfl)) _; refine bx_ ?_; refine blk_far ?_ (by have h_ := Kd.R_ne HO_9.out BK711.out (by decide); intro e_; exact h_ (by rw [e_]; rfl)) _; refine bx_ ?_; refine blk_far ?_ (by have h_ := Kd.R_ne HO_9.out BK711.out (by decide); intro e_; exact h_ (by rw [e_]; rfl)) _; refine bx_ ?_; exact BK711.out⟩, ⟨by repeat (first | (with_reducible first | exact HB.out | apply below_alloc | apply pw_below_drewN | apply below_drew1 | refine below_set ?_ GB55.out | refine below_set ?_ GB55.out | refine below_set ?_ GB55.out | refine below_set ?_ GB55.out | refine below_set ?_ GE696.out | refine below_set ?_ GE697.out | refine below_set ?_ GE698.out | refine below_set ?_ GE711.out) | exact HB.out)⟩⟩
            ·rw [if_neg c52] at H
             exact absurd H (by simp)
           ·rw [if_neg c51] at H
            exact absurd H (by simp)
          ·rw [if_neg c50] at H
           have c50b0 : decide (x77_3 < (y708.length : Int)) = false := decide_eq_false c50
           (try have c50b0z : decide (x77_3 < (x9_3.length : Int)) = false := by rw [← hl9_3]; exact c50b0)
           clear c50
           simp only [Option.some.injEq, Prod.mk.injEq] at H
           obtain ⟨rfl, rfl, rfl⟩ := H
           have hnb62 := NB711_696.out
           have hnc62 := NB696_711.out
           have hnb63 := NB711_697.out
           have hnc63 := NB697_711.out
           have hnb64 := NB711_698.out
           have hnc64 := NB698_711.out
           have hcz65_0 : wr.cell? ⟨gb711, 0, none⟩ = some (u712000) := bc_ BK711 0
           have hcz65_1 : wr.cell? ⟨gb711, 1, none⟩ = some (u712001) := bc_ BK711 1
           have hfz65_0 := blk_frozen BK711.out 0
           have hfz65_1 := blk_frozen BK711.out 1
           obtain ⟨Ao66, co66, eo66⟩ := Kd.R_slice HO_712000.out
           subst eo66
           have hnb67 := NB698_696.out
           have hnc67 := NB696_698.out
           have hnb68 := NB698_697.out
           have hnc68 := NB697_698.out
           have hcz69_0 : wr.cell? ⟨gb698, 0, none⟩ = some (.slice none 0 0) := bc_ BK698 0
           have hcz69_1 : wr.cell? ⟨gb698, 1, none⟩ = some (.slice none 0 0) := bc_ BK698 1
           have hfz69_0 := blk_frozen BK698.out 0
           have hfz69_1 := blk_frozen BK698.out 1
           obtain ⟨Ao70, co70, eo70⟩ := Kd.R_slice HO_712001.out
           subst eo70
           go_wp2
           refine bodyPost_ret (results_ct rfl _ _ gb698 25 #[.slice Ao66 x712000_1.length co66, .slice Ao70 x712001_2.length co70] (0, 0) _ rfl (by refine bx_ ?_; refine blk_put (cs := #[.slice Ao66 x712000_1.length co66, .slice none 0 0]) ?_ 1 _ rfl; refine bx_ ?_; refine blk_put (cs := #[.slice none 0 0, .slice none 0 0]) ?_ 0 _ rfl; refine bx_ ?_; exact BK698.out) Tryd.underlying25 rfl (by kernel_rfl)) rfl ?_
           exact ⟨_, _, _, rf_, by (with_reducible repeat (first | apply Kd.R_alloc | apply Kd.R_drewN | apply Kd.R_drew)); exact Kd.R_mono (Kd.R_far (p := ⟨gb698, 1, none⟩) (Kd.R_far (p := ⟨gb698, 0, none⟩) (Kd.R_types HO_712000.out BK698.out (by decide)) (fun _ hk => hk.2) (.slice Ao66 x712000_1.length co66)) (fun _ hk => hk.2) (.slice Ao70 x712001_2.length co70)) (fun _ hk => trivial), by (with_reducible repeat (first | apply Kd.R_alloc | apply Kd.R_drewN | apply Kd.R_drew)); exact Kd.R_mono (Kd.R_far (p := ⟨gb698, 1, none⟩) (Kd.R_far (p := ⟨gb698, 0, none⟩) (Kd.R_types HO_712001.out BK698.out (by decide)) (fun _ hk => hk.2) (.slice Ao66 x712000_1.length co66)) (fun _ hk => hk.2) (.slice Ao70 x712001_2.length co70)) (fun _ hk => trivial), by (with_reducible repeat (first | apply Kd.R_alloc | apply Kd.R_drewN | apply Kd.R_drew)); exact Kd.R_mono (Kd.R_far (p := ⟨gb698, 1, none⟩) (Kd.R_far (p := ⟨gb698, 0, none⟩) (Kd.R_types HO_9.out BK698.out (by decide)) (fun _ hk => hk.2) (.slice Ao66 x712000_1.length co66)) (fun _ hk => hk.2) (.slice Ao70 x712001_2.length co70)) (fun _ hk => trivial), by repeat (first | (with_reducible first | exact HB.out | apply below_alloc | apply pw_below_drewN | apply below_drew1 | refine below_set ?_ GE696.out | refine below_set ?_ GE697.out | refine below_set ?_ GE698.out | refine below_set ?_ GE711.out) | exact HB.out)⟩
 ·rw [if_neg c5] at H
  exact absurd H (by simp)

end Go.Proofs.YtdeaccbolnlgpaaDoor.X
