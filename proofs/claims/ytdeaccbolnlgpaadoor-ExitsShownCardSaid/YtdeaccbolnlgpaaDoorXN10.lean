import Derived.Test.YtdeaccbolnlgpaaDoorX0
import Derived.Test.YtdeaccbolnlgpaaDoorXN16
import Derived.Test.YtdeaccbolnlgpaaDoorXNB
import Derived.Test.YtdeaccbolnlgpaaDoorXNA
import Derived.Test.YtdeaccbolnlgpaaDoorXAlive
import Derived.Test.YtdeaccbolnlgpaaDoorXG
import Derived.Test.YtdeaccbolnlgpaaDoorXHL
import Derived.Test.YtdeaccbolnlgpaaDoorXHS
namespace Go.Proofs.YtdeaccbolnlgpaaDoor.X
open Go.RowKit Go.Proofs.YtdeaccbolnlgpaaDoorW.PrintWords Go.Proofs.YtdeaccbolnlgpaaDoorW.PrintLast Go.Proofs.YtdeaccbolnlgpaaDoorW.PrintMore
attribute [local go_sem] max2_int min2_int max_two min_two max_three min_three max_four min_four   -- for this text's walks alone
set_option linter.unusedVariables false
set_option linter.unusedSimpArgs false

/-! ### cottonpadlaw06_ExitsShown: function 10 -/
mutual
def cottonpadlaw06_ExitsShown.j0 : Nat → List (S48) → Bool → Bool → List (S62) → List (S81) → Option (Bool)
 | 0, _, _, _, _, _ => none
 | k + 1, x1, x5, x34, x770000, x770001 => if x34 = true then (some x5) else ((exits_Safe.f x770000 x770001 x1).bind fun bt772 => (if bt772.2.2.2 = 0 then (if bt772.2.1 < (-1) then (cottonpadlaw06_ExitsShown.j1 k x1 x5 bt772.2.1 bt772.2.2.1 true x770000 x770001) else (if bt772.2.1 ≥ (x770001.length : Int) then (cottonpadlaw06_ExitsShown.j1 k x1 x5 bt772.2.1 bt772.2.2.1 true x770000 x770001) else (if bt772.2.2.1 < (-1) then (cottonpadlaw06_ExitsShown.j1 k x1 x5 bt772.2.1 bt772.2.2.1 true x770000 x770001) else (if bt772.2.2.1 ≥ (x770000.length : Int) then (cottonpadlaw06_ExitsShown.j1 k x1 x5 bt772.2.1 bt772.2.2.1 true x770000 x770001) else (if bt772.2.1 < 0 then (cottonpadlaw06_ExitsShown.j1 k x1 x5 bt772.2.1 bt772.2.2.1 ((bt772.1 == 2) != (decide (bt772.2.2.1 < 0))) x770000 x770001) else (cottonpadlaw06_ExitsShown.j1 k x1 x5 bt772.2.1 bt772.2.2.1 ((bt772.1 == 2) != false) x770000 x770001)))))) else (cottonpadlaw06_ExitsShown.j1 k x1 x5 bt772.2.1 bt772.2.2.1 true x770000 x770001)))
def cottonpadlaw06_ExitsShown.j1 : Nat → List (S48) → Bool → Int → Int → Bool → List (S62) → List (S81) → Option (Bool)
 | 0, _, _, _, _, _, _, _ => none
 | k + 1, x1, x5, x7, x8, x78, x770000, x770001 => if x78 = true then (some false) else (cottonpadlaw06_ExitsShown.l0 k x1 x5 x7 x8 (x770000.length : Int) 0 x770000 x770001)
def cottonpadlaw06_ExitsShown.l0 : Nat → List (S48) → Bool → Int → Int → Int → Int → List (S62) → List (S81) → Option (Bool)
 | 0, _, _, _, _, _, _, _, _ => none
 | k + 1, x1, x5, x7, x8, x81, x82, x770000, x770001 => if x82 < x81 then ((exits_Leaves.f x770000 x770001 x1 x82).bind fun bt776 => (if bt776.2 = 0 then (cottonpadlaw06_ExitsShown.l1 k x1 x5 x7 x8 x82 false x81 x82 bt776.1 (bt776.1.length : Int) 0 x770000 x770001) else (some false))) else (cottonpadlaw06_ExitsShown.l2 k x1 x5 x7 x8 x770001 (x770001.length : Int) 0 x770000 x770001)
def cottonpadlaw06_ExitsShown.l1 : Nat → List (S48) → Bool → Int → Int → Int → Bool → Int → Int → List (S36) → Int → Int → List (S62) → List (S81) → Option (Bool)
 | 0, _, _, _, _, _, _, _, _, _, _, _, _, _ => none
 | k + 1, x1, x5, x7, x8, x10, x13, x81, x82, x94, x95, x96, x770000, x770001 => if x96 < x95 then (if 0 ≤ x96 then (if x96 < (x94.length : Int) then (if x13 = true then (cottonpadlaw06_ExitsShown.l1 k x1 x5 x7 x8 x10 true x81 x82 x94 x95 (wrap64 (x96 + 1)) x770000 x770001) else (if 0 ≤ x10 then (if x10 < (x770000.length : Int) then (cottonpadlaw06_ExitsShown.l1 k x1 x5 x7 x8 x10 (decide (((rd_T36 x94 x96).f1) > ((rd_T62 x770000 x10).f3.f0))) x81 x82 x94 x95 (wrap64 (x96 + 1)) x770000 x770001) else (none)) else (none))) else (none)) else (none)) else (if x10 = x8 then (if x13 = true then (if x8 < 0 then (some false) else (if x10 < x8 then (some false) else (cottonpadlaw06_ExitsShown.l0 k x1 x5 x7 x8 x81 (wrap64 (x82 + 1)) x770000 x770001))) else (some false)) else (if x13 = true then (if x8 < 0 then (some false) else (if x10 < x8 then (some false) else (cottonpadlaw06_ExitsShown.l0 k x1 x5 x7 x8 x81 (wrap64 (x82 + 1)) x770000 x770001))) else (cottonpadlaw06_ExitsShown.l0 k x1 x5 x7 x8 x81 (wrap64 (x82 + 1)) x770000 x770001)))
def cottonpadlaw06_ExitsShown.l2 : Nat → List (S48) → Bool → Int → Int → List (S81) → Int → Int → List (S62) → List (S81) → Option (Bool)
 | 0, _, _, _, _, _, _, _, _, _ => none
 | k + 1, x1, x5, x7, x8, x135, x136, x137, x770000, x770001 => if x137 < x136 then (if 0 ≤ x137 then (if x137 < (x135.length : Int) then (cottonpadlaw06_ExitsShown.l3 k x1 x5 x7 x8 x137 false x135 x136 x137 x1 (x1.length : Int) 0 x770000 x770001 ((rd_T81 x135 x137).f0) ((rd_T81 x135 x137).f1) ((rd_T81 x135 x137).f2.f0) ((rd_T81 x135 x137).f2.f1)) else (none)) else (none)) else ((cottonpadref06_Twin.f x770000 x770001).bind fun bt787 => (if x7 ≥ 0 then ((cottonpadlaw06_span.f 36000 36000).bind fun bt794 => (if 0 ≤ x7 then (if x7 < (bt787.2.length : Int) then (cottonpadlaw06_ExitsShown.j6 k x1 x5 x7 x8 bt787.1 (bt787.2.set (x7 : Int).toNat (⟨(rd_T81 bt787.2 x7).f0, (rd_T81 bt787.2 x7).f1, (⟨bt794.1, bt794.2⟩ : S36)⟩ : S81))) else (none)) else (none))) else (cottonpadlaw06_ExitsShown.j6 k x1 x5 x7 x8 bt787.1 bt787.2)))
def cottonpadlaw06_ExitsShown.l3 : Nat → List (S48) → Bool → Int → Int → Int → Bool → List (S81) → Int → Int → List (S48) → Int → Int → List (S62) → List (S81) → Int → Int → Int → Int → Option (Bool)
 | 0, _, _, _, _, _, _, _, _, _, _, _, _, _, _, _, _, _, _ => none
 | k + 1, x1, x5, x7, x8, x16, x18, x135, x136, x137, x142, x143, x144, x770000, x770001, x785000, x785001, x785002, x785003 => if x144 < x143 then (if 0 ≤ x144 then (if x144 < (x142.length : Int) then (if x18 = true then (cottonpadlaw06_ExitsShown.l3 k x1 x5 x7 x8 x16 true x135 x136 x137 x142 x143 (wrap64 (x144 + 1)) x770000 x770001 x785000 x785001 x785002 x785003) else (if ((rd_T48 x142 x144).f0) = x16 then (if ((rd_T48 x142 x144).f1.f0) = 0 then (none) else (cottonpadlaw06_ExitsShown.l3 k x1 x5 x7 x8 x16 (decide ((wrap64 (((rd_T48 x142 x144).f2.f1) + (wrap64 (Int.tdiv (wrap64 ((wrap64 (x785001 + ((rd_T48 x142 x144).f1.f0))) - 1)) ((rd_T48 x142 x144).f1.f0))))) > x785002)) x135 x136 x137 x142 x143 (wrap64 (x144 + 1)) x770000 x770001 x785000 x785001 x785002 x785003)) else (cottonpadlaw06_ExitsShown.l3 k x1 x5 x7 x8 x16 false x135 x136 x137 x142 x143 (wrap64 (x144 + 1)) x770000 x770001 x785000 x785001 x785002 x785003))) else (none)) else (none)) else (if x16 = x7 then (if x18 = true then (if x7 < 0 then (some false) else (if x16 < x7 then (some false) else (cottonpadlaw06_ExitsShown.l2 k x1 x5 x7 x8 x135 x136 (wrap64 (x137 + 1)) x770000 x770001))) else (some false)) else (if x18 = true then (if x7 < 0 then (some false) else (if x16 < x7 then (some false) else (cottonpadlaw06_ExitsShown.l2 k x1 x5 x7 x8 x135 x136 (wrap64 (x137 + 1)) x770000 x770001))) else (cottonpadlaw06_ExitsShown.l2 k x1 x5 x7 x8 x135 x136 (wrap64 (x137 + 1)) x770000 x770001)))
def cottonpadlaw06_ExitsShown.j6 : Nat → List (S48) → Bool → Int → Int → List (S62) → List (S81) → Option (Bool)
 | 0, _, _, _, _, _, _ => none
 | k + 1, x1, x5, x7, x8, x794000, x794001 => if x8 ≥ 0 then ((cottonpadlaw06_span.f 36000 36000).bind fun bt797 => (if 0 ≤ x8 then (if x8 < (x794000.length : Int) then ((exits_Safe.f (x794000.set (x8 : Int).toNat (⟨(rd_T62 x794000 x8).f0, (rd_T62 x794000 x8).f1, (⟨(rd_T62 x794000 x8).f2.f0, (rd_T62 x794000 x8).f2.f1⟩ : S36), (⟨bt797.1, bt797.2⟩ : S36)⟩ : S62)) x794001 x1).bind fun bt800 => (if x5 = true then (if bt800.2.2.2 = 0 then (if bt800.2.1 < 0 then (if bt800.2.2.1 < 0 then (some true) else (some (decide (bt800.2.2.1 > x8)))) else (if bt800.2.1 > x7 then (if bt800.2.2.1 < 0 then (some true) else (some (decide (bt800.2.2.1 > x8)))) else (some false))) else (some false)) else (some false))) else (none)) else (none))) else ((exits_Safe.f x794000 x794001 x1).bind fun bt804 => (if x5 = true then (if bt804.2.2.2 = 0 then (if bt804.2.1 < 0 then (if bt804.2.2.1 < 0 then (some true) else (some (decide (bt804.2.2.1 > x8)))) else (if bt804.2.1 > x7 then (if bt804.2.2.1 < 0 then (some true) else (some (decide (bt804.2.2.1 > x8)))) else (some false))) else (some false)) else (some false)))
end
def cottonpadlaw06_ExitsShown.f (k : Nat) (l0_0 : List (S62)) (l0_1 : List (S81)) (l1 : List (S48)) : Option (Bool) := (cottonpadlaw06_alive_t.f).bind fun t770 => ((cottonpadlaw06_ready.f k l0_0 l0_1 l1).bind fun t771 => (if t771 = true then (cottonpadlaw06_ExitsShown.j0 k l1 t770 (!t770) l0_0 l0_1) else (cottonpadlaw06_ExitsShown.j0 k l1 t770 true l0_0 l0_1)))
theorem cottonpadlaw06_ExitsShown.mono_l : ∀ k, (∀ y0 y1 y2 y3 y4, LeO (cottonpadlaw06_ExitsShown.j0 k y0 y1 y2 y3 y4) (cottonpadlaw06_ExitsShown.j0 (k + 1) y0 y1 y2 y3 y4)) ∧ (∀ y0 y1 y2 y3 y4 y5 y6, LeO (cottonpadlaw06_ExitsShown.j1 k y0 y1 y2 y3 y4 y5 y6) (cottonpadlaw06_ExitsShown.j1 (k + 1) y0 y1 y2 y3 y4 y5 y6)) ∧ (∀ y0 y1 y2 y3 y4 y5 y6 y7, LeO (cottonpadlaw06_ExitsShown.l0 k y0 y1 y2 y3 y4 y5 y6 y7) (cottonpadlaw06_ExitsShown.l0 (k + 1) y0 y1 y2 y3 y4 y5 y6 y7)) ∧ (∀ y0 y1 y2 y3 y4 y5 y6 y7 y8 y9 y10 y11 y12, LeO (cottonpadlaw06_ExitsShown.l1 k y0 y1 y2 y3 y4 y5 y6 y7 y8 y9 y10 y11 y12) (cottonpadlaw06_ExitsShown.l1 (k + 1) y0 y1 y2 y3 y4 y5 y6 y7 y8 y9 y10 y11 y12)) ∧ (∀ y0 y1 y2 y3 y4 y5 y6 y7 y8, LeO (cottonpadlaw06_ExitsShown.l2 k y0 y1 y2 y3 y4 y5 y6 y7 y8) (cottonpadlaw06_ExitsShown.l2 (k + 1) y0 y1 y2 y3 y4 y5 y6 y7 y8)) ∧ (∀ y0 y1 y2 y3 y4 y5 y6 y7 y8 y9 y10 y11 y12 y13 y14 y15 y16 y17, LeO (cottonpadlaw06_ExitsShown.l3 k y0 y1 y2 y3 y4 y5 y6 y7 y8 y9 y10 y11 y12 y13 y14 y15 y16 y17) (cottonpadlaw06_ExitsShown.l3 (k + 1) y0 y1 y2 y3 y4 y5 y6 y7 y8 y9 y10 y11 y12 y13 y14 y15 y16 y17)) ∧ (∀ y0 y1 y2 y3 y4 y5, LeO (cottonpadlaw06_ExitsShown.j6 k y0 y1 y2 y3 y4 y5) (cottonpadlaw06_ExitsShown.j6 (k + 1) y0 y1 y2 y3 y4 y5))
 | 0 => ⟨fun _ _ _ _ _ r h => by simp [cottonpadlaw06_ExitsShown.j0] at h, fun _ _ _ _ _ _ _ r h => by simp [cottonpadlaw06_ExitsShown.j1] at h, fun _ _ _ _ _ _ _ _ r h => by simp [cottonpadlaw06_ExitsShown.l0] at h, fun _ _ _ _ _ _ _ _ _ _ _ _ _ r h => by simp [cottonpadlaw06_ExitsShown.l1] at h, fun _ _ _ _ _ _ _ _ _ r h => by simp [cottonpadlaw06_ExitsShown.l2] at h, fun _ _ _ _ _ _ _ _ _ _ _ _ _ _ _ _ _ _ r h => by simp [cottonpadlaw06_ExitsShown.l3] at h, fun _ _ _ _ _ _ r h => by simp [cottonpadlaw06_ExitsShown.j6] at h⟩
 | k + 1 => by
  obtain ⟨ih0, ih1, ih2, ih3, ih4, ih5, ih6⟩ := cottonpadlaw06_ExitsShown.mono_l k
  refine ⟨?_, ?_, ?_, ?_, ?_, ?_, ?_⟩
  ·intro y0 y1 y2 y3 y4
   unfold cottonpadlaw06_ExitsShown.j0
   repeat' (with_reducible first | exact ih0 .. | exact ih1 .. | exact ih2 .. | exact ih3 .. | exact ih4 .. | exact ih5 .. | exact ih6 .. | exact cottonpadlaw06_ready.mono .. | exact LeO.refl .. | exact LeO.none .. | refine LeO.ite ?_ ?_ | refine LeO.bind ?_ (fun _ => ?_))
  ·intro y0 y1 y2 y3 y4 y5 y6
   unfold cottonpadlaw06_ExitsShown.j1
   repeat' (with_reducible first | exact ih0 .. | exact ih1 .. | exact ih2 .. | exact ih3 .. | exact ih4 .. | exact ih5 .. | exact ih6 .. | exact cottonpadlaw06_ready.mono .. | exact LeO.refl .. | exact LeO.none .. | refine LeO.ite ?_ ?_ | refine LeO.bind ?_ (fun _ => ?_))
  ·intro y0 y1 y2 y3 y4 y5 y6 y7
   unfold cottonpadlaw06_ExitsShown.l0
   repeat' (with_reducible first | exact ih0 .. | exact ih1 .. | exact ih2 .. | exact ih3 .. | exact ih4 .. | exact ih5 .. | exact ih6 .. | exact cottonpadlaw06_ready.mono .. | exact LeO.refl .. | exact LeO.none .. | refine LeO.ite ?_ ?_ | refine LeO.bind ?_ (fun _ => ?_))
  ·intro y0 y1 y2 y3 y4 y5 y6 y7 y8 y9 y10 y11 y12
   unfold cottonpadlaw06_ExitsShown.l1
   repeat' (with_reducible first | exact ih0 .. | exact ih1 .. | exact ih2 .. | exact ih3 .. | exact ih4 .. | exact ih5 .. | exact ih6 .. | exact cottonpadlaw06_ready.mono .. | exact LeO.refl .. | exact LeO.none .. | refine LeO.ite ?_ ?_ | refine LeO.bind ?_ (fun _ => ?_))
  ·intro y0 y1 y2 y3 y4 y5 y6 y7 y8
   unfold cottonpadlaw06_ExitsShown.l2
   repeat' (with_reducible first | exact ih0 .. | exact ih1 .. | exact ih2 .. | exact ih3 .. | exact ih4 .. | exact ih5 .. | exact ih6 .. | exact cottonpadlaw06_ready.mono .. | exact LeO.refl .. | exact LeO.none .. | refine LeO.ite ?_ ?_ | refine LeO.bind ?_ (fun _ => ?_))
  ·intro y0 y1 y2 y3 y4 y5 y6 y7 y8 y9 y10 y11 y12 y13 y14 y15 y16 y17
   unfold cottonpadlaw06_ExitsShown.l3
   repeat' (with_reducible first | exact ih0 .. | exact ih1 .. | exact ih2 .. | exact ih3 .. | exact ih4 .. | exact ih5 .. | exact ih6 .. | exact cottonpadlaw06_ready.mono .. | exact LeO.refl .. | exact LeO.none .. | refine LeO.ite ?_ ?_ | refine LeO.bind ?_ (fun _ => ?_))
  ·intro y0 y1 y2 y3 y4 y5
   unfold cottonpadlaw06_ExitsShown.j6
   repeat' (with_reducible first | exact ih0 .. | exact ih1 .. | exact ih2 .. | exact ih3 .. | exact ih4 .. | exact ih5 .. | exact ih6 .. | exact cottonpadlaw06_ready.mono .. | exact LeO.refl .. | exact LeO.none .. | refine LeO.ite ?_ ?_ | refine LeO.bind ?_ (fun _ => ?_))
theorem cottonpadlaw06_ExitsShown.mono : ∀ a0 a1 a2 k, LeO (cottonpadlaw06_ExitsShown.f k a0 a1 a2) (cottonpadlaw06_ExitsShown.f (k + 1) a0 a1 a2) := by
 intro a0 a1 a2 k
 obtain ⟨ih0, ih1, ih2, ih3, ih4, ih5, ih6⟩ := cottonpadlaw06_ExitsShown.mono_l k
 unfold cottonpadlaw06_ExitsShown.f
 repeat' (with_reducible first | exact ih0 .. | exact ih1 .. | exact ih2 .. | exact ih3 .. | exact ih4 .. | exact ih5 .. | exact ih6 .. | exact cottonpadlaw06_ready.mono .. | exact LeO.refl .. | exact LeO.none .. | refine LeO.ite ?_ ?_ | refine LeO.bind ?_ (fun _ => ?_))
def cottonpadlaw06_ExitsShown.T17 : Bool × List (List Nat × List Nat) := (true, [([], []), ([0], [0]), ([1], [1]), ([2, 1], [1, 2]), ([1], [1]), ([4, 1], [1, 4]), ([1], [1]), ([5, 6, 1], [1, 5, 6]), ([7, 1], [1, 7]), ([8, 1], [1, 8]), ([9, 1], [1, 9]), ([3, 10, 1], [1, 3, 10]), ([1, 11], [1, 11]), ([12, 1, 0, 1, 2, 3, 4, 5, 6, 7, 8, 9, 10, 11, 12], [0, 12])])
def cottonpadlaw06_ExitsShown.B17 : List Nat := [0, 1, 3, 7, 3, 19, 3, 115, 243, 499, 1011, 2047, 4095, 8191]
theorem cottonpadlaw06_ExitsShown.tab17 : rtab .any (opsOf Tryd.f10 17) = cottonpadlaw06_ExitsShown.T17 := by kernel_rfl
theorem cottonpadlaw06_ExitsShown.bits17 : waitsOk cottonpadlaw06_ExitsShown.T17.2 cottonpadlaw06_ExitsShown.B17 = true := by kernel_rfl
def cottonpadlaw06_ExitsShown.T29 : Bool × List (List Nat × List Nat) := (true, [([], []), ([0], [0]), ([1], [1]), ([2, 1], [1, 2]), ([1], [1]), ([3, 4, 1], [1, 3, 4]), ([5, 1, 1], [1, 5]), ([6], [6]), ([7, 6], [6, 7]), ([8, 6], [6, 8]), ([6], [6]), ([10, 6], [6, 10]), ([6], [6]), ([12, 6], [6, 12]), ([13, 6], [6, 13]), ([11, 14, 6], [6, 11, 14]), ([15, 6], [6, 15]), ([6], [6]), ([17, 6], [6, 17]), ([18, 6], [6, 18]), ([16, 19, 6], [6, 16, 19]), ([9, 20, 6], [6, 9, 20]), ([6], [6]), ([22, 6], [6, 22]), ([23, 6], [6, 23]), ([21, 24, 6], [6, 21, 24]), ([6, 25, 1], [1, 6, 25]), ([1, 26], [1, 26]), ([27, 6, 0, 1, 2, 3, 4, 5, 6, 7, 8, 9, 10, 11, 12, 13, 14, 15, 16, 17, 18, 19, 20, 21, 22, 23, 24, 25, 26, 27], [0, 27])])
def cottonpadlaw06_ExitsShown.B29 : List Nat := [0, 1, 3, 7, 3, 31, 63, 127, 255, 511, 127, 1151, 127, 4223, 12415, 31871, 64639, 127, 131199, 393343, 1047679, 2097151, 127, 4194431, 12583039, 33554431, 67108863, 134217727, 268435455]
theorem cottonpadlaw06_ExitsShown.tab29 : rtab .any (opsOf Tryd.f10 29) = cottonpadlaw06_ExitsShown.T29 := by kernel_rfl
theorem cottonpadlaw06_ExitsShown.bits29 : waitsOk cottonpadlaw06_ExitsShown.T29.2 cottonpadlaw06_ExitsShown.B29 = true := by kernel_rfl
set_option maxHeartbeats 8000000 in
set_option maxRecDepth 100000 in
theorem cottonpadlaw06_ExitsShown.calls (k : Nat) (A0_0 : Option Addr) (c0_0 : Nat) (l0_0 : List (S62)) (A0_1 : Option Addr) (c0_1 : Nat) (l0_1 : List (S81)) (A1 : Option Addr) (c1 : Nat) (l1 : List (S48)) (r : Bool) (w : World) (hG : Globs w) (hrt : r = true) (hr0_0 : Kd.C k62 w A0_0 l0_0.length l0_0) (hc0_0 : l0_0.length ≤ c0_0) (hr0_1 : Kd.C k81 w A0_1 l0_1.length l0_1) (hc0_1 : l0_1.length ≤ c0_1) (hr1 : Kd.C k48 w A1 l1.length l1) (hc1 : l1.length ≤ c1) (h : cottonpadlaw06_ExitsShown.f k l0_0 l0_1 l1 = some r) :
  Calls Tryd.prog 10 #[.agg #[.slice A0_0 l0_0.length c0_0, .slice A0_1 l0_1.length c0_1], .slice A1 l1.length c1] w fun e w' => e = .returned (.bool r) ∧ Below w.heap.size w w' := by
 have hu25 := Tryd.underlying25
 have hu36 := Tryd.underlying36
 have hu81 := Tryd.underlying81
 have hu48 := Tryd.underlying48
 have HR0_0 := Aside0.mk hr0_0
 have HC0_0 := Aside0.mk hc0_0
 clear hr0_0 hc0_0
 have HR0_1 := Aside0.mk hr0_1
 have HC0_1 := Aside0.mk hc0_1
 clear hr0_1 hc0_1
 have HR1 := Aside0.mk hr1
 have HC1 := Aside0.mk hc1
 clear hr1 hc1
 have HB := Aside0.mk (Below.refl w.heap.size w)
 have HG := Aside0.mk hG
 clear hG
 have HRT := Aside0.mk hrt
 clear hrt
 have H : ((cottonpadlaw06_alive_t.f).bind fun t770 => ((cottonpadlaw06_ready.f k l0_0 l0_1 l1).bind fun t771 => (if t771 = true then (cottonpadlaw06_ExitsShown.j0 k l1 t770 (!t770) l0_0 l0_1) else (cottonpadlaw06_ExitsShown.j0 k l1 t770 true l0_0 l0_1)))) = some r := h
 clear h
 replace H := Option.bind_eq_some_iff.mp H
 obtain ⟨t770, A30, H⟩ := H
 replace H : ((cottonpadlaw06_ready.f k l0_0 l0_1 l1).bind fun t771 => (if t771 = true then (cottonpadlaw06_ExitsShown.j0 k l1 t770 (!t770) l0_0 l0_1) else (cottonpadlaw06_ExitsShown.j0 k l1 t770 true l0_0 l0_1))) = some r := H
 have A3 := Aside0.mk A30
 clear A30
 have HC4 := Aside0.mk H
 clear H
 go_enter Tryd.func10, Tryd.ntmps10
 go_upto_region 2 with (first | ((with_reducible refine gate_dst (N := 2) rfl ?_); (try (refine gate_guard (by rfl) ?_; dsimp only)); refine box_event ?hg (N := 2) ?hd (cs := #[.slice A0_0 l0_0.length c0_0, .slice A0_1 l0_1.length c0_1]) (t := 25) ?hr ?_; (case hd => rfl); (case hg => rfl); (case hr => exact gs_); intro gb769 hg w5 hbox hb; have BK769 := Aside0.mk (hbox); have GW769 := hl_ hg (be_ HB); have GE769 := hl_ hg (be_ HB); replace HB := bs_ HB hb; clear hb hbox hg) | ((with_reducible refine gate_callee (f := 30) rfl ?_); refine goesL_ (some 26) rfl rfl Tryd.func30 (by kernel_rfl) rfl #[] rfl ls_ ?_; (with_reducible refine (cottonpadlaw06_alive_t.calls  t770 _ ?side1 A3.out).mono ?_); (case side1 => exact Globs.below HG.out (be1_ HB GE769)); rintro e w6 ⟨rfl, hb⟩; refine ⟨_, rfl, ?_⟩; replace BK769 := bb_ BK769 hb; replace HB := bs1_ HB GE769 hb; (try clear hb); (try clear hb2); (try clear hk); (try clear hi)))
 (try simp only [Act.put, List.setIfInBounds_toArray, List.set_cons_zero, List.set_cons_succ])
 go_cut [34] (fun v34 wc => ∃ (kq : Nat) (x34_3 : Bool), v34 = .bool x34_3 ∧ Aside0 (cottonpadlaw06_ExitsShown.j0 kq l1 t770 x34_3 l0_0 l0_1 = some r) ∧ Aside0 (kq ≤ k) ∧ Aside0 (wc.heap[gb769]? = some (.cells #[(.slice A0_0 l0_0.length c0_0), (.slice A0_1 l0_1.length c0_1)] 25 (0, 0))) ∧ Aside0 (Below w.heap.size w wc))
 case first =>
  have H := HC4.out
  clear HC4
  replace H := Option.bind_eq_some_iff.mp H
  obtain ⟨t771, A70, H⟩ := H
  replace H : (if t771 = true then (cottonpadlaw06_ExitsShown.j0 k l1 t770 (!t770) l0_0 l0_1) else (cottonpadlaw06_ExitsShown.j0 k l1 t770 true l0_0 l0_1)) = some r := H
  have A7 := Aside0.mk A70
  clear A70
  by_cases c8 : t771 = true
  ·subst c8
   have H1 : (cottonpadlaw06_ExitsShown.j0 k l1 t770 (!t770) l0_0 l0_1) = some r := by rw [if_pos rfl] at H; exact H
   clear H
   have H := H1
   clear H1
   have H' := Aside0.mk H
   clear H
   have hcz9_0 : w6.cell? ⟨gb769, 0, none⟩ = some (.slice A0_0 l0_0.length c0_0) := bc_ BK769 0
   have hcz9_1 : w6.cell? ⟨gb769, 1, none⟩ = some (.slice A0_1 l0_1.length c0_1) := bc_ BK769 1
   have hfz9_0 := blk_frozen BK769.out 0
   have hfz9_1 := blk_frozen BK769.out 1
   go_wp2_with (first | ((with_reducible refine gate_callee (f := 36) rfl ?_); refine goesL_ (some 29) rfl rfl Tryd.func36 (by kernel_rfl) rfl #[.agg #[.slice A0_0 l0_0.length c0_0, .slice A0_1 l0_1.length c0_1], .slice A1 l1.length c1] rfl ls_ ?_; (with_reducible refine (cottonpadlaw06_ready.calls k _ _ l0_0 _ _ l0_1 _ _ l1 true _ ?side1 ?side2 ?side3 ?side4 ?side5 ?side6 A7.out).mono ?_); (case side1 => exact kc_ HR0_0 HB); (case side2 => exact HC0_0.out); (case side3 => exact kc_ HR0_1 HB); (case side4 => exact HC0_1.out); (case side5 => exact kc_ HR1 HB); (case side6 => exact HC1.out); rintro e w10 ⟨rfl, hb⟩; refine ⟨_, rfl, ?_⟩; replace BK769 := bb_ BK769 hb; replace HB := bs1_ HB GE769 hb; (try clear hb); (try clear hb2); (try clear hk); (try clear hi)))
   go_meet
   case rel => exact ⟨_, (!t770), (by first | rfl | (simp; done) | (simp [*]; done)), H', ⟨by first | omega | exact Nat.le_refl _⟩, ⟨by refine bx_ ?_; exact BK769.out⟩, ⟨be1_ HB GE769⟩⟩
  ·replace c8 := Bool.eq_false_iff.mpr c8
   subst c8
   have H1 : (cottonpadlaw06_ExitsShown.j0 k l1 t770 true l0_0 l0_1) = some r := by rw [if_neg (show ¬ (false = true) by decide)] at H; exact H
   clear H
   have H := H1
   clear H1
   have H' := Aside0.mk H
   clear H
   have hcz11_0 : w6.cell? ⟨gb769, 0, none⟩ = some (.slice A0_0 l0_0.length c0_0) := bc_ BK769 0
   have hcz11_1 : w6.cell? ⟨gb769, 1, none⟩ = some (.slice A0_1 l0_1.length c0_1) := bc_ BK769 1
   have hfz11_0 := blk_frozen BK769.out 0
   have hfz11_1 := blk_frozen BK769.out 1
   go_wp2_with (first | ((with_reducible refine gate_callee (f := 36) rfl ?_); refine goesL_ (some 29) rfl rfl Tryd.func36 (by kernel_rfl) rfl #[.agg #[.slice A0_0 l0_0.length c0_0, .slice A0_1 l0_1.length c0_1], .slice A1 l1.length c1] rfl ls_ ?_; (with_reducible refine (cottonpadlaw06_ready.calls k _ _ l0_0 _ _ l0_1 _ _ l1 false _ ?side1 ?side2 ?side3 ?side4 ?side5 ?side6 A7.out).mono ?_); (case side1 => exact kc_ HR0_0 HB); (case side2 => exact HC0_0.out); (case side3 => exact kc_ HR0_1 HB); (case side4 => exact HC0_1.out); (case side5 => exact kc_ HR1 HB); (case side6 => exact HC1.out); rintro e w12 ⟨rfl, hb⟩; refine ⟨_, rfl, ?_⟩; replace BK769 := bb_ BK769 hb; replace HB := bs1_ HB GE769 hb; (try clear hb); (try clear hb2); (try clear hk); (try clear hi)))
   go_meet
   case rel => exact ⟨_, (true), (by first | rfl | (simp; done) | (simp [*]; done)), H', ⟨by first | omega | exact Nat.le_refl _⟩, ⟨by refine bx_ ?_; exact BK769.out⟩, ⟨be1_ HB GE769⟩⟩
 case rest =>
  as_aux_lemma =>
   clear HC4
   try clear c1
   try clear p2
   try clear c3
   try clear c8
   try clear c10
   try clear hcz11_0
   try clear hcz11_1
   try clear hcz9_0
   try clear hcz9_1
   try clear hfz11_0
   try clear hfz11_1
   try clear hfz9_0
   try clear hfz9_1
   obtain ⟨kq, x34_3, rfl, HA, HJ3, BK769, HB⟩ := hcut
   cases kq with
   | zero => exact absurd HA.out (by simp [cottonpadlaw06_ExitsShown.j0])
   | succ kj3 =>
    have H := HA.out
    clear HA
    simp only [cottonpadlaw06_ExitsShown.j0] at H
    by_cases c13 : x34_3 = true
    ·subst c13
     have H1 : (some t770) = some r := by rw [if_pos rfl] at H; exact H
     clear H
     have H := H1
     clear H1
     obtain rfl := Option.some.inj H
     go_wp2
     go_ret
     exact ⟨rf_, be1_ HB GE769⟩
    ·replace c13 := Bool.eq_false_iff.mpr c13
     subst c13
     have H1 : ((exits_Safe.f l0_0 l0_1 l1).bind fun bt772 => (if bt772.2.2.2 = 0 then (if bt772.2.1 < (-1) then (cottonpadlaw06_ExitsShown.j1 kj3 l1 t770 bt772.2.1 bt772.2.2.1 true l0_0 l0_1) else (if bt772.2.1 ≥ (l0_1.length : Int) then (cottonpadlaw06_ExitsShown.j1 kj3 l1 t770 bt772.2.1 bt772.2.2.1 true l0_0 l0_1) else (if bt772.2.2.1 < (-1) then (cottonpadlaw06_ExitsShown.j1 kj3 l1 t770 bt772.2.1 bt772.2.2.1 true l0_0 l0_1) else (if bt772.2.2.1 ≥ (l0_0.length : Int) then (cottonpadlaw06_ExitsShown.j1 kj3 l1 t770 bt772.2.1 bt772.2.2.1 true l0_0 l0_1) else (if bt772.2.1 < 0 then (cottonpadlaw06_ExitsShown.j1 kj3 l1 t770 bt772.2.1 bt772.2.2.1 ((bt772.1 == 2) != (decide (bt772.2.2.1 < 0))) l0_0 l0_1) else (cottonpadlaw06_ExitsShown.j1 kj3 l1 t770 bt772.2.1 bt772.2.2.1 ((bt772.1 == 2) != false) l0_0 l0_1)))))) else (cottonpadlaw06_ExitsShown.j1 kj3 l1 t770 bt772.2.1 bt772.2.2.1 true l0_0 l0_1))) = some r := by rw [if_neg (show ¬ (false = true) by decide)] at H; exact H
     clear H
     have H := H1
     clear H1
     replace H := Option.bind_eq_some_iff.mp H
     obtain ⟨⟨t772, t773, t774, t775⟩, A140, H⟩ := H
     replace H : (if t775 = 0 then (if t773 < (-1) then (cottonpadlaw06_ExitsShown.j1 kj3 l1 t770 t773 t774 true l0_0 l0_1) else (if t773 ≥ (l0_1.length : Int) then (cottonpadlaw06_ExitsShown.j1 kj3 l1 t770 t773 t774 true l0_0 l0_1) else (if t774 < (-1) then (cottonpadlaw06_ExitsShown.j1 kj3 l1 t770 t773 t774 true l0_0 l0_1) else (if t774 ≥ (l0_0.length : Int) then (cottonpadlaw06_ExitsShown.j1 kj3 l1 t770 t773 t774 true l0_0 l0_1) else (if t773 < 0 then (cottonpadlaw06_ExitsShown.j1 kj3 l1 t770 t773 t774 ((t772 == 2) != (decide (t774 < 0))) l0_0 l0_1) else (cottonpadlaw06_ExitsShown.j1 kj3 l1 t770 t773 t774 ((t772 == 2) != false) l0_0 l0_1)))))) else (cottonpadlaw06_ExitsShown.j1 kj3 l1 t770 t773 t774 true l0_0 l0_1)) = some r := H
     have A14 := Aside0.mk A140
     clear A140
     have HC15 := Aside0.mk H
     clear H
     have hcz16_0 : wc.cell? ⟨gb769, 0, none⟩ = some (.slice A0_0 l0_0.length c0_0) := bc_ BK769 0
     have hcz16_1 : wc.cell? ⟨gb769, 1, none⟩ = some (.slice A0_1 l0_1.length c0_1) := bc_ BK769 1
     have hfz16_0 := blk_frozen BK769.out 0
     have hfz16_1 := blk_frozen BK769.out 1
     go_upto_region 5 with (first | ((with_reducible refine gate_callee (f := 26) rfl ?_); refine goesL_ (some 39) rfl rfl Tryd.func26 (by kernel_rfl) rfl #[.agg #[.slice A0_0 l0_0.length c0_0, .slice A0_1 l0_1.length c0_1], .slice A1 l1.length c1] rfl ls_ ?_; (with_reducible refine (exits_Safe.calls _ _ l0_0 _ _ l0_1 _ _ l1 t772 t773 t774 t775 _ ?side7 ?side1 ?side2 ?side3 ?side4 ?side5 ?side6 A14.out).mono ?_); (case side1 => exact kc_ HR0_0 HB); (case side2 => exact HC0_0.out); (case side3 => exact kc_ HR0_1 HB); (case side4 => exact HC0_1.out); (case side5 => exact kc_ HR1 HB); (case side6 => exact HC1.out); (case side7 => exact Globs.below HG.out (be1_ HB GE769)); rintro e w17 ⟨rfl, hb⟩; refine ⟨_, rfl, ?_⟩; replace BK769 := bb_ BK769 hb; replace HB := bs1_ HB GE769 hb; (try clear hb); (try clear hb2); (try clear hk); (try clear hi)))
     (try simp only [Act.put, List.setIfInBounds_toArray, List.set_cons_zero, List.set_cons_succ])
     go_cut [78] (fun v78 wc => ∃ (kq : Nat) (x78_14 : Bool), v78 = .bool x78_14 ∧ Aside0 (cottonpadlaw06_ExitsShown.j1 kq l1 t770 t773 t774 x78_14 l0_0 l0_1 = some r) ∧ Aside0 (kq ≤ kj3) ∧ Aside0 (wc.heap[gb769]? = some (.cells #[(.slice A0_0 l0_0.length c0_0), (.slice A0_1 l0_1.length c0_1)] 25 (0, 0))) ∧ Aside0 (Below w.heap.size w wc))
     case first =>
      have H := HC15.out
      clear HC15
      by_cases c18 : t775 = 0
      ·rw [if_pos c18] at H
       have c18b0 : (t775 == 0) = true := beq_iff_eq.mpr c18
       have c18b1 : (t775 != 0) = false := bne_eq_false_iff_eq.mpr c18
       clear c18
       (first | rw [c18b0] | (simp only [i64_w, i32_w]; rw [c18b0]) | skip)
       by_cases c19 : t773 < (-1)
       ·rw [if_pos c19] at H
        have c19b0 : decide (t773 < (-1)) = true := decide_eq_true c19
        clear c19
        exact absurd H (by rw [HRT.out]; cases kj3 <;> simp [cottonpadlaw06_ExitsShown.j1])
       ·rw [if_neg c19] at H
        have c19b0 : decide (t773 < (-1)) = false := decide_eq_false c19
        clear c19
        by_cases c20 : t773 ≥ (l0_1.length : Int)
        ·rw [if_pos c20] at H
         have c20b0 : decide ((l0_1.length : Int) ≤ t773) = true := decide_eq_true c20
         clear c20
         exact absurd H (by rw [HRT.out]; cases kj3 <;> simp [cottonpadlaw06_ExitsShown.j1])
        ·rw [if_neg c20] at H
         have c20b0 : decide ((l0_1.length : Int) ≤ t773) = false := decide_eq_false c20
         clear c20
         by_cases c21 : t774 < (-1)
         ·rw [if_pos c21] at H
          have c21b0 : decide (t774 < (-1)) = true := decide_eq_true c21
          clear c21
          exact absurd H (by rw [HRT.out]; cases kj3 <;> simp [cottonpadlaw06_ExitsShown.j1])
         ·rw [if_neg c21] at H
          have c21b0 : decide (t774 < (-1)) = false := decide_eq_false c21
          clear c21
          by_cases c22 : t774 ≥ (l0_0.length : Int)
          ·rw [if_pos c22] at H
           have c22b0 : decide ((l0_0.length : Int) ≤ t774) = true := decide_eq_true c22
           clear c22
           exact absurd H (by rw [HRT.out]; cases kj3 <;> simp [cottonpadlaw06_ExitsShown.j1])
          ·rw [if_neg c22] at H
           have c22b0 : decide ((l0_0.length : Int) ≤ t774) = false := decide_eq_false c22
           clear c22
           by_cases c23 : t773 < 0
           ·rw [if_pos c23] at H
            have c23b0 : decide (t773 < 0) = true := decide_eq_true c23
            clear c23
            have H' := Aside0.mk H
            clear H
            have hcz24_0 : w17.cell? ⟨gb769, 0, none⟩ = some (.slice A0_0 l0_0.length c0_0) := bc_ BK769 0
            have hcz24_1 : w17.cell? ⟨gb769, 1, none⟩ = some (.slice A0_1 l0_1.length c0_1) := bc_ BK769 1
            have hfz24_0 := blk_frozen BK769.out 0
            have hfz24_1 := blk_frozen BK769.out 1
            go_wp2
            go_meet
            case rel => exact ⟨_, (((t772 == 2) != (decide (t774 < 0)))), (by first | rfl | (simp; done) | (simp [*]; done)), H', ⟨by have := HJ3.out; first | omega | exact Nat.le_refl _⟩, ⟨by refine bx_ ?_; exact BK769.out⟩, ⟨be1_ HB GE769⟩⟩
           ·rw [if_neg c23] at H
            have c23b0 : decide (t773 < 0) = false := decide_eq_false c23
            clear c23
            have H' := Aside0.mk H
            clear H
            have hcz25_0 : w17.cell? ⟨gb769, 0, none⟩ = some (.slice A0_0 l0_0.length c0_0) := bc_ BK769 0
            have hcz25_1 : w17.cell? ⟨gb769, 1, none⟩ = some (.slice A0_1 l0_1.length c0_1) := bc_ BK769 1
            have hfz25_0 := blk_frozen BK769.out 0
            have hfz25_1 := blk_frozen BK769.out 1
            go_wp2
            go_meet
            case rel => exact ⟨_, (((t772 == 2) != false)), (by first | rfl | (simp; done) | (simp [*]; done)), H', ⟨by have := HJ3.out; first | omega | exact Nat.le_refl _⟩, ⟨by refine bx_ ?_; exact BK769.out⟩, ⟨be1_ HB GE769⟩⟩
      ·rw [if_neg c18] at H
       have c18b0 : (t775 == 0) = false := beq_eq_false_iff_ne.mpr c18
       have c18b1 : (t775 != 0) = true := bne_iff_ne.mpr c18
       (first | rw [c18b0] | (simp only [i64_w, i32_w]; rw [c18b0]) | skip)
       exact absurd H (by rw [HRT.out]; cases kj3 <;> simp [cottonpadlaw06_ExitsShown.j1])
     case rest =>
      as_aux_lemma =>
       clear HC15
       try clear c1
       try clear c2
       try clear p2
       try clear c3
       try clear c8
       try clear c10
       try clear c13
       try clear c18
       try clear c18b0
       try clear c18b1
       try clear c19
       try clear c19b0
       try clear c20
       try clear c20b0
       try clear c21
       try clear c21b0
       try clear c22
       try clear c22b0
       try clear c23
       try clear c23b0
       try clear hcz11_0
       try clear hcz11_1
       try clear hcz16_0
       try clear hcz16_1
       try clear hcz24_0
       try clear hcz24_1
       try clear hcz25_0
       try clear hcz25_1
       try clear hcz9_0
       try clear hcz9_1
       try clear hfz11_0
       try clear hfz11_1
       try clear hfz16_0
       try clear hfz16_1
       try clear hfz24_0
       try clear hfz24_1
       try clear hfz25_0
       try clear hfz25_1
       try clear hfz9_0
       try clear hfz9_1
       try clear p2
       obtain ⟨kq, x78_14, rfl, HA, HJ14, BK769, HB⟩ := hcut
       cases kq with
       | zero => exact absurd HA.out (by simp [cottonpadlaw06_ExitsShown.j1])
       | succ kj14 =>
        have H := HA.out
        clear HA
        simp only [cottonpadlaw06_ExitsShown.j1] at H
        by_cases c26 : x78_14 = true
        ·subst c26
         have H1 : (some false) = some r := by rw [if_pos rfl] at H; exact H
         clear H
         have H := H1
         clear H1
         exact absurd (H.trans (congrArg some HRT.out)) (by simp)
        ·replace c26 := Bool.eq_false_iff.mpr c26
         subst c26
         have H1 : (cottonpadlaw06_ExitsShown.l0 kj14 l1 t770 t773 t774 (l0_0.length : Int) 0 l0_0 l0_1) = some r := by rw [if_neg (show ¬ (false = true) by decide)] at H; exact H
         clear H
         have H := H1
         clear H1
         have H' := Aside0.mk H
         clear H
         have hcz27_0 : wc.cell? ⟨gb769, 0, none⟩ = some (.slice A0_0 l0_0.length c0_0) := bc_ BK769 0
         have hcz27_1 : wc.cell? ⟨gb769, 1, none⟩ = some (.slice A0_1 l0_1.length c0_1) := bc_ BK769 1
         have hfz27_0 := blk_frozen BK769.out 0
         have hfz27_1 := blk_frozen BK769.out 1
         go_wp2
         go_loopg [82] kj14 (fun kq v82 w' => ∃ (x82_3 : Int), v82 = .int .i64 x82_3 ∧ Aside0 (cottonpadlaw06_ExitsShown.l0 kq l1 t770 t773 t774 (l0_0.length : Int) x82_3 l0_0 l0_1 = some r) ∧ Aside0 (kq ≤ kj14) ∧ Aside0 (w'.heap[gb769]? = some (.cells #[(.slice A0_0 l0_0.length c0_0), (.slice A0_1 l0_1.length c0_1)] 25 (0, 0))) ∧ Aside0 (Below w.heap.size w w'))
         case atStart => exact ⟨(0), (by first | rfl | (simp; done) | (simp [*]; done)), H', ⟨Nat.le_refl _⟩, ⟨by refine bx_ ?_; exact BK769.out⟩, ⟨be1_ HB GE769⟩⟩
         case round =>
          clear H'
          try clear c1
          try clear c2
          try clear p2
          try clear c3
          try clear c8
          try clear c10
          try clear c13
          try clear c18
          try clear c18b0
          try clear c18b1
          try clear c19
          try clear c19b0
          try clear c20
          try clear c20b0
          try clear c21
          try clear c21b0
          try clear c22
          try clear c22b0
          try clear c23
          try clear c23b0
          try clear c26
          try clear hcz11_0
          try clear hcz11_1
          try clear hcz16_0
          try clear hcz16_1
          try clear hcz24_0
          try clear hcz24_1
          try clear hcz25_0
          try clear hcz25_1
          try clear hcz27_0
          try clear hcz27_1
          try clear hcz9_0
          try clear hcz9_1
          try clear hfz11_0
          try clear hfz11_1
          try clear hfz16_0
          try clear hfz16_1
          try clear hfz24_0
          try clear hfz24_1
          try clear hfz25_0
          try clear hfz25_1
          try clear hfz27_0
          try clear hfz27_1
          try clear hfz9_0
          try clear hfz9_1
          try clear p2
          obtain ⟨x82_3, rfl, HA, HK3, BK769, HB⟩ := hrel
          cases gk with
          | zero => exact absurd HA.out (by simp [cottonpadlaw06_ExitsShown.l0])
          | succ k3 =>
           have H := HA.out
           clear HA
           simp only [cottonpadlaw06_ExitsShown.l0] at H
           by_cases c28 : x82_3 < (l0_0.length : Int)
           ·rw [if_pos c28] at H
            have c28b0 : decide (x82_3 < (l0_0.length : Int)) = true := decide_eq_true c28
            clear c28
            replace H := Option.bind_eq_some_iff.mp H
            obtain ⟨⟨t776, t779⟩, A290, H⟩ := H
            replace H : (if t779 = 0 then (cottonpadlaw06_ExitsShown.l1 k3 l1 t770 t773 t774 x82_3 false (l0_0.length : Int) x82_3 t776 (t776.length : Int) 0 l0_0 l0_1) else (some false)) = some r := H
            have A29 := Aside0.mk A290
            clear A290
            by_cases c30 : t779 = 0
            ·rw [if_pos c30] at H
             have c30b0 : (t779 == 0) = true := beq_iff_eq.mpr c30
             have c30b1 : (t779 != 0) = false := bne_eq_false_iff_eq.mpr c30
             clear c30
             have H' := Aside0.mk H
             clear H
             have hcz31_0 : wr.cell? ⟨gb769, 0, none⟩ = some (.slice A0_0 l0_0.length c0_0) := bc_ BK769 0
             have hcz31_1 : wr.cell? ⟨gb769, 1, none⟩ = some (.slice A0_1 l0_1.length c0_1) := bc_ BK769 1
             have hfz31_0 := blk_frozen BK769.out 0
             have hfz31_1 := blk_frozen BK769.out 1
             go_wp2_with (first | ((with_reducible refine gate_callee (f := 17) rfl ?_); refine goesL_ (some 89) rfl rfl Tryd.func17 (by kernel_rfl) rfl #[.agg #[.slice A0_0 l0_0.length c0_0, .slice A0_1 l0_1.length c0_1], .slice A1 l1.length c1, .int .i64 x82_3] rfl ls_ ?_; (with_reducible refine (exits_Leaves.calls _ _ l0_0 _ _ l0_1 _ _ l1 x82_3 t776 t779 _ ?side7 ?side1 ?side2 ?side3 ?side4 ?side5 ?side6 A29.out).mono ?_); (case side1 => exact kc_ HR0_0 HB); (case side2 => exact HC0_0.out); (case side3 => exact kc_ HR0_1 HB); (case side4 => exact HC0_1.out); (case side5 => exact kc_ HR1 HB); (case side6 => exact HC1.out); (case side7 => exact GlobsE.below HG.out.1 (be1_ HB GE769)); rintro e w32 ⟨v777, rfl, ho0, hb⟩; refine ⟨_, rfl, ?_⟩; have HO778 := Aside0.mk (Kd.R_lower ho0 (below_size (be1_ HB GE769))); replace BK769 := bb_ BK769 hb; replace HB := bs1_ HB GE769 hb; (try clear hb); (try clear hb2); (try clear hk); (try clear hi); (try clear ho0); obtain ⟨Ao33, co33, eo33⟩ := Kd.R_slice HO778.out; subst eo33))
             go_loopg [13, 96] k3 (fun kq v13 v96 w' => ∃ (x13_4 : Bool) (x96_4 : Int), v13 = .bool x13_4 ∧ v96 = .int .i64 x96_4 ∧ Aside0 (cottonpadlaw06_ExitsShown.l1 kq l1 t770 t773 t774 x82_3 x13_4 (l0_0.length : Int) x82_3 t776 (t776.length : Int) x96_4 l0_0 l0_1 = some r) ∧ Aside0 (kq ≤ k3) ∧ Aside0 (Kd.R k36 36 w' w.heap.size (fun _ => True) (.slice Ao33 t776.length co33) t776) ∧ Aside0 (w'.heap[gb769]? = some (.cells #[(.slice A0_0 l0_0.length c0_0), (.slice A0_1 l0_1.length c0_1)] 25 (0, 0))) ∧ Aside0 (Below w.heap.size w w'))
             case atStart => exact ⟨(false), (0), (by first | rfl | (simp; done) | (simp [*]; done)), (by first | rfl | (simp; done) | (simp [*]; done)), H', ⟨Nat.le_refl _⟩, ⟨by (with_reducible repeat (first | apply Kd.R_alloc | apply Kd.R_drewN | apply Kd.R_drew)); exact HO778.out⟩, ⟨by refine bx_ ?_; exact BK769.out⟩, ⟨be1_ HB GE769⟩⟩
             case round =>
              clear H'
              try clear c1
              try clear c2
              try clear p2
              try clear c3
              try clear c8
              try clear c10
              try clear c13
              try clear c17
              try clear c18
              try clear c18b0
              try clear c18b1
              try clear c19
              try clear c19b0
              try clear c20
              try clear c20b0
              try clear c21
              try clear c21b0
              try clear c22
              try clear c22b0
              try clear c23
              try clear c23b0
              try clear c26
              try clear c28
              try clear c28b0
              try clear c30
              try clear c30b0
              try clear c30b1
              try clear hcz11_0
              try clear hcz11_1
              try clear hcz16_0
              try clear hcz16_1
              try clear hcz24_0
              try clear hcz24_1
              try clear hcz25_0
              try clear hcz25_1
              try clear hcz27_0
              try clear hcz27_1
              try clear hcz31_0
              try clear hcz31_1
              try clear hcz9_0
              try clear hcz9_1
              try clear hfz11_0
              try clear hfz11_1
              try clear hfz16_0
              try clear hfz16_1
              try clear hfz24_0
              try clear hfz24_1
              try clear hfz25_0
              try clear hfz25_1
              try clear hfz27_0
              try clear hfz27_1
              try clear hfz31_0
              try clear hfz31_1
              try clear hfz9_0
              try clear hfz9_1
              try clear p2
              obtain ⟨x13_4, x96_4, rfl, rfl, HA, HK4, HO_94, BK769, HB⟩ := hrel
              cases gk with
              | zero => exact absurd HA.out (by simp [cottonpadlaw06_ExitsShown.l1])
              | succ k4 =>
               have H := HA.out
               clear HA
               simp only [cottonpadlaw06_ExitsShown.l1] at H
               by_cases c34 : x96_4 < (t776.length : Int)
               ·rw [if_pos c34] at H
                have c34b0 : decide (x96_4 < (t776.length : Int)) = true := decide_eq_true c34
                clear c34
                by_cases c35 : 0 ≤ x96_4
                ·rw [if_pos c35] at H
                 have c35b0 : decide (0 ≤ x96_4) = true := decide_eq_true c35
                 clear c35
                 by_cases c36 : x96_4 < (t776.length : Int)
                 ·rw [if_pos c36] at H
                  have c36b0 : decide (x96_4 < (t776.length : Int)) = true := decide_eq_true c36
                  clear c36
                  by_cases c37 : x13_4 = true
                  ·subst c37
                   have H1 : (cottonpadlaw06_ExitsShown.l1 k4 l1 t770 t773 t774 x82_3 true (l0_0.length : Int) x82_3 t776 (t776.length : Int) (wrap64 (x96_4 + 1)) l0_0 l0_1) = some r := by rw [if_pos rfl] at H; exact H
                   clear H
                   have H := H1
                   clear H1
                   have H' := Aside0.mk H
                   clear H
                   have p780 : 0 ≤ (x96_4 : Int) := of_decide_eq_true as_
                   have q780 : x96_4 < (t776.length : Int) := of_decide_eq_true as_
                   obtain ⟨ad780, e780, hx780_0, hx780_1⟩ := at_T36 (Kd.R_reads' HO_94.out).2.2 x96_4 p780 q780
                   cases e780
                   replace p780 := eq_true p780
                   replace q780 := eq_true q780
                   try go_wp2_with (first | ((with_reducible refine gate_dst (N := 15) rfl ?_); (try (refine gate_guard (by rfl) ?_; dsimp only)); refine box_event ?hg (N := 15) ?hd (cs := #[.int .i64 0, .int .i64 0]) (t := 36) ?hr ?_; (case hd => rfl); (case hg => rfl); (case hr => exact gs_); intro gb781 hg w38 hbox hb; replace HO_94 := Aside0.mk (Kd.R_below (Kd.R_elderB (ro_ HO_94) gb781 (Nat.le_of_eq hg.symm)) hb); have BK781 := Aside0.mk (hbox); have GW781 := hl_ hg (be1_ HB GE769); have GE781 := hl_ hg (be1_ HB GE769); replace HB := bs1_ HB GE769 hb; have NB769_781 := Aside0.mk ((by rw [hg]; exact Nat.ne_of_lt (blk_lt (bk_ BK769)) : gb769 ≠ gb781)); have NB781_769 := Aside0.mk ((by rw [hg]; exact Nat.ne_of_gt (blk_lt (bk_ BK769)) : gb781 ≠ gb769)); replace BK769 := bb_ BK769 hb; clear hb hbox hg; have hnb39 := NB781_769.out; have hnc39 := NB769_781.out; have hcz40_0 : w38.cell? ⟨gb781, 0, none⟩ = some (.int .i64 0) := bc_ BK781 0; have hcz40_1 : w38.cell? ⟨gb781, 1, none⟩ = some (.int .i64 0) := bc_ BK781 1; have hfz40_0 := blk_frozen BK781.out 0; have hfz40_1 := blk_frozen BK781.out 1))
                   have n0_ : Aside0 (Kd.R k36 36 ((w38.setCell ⟨gb781, 0, none⟩ (.int .i64 ((rd_T36 t776 x96_4).f0))).setCell ⟨gb781, 1, none⟩ (.int .i64 ((rd_T36 t776 x96_4).f1))) w.heap.size (fun k_ => k_ ≠ gb781) (.slice (some ad780) t776.length co33) t776) := ⟨by (with_reducible repeat (first | apply Kd.R_alloc | apply Kd.R_drewN | apply Kd.R_drew)); exact Kd.R_mono (Kd.R_far (p := ⟨gb781, 1, none⟩) (Kd.R_far (p := ⟨gb781, 0, none⟩) (Kd.R_mono HO_94.out (fun k_ hk => (⟨hk, hk.2⟩ : _ ∧ k_ ≠ gb781))) (fun _ hk => hk.2) (.int .i64 ((rd_T36 t776 x96_4).f0))) (fun _ hk => hk.2) (.int .i64 ((rd_T36 t776 x96_4).f1))) (fun _ hk => hk.1.2)⟩
                   have n1_ : Aside0 (((w38.setCell ⟨gb781, 0, none⟩ (.int .i64 ((rd_T36 t776 x96_4).f0))).setCell ⟨gb781, 1, none⟩ (.int .i64 ((rd_T36 t776 x96_4).f1))).heap[gb769]? = some (.cells #[.slice A0_0 l0_0.length c0_0, .slice A0_1 l0_1.length c0_1] 25 (0, 0))) := ⟨by refine bx_ ?_; refine blk_far ?_ NB769_781.out _; refine bx_ ?_; refine blk_far ?_ NB769_781.out _; refine bx_ ?_; exact BK769.out⟩
                   have n2_ : Aside0 (((w38.setCell ⟨gb781, 0, none⟩ (.int .i64 ((rd_T36 t776 x96_4).f0))).setCell ⟨gb781, 1, none⟩ (.int .i64 ((rd_T36 t776 x96_4).f1))).heap[gb781]? = some (.cells #[.int .i64 ((rd_T36 t776 x96_4).f0), .int .i64 ((rd_T36 t776 x96_4).f1)] 36 (0, 0))) := ⟨by refine bx_ ?_; refine blk_put (cs := #[.int .i64 ((rd_T36 t776 x96_4).f0), .int .i64 0]) ?_ 1 _ rfl; refine bx_ ?_; refine blk_put (cs := #[.int .i64 0, .int .i64 0]) ?_ 0 _ rfl; refine bx_ ?_; exact BK781.out⟩
                   have n3_ : Aside0 (Below w.heap.size w ((w38.setCell ⟨gb781, 0, none⟩ (.int .i64 ((rd_T36 t776 x96_4).f0))).setCell ⟨gb781, 1, none⟩ (.int .i64 ((rd_T36 t776 x96_4).f1)))) := ⟨be2_ HB GE769 GE781⟩
                   (try clear HO_94)
                   (try clear BK769)
                   (try clear BK781)
                   (try clear HB)
                   generalize ((w38.setCell ⟨gb781, 0, none⟩ (.int .i64 ((rd_T36 t776 x96_4).f0))).setCell ⟨gb781, 1, none⟩ (.int .i64 ((rd_T36 t776 x96_4).f1))) = w41 at n0_ n1_ n2_ n3_ ⊢
                   have HO_94 := n0_
                   have BK769 := n1_
                   have BK781 := n2_
                   have HB := n3_
                   clear n0_ n1_ n2_ n3_
                   replace HO_94 := Aside0.mk (Kd.R_drew HO_94.out)
                   replace BK769 := Aside0.mk (blk_drew BK769.out)
                   replace BK781 := Aside0.mk (blk_drew BK781.out)
                   replace HB := Aside0.mk (below_drew1 HB.out)
                   refine start_ (n := 14) (S := fun w' => True) (ds := []) (bm_ 14 0) (by kernel_rfl) rfl rfl trivial (fun hHeld => ?_); refine with_tabW cottonpadlaw06_ExitsShown.tab17 cottonpadlaw06_ExitsShown.bits17 (fun HT_ HW_ => ?_)
                   generalize w41.drew = w42 at HO_94 BK769 BK781 HB hHeld ⊢
                   refine pr_ 0 100 14 1 HT_ rfl rfl ?_
                   refine pr_ 1 101 14 3 HT_ rfl rfl ?_
                   refine pn_ 2 102 14 7 HT_ rfl rfl ?_
                   refine pn_ 3 103 14 15 HT_ rfl rfl ?_
                   refine pn_ 4 104 14 31 HT_ rfl rfl ?_
                   refine pn_ 5 105 14 63 HT_ rfl rfl ?_
                   refine pn_ 6 106 14 127 HT_ rfl rfl ?_
                   refine pn_ 7 107 14 255 HT_ rfl rfl ?_
                   refine pn_ 8 108 14 511 HT_ rfl rfl ?_
                   refine pn_ 9 109 14 1023 HT_ rfl rfl ?_
                   refine pn_ 10 110 14 2047 HT_ rfl rfl ?_
                   refine pn_ 11 111 14 4095 HT_ rfl rfl ?_
                   refine pr_ 12 112 14 8191 HT_ rfl rfl ?_
                   refine pr_ 13 13 14 16383 HT_ rfl rfl ?_
                   refine done_ (done_of HT_.out (by kernel_rfl)) ?_
                   try go_wp2
                   go_roundg k4
                   case measure => have := HJ3.out; have := HJ14.out; have := HK3.out; have := HK4.out; omega
                   case rel => exact ⟨(true), (wrap64 (x96_4 + 1)), (by first | rfl | (simp; done) | (simp [*]; done)), (by first | rfl | (simp; done) | (simp [*]; done)), H', ⟨by have := HJ3.out; have := HJ14.out; have := HK3.out; have := HK4.out; omega⟩, ⟨by (with_reducible repeat (first | apply Kd.R_alloc | apply Kd.R_drewN | apply Kd.R_drew)); exact Kd.R_mono HO_94.out (fun _ hk => trivial)⟩, ⟨by refine bx_ ?_; exact BK769.out⟩, ⟨be2_ HB GE769 GE781⟩⟩
                  ·replace c37 := Bool.eq_false_iff.mpr c37
                   subst c37
                   have H1 : (if 0 ≤ x82_3 then (if x82_3 < (l0_0.length : Int) then (cottonpadlaw06_ExitsShown.l1 k4 l1 t770 t773 t774 x82_3 (decide (((rd_T36 t776 x96_4).f1) > ((rd_T62 l0_0 x82_3).f3.f0))) (l0_0.length : Int) x82_3 t776 (t776.length : Int) (wrap64 (x96_4 + 1)) l0_0 l0_1) else (none)) else (none)) = some r := by rw [if_neg (show ¬ (false = true) by decide)] at H; exact H
                   clear H
                   have H := H1
                   clear H1
                   by_cases c43 : 0 ≤ x82_3
                   ·rw [if_pos c43] at H
                    have c43b0 : decide (0 ≤ x82_3) = true := decide_eq_true c43
                    clear c43
                    by_cases c44 : x82_3 < (l0_0.length : Int)
                    ·rw [if_pos c44] at H
                     have c44b0 : decide (x82_3 < (l0_0.length : Int)) = true := decide_eq_true c44
                     clear c44
                     have H' := Aside0.mk H
                     clear H
                     have p780 : 0 ≤ (x96_4 : Int) := of_decide_eq_true as_
                     have q780 : x96_4 < (t776.length : Int) := of_decide_eq_true as_
                     obtain ⟨ad780, e780, hx780_0, hx780_1⟩ := at_T36 (Kd.R_reads' HO_94.out).2.2 x96_4 p780 q780
                     cases e780
                     replace p780 := eq_true p780
                     replace q780 := eq_true q780
                     try go_wp2_with (first | ((with_reducible refine gate_dst (N := 15) rfl ?_); (try (refine gate_guard (by rfl) ?_; dsimp only)); refine box_event ?hg (N := 15) ?hd (cs := #[.int .i64 0, .int .i64 0]) (t := 36) ?hr ?_; (case hd => rfl); (case hg => rfl); (case hr => exact gs_); intro gb781 hg w45 hbox hb; replace HO_94 := Aside0.mk (Kd.R_below (Kd.R_elderB (ro_ HO_94) gb781 (Nat.le_of_eq hg.symm)) hb); have BK781 := Aside0.mk (hbox); have GW781 := hl_ hg (be1_ HB GE769); have GE781 := hl_ hg (be1_ HB GE769); replace HB := bs1_ HB GE769 hb; have NB769_781 := Aside0.mk ((by rw [hg]; exact Nat.ne_of_lt (blk_lt (bk_ BK769)) : gb769 ≠ gb781)); have NB781_769 := Aside0.mk ((by rw [hg]; exact Nat.ne_of_gt (blk_lt (bk_ BK769)) : gb781 ≠ gb769)); replace BK769 := bb_ BK769 hb; clear hb hbox hg; have hnb46 := NB781_769.out; have hnc46 := NB769_781.out; have hcz47_0 : w45.cell? ⟨gb781, 0, none⟩ = some (.int .i64 0) := bc_ BK781 0; have hcz47_1 : w45.cell? ⟨gb781, 1, none⟩ = some (.int .i64 0) := bc_ BK781 1; have hfz47_0 := blk_frozen BK781.out 0; have hfz47_1 := blk_frozen BK781.out 1))
                     have n0_ : Aside0 (Kd.R k36 36 ((w45.setCell ⟨gb781, 0, none⟩ (.int .i64 ((rd_T36 t776 x96_4).f0))).setCell ⟨gb781, 1, none⟩ (.int .i64 ((rd_T36 t776 x96_4).f1))) w.heap.size (fun k_ => k_ ≠ gb781) (.slice (some ad780) t776.length co33) t776) := ⟨by (with_reducible repeat (first | apply Kd.R_alloc | apply Kd.R_drewN | apply Kd.R_drew)); exact Kd.R_mono (Kd.R_far (p := ⟨gb781, 1, none⟩) (Kd.R_far (p := ⟨gb781, 0, none⟩) (Kd.R_mono HO_94.out (fun k_ hk => (⟨hk, hk.2⟩ : _ ∧ k_ ≠ gb781))) (fun _ hk => hk.2) (.int .i64 ((rd_T36 t776 x96_4).f0))) (fun _ hk => hk.2) (.int .i64 ((rd_T36 t776 x96_4).f1))) (fun _ hk => hk.1.2)⟩
                     have n1_ : Aside0 (((w45.setCell ⟨gb781, 0, none⟩ (.int .i64 ((rd_T36 t776 x96_4).f0))).setCell ⟨gb781, 1, none⟩ (.int .i64 ((rd_T36 t776 x96_4).f1))).heap[gb769]? = some (.cells #[.slice A0_0 l0_0.length c0_0, .slice A0_1 l0_1.length c0_1] 25 (0, 0))) := ⟨by refine bx_ ?_; refine blk_far ?_ NB769_781.out _; refine bx_ ?_; refine blk_far ?_ NB769_781.out _; refine bx_ ?_; exact BK769.out⟩
                     have n2_ : Aside0 (((w45.setCell ⟨gb781, 0, none⟩ (.int .i64 ((rd_T36 t776 x96_4).f0))).setCell ⟨gb781, 1, none⟩ (.int .i64 ((rd_T36 t776 x96_4).f1))).heap[gb781]? = some (.cells #[.int .i64 ((rd_T36 t776 x96_4).f0), .int .i64 ((rd_T36 t776 x96_4).f1)] 36 (0, 0))) := ⟨by refine bx_ ?_; refine blk_put (cs := #[.int .i64 ((rd_T36 t776 x96_4).f0), .int .i64 0]) ?_ 1 _ rfl; refine bx_ ?_; refine blk_put (cs := #[.int .i64 0, .int .i64 0]) ?_ 0 _ rfl; refine bx_ ?_; exact BK781.out⟩
                     have n3_ : Aside0 (Below w.heap.size w ((w45.setCell ⟨gb781, 0, none⟩ (.int .i64 ((rd_T36 t776 x96_4).f0))).setCell ⟨gb781, 1, none⟩ (.int .i64 ((rd_T36 t776 x96_4).f1)))) := ⟨be2_ HB GE769 GE781⟩
                     (try clear HO_94)
                     (try clear BK769)
                     (try clear BK781)
                     (try clear HB)
                     generalize ((w45.setCell ⟨gb781, 0, none⟩ (.int .i64 ((rd_T36 t776 x96_4).f0))).setCell ⟨gb781, 1, none⟩ (.int .i64 ((rd_T36 t776 x96_4).f1))) = w48 at n0_ n1_ n2_ n3_ ⊢
                     have HO_94 := n0_
                     have BK769 := n1_
                     have BK781 := n2_
                     have HB := n3_
                     clear n0_ n1_ n2_ n3_
                     replace HO_94 := Aside0.mk (Kd.R_drew HO_94.out)
                     replace BK769 := Aside0.mk (blk_drew BK769.out)
                     replace BK781 := Aside0.mk (blk_drew BK781.out)
                     replace HB := Aside0.mk (below_drew1 HB.out)
                     have p782 : 0 ≤ (x82_3 : Int) := of_decide_eq_true as_
                     have q782 : x82_3 < (l0_0.length : Int) := of_decide_eq_true as_
                     obtain ⟨ad782, e782, hx782_0, hx782_1, hx782_2, hx782_3, hx782_4, hx782_5⟩ := at_T62 HR0_0.out x82_3 p782 q782
                     have hw782_5 := hx782_5
                     have hw782_4 := hx782_4
                     have hw782_3 := hx782_3
                     have hw782_2 := hx782_2
                     have hw782_1 := hx782_1
                     have hw782_0 := hx782_0
                     cases e782
                     try replace hx782_0 := ce_ HB hx782_0
                     try replace hx782_1 := ce_ HB hx782_1
                     try replace hx782_2 := ce_ HB hx782_2
                     try replace hx782_3 := ce_ HB hx782_3
                     try replace hx782_4 := ce_ HB hx782_4
                     try replace hx782_5 := ce_ HB hx782_5
                     replace p782 := eq_true p782
                     replace q782 := eq_true q782
                     refine start_ (n := 14) (S := fun w' => w'.cell? ⟨gb781, 0, none⟩ = some (.int .i64 ((rd_T36 t776 x96_4).f0)) ∧ w'.cell? ⟨gb781, 1, none⟩ = some (.int .i64 ((rd_T36 t776 x96_4).f1)) ∧ w'.cell? ⟨gb769, 0, none⟩ = some (.slice (some ad782) l0_0.length c0_0) ∧ w'.cell? ⟨gb769, 1, none⟩ = some (.slice A0_1 l0_1.length c0_1) ∧ w'.cell? (ad782.add ((x82_3).toNat * 6)) = some (.int .i64 ((rd_T62 l0_0 x82_3).f0)) ∧ w'.cell? ⟨(ad782.add ((x82_3).toNat * 6)).block, (ad782.add ((x82_3).toNat * 6)).off + 1, none⟩ = some (.int .i64 ((rd_T62 l0_0 x82_3).f1)) ∧ w'.cell? ⟨(ad782.add ((x82_3).toNat * 6)).block, (ad782.add ((x82_3).toNat * 6)).off + 2, none⟩ = some (.int .i64 ((rd_T62 l0_0 x82_3).f2.f0)) ∧ w'.cell? ⟨(ad782.add ((x82_3).toNat * 6)).block, (ad782.add ((x82_3).toNat * 6)).off + 3, none⟩ = some (.int .i64 ((rd_T62 l0_0 x82_3).f2.f1)) ∧ w'.cell? ⟨(ad782.add ((x82_3).toNat * 6)).block, (ad782.add ((x82_3).toNat * 6)).off + 4, none⟩ = some (.int .i64 ((rd_T62 l0_0 x82_3).f3.f0)) ∧ w'.cell? ⟨(ad782.add ((x82_3).toNat * 6)).block, (ad782.add ((x82_3).toNat * 6)).off + 5, none⟩ = some (.int .i64 ((rd_T62 l0_0 x82_3).f3.f1))) (ds := []) (bm_ 14 0) (by kernel_rfl) rfl rfl ⟨bc_ BK781 0, bc_ BK781 1, bc_ BK769 0, bc_ BK769 1, (cf_ HB hw782_0), (cf_ HB hw782_1), (cf_ HB hw782_2), (cf_ HB hw782_3), (cf_ HB hw782_4), (cf_ HB hw782_5)⟩ (fun hHeld => ?_); refine with_tabW cottonpadlaw06_ExitsShown.tab17 cottonpadlaw06_ExitsShown.bits17 (fun HT_ HW_ => ?_)
                     generalize w48.drew = w49 at HO_94 BK769 BK781 HB hx782_0 hx782_1 hx782_2 hx782_3 hx782_4 hx782_5 hHeld ⊢
                     refine pr_ 0 100 14 1 HT_ rfl rfl ?_
                     refine pr_ 1 101 14 3 HT_ rfl rfl ?_
                     refine pr_ 2 102 14 7 HT_ rfl rfl ?_
                     refine pr_ 4 104 14 23 HT_ rfl rfl ?_
                     refine pr_ 6 106 14 87 HT_ rfl rfl ?_
                     refine ta_ 3 103 14 95 HT_ HW_ rfl rfl hHeld ?_
                     refine ta_ 5 105 14 127 HT_ HW_ rfl rfl hHeld ?_
                     refine pr_ 7 107 14 255 HT_ rfl rfl ?_
                     refine pr_ 8 108 14 511 HT_ rfl rfl ?_
                     refine pr_ 9 109 14 1023 HT_ rfl rfl ?_
                     refine ta_ 10 110 14 2047 HT_ HW_ rfl rfl hHeld ?_
                     refine pr_ 11 111 14 4095 HT_ rfl rfl ?_
                     refine pr_ 12 112 14 8191 HT_ rfl rfl ?_
                     refine pr_ 13 13 14 16383 HT_ rfl rfl ?_
                     refine done_ (done_of HT_.out (by kernel_rfl)) ?_
                     try go_wp2
                     go_roundg k4
                     case measure => have := HJ3.out; have := HJ14.out; have := HK3.out; have := HK4.out; omega
                     case rel => exact ⟨(decide (((rd_T36 t776 x96_4).f1) > ((rd_T62 l0_0 x82_3).f3.f0))), (wrap64 (x96_4 + 1)), (by first | rfl | (simp; done) | (simp [*]; done)), (by first | rfl | (simp; done) | (simp [*]; done)), H', ⟨by have := HJ3.out; have := HJ14.out; have := HK3.out; have := HK4.out; omega⟩, ⟨by (with_reducible repeat (first | apply Kd.R_alloc | apply Kd.R_drewN | apply Kd.R_drew)); exact Kd.R_mono HO_94.out (fun _ hk => trivial)⟩, ⟨by refine bx_ ?_; exact BK769.out⟩, ⟨be2_ HB GE769 GE781⟩⟩
                    ·rw [if_neg c44] at H
                     exact absurd H (by simp)
                   ·rw [if_neg c43] at H
                    exact absurd H (by simp)
                 ·rw [if_neg c36] at H
                  exact absurd H (by simp)
                ·rw [if_neg c35] at H
                 exact absurd H (by simp)
               ·rw [if_neg c34] at H
                have c34b0 : decide (x96_4 < (t776.length : Int)) = false := decide_eq_false c34
                clear c34
                by_cases c50 : x82_3 = t774
                ·rw [if_pos c50] at H
                 have c50b0 : (x82_3 == t774) = true := beq_iff_eq.mpr c50
                 have c50b1 : (x82_3 != t774) = false := bne_eq_false_iff_eq.mpr c50
                 clear c50
                 by_cases c51 : x13_4 = true
                 ·subst c51
                  have H1 : (if t774 < 0 then (some false) else (if x82_3 < t774 then (some false) else (cottonpadlaw06_ExitsShown.l0 k4 l1 t770 t773 t774 (l0_0.length : Int) (wrap64 (x82_3 + 1)) l0_0 l0_1))) = some r := by rw [if_pos rfl] at H; exact H
                  clear H
                  have H := H1
                  clear H1
                  by_cases c52 : t774 < 0
                  ·rw [if_pos c52] at H
                   have c52b0 : decide (t774 < 0) = true := decide_eq_true c52
                   clear c52
                   exact absurd (H.trans (congrArg some HRT.out)) (by simp)
                  ·rw [if_neg c52] at H
                   have c52b0 : decide (t774 < 0) = false := decide_eq_false c52
                   clear c52
                   by_cases c53 : x82_3 < t774
                   ·rw [if_pos c53] at H
                    have c53b0 : decide (x82_3 < t774) = true := decide_eq_true c53
                    clear c53
                    exact absurd (H.trans (congrArg some HRT.out)) (by simp)
                   ·rw [if_neg c53] at H
                    have c53b0 : decide (x82_3 < t774) = false := decide_eq_false c53
                    clear c53
                    have H' := Aside0.mk H
                    clear H
                    go_wp2
                    go_roundg k4
                    case measure => have := HJ3.out; have := HJ14.out; have := HK3.out; have := HK4.out; omega
                    case rel => exact ⟨(wrap64 (x82_3 + 1)), (by first | rfl | (simp; done) | (simp [*]; done)), H', ⟨by have := HJ3.out; have := HJ14.out; have := HK3.out; have := HK4.out; omega⟩, ⟨by refine bx_ ?_; exact BK769.out⟩, ⟨be1_ HB GE769⟩⟩
                 ·replace c51 := Bool.eq_false_iff.mpr c51
                  subst c51
                  have H1 : (some false) = some r := by rw [if_neg (show ¬ (false = true) by decide)] at H; exact H
                  clear H
                  have H := H1
                  clear H1
                  exact absurd (H.trans (congrArg some HRT.out)) (by simp)
                ·rw [if_neg c50] at H
                 have c50b0 : (x82_3 == t774) = false := beq_eq_false_iff_ne.mpr c50
                 have c50b1 : (x82_3 != t774) = true := bne_iff_ne.mpr c50
                 by_cases c54 : x13_4 = true
                 ·subst c54
                  have H1 : (if t774 < 0 then (some false) else (if x82_3 < t774 then (some false) else (cottonpadlaw06_ExitsShown.l0 k4 l1 t770 t773 t774 (l0_0.length : Int) (wrap64 (x82_3 + 1)) l0_0 l0_1))) = some r := by rw [if_pos rfl] at H; exact H
                  clear H
                  have H := H1
                  clear H1
                  by_cases c55 : t774 < 0
                  ·rw [if_pos c55] at H
                   have c55b0 : decide (t774 < 0) = true := decide_eq_true c55
                   clear c55
                   exact absurd (H.trans (congrArg some HRT.out)) (by simp)
                  ·rw [if_neg c55] at H
                   have c55b0 : decide (t774 < 0) = false := decide_eq_false c55
                   clear c55
                   by_cases c56 : x82_3 < t774
                   ·rw [if_pos c56] at H
                    have c56b0 : decide (x82_3 < t774) = true := decide_eq_true c56
                    clear c56
                    exact absurd (H.trans (congrArg some HRT.out)) (by simp)
                   ·rw [if_neg c56] at H
                    have c56b0 : decide (x82_3 < t774) = false := decide_eq_false c56
                    clear c56
                    have H' := Aside0.mk H
                    clear H
                    go_wp2
                    go_roundg k4
                    case measure => have := HJ3.out; have := HJ14.out; have := HK3.out; have := HK4.out; omega
                    case rel => exact ⟨(wrap64 (x82_3 + 1)), (by first | rfl | (simp; done) | (simp [*]; done)), H', ⟨by have := HJ3.out; have := HJ14.out; have := HK3.out; have := HK4.out; omega⟩, ⟨by refine bx_ ?_; exact BK769.out⟩, ⟨be1_ HB GE769⟩⟩
                 ·replace c54 := Bool.eq_false_iff.mpr c54
                  subst c54
                  have H1 : (cottonpadlaw06_ExitsShown.l0 k4 l1 t770 t773 t774 (l0_0.length : Int) (wrap64 (x82_3 + 1)) l0_0 l0_1) = some r := by rw [if_neg (show ¬ (false = true) by decide)] at H; exact H
                  clear H
                  have H := H1
                  clear H1
                  have H' := Aside0.mk H
                  clear H
                  go_wp2
                  go_roundg k4
                  case measure => have := HJ3.out; have := HJ14.out; have := HK3.out; have := HK4.out; omega
                  case rel => exact ⟨(wrap64 (x82_3 + 1)), (by first | rfl | (simp; done) | (simp [*]; done)), H', ⟨by have := HJ3.out; have := HJ14.out; have := HK3.out; have := HK4.out; omega⟩, ⟨by refine bx_ ?_; exact BK769.out⟩, ⟨be1_ HB GE769⟩⟩
            ·rw [if_neg c30] at H
             have c30b0 : (t779 == 0) = false := beq_eq_false_iff_ne.mpr c30
             have c30b1 : (t779 != 0) = true := bne_iff_ne.mpr c30
             exact absurd (H.trans (congrArg some HRT.out)) (by simp)
           ·rw [if_neg c28] at H
            have c28b0 : decide (x82_3 < (l0_0.length : Int)) = false := decide_eq_false c28
            clear c28
            have H' := Aside0.mk H
            clear H
            have hcz57_0 : wr.cell? ⟨gb769, 0, none⟩ = some (.slice A0_0 l0_0.length c0_0) := bc_ BK769 0
            have hcz57_1 : wr.cell? ⟨gb769, 1, none⟩ = some (.slice A0_1 l0_1.length c0_1) := bc_ BK769 1
            have hfz57_0 := blk_frozen BK769.out 0
            have hfz57_1 := blk_frozen BK769.out 1
            go_wp2
            go_loopg [137] k3 (fun kq v137 w' => ∃ (x137_4 : Int), v137 = .int .i64 x137_4 ∧ Aside0 (cottonpadlaw06_ExitsShown.l2 kq l1 t770 t773 t774 l0_1 (l0_1.length : Int) x137_4 l0_0 l0_1 = some r) ∧ Aside0 (kq ≤ k3) ∧ Aside0 (w'.heap[gb769]? = some (.cells #[(.slice A0_0 l0_0.length c0_0), (.slice A0_1 l0_1.length c0_1)] 25 (0, 0))) ∧ Aside0 (Below w.heap.size w w'))
            case atStart => exact ⟨(0), (by first | rfl | (simp; done) | (simp [*]; done)), H', ⟨Nat.le_refl _⟩, ⟨by refine bx_ ?_; exact BK769.out⟩, ⟨be1_ HB GE769⟩⟩
            case round =>
             clear H'
             try clear c1
             try clear c2
             try clear p2
             try clear c3
             try clear c4
             try clear c5
             try clear p6
             try clear p7
             try clear q7
             try clear hx7
             try clear c8
             try clear c10
             try clear c13
             try clear c17
             try clear c18
             try clear c18b0
             try clear c18b1
             try clear c19
             try clear c19b0
             try clear c20
             try clear c20b0
             try clear c21
             try clear c21b0
             try clear c22
             try clear c22b0
             try clear c23
             try clear c23b0
             try clear c26
             try clear c28
             try clear c28b0
             try clear c30
             try clear c30b0
             try clear c30b1
             try clear c34
             try clear c34b0
             try clear c35
             try clear c35b0
             try clear c36
             try clear c36b0
             try clear c37
             try clear c39
             try clear c43
             try clear c43b0
             try clear c44
             try clear c44b0
             try clear c46
             try clear c50
             try clear c50b0
             try clear c50b1
             try clear c51
             try clear c52
             try clear c52b0
             try clear c53
             try clear c53b0
             try clear c54
             try clear c55
             try clear c55b0
             try clear c56
             try clear c56b0
             try clear hcz11_0
             try clear hcz11_1
             try clear hcz16_0
             try clear hcz16_1
             try clear hcz24_0
             try clear hcz24_1
             try clear hcz25_0
             try clear hcz25_1
             try clear hcz27_0
             try clear hcz27_1
             try clear hcz31_0
             try clear hcz31_1
             try clear hcz40_0
             try clear hcz40_1
             try clear hcz47_0
             try clear hcz47_1
             try clear hcz57_0
             try clear hcz57_1
             try clear hcz9_0
             try clear hcz9_1
             try clear hfz11_0
             try clear hfz11_1
             try clear hfz16_0
             try clear hfz16_1
             try clear hfz24_0
             try clear hfz24_1
             try clear hfz25_0
             try clear hfz25_1
             try clear hfz27_0
             try clear hfz27_1
             try clear hfz31_0
             try clear hfz31_1
             try clear hfz40_0
             try clear hfz40_1
             try clear hfz47_0
             try clear hfz47_1
             try clear hfz57_0
             try clear hfz57_1
             try clear hfz9_0
             try clear hfz9_1
             try clear hx780_0
             try clear hx780_1
             try clear hx782_0
             try clear hx782_1
             try clear hx782_2
             try clear hx782_3
             try clear hx782_4
             try clear hx782_5
             try clear p2
             try clear p780
             try clear p782
             try clear q780
             try clear q782
             obtain ⟨x137_4, rfl, HA, HK4, BK769, HB⟩ := hrel
             cases gk with
             | zero => exact absurd HA.out (by simp [cottonpadlaw06_ExitsShown.l2])
             | succ k4 =>
              have H := HA.out
              clear HA
              simp only [cottonpadlaw06_ExitsShown.l2] at H
              by_cases c58 : x137_4 < (l0_1.length : Int)
              ·rw [if_pos c58] at H
               have c58b0 : decide (x137_4 < (l0_1.length : Int)) = true := decide_eq_true c58
               clear c58
               by_cases c59 : 0 ≤ x137_4
               ·rw [if_pos c59] at H
                have c59b0 : decide (0 ≤ x137_4) = true := decide_eq_true c59
                clear c59
                by_cases c60 : x137_4 < (l0_1.length : Int)
                ·rw [if_pos c60] at H
                 have c60b0 : decide (x137_4 < (l0_1.length : Int)) = true := decide_eq_true c60
                 clear c60
                 have H' := Aside0.mk H
                 clear H
                 have p783 : 0 ≤ (x137_4 : Int) := of_decide_eq_true as_
                 have q783 : x137_4 < (l0_1.length : Int) := of_decide_eq_true as_
                 obtain ⟨ad783, e783, hx783_0, hx783_1, hx783_2, hx783_3⟩ := at_T81 HR0_1.out x137_4 p783 q783
                 cases e783
                 try replace hx783_0 := ce_ HB hx783_0
                 try replace hx783_1 := ce_ HB hx783_1
                 try replace hx783_2 := ce_ HB hx783_2
                 try replace hx783_3 := ce_ HB hx783_3
                 replace p783 := eq_true p783
                 replace q783 := eq_true q783
                 go_wp2_with (first | ((with_reducible refine gate_dst (N := 17) rfl ?_); (try (refine gate_guard (by rfl) ?_; dsimp only)); refine box_event ?hg (N := 17) ?hd (cs := #[.int .i64 0, .int .i64 0, .int .i64 0, .int .i64 0]) (t := 81) ?hr ?_; (case hd => rfl); (case hg => rfl); (case hr => exact gs_); intro gb784 hg w61 hbox hb; have BK784 := Aside0.mk (hbox); have GW784 := hl_ hg (be1_ HB GE769); have GE784 := hl_ hg (be1_ HB GE769); replace HB := bs1_ HB GE769 hb; have NB769_784 := Aside0.mk ((by rw [hg]; exact Nat.ne_of_lt (blk_lt (bk_ BK769)) : gb769 ≠ gb784)); have NB784_769 := Aside0.mk ((by rw [hg]; exact Nat.ne_of_gt (blk_lt (bk_ BK769)) : gb784 ≠ gb769)); replace BK769 := bb_ BK769 hb; clear hb hbox hg; have hnb62 := NB784_769.out; have hnc62 := NB769_784.out; have hcz63_0 : w61.cell? ⟨gb784, 0, none⟩ = some (.int .i64 0) := bc_ BK784 0; have hcz63_1 : w61.cell? ⟨gb784, 1, none⟩ = some (.int .i64 0) := bc_ BK784 1; have hcz63_2 : w61.cell? ⟨gb784, 2, none⟩ = some (.int .i64 0) := bc_ BK784 2; have hcz63_3 : w61.cell? ⟨gb784, 3, none⟩ = some (.int .i64 0) := bc_ BK784 3; have hfz63_0 := blk_frozen BK784.out 0; have hfz63_1 := blk_frozen BK784.out 1; have hfz63_2 := blk_frozen BK784.out 2; have hfz63_3 := blk_frozen BK784.out 3))
                 go_loopg [18, 144] k4 (fun kq v18 v144 w' => ∃ (x18_5 : Bool) (x144_5 : Int), v18 = .bool x18_5 ∧ v144 = .int .i64 x144_5 ∧ Aside0 (cottonpadlaw06_ExitsShown.l3 kq l1 t770 t773 t774 x137_4 x18_5 l0_1 (l0_1.length : Int) x137_4 l1 (l1.length : Int) x144_5 l0_0 l0_1 ((rd_T81 l0_1 x137_4).f0) ((rd_T81 l0_1 x137_4).f1) ((rd_T81 l0_1 x137_4).f2.f0) ((rd_T81 l0_1 x137_4).f2.f1) = some r) ∧ Aside0 (kq ≤ k4) ∧ Aside0 (w'.heap[gb769]? = some (.cells #[(.slice A0_0 l0_0.length c0_0), (.slice (some ad783) l0_1.length c0_1)] 25 (0, 0))) ∧ Aside0 (w'.heap[gb784]? = some (.cells #[.int .i64 ((rd_T81 l0_1 x137_4).f0), .int .i64 ((rd_T81 l0_1 x137_4).f1), .int .i64 ((rd_T81 l0_1 x137_4).f2.f0), .int .i64 ((rd_T81 l0_1 x137_4).f2.f1)] 81 (0, 0))) ∧ Aside0 (Below w.heap.size w w'))
                 case atStart => exact ⟨(false), (0), (by first | rfl | (simp; done) | (simp [*]; done)), (by first | rfl | (simp; done) | (simp [*]; done)), H', ⟨Nat.le_refl _⟩, ⟨by refine bx_ ?_; refine blk_far ?_ NB769_784.out _; refine bx_ ?_; refine blk_far ?_ NB769_784.out _; refine bx_ ?_; refine blk_far ?_ NB769_784.out _; refine bx_ ?_; refine blk_far ?_ NB769_784.out _; refine bx_ ?_; exact BK769.out⟩, ⟨by refine bx_ ?_; refine blk_put (cs := #[.int .i64 ((rd_T81 l0_1 x137_4).f0), .int .i64 ((rd_T81 l0_1 x137_4).f1), .int .i64 ((rd_T81 l0_1 x137_4).f2.f0), .int .i64 0]) ?_ 3 _ rfl; refine bx_ ?_; refine blk_put (cs := #[.int .i64 ((rd_T81 l0_1 x137_4).f0), .int .i64 ((rd_T81 l0_1 x137_4).f1), .int .i64 0, .int .i64 0]) ?_ 2 _ rfl; refine bx_ ?_; refine blk_put (cs := #[.int .i64 ((rd_T81 l0_1 x137_4).f0), .int .i64 0, .int .i64 0, .int .i64 0]) ?_ 1 _ rfl; refine bx_ ?_; refine blk_put (cs := #[.int .i64 0, .int .i64 0, .int .i64 0, .int .i64 0]) ?_ 0 _ rfl; refine bx_ ?_; exact BK784.out⟩, ⟨be2_ HB GE769 GE784⟩⟩
                 case round =>
                  clear H'
                  try clear c1
                  try clear c2
                  try clear p2
                  try clear c3
                  try clear c4
                  try clear c5
                  try clear c6
                  try clear p6
                  try clear p7
                  try clear q7
                  try clear hx7
                  try clear c8
                  try clear c10
                  try clear c13
                  try clear c17
                  try clear c18
                  try clear c18b0
                  try clear c18b1
                  try clear c19
                  try clear c19b0
                  try clear c20
                  try clear c20b0
                  try clear c21
                  try clear c21b0
                  try clear c22
                  try clear c22b0
                  try clear c23
                  try clear c23b0
                  try clear c26
                  try clear c28
                  try clear c28b0
                  try clear c30
                  try clear c30b0
                  try clear c30b1
                  try clear c34
                  try clear c34b0
                  try clear c35
                  try clear c35b0
                  try clear c36
                  try clear c36b0
                  try clear c37
                  try clear c39
                  try clear c43
                  try clear c43b0
                  try clear c44
                  try clear c44b0
                  try clear c46
                  try clear c50
                  try clear c50b0
                  try clear c50b1
                  try clear c51
                  try clear c52
                  try clear c52b0
                  try clear c53
                  try clear c53b0
                  try clear c54
                  try clear c55
                  try clear c55b0
                  try clear c56
                  try clear c56b0
                  try clear c58
                  try clear c58b0
                  try clear c59
                  try clear c59b0
                  try clear c60
                  try clear c60b0
                  try clear c62
                  try clear hcz11_0
                  try clear hcz11_1
                  try clear hcz16_0
                  try clear hcz16_1
                  try clear hcz24_0
                  try clear hcz24_1
                  try clear hcz25_0
                  try clear hcz25_1
                  try clear hcz27_0
                  try clear hcz27_1
                  try clear hcz31_0
                  try clear hcz31_1
                  try clear hcz40_0
                  try clear hcz40_1
                  try clear hcz47_0
                  try clear hcz47_1
                  try clear hcz57_0
                  try clear hcz57_1
                  try clear hcz63_0
                  try clear hcz63_1
                  try clear hcz63_2
                  try clear hcz63_3
                  try clear hcz9_0
                  try clear hcz9_1
                  try clear hfz11_0
                  try clear hfz11_1
                  try clear hfz16_0
                  try clear hfz16_1
                  try clear hfz24_0
                  try clear hfz24_1
                  try clear hfz25_0
                  try clear hfz25_1
                  try clear hfz27_0
                  try clear hfz27_1
                  try clear hfz31_0
                  try clear hfz31_1
                  try clear hfz40_0
                  try clear hfz40_1
                  try clear hfz47_0
                  try clear hfz47_1
                  try clear hfz57_0
                  try clear hfz57_1
                  try clear hfz63_0
                  try clear hfz63_1
                  try clear hfz63_2
                  try clear hfz63_3
                  try clear hfz9_0
                  try clear hfz9_1
                  try clear hx780_0
                  try clear hx780_1
                  try clear hx782_0
                  try clear hx782_1
                  try clear hx782_2
                  try clear hx782_3
                  try clear hx782_4
                  try clear hx782_5
                  try clear hx783_0
                  try clear hx783_1
                  try clear hx783_2
                  try clear hx783_3
                  try clear p2
                  try clear p6
                  try clear p7
                  try clear p780
                  try clear p782
                  try clear p783
                  try clear q7
                  try clear q780
                  try clear q782
                  try clear q783
                  obtain ⟨x18_5, x144_5, rfl, rfl, HA, HK5, BK769, BK784, HB⟩ := hrel
                  cases gk with
                  | zero => exact absurd HA.out (by simp [cottonpadlaw06_ExitsShown.l3])
                  | succ k5 =>
                   have H := HA.out
                   clear HA
                   simp only [cottonpadlaw06_ExitsShown.l3] at H
                   by_cases c64 : x144_5 < (l1.length : Int)
                   ·rw [if_pos c64] at H
                    have c64b0 : decide (x144_5 < (l1.length : Int)) = true := decide_eq_true c64
                    clear c64
                    by_cases c65 : 0 ≤ x144_5
                    ·rw [if_pos c65] at H
                     have c65b0 : decide (0 ≤ x144_5) = true := decide_eq_true c65
                     clear c65
                     by_cases c66 : x144_5 < (l1.length : Int)
                     ·rw [if_pos c66] at H
                      have c66b0 : decide (x144_5 < (l1.length : Int)) = true := decide_eq_true c66
                      clear c66
                      by_cases c67 : x18_5 = true
                      ·subst c67
                       have H1 : (cottonpadlaw06_ExitsShown.l3 k5 l1 t770 t773 t774 x137_4 true l0_1 (l0_1.length : Int) x137_4 l1 (l1.length : Int) (wrap64 (x144_5 + 1)) l0_0 l0_1 ((rd_T81 l0_1 x137_4).f0) ((rd_T81 l0_1 x137_4).f1) ((rd_T81 l0_1 x137_4).f2.f0) ((rd_T81 l0_1 x137_4).f2.f1)) = some r := by rw [if_pos rfl] at H; exact H
                       clear H
                       have H := H1
                       clear H1
                       have H' := Aside0.mk H
                       clear H
                       have p785 : 0 ≤ (x144_5 : Int) := of_decide_eq_true as_
                       have q785 : x144_5 < (l1.length : Int) := of_decide_eq_true as_
                       obtain ⟨ad785, e785, hx785_0, hx785_1, hx785_2, hx785_3, hx785_4⟩ := at_T48 HR1.out x144_5 p785 q785
                       cases e785
                       try replace hx785_0 := ce_ HB hx785_0
                       try replace hx785_1 := ce_ HB hx785_1
                       try replace hx785_2 := ce_ HB hx785_2
                       try replace hx785_3 := ce_ HB hx785_3
                       try replace hx785_4 := ce_ HB hx785_4
                       replace p785 := eq_true p785
                       replace q785 := eq_true q785
                       try go_wp2_with (first | ((with_reducible refine gate_dst (N := 20) rfl ?_); (try (refine gate_guard (by rfl) ?_; dsimp only)); refine box_event ?hg (N := 20) ?hd (cs := #[.int .i64 0, .int .i64 0, .int .i64 0, .int .i64 0, .int .i64 0]) (t := 48) ?hr ?_; (case hd => rfl); (case hg => rfl); (case hr => exact gs_); intro gb786 hg w68 hbox hb; have BK786 := Aside0.mk (hbox); have GW786 := hl_ hg (be2_ HB GE769 GE784); have GE786 := hl_ hg (be2_ HB GE769 GE784); replace HB := bs2_ HB GE769 GE784 hb; have NB769_786 := Aside0.mk ((by rw [hg]; exact Nat.ne_of_lt (blk_lt (bk_ BK769)) : gb769 ≠ gb786)); have NB786_769 := Aside0.mk ((by rw [hg]; exact Nat.ne_of_gt (blk_lt (bk_ BK769)) : gb786 ≠ gb769)); replace BK769 := bb_ BK769 hb; have NB784_786 := Aside0.mk ((by rw [hg]; exact Nat.ne_of_lt (blk_lt (bk_ BK784)) : gb784 ≠ gb786)); have NB786_784 := Aside0.mk ((by rw [hg]; exact Nat.ne_of_gt (blk_lt (bk_ BK784)) : gb786 ≠ gb784)); replace BK784 := bb_ BK784 hb; clear hb hbox hg; have hnb69 := NB786_769.out; have hnc69 := NB769_786.out; have hnb70 := NB786_784.out; have hnc70 := NB784_786.out; have hcz71_0 : w68.cell? ⟨gb786, 0, none⟩ = some (.int .i64 0) := bc_ BK786 0; have hcz71_1 : w68.cell? ⟨gb786, 1, none⟩ = some (.int .i64 0) := bc_ BK786 1; have hcz71_2 : w68.cell? ⟨gb786, 2, none⟩ = some (.int .i64 0) := bc_ BK786 2; have hcz71_3 : w68.cell? ⟨gb786, 3, none⟩ = some (.int .i64 0) := bc_ BK786 3; have hcz71_4 : w68.cell? ⟨gb786, 4, none⟩ = some (.int .i64 0) := bc_ BK786 4; have hfz71_0 := blk_frozen BK786.out 0; have hfz71_1 := blk_frozen BK786.out 1; have hfz71_2 := blk_frozen BK786.out 2; have hfz71_3 := blk_frozen BK786.out 3; have hfz71_4 := blk_frozen BK786.out 4))
                       have n0_ : Aside0 ((((((w68.setCell ⟨gb786, 0, none⟩ (.int .i64 ((rd_T48 l1 x144_5).f0))).setCell ⟨gb786, 1, none⟩ (.int .i64 ((rd_T48 l1 x144_5).f1.f0))).setCell ⟨gb786, 2, none⟩ (.int .i64 ((rd_T48 l1 x144_5).f1.f1))).setCell ⟨gb786, 3, none⟩ (.int .i64 ((rd_T48 l1 x144_5).f2.f0))).setCell ⟨gb786, 4, none⟩ (.int .i64 ((rd_T48 l1 x144_5).f2.f1))).heap[gb769]? = some (.cells #[.slice A0_0 l0_0.length c0_0, .slice (some ad783) l0_1.length c0_1] 25 (0, 0))) := ⟨by refine bx_ ?_; refine blk_far ?_ NB769_786.out _; refine bx_ ?_; refine blk_far ?_ NB769_786.out _; refine bx_ ?_; refine blk_far ?_ NB769_786.out _; refine bx_ ?_; refine blk_far ?_ NB769_786.out _; refine bx_ ?_; refine blk_far ?_ NB769_786.out _; refine bx_ ?_; exact BK769.out⟩
                       have n1_ : Aside0 ((((((w68.setCell ⟨gb786, 0, none⟩ (.int .i64 ((rd_T48 l1 x144_5).f0))).setCell ⟨gb786, 1, none⟩ (.int .i64 ((rd_T48 l1 x144_5).f1.f0))).setCell ⟨gb786, 2, none⟩ (.int .i64 ((rd_T48 l1 x144_5).f1.f1))).setCell ⟨gb786, 3, none⟩ (.int .i64 ((rd_T48 l1 x144_5).f2.f0))).setCell ⟨gb786, 4, none⟩ (.int .i64 ((rd_T48 l1 x144_5).f2.f1))).heap[gb784]? = some (.cells #[.int .i64 ((rd_T81 l0_1 x137_4).f0), .int .i64 ((rd_T81 l0_1 x137_4).f1), .int .i64 ((rd_T81 l0_1 x137_4).f2.f0), .int .i64 ((rd_T81 l0_1 x137_4).f2.f1)] 81 (0, 0))) := ⟨by refine bx_ ?_; refine blk_far ?_ NB784_786.out _; refine bx_ ?_; refine blk_far ?_ NB784_786.out _; refine bx_ ?_; refine blk_far ?_ NB784_786.out _; refine bx_ ?_; refine blk_far ?_ NB784_786.out _; refine bx_ ?_; refine blk_far ?_ NB784_786.out _; refine bx_ ?_; exact BK784.out⟩
                       have n2_ : Aside0 ((((((w68.setCell ⟨gb786, 0, none⟩ (.int .i64 ((rd_T48 l1 x144_5).f0))).setCell ⟨gb786, 1, none⟩ (.int .i64 ((rd_T48 l1 x144_5).f1.f0))).setCell ⟨gb786, 2, none⟩ (.int .i64 ((rd_T48 l1 x144_5).f1.f1))).setCell ⟨gb786, 3, none⟩ (.int .i64 ((rd_T48 l1 x144_5).f2.f0))).setCell ⟨gb786, 4, none⟩ (.int .i64 ((rd_T48 l1 x144_5).f2.f1))).heap[gb786]? = some (.cells #[.int .i64 ((rd_T48 l1 x144_5).f0), .int .i64 ((rd_T48 l1 x144_5).f1.f0), .int .i64 ((rd_T48 l1 x144_5).f1.f1), .int .i64 ((rd_T48 l1 x144_5).f2.f0), .int .i64 ((rd_T48 l1 x144_5).f2.f1)] 48 (0, 0))) := ⟨by refine bx_ ?_; refine blk_put (cs := #[.int .i64 ((rd_T48 l1 x144_5).f0), .int .i64 ((rd_T48 l1 x144_5).f1.f0), .int .i64 ((rd_T48 l1 x144_5).f1.f1), .int .i64 ((rd_T48 l1 x144_5).f2.f0), .int .i64 0]) ?_ 4 _ rfl; refine bx_ ?_; refine blk_put (cs := #[.int .i64 ((rd_T48 l1 x144_5).f0), .int .i64 ((rd_T48 l1 x144_5).f1.f0), .int .i64 ((rd_T48 l1 x144_5).f1.f1), .int .i64 0, .int .i64 0]) ?_ 3 _ rfl; refine bx_ ?_; refine blk_put (cs := #[.int .i64 ((rd_T48 l1 x144_5).f0), .int .i64 ((rd_T48 l1 x144_5).f1.f0), .int .i64 0, .int .i64 0, .int .i64 0]) ?_ 2 _ rfl; refine bx_ ?_; refine blk_put (cs := #[.int .i64 ((rd_T48 l1 x144_5).f0), .int .i64 0, .int .i64 0, .int .i64 0, .int .i64 0]) ?_ 1 _ rfl; refine bx_ ?_; refine blk_put (cs := #[.int .i64 0, .int .i64 0, .int .i64 0, .int .i64 0, .int .i64 0]) ?_ 0 _ rfl; refine bx_ ?_; exact BK786.out⟩
                       have n3_ : Aside0 (Below w.heap.size w (((((w68.setCell ⟨gb786, 0, none⟩ (.int .i64 ((rd_T48 l1 x144_5).f0))).setCell ⟨gb786, 1, none⟩ (.int .i64 ((rd_T48 l1 x144_5).f1.f0))).setCell ⟨gb786, 2, none⟩ (.int .i64 ((rd_T48 l1 x144_5).f1.f1))).setCell ⟨gb786, 3, none⟩ (.int .i64 ((rd_T48 l1 x144_5).f2.f0))).setCell ⟨gb786, 4, none⟩ (.int .i64 ((rd_T48 l1 x144_5).f2.f1)))) := ⟨be3_ HB GE769 GE784 GE786⟩
                       (try clear BK769)
                       (try clear BK784)
                       (try clear BK786)
                       (try clear HB)
                       generalize (((((w68.setCell ⟨gb786, 0, none⟩ (.int .i64 ((rd_T48 l1 x144_5).f0))).setCell ⟨gb786, 1, none⟩ (.int .i64 ((rd_T48 l1 x144_5).f1.f0))).setCell ⟨gb786, 2, none⟩ (.int .i64 ((rd_T48 l1 x144_5).f1.f1))).setCell ⟨gb786, 3, none⟩ (.int .i64 ((rd_T48 l1 x144_5).f2.f0))).setCell ⟨gb786, 4, none⟩ (.int .i64 ((rd_T48 l1 x144_5).f2.f1))) = w72 at n0_ n1_ n2_ n3_ ⊢
                       have BK769 := n0_
                       have BK784 := n1_
                       have BK786 := n2_
                       have HB := n3_
                       clear n0_ n1_ n2_ n3_
                       replace BK769 := Aside0.mk (blk_drew BK769.out)
                       replace BK784 := Aside0.mk (blk_drew BK784.out)
                       replace BK786 := Aside0.mk (blk_drew BK786.out)
                       replace HB := Aside0.mk (below_drew1 HB.out)
                       refine start_ (n := 29) (S := fun w' => True) (ds := []) (bm_ 29 0) (by kernel_rfl) rfl rfl trivial (fun hHeld => ?_); refine with_tabW cottonpadlaw06_ExitsShown.tab29 cottonpadlaw06_ExitsShown.bits29 (fun HT_ HW_ => ?_)
                       generalize w72.drew = w73 at BK769 BK784 BK786 HB hHeld ⊢
                       refine pr_ 0 148 29 1 HT_ rfl rfl ?_
                       refine pr_ 1 149 29 3 HT_ rfl rfl ?_
                       refine pn_ 2 150 29 7 HT_ rfl rfl ?_
                       refine pn_ 3 151 29 15 HT_ rfl rfl ?_
                       refine pn_ 4 152 29 31 HT_ rfl rfl ?_
                       refine pn_ 5 153 29 63 HT_ rfl rfl ?_
                       refine pn_ 6 154 29 127 HT_ rfl rfl ?_
                       refine pn_ 7 155 29 255 HT_ rfl rfl ?_
                       refine pn_ 8 156 29 511 HT_ rfl rfl ?_
                       refine pn_ 9 157 29 1023 HT_ rfl rfl ?_
                       refine pn_ 10 158 29 2047 HT_ rfl rfl ?_
                       refine pn_ 11 159 29 4095 HT_ rfl rfl ?_
                       refine pn_ 12 160 29 8191 HT_ rfl rfl ?_
                       refine pn_ 13 161 29 16383 HT_ rfl rfl ?_
                       refine pn_ 14 162 29 32767 HT_ rfl rfl ?_
                       refine pn_ 15 163 29 65535 HT_ rfl rfl ?_
                       refine pn_ 16 164 29 131071 HT_ rfl rfl ?_
                       refine pn_ 17 165 29 262143 HT_ rfl rfl ?_
                       refine pn_ 18 166 29 524287 HT_ rfl rfl ?_
                       refine pn_ 19 167 29 1048575 HT_ rfl rfl ?_
                       refine pn_ 20 168 29 2097151 HT_ rfl rfl ?_
                       refine pn_ 21 169 29 4194303 HT_ rfl rfl ?_
                       refine pn_ 22 170 29 8388607 HT_ rfl rfl ?_
                       refine pn_ 23 171 29 16777215 HT_ rfl rfl ?_
                       refine pn_ 24 172 29 33554431 HT_ rfl rfl ?_
                       refine pn_ 25 173 29 67108863 HT_ rfl rfl ?_
                       refine pn_ 26 174 29 134217727 HT_ rfl rfl ?_
                       refine pr_ 27 175 29 268435455 HT_ rfl rfl ?_
                       refine pr_ 28 18 29 536870911 HT_ rfl rfl ?_
                       refine done_ (done_of HT_.out (by kernel_rfl)) ?_
                       try go_wp2
                       go_roundg k5
                       case measure => have := HJ3.out; have := HJ14.out; have := HK3.out; have := HK4.out; have := HK5.out; omega
                       case rel => exact ⟨(true), (wrap64 (x144_5 + 1)), (by first | rfl | (simp; done) | (simp [*]; done)), (by first | rfl | (simp; done) | (simp [*]; done)), H', ⟨by have := HJ3.out; have := HJ14.out; have := HK3.out; have := HK4.out; have := HK5.out; omega⟩, ⟨by refine bx_ ?_; exact BK769.out⟩, ⟨by refine bx_ ?_; exact BK784.out⟩, ⟨be3_ HB GE769 GE784 GE786⟩⟩
                      ·replace c67 := Bool.eq_false_iff.mpr c67
                       subst c67
                       have H1 : (if ((rd_T48 l1 x144_5).f0) = x137_4 then (if ((rd_T48 l1 x144_5).f1.f0) = 0 then (none) else (cottonpadlaw06_ExitsShown.l3 k5 l1 t770 t773 t774 x137_4 (decide ((wrap64 (((rd_T48 l1 x144_5).f2.f1) + (wrap64 (Int.tdiv (wrap64 ((wrap64 (((rd_T81 l0_1 x137_4).f1) + ((rd_T48 l1 x144_5).f1.f0))) - 1)) ((rd_T48 l1 x144_5).f1.f0))))) > ((rd_T81 l0_1 x137_4).f2.f0))) l0_1 (l0_1.length : Int) x137_4 l1 (l1.length : Int) (wrap64 (x144_5 + 1)) l0_0 l0_1 ((rd_T81 l0_1 x137_4).f0) ((rd_T81 l0_1 x137_4).f1) ((rd_T81 l0_1 x137_4).f2.f0) ((rd_T81 l0_1 x137_4).f2.f1))) else (cottonpadlaw06_ExitsShown.l3 k5 l1 t770 t773 t774 x137_4 false l0_1 (l0_1.length : Int) x137_4 l1 (l1.length : Int) (wrap64 (x144_5 + 1)) l0_0 l0_1 ((rd_T81 l0_1 x137_4).f0) ((rd_T81 l0_1 x137_4).f1) ((rd_T81 l0_1 x137_4).f2.f0) ((rd_T81 l0_1 x137_4).f2.f1))) = some r := by rw [if_neg (show ¬ (false = true) by decide)] at H; exact H
                       clear H
                       have H := H1
                       clear H1
                       by_cases c74 : ((rd_T48 l1 x144_5).f0) = x137_4
                       ·rw [if_pos c74] at H
                        have c74b0 : (((rd_T48 l1 x144_5).f0) == x137_4) = true := beq_iff_eq.mpr c74
                        have c74b1 : (((rd_T48 l1 x144_5).f0) != x137_4) = false := bne_eq_false_iff_eq.mpr c74
                        clear c74
                        by_cases c75 : ((rd_T48 l1 x144_5).f1.f0) = 0
                        ·rw [if_pos c75] at H
                         exact absurd H (by simp)
                        ·rw [if_neg c75] at H
                         have c75b0 : (((rd_T48 l1 x144_5).f1.f0) == 0) = false := beq_eq_false_iff_ne.mpr c75
                         have c75b1 : (((rd_T48 l1 x144_5).f1.f0) != 0) = true := bne_iff_ne.mpr c75
                         have H' := Aside0.mk H
                         clear H
                         have p785 : 0 ≤ (x144_5 : Int) := of_decide_eq_true as_
                         have q785 : x144_5 < (l1.length : Int) := of_decide_eq_true as_
                         obtain ⟨ad785, e785, hx785_0, hx785_1, hx785_2, hx785_3, hx785_4⟩ := at_T48 HR1.out x144_5 p785 q785
                         cases e785
                         try replace hx785_0 := ce_ HB hx785_0
                         try replace hx785_1 := ce_ HB hx785_1
                         try replace hx785_2 := ce_ HB hx785_2
                         try replace hx785_3 := ce_ HB hx785_3
                         try replace hx785_4 := ce_ HB hx785_4
                         replace p785 := eq_true p785
                         replace q785 := eq_true q785
                         try go_wp2_with (first | ((with_reducible refine gate_dst (N := 20) rfl ?_); (try (refine gate_guard (by rfl) ?_; dsimp only)); refine box_event ?hg (N := 20) ?hd (cs := #[.int .i64 0, .int .i64 0, .int .i64 0, .int .i64 0, .int .i64 0]) (t := 48) ?hr ?_; (case hd => rfl); (case hg => rfl); (case hr => exact gs_); intro gb786 hg w76 hbox hb; have BK786 := Aside0.mk (hbox); have GW786 := hl_ hg (be2_ HB GE769 GE784); have GE786 := hl_ hg (be2_ HB GE769 GE784); replace HB := bs2_ HB GE769 GE784 hb; have NB769_786 := Aside0.mk ((by rw [hg]; exact Nat.ne_of_lt (blk_lt (bk_ BK769)) : gb769 ≠ gb786)); have NB786_769 := Aside0.mk ((by rw [hg]; exact Nat.ne_of_gt (blk_lt (bk_ BK769)) : gb786 ≠ gb769)); replace BK769 := bb_ BK769 hb; have NB784_786 := Aside0.mk ((by rw [hg]; exact Nat.ne_of_lt (blk_lt (bk_ BK784)) : gb784 ≠ gb786)); have NB786_784 := Aside0.mk ((by rw [hg]; exact Nat.ne_of_gt (blk_lt (bk_ BK784)) : gb786 ≠ gb784)); replace BK784 := bb_ BK784 hb; clear hb hbox hg; have hnb77 := NB786_769.out; have hnc77 := NB769_786.out; have hnb78 := NB786_784.out; have hnc78 := NB784_786.out; have hcz79_0 : w76.cell? ⟨gb786, 0, none⟩ = some (.int .i64 0) := bc_ BK786 0; have hcz79_1 : w76.cell? ⟨gb786, 1, none⟩ = some (.int .i64 0) := bc_ BK786 1; have hcz79_2 : w76.cell? ⟨gb786, 2, none⟩ = some (.int .i64 0) := bc_ BK786 2; have hcz79_3 : w76.cell? ⟨gb786, 3, none⟩ = some (.int .i64 0) := bc_ BK786 3; have hcz79_4 : w76.cell? ⟨gb786, 4, none⟩ = some (.int .i64 0) := bc_ BK786 4; have hfz79_0 := blk_frozen BK786.out 0; have hfz79_1 := blk_frozen BK786.out 1; have hfz79_2 := blk_frozen BK786.out 2; have hfz79_3 := blk_frozen BK786.out 3; have hfz79_4 := blk_frozen BK786.out 4))
                         have n0_ : Aside0 ((((((w76.setCell ⟨gb786, 0, none⟩ (.int .i64 ((rd_T48 l1 x144_5).f0))).setCell ⟨gb786, 1, none⟩ (.int .i64 ((rd_T48 l1 x144_5).f1.f0))).setCell ⟨gb786, 2, none⟩ (.int .i64 ((rd_T48 l1 x144_5).f1.f1))).setCell ⟨gb786, 3, none⟩ (.int .i64 ((rd_T48 l1 x144_5).f2.f0))).setCell ⟨gb786, 4, none⟩ (.int .i64 ((rd_T48 l1 x144_5).f2.f1))).heap[gb769]? = some (.cells #[.slice A0_0 l0_0.length c0_0, .slice (some ad783) l0_1.length c0_1] 25 (0, 0))) := ⟨by refine bx_ ?_; refine blk_far ?_ NB769_786.out _; refine bx_ ?_; refine blk_far ?_ NB769_786.out _; refine bx_ ?_; refine blk_far ?_ NB769_786.out _; refine bx_ ?_; refine blk_far ?_ NB769_786.out _; refine bx_ ?_; refine blk_far ?_ NB769_786.out _; refine bx_ ?_; exact BK769.out⟩
                         have n1_ : Aside0 ((((((w76.setCell ⟨gb786, 0, none⟩ (.int .i64 ((rd_T48 l1 x144_5).f0))).setCell ⟨gb786, 1, none⟩ (.int .i64 ((rd_T48 l1 x144_5).f1.f0))).setCell ⟨gb786, 2, none⟩ (.int .i64 ((rd_T48 l1 x144_5).f1.f1))).setCell ⟨gb786, 3, none⟩ (.int .i64 ((rd_T48 l1 x144_5).f2.f0))).setCell ⟨gb786, 4, none⟩ (.int .i64 ((rd_T48 l1 x144_5).f2.f1))).heap[gb784]? = some (.cells #[.int .i64 ((rd_T81 l0_1 x137_4).f0), .int .i64 ((rd_T81 l0_1 x137_4).f1), .int .i64 ((rd_T81 l0_1 x137_4).f2.f0), .int .i64 ((rd_T81 l0_1 x137_4).f2.f1)] 81 (0, 0))) := ⟨by refine bx_ ?_; refine blk_far ?_ NB784_786.out _; refine bx_ ?_; refine blk_far ?_ NB784_786.out _; refine bx_ ?_; refine blk_far ?_ NB784_786.out _; refine bx_ ?_; refine blk_far ?_ NB784_786.out _; refine bx_ ?_; refine blk_far ?_ NB784_786.out _; refine bx_ ?_; exact BK784.out⟩
                         have n2_ : Aside0 ((((((w76.setCell ⟨gb786, 0, none⟩ (.int .i64 ((rd_T48 l1 x144_5).f0))).setCell ⟨gb786, 1, none⟩ (.int .i64 ((rd_T48 l1 x144_5).f1.f0))).setCell ⟨gb786, 2, none⟩ (.int .i64 ((rd_T48 l1 x144_5).f1.f1))).setCell ⟨gb786, 3, none⟩ (.int .i64 ((rd_T48 l1 x144_5).f2.f0))).setCell ⟨gb786, 4, none⟩ (.int .i64 ((rd_T48 l1 x144_5).f2.f1))).heap[gb786]? = some (.cells #[.int .i64 ((rd_T48 l1 x144_5).f0), .int .i64 ((rd_T48 l1 x144_5).f1.f0), .int .i64 ((rd_T48 l1 x144_5).f1.f1), .int .i64 ((rd_T48 l1 x144_5).f2.f0), .int .i64 ((rd_T48 l1 x144_5).f2.f1)] 48 (0, 0))) := ⟨by refine bx_ ?_; refine blk_put (cs := #[.int .i64 ((rd_T48 l1 x144_5).f0), .int .i64 ((rd_T48 l1 x144_5).f1.f0), .int .i64 ((rd_T48 l1 x144_5).f1.f1), .int .i64 ((rd_T48 l1 x144_5).f2.f0), .int .i64 0]) ?_ 4 _ rfl; refine bx_ ?_; refine blk_put (cs := #[.int .i64 ((rd_T48 l1 x144_5).f0), .int .i64 ((rd_T48 l1 x144_5).f1.f0), .int .i64 ((rd_T48 l1 x144_5).f1.f1), .int .i64 0, .int .i64 0]) ?_ 3 _ rfl; refine bx_ ?_; refine blk_put (cs := #[.int .i64 ((rd_T48 l1 x144_5).f0), .int .i64 ((rd_T48 l1 x144_5).f1.f0), .int .i64 0, .int .i64 0, .int .i64 0]) ?_ 2 _ rfl; refine bx_ ?_; refine blk_put (cs := #[.int .i64 ((rd_T48 l1 x144_5).f0), .int .i64 0, .int .i64 0, .int .i64 0, .int .i64 0]) ?_ 1 _ rfl; refine bx_ ?_; refine blk_put (cs := #[.int .i64 0, .int .i64 0, .int .i64 0, .int .i64 0, .int .i64 0]) ?_ 0 _ rfl; refine bx_ ?_; exact BK786.out⟩
                         have n3_ : Aside0 (Below w.heap.size w (((((w76.setCell ⟨gb786, 0, none⟩ (.int .i64 ((rd_T48 l1 x144_5).f0))).setCell ⟨gb786, 1, none⟩ (.int .i64 ((rd_T48 l1 x144_5).f1.f0))).setCell ⟨gb786, 2, none⟩ (.int .i64 ((rd_T48 l1 x144_5).f1.f1))).setCell ⟨gb786, 3, none⟩ (.int .i64 ((rd_T48 l1 x144_5).f2.f0))).setCell ⟨gb786, 4, none⟩ (.int .i64 ((rd_T48 l1 x144_5).f2.f1)))) := ⟨be3_ HB GE769 GE784 GE786⟩
                         (try clear BK769)
                         (try clear BK784)
                         (try clear BK786)
                         (try clear HB)
                         generalize (((((w76.setCell ⟨gb786, 0, none⟩ (.int .i64 ((rd_T48 l1 x144_5).f0))).setCell ⟨gb786, 1, none⟩ (.int .i64 ((rd_T48 l1 x144_5).f1.f0))).setCell ⟨gb786, 2, none⟩ (.int .i64 ((rd_T48 l1 x144_5).f1.f1))).setCell ⟨gb786, 3, none⟩ (.int .i64 ((rd_T48 l1 x144_5).f2.f0))).setCell ⟨gb786, 4, none⟩ (.int .i64 ((rd_T48 l1 x144_5).f2.f1))) = w80 at n0_ n1_ n2_ n3_ ⊢
                         have BK769 := n0_
                         have BK784 := n1_
                         have BK786 := n2_
                         have HB := n3_
                         clear n0_ n1_ n2_ n3_
                         replace BK769 := Aside0.mk (blk_drew BK769.out)
                         replace BK784 := Aside0.mk (blk_drew BK784.out)
                         replace BK786 := Aside0.mk (blk_drew BK786.out)
                         replace HB := Aside0.mk (below_drew1 HB.out)
                         refine start_ (n := 29) (S := fun w' => w'.cell? ⟨gb786, 0, none⟩ = some (.int .i64 ((rd_T48 l1 x144_5).f0)) ∧ w'.cell? ⟨gb786, 1, none⟩ = some (.int .i64 ((rd_T48 l1 x144_5).f1.f0)) ∧ w'.cell? ⟨gb786, 2, none⟩ = some (.int .i64 ((rd_T48 l1 x144_5).f1.f1)) ∧ w'.cell? ⟨gb786, 3, none⟩ = some (.int .i64 ((rd_T48 l1 x144_5).f2.f0)) ∧ w'.cell? ⟨gb786, 4, none⟩ = some (.int .i64 ((rd_T48 l1 x144_5).f2.f1)) ∧ w'.cell? ⟨gb784, 0, none⟩ = some (.int .i64 ((rd_T81 l0_1 x137_4).f0)) ∧ w'.cell? ⟨gb784, 1, none⟩ = some (.int .i64 ((rd_T81 l0_1 x137_4).f1)) ∧ w'.cell? ⟨gb784, 2, none⟩ = some (.int .i64 ((rd_T81 l0_1 x137_4).f2.f0)) ∧ w'.cell? ⟨gb784, 3, none⟩ = some (.int .i64 ((rd_T81 l0_1 x137_4).f2.f1))) (ds := []) (bm_ 29 0) (by kernel_rfl) rfl rfl ⟨bc_ BK786 0, bc_ BK786 1, bc_ BK786 2, bc_ BK786 3, bc_ BK786 4, bc_ BK784 0, bc_ BK784 1, bc_ BK784 2, bc_ BK784 3⟩ (fun hHeld => ?_); refine with_tabW cottonpadlaw06_ExitsShown.tab29 cottonpadlaw06_ExitsShown.bits29 (fun HT_ HW_ => ?_)
                         generalize w80.drew = w81 at BK769 BK784 BK786 HB hHeld ⊢
                         refine pr_ 0 148 29 1 HT_ rfl rfl ?_
                         refine pr_ 1 149 29 3 HT_ rfl rfl ?_
                         refine pr_ 2 150 29 7 HT_ rfl rfl ?_
                         refine pr_ 4 152 29 23 HT_ rfl rfl ?_
                         refine ta_ 3 151 29 31 HT_ HW_ rfl rfl hHeld ?_
                         refine pr_ 5 153 29 63 HT_ rfl rfl ?_
                         refine pr_ 6 154 29 127 HT_ rfl rfl ?_
                         refine pr_ 7 155 29 255 HT_ rfl rfl ?_
                         refine pr_ 8 156 29 511 HT_ rfl rfl ?_
                         refine pr_ 10 158 29 1535 HT_ rfl rfl ?_
                         refine pr_ 12 160 29 5631 HT_ rfl rfl ?_
                         refine pr_ 13 161 29 13823 HT_ rfl rfl ?_
                         refine pr_ 17 165 29 144895 HT_ rfl rfl ?_
                         refine pr_ 18 166 29 407039 HT_ rfl rfl ?_
                         refine pr_ 22 170 29 4601343 HT_ rfl rfl ?_
                         refine pr_ 23 171 29 12989951 HT_ rfl rfl ?_
                         refine ta_ 9 157 29 12990463 HT_ HW_ rfl rfl hHeld ?_
                         refine ta_ 11 159 29 12992511 HT_ HW_ rfl rfl hHeld ?_
                         refine ta_ 14 162 29 13008895 HT_ HW_ rfl rfl hHeld ?_
                         refine pr_ 15 163 29 13041663 HT_ rfl rfl ?_
                         refine pr_ 16 164 29 13107199 HT_ rfl rfl ?_
                         refine ta_ 19 167 29 13631487 HT_ HW_ rfl rfl hHeld ?_
                         refine pr_ 20 168 29 14680063 HT_ rfl rfl ?_
                         refine pr_ 21 169 29 16777215 HT_ rfl rfl ?_
                         refine ta_ 24 172 29 33554431 HT_ HW_ rfl rfl hHeld ?_
                         refine pr_ 25 173 29 67108863 HT_ rfl rfl ?_
                         refine pr_ 26 174 29 134217727 HT_ rfl rfl ?_
                         refine pr_ 27 175 29 268435455 HT_ rfl rfl ?_
                         refine pr_ 28 18 29 536870911 HT_ rfl rfl ?_
                         refine done_ (done_of HT_.out (by kernel_rfl)) ?_
                         try go_wp2
                         go_roundg k5
                         case measure => have := HJ3.out; have := HJ14.out; have := HK3.out; have := HK4.out; have := HK5.out; omega
                         case rel => exact ⟨(decide ((wrap64 (((rd_T48 l1 x144_5).f2.f1) + (wrap64 (Int.tdiv (wrap64 ((wrap64 (((rd_T81 l0_1 x137_4).f1) + ((rd_T48 l1 x144_5).f1.f0))) - 1)) ((rd_T48 l1 x144_5).f1.f0))))) > ((rd_T81 l0_1 x137_4).f2.f0))), (wrap64 (x144_5 + 1)), (by first | rfl | (simp; done) | (simp [*]; done)), (by first | rfl | (simp; done) | (simp [*]; done)), H', ⟨by have := HJ3.out; have := HJ14.out; have := HK3.out; have := HK4.out; have := HK5.out; omega⟩, ⟨by refine bx_ ?_; exact BK769.out⟩, ⟨by refine bx_ ?_; exact BK784.out⟩, ⟨be3_ HB GE769 GE784 GE786⟩⟩
                       ·rw [if_neg c74] at H
                        have c74b0 : (((rd_T48 l1 x144_5).f0) == x137_4) = false := beq_eq_false_iff_ne.mpr c74
                        have c74b1 : (((rd_T48 l1 x144_5).f0) != x137_4) = true := bne_iff_ne.mpr c74
                        have H' := Aside0.mk H
                        clear H
                        have p785 : 0 ≤ (x144_5 : Int) := of_decide_eq_true as_
                        have q785 : x144_5 < (l1.length : Int) := of_decide_eq_true as_
                        obtain ⟨ad785, e785, hx785_0, hx785_1, hx785_2, hx785_3, hx785_4⟩ := at_T48 HR1.out x144_5 p785 q785
                        cases e785
                        try replace hx785_0 := ce_ HB hx785_0
                        try replace hx785_1 := ce_ HB hx785_1
                        try replace hx785_2 := ce_ HB hx785_2
                        try replace hx785_3 := ce_ HB hx785_3
                        try replace hx785_4 := ce_ HB hx785_4
                        replace p785 := eq_true p785
                        replace q785 := eq_true q785
                        try go_wp2_with (first | ((with_reducible refine gate_dst (N := 20) rfl ?_); (try (refine gate_guard (by rfl) ?_; dsimp only)); refine box_event ?hg (N := 20) ?hd (cs := #[.int .i64 0, .int .i64 0, .int .i64 0, .int .i64 0, .int .i64 0]) (t := 48) ?hr ?_; (case hd => rfl); (case hg => rfl); (case hr => exact gs_); intro gb786 hg w82 hbox hb; have BK786 := Aside0.mk (hbox); have GW786 := hl_ hg (be2_ HB GE769 GE784); have GE786 := hl_ hg (be2_ HB GE769 GE784); replace HB := bs2_ HB GE769 GE784 hb; have NB769_786 := Aside0.mk ((by rw [hg]; exact Nat.ne_of_lt (blk_lt (bk_ BK769)) : gb769 ≠ gb786)); have NB786_769 := Aside0.mk ((by rw [hg]; exact Nat.ne_of_gt (blk_lt (bk_ BK769)) : gb786 ≠ gb769)); replace BK769 := bb_ BK769 hb; have NB784_786 := Aside0.mk ((by rw [hg]; exact Nat.ne_of_lt (blk_lt (bk_ BK784)) : gb784 ≠ gb786)); have NB786_784 := Aside0.mk ((by rw [hg]; exact Nat.ne_of_gt (blk_lt (bk_ BK784)) : gb786 ≠ gb784)); replace BK784 := bb_ BK784 hb; clear hb hbox hg; have hnb83 := NB786_769.out; have hnc83 := NB769_786.out; have hnb84 := NB786_784.out; have hnc84 := NB784_786.out; have hcz85_0 : w82.cell? ⟨gb786, 0, none⟩ = some (.int .i64 0) := bc_ BK786 0; have hcz85_1 : w82.cell? ⟨gb786, 1, none⟩ = some (.int .i64 0) := bc_ BK786 1; have hcz85_2 : w82.cell? ⟨gb786, 2, none⟩ = some (.int .i64 0) := bc_ BK786 2; have hcz85_3 : w82.cell? ⟨gb786, 3, none⟩ = some (.int .i64 0) := bc_ BK786 3; have hcz85_4 : w82.cell? ⟨gb786, 4, none⟩ = some (.int .i64 0) := bc_ BK786 4; have hfz85_0 := blk_frozen BK786.out 0; have hfz85_1 := blk_frozen BK786.out 1; have hfz85_2 := blk_frozen BK786.out 2; have hfz85_3 := blk_frozen BK786.out 3; have hfz85_4 := blk_frozen BK786.out 4))
                        have n0_ : Aside0 ((((((w82.setCell ⟨gb786, 0, none⟩ (.int .i64 ((rd_T48 l1 x144_5).f0))).setCell ⟨gb786, 1, none⟩ (.int .i64 ((rd_T48 l1 x144_5).f1.f0))).setCell ⟨gb786, 2, none⟩ (.int .i64 ((rd_T48 l1 x144_5).f1.f1))).setCell ⟨gb786, 3, none⟩ (.int .i64 ((rd_T48 l1 x144_5).f2.f0))).setCell ⟨gb786, 4, none⟩ (.int .i64 ((rd_T48 l1 x144_5).f2.f1))).heap[gb769]? = some (.cells #[.slice A0_0 l0_0.length c0_0, .slice (some ad783) l0_1.length c0_1] 25 (0, 0))) := ⟨by refine bx_ ?_; refine blk_far ?_ NB769_786.out _; refine bx_ ?_; refine blk_far ?_ NB769_786.out _; refine bx_ ?_; refine blk_far ?_ NB769_786.out _; refine bx_ ?_; refine blk_far ?_ NB769_786.out _; refine bx_ ?_; refine blk_far ?_ NB769_786.out _; refine bx_ ?_; exact BK769.out⟩
                        have n1_ : Aside0 ((((((w82.setCell ⟨gb786, 0, none⟩ (.int .i64 ((rd_T48 l1 x144_5).f0))).setCell ⟨gb786, 1, none⟩ (.int .i64 ((rd_T48 l1 x144_5).f1.f0))).setCell ⟨gb786, 2, none⟩ (.int .i64 ((rd_T48 l1 x144_5).f1.f1))).setCell ⟨gb786, 3, none⟩ (.int .i64 ((rd_T48 l1 x144_5).f2.f0))).setCell ⟨gb786, 4, none⟩ (.int .i64 ((rd_T48 l1 x144_5).f2.f1))).heap[gb784]? = some (.cells #[.int .i64 ((rd_T81 l0_1 x137_4).f0), .int .i64 ((rd_T81 l0_1 x137_4).f1), .int .i64 ((rd_T81 l0_1 x137_4).f2.f0), .int .i64 ((rd_T81 l0_1 x137_4).f2.f1)] 81 (0, 0))) := ⟨by refine bx_ ?_; refine blk_far ?_ NB784_786.out _; refine bx_ ?_; refine blk_far ?_ NB784_786.out _; refine bx_ ?_; refine blk_far ?_ NB784_786.out _; refine bx_ ?_; refine blk_far ?_ NB784_786.out _; refine bx_ ?_; refine blk_far ?_ NB784_786.out _; refine bx_ ?_; exact BK784.out⟩
                        have n2_ : Aside0 ((((((w82.setCell ⟨gb786, 0, none⟩ (.int .i64 ((rd_T48 l1 x144_5).f0))).setCell ⟨gb786, 1, none⟩ (.int .i64 ((rd_T48 l1 x144_5).f1.f0))).setCell ⟨gb786, 2, none⟩ (.int .i64 ((rd_T48 l1 x144_5).f1.f1))).setCell ⟨gb786, 3, none⟩ (.int .i64 ((rd_T48 l1 x144_5).f2.f0))).setCell ⟨gb786, 4, none⟩ (.int .i64 ((rd_T48 l1 x144_5).f2.f1))).heap[gb786]? = some (.cells #[.int .i64 ((rd_T48 l1 x144_5).f0), .int .i64 ((rd_T48 l1 x144_5).f1.f0), .int .i64 ((rd_T48 l1 x144_5).f1.f1), .int .i64 ((rd_T48 l1 x144_5).f2.f0), .int .i64 ((rd_T48 l1 x144_5).f2.f1)] 48 (0, 0))) := ⟨by refine bx_ ?_; refine blk_put (cs := #[.int .i64 ((rd_T48 l1 x144_5).f0), .int .i64 ((rd_T48 l1 x144_5).f1.f0), .int .i64 ((rd_T48 l1 x144_5).f1.f1), .int .i64 ((rd_T48 l1 x144_5).f2.f0), .int .i64 0]) ?_ 4 _ rfl; refine bx_ ?_; refine blk_put (cs := #[.int .i64 ((rd_T48 l1 x144_5).f0), .int .i64 ((rd_T48 l1 x144_5).f1.f0), .int .i64 ((rd_T48 l1 x144_5).f1.f1), .int .i64 0, .int .i64 0]) ?_ 3 _ rfl; refine bx_ ?_; refine blk_put (cs := #[.int .i64 ((rd_T48 l1 x144_5).f0), .int .i64 ((rd_T48 l1 x144_5).f1.f0), .int .i64 0, .int .i64 0, .int .i64 0]) ?_ 2 _ rfl; refine bx_ ?_; refine blk_put (cs := #[.int .i64 ((rd_T48 l1 x144_5).f0), .int .i64 0, .int .i64 0, .int .i64 0, .int .i64 0]) ?_ 1 _ rfl; refine bx_ ?_; refine blk_put (cs := #[.int .i64 0, .int .i64 0, .int .i64 0, .int .i64 0, .int .i64 0]) ?_ 0 _ rfl; refine bx_ ?_; exact BK786.out⟩
                        have n3_ : Aside0 (Below w.heap.size w (((((w82.setCell ⟨gb786, 0, none⟩ (.int .i64 ((rd_T48 l1 x144_5).f0))).setCell ⟨gb786, 1, none⟩ (.int .i64 ((rd_T48 l1 x144_5).f1.f0))).setCell ⟨gb786, 2, none⟩ (.int .i64 ((rd_T48 l1 x144_5).f1.f1))).setCell ⟨gb786, 3, none⟩ (.int .i64 ((rd_T48 l1 x144_5).f2.f0))).setCell ⟨gb786, 4, none⟩ (.int .i64 ((rd_T48 l1 x144_5).f2.f1)))) := ⟨be3_ HB GE769 GE784 GE786⟩
                        (try clear BK769)
                        (try clear BK784)
                        (try clear BK786)
                        (try clear HB)
                        generalize (((((w82.setCell ⟨gb786, 0, none⟩ (.int .i64 ((rd_T48 l1 x144_5).f0))).setCell ⟨gb786, 1, none⟩ (.int .i64 ((rd_T48 l1 x144_5).f1.f0))).setCell ⟨gb786, 2, none⟩ (.int .i64 ((rd_T48 l1 x144_5).f1.f1))).setCell ⟨gb786, 3, none⟩ (.int .i64 ((rd_T48 l1 x144_5).f2.f0))).setCell ⟨gb786, 4, none⟩ (.int .i64 ((rd_T48 l1 x144_5).f2.f1))) = w86 at n0_ n1_ n2_ n3_ ⊢
                        have BK769 := n0_
                        have BK784 := n1_
                        have BK786 := n2_
                        have HB := n3_
                        clear n0_ n1_ n2_ n3_
                        replace BK769 := Aside0.mk (blk_drew BK769.out)
                        replace BK784 := Aside0.mk (blk_drew BK784.out)
                        replace BK786 := Aside0.mk (blk_drew BK786.out)
                        replace HB := Aside0.mk (below_drew1 HB.out)
                        refine start_ (n := 29) (S := fun w' => w'.cell? ⟨gb786, 0, none⟩ = some (.int .i64 ((rd_T48 l1 x144_5).f0)) ∧ w'.cell? ⟨gb786, 1, none⟩ = some (.int .i64 ((rd_T48 l1 x144_5).f1.f0)) ∧ w'.cell? ⟨gb786, 2, none⟩ = some (.int .i64 ((rd_T48 l1 x144_5).f1.f1)) ∧ w'.cell? ⟨gb786, 3, none⟩ = some (.int .i64 ((rd_T48 l1 x144_5).f2.f0)) ∧ w'.cell? ⟨gb786, 4, none⟩ = some (.int .i64 ((rd_T48 l1 x144_5).f2.f1))) (ds := []) (bm_ 29 0) (by kernel_rfl) rfl rfl ⟨bc_ BK786 0, bc_ BK786 1, bc_ BK786 2, bc_ BK786 3, bc_ BK786 4⟩ (fun hHeld => ?_); refine with_tabW cottonpadlaw06_ExitsShown.tab29 cottonpadlaw06_ExitsShown.bits29 (fun HT_ HW_ => ?_)
                        generalize w86.drew = w87 at BK769 BK784 BK786 HB hHeld ⊢
                        refine pr_ 0 148 29 1 HT_ rfl rfl ?_
                        refine pr_ 1 149 29 3 HT_ rfl rfl ?_
                        refine pr_ 2 150 29 7 HT_ rfl rfl ?_
                        refine pr_ 4 152 29 23 HT_ rfl rfl ?_
                        refine ta_ 3 151 29 31 HT_ HW_ rfl rfl hHeld ?_
                        refine pr_ 5 153 29 63 HT_ rfl rfl ?_
                        refine pr_ 6 154 29 127 HT_ rfl rfl ?_
                        refine pn_ 7 155 29 255 HT_ rfl rfl ?_
                        refine pn_ 8 156 29 511 HT_ rfl rfl ?_
                        refine pn_ 9 157 29 1023 HT_ rfl rfl ?_
                        refine pn_ 10 158 29 2047 HT_ rfl rfl ?_
                        refine pn_ 11 159 29 4095 HT_ rfl rfl ?_
                        refine pn_ 12 160 29 8191 HT_ rfl rfl ?_
                        refine pn_ 13 161 29 16383 HT_ rfl rfl ?_
                        refine pn_ 14 162 29 32767 HT_ rfl rfl ?_
                        refine pn_ 15 163 29 65535 HT_ rfl rfl ?_
                        refine pn_ 16 164 29 131071 HT_ rfl rfl ?_
                        refine pn_ 17 165 29 262143 HT_ rfl rfl ?_
                        refine pn_ 18 166 29 524287 HT_ rfl rfl ?_
                        refine pn_ 19 167 29 1048575 HT_ rfl rfl ?_
                        refine pn_ 20 168 29 2097151 HT_ rfl rfl ?_
                        refine pn_ 21 169 29 4194303 HT_ rfl rfl ?_
                        refine pn_ 22 170 29 8388607 HT_ rfl rfl ?_
                        refine pn_ 23 171 29 16777215 HT_ rfl rfl ?_
                        refine pn_ 24 172 29 33554431 HT_ rfl rfl ?_
                        refine pn_ 25 173 29 67108863 HT_ rfl rfl ?_
                        refine pr_ 26 174 29 134217727 HT_ rfl rfl ?_
                        refine pr_ 27 175 29 268435455 HT_ rfl rfl ?_
                        refine pr_ 28 18 29 536870911 HT_ rfl rfl ?_
                        refine done_ (done_of HT_.out (by kernel_rfl)) ?_
                        try go_wp2
                        go_roundg k5
                        case measure => have := HJ3.out; have := HJ14.out; have := HK3.out; have := HK4.out; have := HK5.out; omega
                        case rel => exact ⟨(false), (wrap64 (x144_5 + 1)), (by first | rfl | (simp; done) | (simp [*]; done)), (by first | rfl | (simp; done) | (simp [*]; done)), H', ⟨by have := HJ3.out; have := HJ14.out; have := HK3.out; have := HK4.out; have := HK5.out; omega⟩, ⟨by refine bx_ ?_; exact BK769.out⟩, ⟨by refine bx_ ?_; exact BK784.out⟩, ⟨be3_ HB GE769 GE784 GE786⟩⟩
                     ·rw [if_neg c66] at H
                      exact absurd H (by simp)
                    ·rw [if_neg c65] at H
                     exact absurd H (by simp)
                   ·rw [if_neg c64] at H
                    have c64b0 : decide (x144_5 < (l1.length : Int)) = false := decide_eq_false c64
                    clear c64
                    by_cases c88 : x137_4 = t773
                    ·rw [if_pos c88] at H
                     have c88b0 : (x137_4 == t773) = true := beq_iff_eq.mpr c88
                     have c88b1 : (x137_4 != t773) = false := bne_eq_false_iff_eq.mpr c88
                     clear c88
                     by_cases c89 : x18_5 = true
                     ·subst c89
                      have H1 : (if t773 < 0 then (some false) else (if x137_4 < t773 then (some false) else (cottonpadlaw06_ExitsShown.l2 k5 l1 t770 t773 t774 l0_1 (l0_1.length : Int) (wrap64 (x137_4 + 1)) l0_0 l0_1))) = some r := by rw [if_pos rfl] at H; exact H
                      clear H
                      have H := H1
                      clear H1
                      by_cases c90 : t773 < 0
                      ·rw [if_pos c90] at H
                       have c90b0 : decide (t773 < 0) = true := decide_eq_true c90
                       clear c90
                       exact absurd (H.trans (congrArg some HRT.out)) (by simp)
                      ·rw [if_neg c90] at H
                       have c90b0 : decide (t773 < 0) = false := decide_eq_false c90
                       clear c90
                       by_cases c91 : x137_4 < t773
                       ·rw [if_pos c91] at H
                        have c91b0 : decide (x137_4 < t773) = true := decide_eq_true c91
                        clear c91
                        exact absurd (H.trans (congrArg some HRT.out)) (by simp)
                       ·rw [if_neg c91] at H
                        have c91b0 : decide (x137_4 < t773) = false := decide_eq_false c91
                        clear c91
                        have H' := Aside0.mk H
                        clear H
                        go_wp2
                        go_roundg k5
                        case measure => have := HJ3.out; have := HJ14.out; have := HK3.out; have := HK4.out; have := HK5.out; omega
                        case rel => exact ⟨(wrap64 (x137_4 + 1)), (by first | rfl | (simp; done) | (simp [*]; done)), H', ⟨by have := HJ3.out; have := HJ14.out; have := HK3.out; have := HK4.out; have := HK5.out; omega⟩, ⟨by refine bx_ ?_; exact BK769.out⟩, ⟨be2_ HB GE769 GE784⟩⟩
                     ·replace c89 := Bool.eq_false_iff.mpr c89
                      subst c89
                      have H1 : (some false) = some r := by rw [if_neg (show ¬ (false = true) by decide)] at H; exact H
                      clear H
                      have H := H1
                      clear H1
                      exact absurd (H.trans (congrArg some HRT.out)) (by simp)
                    ·rw [if_neg c88] at H
                     have c88b0 : (x137_4 == t773) = false := beq_eq_false_iff_ne.mpr c88
                     have c88b1 : (x137_4 != t773) = true := bne_iff_ne.mpr c88
                     by_cases c92 : x18_5 = true
                     ·subst c92
                      have H1 : (if t773 < 0 then (some false) else (if x137_4 < t773 then (some false) else (cottonpadlaw06_ExitsShown.l2 k5 l1 t770 t773 t774 l0_1 (l0_1.length : Int) (wrap64 (x137_4 + 1)) l0_0 l0_1))) = some r := by rw [if_pos rfl] at H; exact H
                      clear H
                      have H := H1
                      clear H1
                      by_cases c93 : t773 < 0
                      ·rw [if_pos c93] at H
                       have c93b0 : decide (t773 < 0) = true := decide_eq_true c93
                       clear c93
                       exact absurd (H.trans (congrArg some HRT.out)) (by simp)
                      ·rw [if_neg c93] at H
                       have c93b0 : decide (t773 < 0) = false := decide_eq_false c93
                       clear c93
                       by_cases c94 : x137_4 < t773
                       ·rw [if_pos c94] at H
                        have c94b0 : decide (x137_4 < t773) = true := decide_eq_true c94
                        clear c94
                        exact absurd (H.trans (congrArg some HRT.out)) (by simp)
                       ·rw [if_neg c94] at H
                        have c94b0 : decide (x137_4 < t773) = false := decide_eq_false c94
                        clear c94
                        have H' := Aside0.mk H
                        clear H
                        go_wp2
                        go_roundg k5
                        case measure => have := HJ3.out; have := HJ14.out; have := HK3.out; have := HK4.out; have := HK5.out; omega
                        case rel => exact ⟨(wrap64 (x137_4 + 1)), (by first | rfl | (simp; done) | (simp [*]; done)), H', ⟨by have := HJ3.out; have := HJ14.out; have := HK3.out; have := HK4.out; have := HK5.out; omega⟩, ⟨by refine bx_ ?_; exact BK769.out⟩, ⟨be2_ HB GE769 GE784⟩⟩
                     ·replace c92 := Bool.eq_false_iff.mpr c92
                      subst c92
                      have H1 : (cottonpadlaw06_ExitsShown.l2 k5 l1 t770 t773 t774 l0_1 (l0_1.length : Int) (wrap64 (x137_4 + 1)) l0_0 l0_1) = some r := by rw [if_neg (show ¬ (false = true) by decide)] at H; exact H
                      clear H
                      have H := H1
                      clear H1
                      have H' := Aside0.mk H
                      clear H
                      go_wp2
                      go_roundg k5
                      case measure => have := HJ3.out; have := HJ14.out; have := HK3.out; have := HK4.out; have := HK5.out; omega
                      case rel => exact ⟨(wrap64 (x137_4 + 1)), (by first | rfl | (simp; done) | (simp [*]; done)), H', ⟨by have := HJ3.out; have := HJ14.out; have := HK3.out; have := HK4.out; have := HK5.out; omega⟩, ⟨by refine bx_ ?_; exact BK769.out⟩, ⟨be2_ HB GE769 GE784⟩⟩
                ·rw [if_neg c60] at H
                 exact absurd H (by simp)
               ·rw [if_neg c59] at H
                exact absurd H (by simp)
              ·rw [if_neg c58] at H
               have c58b0 : decide (x137_4 < (l0_1.length : Int)) = false := decide_eq_false c58
               clear c58
               replace H := Option.bind_eq_some_iff.mp H
               obtain ⟨⟨t787, t790⟩, A950, H⟩ := H
               replace H : (if t773 ≥ 0 then ((cottonpadlaw06_span.f 36000 36000).bind fun bt794 => (if 0 ≤ t773 then (if t773 < (t790.length : Int) then (cottonpadlaw06_ExitsShown.j6 k4 l1 t770 t773 t774 t787 (t790.set (t773 : Int).toNat (⟨(rd_T81 t790 t773).f0, (rd_T81 t790 t773).f1, (⟨bt794.1, bt794.2⟩ : S36)⟩ : S81))) else (none)) else (none))) else (cottonpadlaw06_ExitsShown.j6 k4 l1 t770 t773 t774 t787 t790)) = some r := H
               have A95 := Aside0.mk A950
               clear A950
               have HC96 := Aside0.mk H
               clear H
               have hcz97_0 : wr.cell? ⟨gb769, 0, none⟩ = some (.slice A0_0 l0_0.length c0_0) := bc_ BK769 0
               have hcz97_1 : wr.cell? ⟨gb769, 1, none⟩ = some (.slice A0_1 l0_1.length c0_1) := bc_ BK769 1
               have hfz97_0 := blk_frozen BK769.out 0
               have hfz97_1 := blk_frozen BK769.out 1
               go_upto_if 200 with (first | ((with_reducible refine gate_callee (f := 16) rfl ?_); refine goesL_ (some 198) rfl rfl Tryd.func16 (by kernel_rfl) rfl #[.agg #[.slice A0_0 l0_0.length c0_0, .slice A0_1 l0_1.length c0_1]] rfl ls_ ?_; (with_reducible refine (cottonpadref06_Twin.calls _ _ l0_0 _ _ l0_1 t787 t790 _ ?side1 ?side2 ?side3 ?side4 A95.out).mono ?_); (case side1 => exact kc_ HR0_0 HB); (case side2 => exact HC0_0.out); (case side3 => exact kc_ HR0_1 HB); (case side4 => exact HC0_1.out); rintro e w98 ⟨v788, v791, rfl, ho0, ho1, hb⟩; refine ⟨_, rfl, ?_⟩; have HO789 := Aside0.mk (Kd.R_lower ho0 (below_size (be1_ HB GE769))); have HO792 := Aside0.mk (Kd.R_lower ho1 (below_size (be1_ HB GE769))); replace BK769 := bb_ BK769 hb; replace HB := bs1_ HB GE769 hb; (try clear hb); (try clear hb2); (try clear hk); (try clear hi); (try clear ho0); (try clear ho1)) | ((with_reducible refine gate_dst (N := 21) rfl ?_); (try (refine gate_guard (by rfl) ?_; dsimp only)); refine box_event ?hg (N := 21) ?hd (cs := #[.slice none 0 0, .slice none 0 0]) (t := 25) ?hr ?_; (case hd => rfl); (case hg => rfl); (case hr => exact gs_); intro gb793 hg w99 hbox hb; replace HO789 := rb_ HO789 hb; replace HO792 := rb_ HO792 hb; have BK793 := Aside0.mk (hbox); have GW793 := hl_ hg (be1_ HB GE769); have GE793 := hl_ hg (be1_ HB GE769); replace HB := bs1_ HB GE769 hb; have NB769_793 := Aside0.mk ((by rw [hg]; exact Nat.ne_of_lt (blk_lt (bk_ BK769)) : gb769 ≠ gb793)); have NB793_769 := Aside0.mk ((by rw [hg]; exact Nat.ne_of_gt (blk_lt (bk_ BK769)) : gb793 ≠ gb769)); replace BK769 := bb_ BK769 hb; clear hb hbox hg; obtain ⟨Ao100, co100, eo100⟩ := Kd.R_slice HO789.out; subst eo100; have hnb101 := NB793_769.out; have hnc101 := NB769_793.out; have hcz102_0 : w99.cell? ⟨gb793, 0, none⟩ = some (.slice none 0 0) := bc_ BK793 0; have hcz102_1 : w99.cell? ⟨gb793, 1, none⟩ = some (.slice none 0 0) := bc_ BK793 1; have hfz102_0 := blk_frozen BK793.out 0; have hfz102_1 := blk_frozen BK793.out 1; obtain ⟨Ao103, co103, eo103⟩ := Kd.R_slice HO792.out; subst eo103))
               (try simp only [Act.put, List.setIfInBounds_toArray, List.set_cons_zero, List.set_cons_succ])
               go_cut [] (fun wc => ∃ (kq : Nat) (x794001_95 : List (S81)) (u794001 : Value), Aside0 (cottonpadlaw06_ExitsShown.j6 kq l1 t770 t773 t774 t787 x794001_95 = some r) ∧ Aside0 (kq ≤ k4) ∧ Aside0 (Kd.R k62 62 wc w.heap.size (fun _ => True) (.slice Ao100 t787.length co100) t787) ∧ Aside0 (Kd.R k81 81 wc w.heap.size (fun _ => True) u794001 x794001_95) ∧ Aside0 (wc.heap[gb769]? = some (.cells #[(.slice A0_0 l0_0.length c0_0), (.slice A0_1 l0_1.length c0_1)] 25 (0, 0))) ∧ Aside0 (wc.heap[gb793]? = some (.cells #[(.slice Ao100 t787.length co100), u794001] 25 (0, 0))) ∧ Aside0 (Below w.heap.size w wc))
               case first =>
                have H := HC96.out
                clear HC96
                by_cases c104 : t773 ≥ 0
                ·rw [if_pos c104] at H
                 have c104b0 : decide (0 ≤ t773) = true := decide_eq_true c104
                 clear c104
                 (first | rw [c104b0] | (simp only [i64_w, i32_w]; rw [c104b0]) | skip)
                 replace H := Option.bind_eq_some_iff.mp H
                 obtain ⟨⟨t794, t795⟩, A1050, H⟩ := H
                 replace H : (if 0 ≤ t773 then (if t773 < (t790.length : Int) then (cottonpadlaw06_ExitsShown.j6 k4 l1 t770 t773 t774 t787 (t790.set (t773 : Int).toNat (⟨(rd_T81 t790 t773).f0, (rd_T81 t790 t773).f1, (⟨t794, t795⟩ : S36)⟩ : S81))) else (none)) else (none)) = some r := H
                 have A105 := Aside0.mk A1050
                 clear A1050
                 by_cases c106 : 0 ≤ t773
                 ·rw [if_pos c106] at H
                  have c106b0 : decide (0 ≤ t773) = true := decide_eq_true c106
                  clear c106
                  by_cases c107 : t773 < (t790.length : Int)
                  ·rw [if_pos c107] at H
                   have c107b0 : decide (t773 < (t790.length : Int)) = true := decide_eq_true c107
                   clear c107
                   obtain ⟨y796, hy796⟩ : ∃ y_ : List (S81), y_ = (t790.set (t773 : Int).toNat (⟨(rd_T81 t790 t773).f0, (rd_T81 t790 t773).f1, (⟨t794, t795⟩ : S36)⟩ : S81)) := ⟨_, rfl⟩
                   replace H : (cottonpadlaw06_ExitsShown.j6 k4 l1 t770 t773 t774 t787 y796) = some r := by first | (rw [hy796]; with_reducible exact H) | (have H2_ := (Option.bind_some _ _).symm.trans H; rw [hy796]; with_reducible exact H2_) | (have H2_ := (Option.bind_some _ _).symm.trans H; with_reducible exact H2_) | with_reducible exact H | (rw [hy796]; exact H) | exact H
                   have Ny796 := Aside0.mk hy796
                   clear hy796
                   have H' := Aside0.mk H
                   clear H
                   try go_wp2
                   have n0_ : Aside0 (Kd.R k62 62 ((w99.setCell ⟨gb793, 0, none⟩ (.slice Ao100 t787.length co100)).setCell ⟨gb793, 1, none⟩ (.slice Ao103 t790.length co103)) w.heap.size (fun _ => True) (.slice Ao100 t787.length co100) t787) := ⟨by (with_reducible repeat (first | apply Kd.R_alloc | apply Kd.R_drewN | apply Kd.R_drew)); exact Kd.R_mono (Kd.R_far (p := ⟨gb793, 1, none⟩) (Kd.R_far (p := ⟨gb793, 0, none⟩) (Kd.R_types HO789.out BK793.out (by decide)) (fun _ hk => hk.2) (.slice Ao100 t787.length co100)) (fun _ hk => hk.2) (.slice Ao103 t790.length co103)) (fun _ hk => trivial)⟩
                   have n1_ : Aside0 (Kd.R k81 81 ((w99.setCell ⟨gb793, 0, none⟩ (.slice Ao100 t787.length co100)).setCell ⟨gb793, 1, none⟩ (.slice Ao103 t790.length co103)) w.heap.size (fun _ => True) (.slice Ao103 t790.length co103) t790) := ⟨by (with_reducible repeat (first | apply Kd.R_alloc | apply Kd.R_drewN | apply Kd.R_drew)); exact Kd.R_mono (Kd.R_far (p := ⟨gb793, 1, none⟩) (Kd.R_far (p := ⟨gb793, 0, none⟩) (Kd.R_types HO792.out BK793.out (by decide)) (fun _ hk => hk.2) (.slice Ao100 t787.length co100)) (fun _ hk => hk.2) (.slice Ao103 t790.length co103)) (fun _ hk => trivial)⟩
                   have n2_ : Aside0 (((w99.setCell ⟨gb793, 0, none⟩ (.slice Ao100 t787.length co100)).setCell ⟨gb793, 1, none⟩ (.slice Ao103 t790.length co103)).heap[gb769]? = some (.cells #[.slice A0_0 l0_0.length c0_0, .slice A0_1 l0_1.length c0_1] 25 (0, 0))) := ⟨by refine bx_ ?_; refine blk_far ?_ NB769_793.out _; refine bx_ ?_; refine blk_far ?_ NB769_793.out _; refine bx_ ?_; exact BK769.out⟩
                   have n3_ : Aside0 (((w99.setCell ⟨gb793, 0, none⟩ (.slice Ao100 t787.length co100)).setCell ⟨gb793, 1, none⟩ (.slice Ao103 t790.length co103)).heap[gb793]? = some (.cells #[.slice Ao100 t787.length co100, .slice Ao103 t790.length co103] 25 (0, 0))) := ⟨by refine bx_ ?_; refine blk_put (cs := #[.slice Ao100 t787.length co100, .slice none 0 0]) ?_ 1 _ rfl; refine bx_ ?_; refine blk_put (cs := #[.slice none 0 0, .slice none 0 0]) ?_ 0 _ rfl; refine bx_ ?_; exact BK793.out⟩
                   have n4_ : Aside0 (Below w.heap.size w ((w99.setCell ⟨gb793, 0, none⟩ (.slice Ao100 t787.length co100)).setCell ⟨gb793, 1, none⟩ (.slice Ao103 t790.length co103))) := ⟨be2_ HB GE769 GE793⟩
                   (try clear HO789)
                   (try clear HO792)
                   (try clear BK769)
                   (try clear BK793)
                   (try clear HB)
                   generalize ((w99.setCell ⟨gb793, 0, none⟩ (.slice Ao100 t787.length co100)).setCell ⟨gb793, 1, none⟩ (.slice Ao103 t790.length co103)) = w109 at n0_ n1_ n2_ n3_ n4_ ⊢
                   have HO789 := n0_
                   have HO792 := n1_
                   have BK769 := n2_
                   have BK793 := n3_
                   have HB := n4_
                   clear n0_ n1_ n2_ n3_ n4_
                   replace HO789 := Aside0.mk (Kd.R_drew HO789.out)
                   replace HO792 := Aside0.mk (Kd.R_drew HO792.out)
                   replace BK769 := Aside0.mk (blk_drew BK769.out)
                   replace BK793 := Aside0.mk (blk_drew BK793.out)
                   replace HB := Aside0.mk (below_drew1 HB.out)
                   refine start_ (n := 7) (S := fun w' => w'.cell? ⟨gb793, 0, none⟩ = some (.slice Ao100 t787.length co100) ∧ w'.cell? ⟨gb793, 1, none⟩ = some (.slice Ao103 t790.length co103)) (ds := [6]) (bm_ 7 0) (by kernel_rfl) rfl rfl ⟨bc_ BK793 0, bc_ BK793 1⟩ (fun hHeld => ?_)
                   generalize w109.drew = w110 at HO789 HO792 BK769 BK793 HB hHeld ⊢
                   refine pure_ (i := 0) (N := some 201) (v := ?_) (a' := ?_) (bm_ 7 1) rfl rfl (by kernel_rfl) (fun _ _ _ h => h) (Or.inl ⟨by rfl, ?_⟩) ?_ ?_
                   rotate_left
                   ·intro w'
                    go_simp
                    with_reducible rfl
                   rotate_left
                   ·exact pt_
                   refine pure_ (i := 2) (N := some 203) (v := ?_) (a' := ?_) (bm_ 7 5) rfl rfl (by kernel_rfl) (fun _ _ _ h => h) (Or.inl ⟨by rfl, ?_⟩) ?_ ?_
                   rotate_left
                   ·intro w'
                    go_simp
                    with_reducible rfl
                   rotate_left
                   ·exact pt_
                   refine take_ (i := 1) (N := some 202) (v := ?_) (a' := ?_) (bm_ 7 7) rfl rfl (by kernel_rfl) (fun _ _ _ h => h) (Or.inl ⟨by rfl, ?_⟩) hHeld ?_ ?_
                   rotate_left
                   ·rintro w' ⟨s0, s1⟩
                    go_simp
                    with_reducible rfl
                   rotate_left
                   ·exact pt_
                   refine one_ (i := 3) (N := some 204) (bm_ 7 15) rfl rfl (by kernel_rfl) (by decide) (fun K hK => ?_)
                   refine goes_ Tryd.func32 (by kernel_rfl) rfl #[.int .i64 36000, .int .i64 36000] (by rfl) rfl rfl ls_ ?_
                   with_reducible refine (cottonpadlaw06_span.calls 36000 36000 t794 t795 _ A105.out).mono ?_
                   rintro e w111 ⟨rfl, hb⟩
                   refine ⟨_, rfl, ?_⟩
                   replace HO789 := rb_ HO789 hb
                   replace HO792 := rb_ HO792 hb
                   replace BK769 := bb_ BK769 hb
                   replace BK793 := bb_ BK793 hb
                   replace HB := bs2_ HB GE769 GE793 hb
                   (try clear hb)
                   (try clear hb2)
                   (try clear hk)
                   (try clear hi)
                   have p108 : 0 ≤ (t773 : Int) := of_decide_eq_true as_
                   have q108 : (t773 : Int) < ((t790.length : Int) : Int) := of_decide_eq_true as_
                   obtain ⟨go108, co108, eo108, gb108, gl108, cl108, HG108⟩ := Kd.R_form HO792.out (by omega)
                   (first | cases eo108 | (injection eo108 with ea_ en_ ec_; (first | subst ea_ | (injection ea_ with ea_; subst ea_)); subst ec_; clear en_))
                   have GB108 := Aside0.mk gb108
                   have GG108 := Aside0.mk HG108
                   clear gb108 gl108 HG108
                   obtain ⟨ce108, hcl108, hM108, hcc108, hfr108⟩ := Kd.R_elem HO792.out z81 (t773 : Int) p108 q108
                   obtain rfl := k81_openM hM108
                   have hx108_0 : World.cell? _ ⟨go108, (t773 : Int).toNat * 4, none⟩ = some (.int .i64 ((rd_T81 t790 t773).f0)) := hcc108 0 _ rfl
                   have hx108_1 : World.cell? _ ⟨go108, (t773 : Int).toNat * 4 + 1, none⟩ = some (.int .i64 ((rd_T81 t790 t773).f1)) := hcc108 1 _ rfl
                   have hx108_2 : World.cell? _ ⟨go108, (t773 : Int).toNat * 4 + 2, none⟩ = some (.int .i64 ((rd_T81 t790 t773).f2.f0)) := hcc108 2 _ rfl
                   have hx108_3 : World.cell? _ ⟨go108, (t773 : Int).toNat * 4 + 3, none⟩ = some (.int .i64 ((rd_T81 t790 t773).f2.f1)) := hcc108 3 _ rfl
                   have hf108_0 : World.frozen? _ ⟨go108, (t773 : Int).toNat * 4, none⟩ = false := hfr108 0
                   have hf108_1 : World.frozen? _ ⟨go108, (t773 : Int).toNat * 4 + 1, none⟩ = false := hfr108 1
                   have hf108_2 : World.frozen? _ ⟨go108, (t773 : Int).toNat * 4 + 2, none⟩ = false := hfr108 2
                   have hf108_3 : World.frozen? _ ⟨go108, (t773 : Int).toNat * 4 + 3, none⟩ = false := hfr108 3
                   clear hcl108 hcc108 hfr108 hM108
                   replace p108 := eq_true p108
                   replace q108 := eq_true q108
                   obtain ⟨ce112, hcl112, hM112, hcc112, hfr112⟩ := Kd.R_elem HO792.out z81 (t773 : Int) (of_decide_eq_true as_) (by have h_ : (t773 : Int) < ((t790.length : Int) : Int) := of_decide_eq_true as_; first | exact h_ | (have e_ := (Kd.R_reads' HO792.out).1; omega) | simpa using h_)
                   obtain rfl := k81_openM hM112
                   have HP112 := (Kd.R_seg HO792.out (t773 : Int) (of_decide_eq_true as_) (by have h_ : (t773 : Int) < ((t790.length : Int) : Int) := of_decide_eq_true as_; first | exact h_ | (have e_ := (Kd.R_reads' HO792.out).1; omega) | simpa using h_) (seg := [.int .i64 t794, .int .i64 t795]) (j := 2) hcl112 hcc112 (show 4 ≤ 4 from by decide) (x' := (⟨(rd_T81 t790 t773).f0, (rd_T81 t790 t773).f1, (⟨t794, t795⟩ : S36)⟩ : S81)) (k81_mkM _ _ _ (⟨(rd_T81 t790 t773).f0, (rd_T81 t790 t773).f1, (⟨t794, t795⟩ : S36)⟩ : S81) ) (fun _ hk => hk)).1
                   rw [← Ny796.out] at HP112
                   have HQ112 := Aside0.mk HP112
                   clear hcl112 hcc112 hfr112 hM112 HP112
                   refine hK.out _ _ ⟨bc_ BK793 0, bc_ BK793 1⟩ (fun hHeld => ?_)
                   clear hK K
                   refine norm_ (a' := ?_) ?_ ?_
                   rotate_left
                   ·show Act.put _ (some 204) _ = _
                    simp only [Act.put, List.setIfInBounds_toArray, List.set_cons_zero, List.set_cons_succ, i64_w, i32_w]
                    rfl
                   refine pure_ (i := 4) (N := some 205) (v := ?_) (a' := ?_) (bm_ 7 31) rfl rfl (by kernel_rfl) (fun _ _ _ h => h) (Or.inl ⟨by rfl, ?_⟩) ?_ ?_
                   rotate_left
                   ·intro w'
                    go_simp
                    with_reducible rfl
                   rotate_left
                   ·exact pt_
                   refine pure_ (i := 5) (N := some 206) (v := ?_) (a' := ?_) (bm_ 7 63) rfl rfl (by kernel_rfl) (fun _ _ _ h => h) (Or.inl ⟨by rfl, ?_⟩) ?_ ?_
                   rotate_left
                   ·intro w'
                    go_simp
                    with_reducible rfl
                   rotate_left
                   ·exact pt_
                   refine last_ (i := 6) (N := none) (bm_ 7 127) rfl rfl (by kernel_rfl) (by decide) (fun K hK => ?_)
                   refine skip_ (w1 := ?_) (by rfl) rfl ?_ ?_
                   rotate_left
                   ·go_simp
                    rfl
                   refine hK.out _ _ ?_
                   clear hK K
                   refine done_ (by kernel_rfl) ?_
                   try go_wp2
                   go_meet
                   case rel => exact ⟨_, (y796), (.slice (some ⟨go108, 0, none⟩) t790.length co103), H', ⟨by have := HJ3.out; have := HJ14.out; have := HK3.out; have := HK4.out; first | omega | exact Nat.le_refl _⟩, ⟨by (with_reducible repeat (first | apply Kd.R_alloc | apply Kd.R_drewN | apply Kd.R_drew)); exact Kd.R_mono (Kd.R_far (p := ⟨go108, (t773 : Int).toNat * 4 + 3, none⟩) (Kd.R_far (p := ⟨go108, (t773 : Int).toNat * 4 + 2, none⟩) (Kd.R_types HO789.out GG108.out (by decide)) (fun _ hk => hk.2) (.int .i64 t794)) (fun _ hk => hk.2) (.int .i64 t795)) (fun _ hk => trivial)⟩, ⟨by (with_reducible repeat (first | apply Kd.R_alloc | apply Kd.R_drewN | apply Kd.R_drew)); exact HQ112.out⟩, ⟨by refine bx_ ?_; refine blk_far ?_ (by have h_ := Kd.R_ne HO792.out BK769.out (by decide); intro e_; exact h_ (by rw [e_]; rfl)) _; refine bx_ ?_; refine blk_far ?_ (by have h_ := Kd.R_ne HO792.out BK769.out (by decide); intro e_; exact h_ (by rw [e_]; rfl)) _; refine bx_ ?_; exact BK769.out⟩, ⟨by refine bx_ ?_; refine blk_far ?_ (by have h_ := Kd.R_ne HO792.out BK793.out (by decide); intro e_; exact h_ (by rw [e_]; rfl)) _; refine bx_ ?_; refine blk_far ?_ (by have h_ := Kd.R_ne HO792.out BK793.out (by decide); intro e_; exact h_ (by rw [e_]; rfl)) _; refine bx_ ?_; exact BK793.out⟩, ⟨by repeat (first | (with_reducible first | exact HB.out | apply below_alloc | apply pw_below_drewN | apply below_drew1 | refine below_set ?_ GB108.out | refine below_set ?_ GB108.out | refine below_set ?_ GE769.out | refine below_set ?_ GE793.out) | exact HB.out)⟩⟩
                  ·rw [if_neg c107] at H
                   exact absurd H (by simp)
                 ·rw [if_neg c106] at H
                  exact absurd H (by simp)
                ·rw [if_neg c104] at H
                 have c104b0 : decide (0 ≤ t773) = false := decide_eq_false c104
                 clear c104
                 (first | rw [c104b0] | (simp only [i64_w, i32_w]; rw [c104b0]) | skip)
                 have H' := Aside0.mk H
                 clear H
                 go_wp2
                 go_meet
                 case rel => exact ⟨_, (t790), (.slice Ao103 t790.length co103), H', ⟨by have := HJ3.out; have := HJ14.out; have := HK3.out; have := HK4.out; first | omega | exact Nat.le_refl _⟩, ⟨by (with_reducible repeat (first | apply Kd.R_alloc | apply Kd.R_drewN | apply Kd.R_drew)); exact Kd.R_mono (Kd.R_far (p := ⟨gb793, 1, none⟩) (Kd.R_far (p := ⟨gb793, 0, none⟩) (Kd.R_types HO789.out BK793.out (by decide)) (fun _ hk => hk.2) (.slice Ao100 t787.length co100)) (fun _ hk => hk.2) (.slice Ao103 t790.length co103)) (fun _ hk => trivial)⟩, ⟨by (with_reducible repeat (first | apply Kd.R_alloc | apply Kd.R_drewN | apply Kd.R_drew)); exact Kd.R_mono (Kd.R_far (p := ⟨gb793, 1, none⟩) (Kd.R_far (p := ⟨gb793, 0, none⟩) (Kd.R_types HO792.out BK793.out (by decide)) (fun _ hk => hk.2) (.slice Ao100 t787.length co100)) (fun _ hk => hk.2) (.slice Ao103 t790.length co103)) (fun _ hk => trivial)⟩, ⟨by refine bx_ ?_; refine blk_far ?_ NB769_793.out _; refine bx_ ?_; refine blk_far ?_ NB769_793.out _; refine bx_ ?_; exact BK769.out⟩, ⟨by refine bx_ ?_; refine blk_put (cs := #[.slice Ao100 t787.length co100, .slice none 0 0]) ?_ 1 _ rfl; refine bx_ ?_; refine blk_put (cs := #[.slice none 0 0, .slice none 0 0]) ?_ 0 _ rfl; refine bx_ ?_; exact BK793.out⟩, ⟨be2_ HB GE769 GE793⟩⟩
               case rest =>
                as_aux_lemma =>
                 clear HC96
                 try clear c1
                 try clear p1
                 try clear q1
                 try clear hx1
                 try clear p2
                 try clear c3
                 try clear c5
                 try clear c6
                 try clear p6
                 try clear c7
                 try clear p7
                 try clear q7
                 try clear hx7
                 try clear c8
                 try clear c9
                 try clear c10
                 try clear p10
                 try clear q10
                 try clear hx10
                 try clear hf10
                 try clear c11
                 try clear c16
                 try clear c32
                 try clear c58
                 try clear c58b0
                 try clear c59
                 try clear c60
                 try clear c64
                 try clear c64b0
                 try clear p64
                 try clear c65
                 try clear c66
                 try clear c74
                 try clear c74b0
                 try clear c74b1
                 try clear p78
                 try clear q78
                 try clear hx78
                 try clear c83
                 try clear c84
                 try clear c88
                 try clear c88b0
                 try clear c88b1
                 try clear c89
                 try clear c90
                 try clear c90b0
                 try clear c91
                 try clear c91b0
                 try clear c92
                 try clear c93
                 try clear c93b0
                 try clear c94
                 try clear c94b0
                 try clear c101
                 try clear c104
                 try clear c104b0
                 try clear c106
                 try clear c106b0
                 try clear c107
                 try clear c107b0
                 try clear c108
                 try clear p108
                 try clear q108
                 try clear hx108
                 try clear hf108
                 try clear c112
                 try clear hcz102_0
                 try clear hcz102_1
                 try clear hcz85_0
                 try clear hcz85_1
                 try clear hcz85_2
                 try clear hcz85_3
                 try clear hcz85_4
                 try clear hcz97_0
                 try clear hcz97_1
                 try clear hfz102_0
                 try clear hfz102_1
                 try clear hfz85_0
                 try clear hfz85_1
                 try clear hfz85_2
                 try clear hfz85_3
                 try clear hfz85_4
                 try clear hfz97_0
                 try clear hfz97_1
                 try clear hx108_0
                 try clear hx108_1
                 try clear hx108_2
                 try clear hx108_3
                 try clear hx785_0
                 try clear hx785_1
                 try clear hx785_2
                 try clear hx785_3
                 try clear hx785_4
                 try clear p108
                 try clear p785
                 try clear q108
                 try clear q785
                 obtain ⟨kq, x794001_95, u794001, HA, HJ95, HO_794000, HO_794001, BK769, BK793, HB⟩ := hcut
                 cases kq with
                 | zero => exact absurd HA.out (by simp [cottonpadlaw06_ExitsShown.j6])
                 | succ kj95 =>
                  have H := HA.out
                  clear HA
                  simp only [cottonpadlaw06_ExitsShown.j6] at H
                  by_cases c113 : t774 ≥ 0
                  ·rw [if_pos c113] at H
                   have c113b0 : decide (0 ≤ t774) = true := decide_eq_true c113
                   clear c113
                   replace H := Option.bind_eq_some_iff.mp H
                   obtain ⟨⟨t797, t798⟩, A1140, H⟩ := H
                   replace H : (if 0 ≤ t774 then (if t774 < (t787.length : Int) then ((exits_Safe.f (t787.set (t774 : Int).toNat (⟨(rd_T62 t787 t774).f0, (rd_T62 t787 t774).f1, (⟨(rd_T62 t787 t774).f2.f0, (rd_T62 t787 t774).f2.f1⟩ : S36), (⟨t797, t798⟩ : S36)⟩ : S62)) x794001_95 l1).bind fun bt800 => (if t770 = true then (if bt800.2.2.2 = 0 then (if bt800.2.1 < 0 then (if bt800.2.2.1 < 0 then (some true) else (some (decide (bt800.2.2.1 > t774)))) else (if bt800.2.1 > t773 then (if bt800.2.2.1 < 0 then (some true) else (some (decide (bt800.2.2.1 > t774)))) else (some false))) else (some false)) else (some false))) else (none)) else (none)) = some r := H
                   have A114 := Aside0.mk A1140
                   clear A1140
                   by_cases c115 : 0 ≤ t774
                   ·rw [if_pos c115] at H
                    have c115b0 : decide (0 ≤ t774) = true := decide_eq_true c115
                    clear c115
                    by_cases c116 : t774 < (t787.length : Int)
                    ·rw [if_pos c116] at H
                     have c116b0 : decide (t774 < (t787.length : Int)) = true := decide_eq_true c116
                     clear c116
                     obtain ⟨y799, hy799⟩ : ∃ y_ : List (S62), y_ = (t787.set (t774 : Int).toNat (⟨(rd_T62 t787 t774).f0, (rd_T62 t787 t774).f1, (⟨(rd_T62 t787 t774).f2.f0, (rd_T62 t787 t774).f2.f1⟩ : S36), (⟨t797, t798⟩ : S36)⟩ : S62)) := ⟨_, rfl⟩
                     replace H : ((exits_Safe.f y799 x794001_95 l1).bind fun bt800 => (if t770 = true then (if bt800.2.2.2 = 0 then (if bt800.2.1 < 0 then (if bt800.2.2.1 < 0 then (some true) else (some (decide (bt800.2.2.1 > t774)))) else (if bt800.2.1 > t773 then (if bt800.2.2.1 < 0 then (some true) else (some (decide (bt800.2.2.1 > t774)))) else (some false))) else (some false)) else (some false))) = some r := by first | (rw [hy799]; with_reducible exact H) | (have H2_ := (Option.bind_some _ _).symm.trans H; rw [hy799]; with_reducible exact H2_) | (have H2_ := (Option.bind_some _ _).symm.trans H; with_reducible exact H2_) | with_reducible exact H | (rw [hy799]; exact H) | exact H
                     have Ny799 := Aside0.mk hy799
                     clear hy799
                     replace H := Option.bind_eq_some_iff.mp H
                     obtain ⟨⟨t800, t801, t802, t803⟩, A1180, H⟩ := H
                     replace H : (if t770 = true then (if t803 = 0 then (if t801 < 0 then (if t802 < 0 then (some true) else (some (decide (t802 > t774)))) else (if t801 > t773 then (if t802 < 0 then (some true) else (some (decide (t802 > t774)))) else (some false))) else (some false)) else (some false)) = some r := H
                     have A118 := Aside0.mk A1180
                     clear A1180
                     by_cases c119 : t770 = true
                     ·subst c119
                      have H1 : (if t803 = 0 then (if t801 < 0 then (if t802 < 0 then (some true) else (some (decide (t802 > t774)))) else (if t801 > t773 then (if t802 < 0 then (some true) else (some (decide (t802 > t774)))) else (some false))) else (some false)) = some r := by rw [if_pos rfl] at H; exact H
                      clear H
                      have H := H1
                      clear H1
                      by_cases c120 : t803 = 0
                      ·rw [if_pos c120] at H
                       have c120b0 : (t803 == 0) = true := beq_iff_eq.mpr c120
                       have c120b1 : (t803 != 0) = false := bne_eq_false_iff_eq.mpr c120
                       clear c120
                       by_cases c121 : t801 < 0
                       ·rw [if_pos c121] at H
                        have c121b0 : decide (t801 < 0) = true := decide_eq_true c121
                        clear c121
                        by_cases c122 : t802 < 0
                        ·rw [if_pos c122] at H
                         have c122b0 : decide (t802 < 0) = true := decide_eq_true c122
                         clear c122
                         obtain rfl := Option.some.inj H
                         try go_wp2
                         replace HO_794000 := Aside0.mk (Kd.R_drew HO_794000.out)
                         replace HO_794001 := Aside0.mk (Kd.R_drew HO_794001.out)
                         replace BK769 := Aside0.mk (blk_drew BK769.out)
                         replace BK793 := Aside0.mk (blk_drew BK793.out)
                         replace HB := Aside0.mk (below_drew1 HB.out)
                         refine start_ (n := 7) (S := fun w' => w'.cell? ⟨gb793, 0, none⟩ = some (.slice Ao100 t787.length co100) ∧ w'.cell? ⟨gb793, 1, none⟩ = some (u794001)) (ds := [6]) (bm_ 7 0) (by kernel_rfl) rfl rfl ⟨bc_ BK793 0, bc_ BK793 1⟩ (fun hHeld => ?_)
                         generalize wc.drew = w123 at HO_794000 HO_794001 BK769 BK793 HB hHeld ⊢
                         refine pure_ (i := 0) (N := some 209) (v := ?_) (a' := ?_) (bm_ 7 1) rfl rfl (by kernel_rfl) (fun _ _ _ h => h) (Or.inl ⟨by rfl, ?_⟩) ?_ ?_
                         rotate_left
                         ·intro w'
                          go_simp
                          with_reducible rfl
                         rotate_left
                         ·exact pt_
                         refine pure_ (i := 2) (N := some 211) (v := ?_) (a' := ?_) (bm_ 7 5) rfl rfl (by kernel_rfl) (fun _ _ _ h => h) (Or.inl ⟨by rfl, ?_⟩) ?_ ?_
                         rotate_left
                         ·intro w'
                          go_simp
                          with_reducible rfl
                         rotate_left
                         ·exact pt_
                         refine take_ (i := 1) (N := some 210) (v := ?_) (a' := ?_) (bm_ 7 7) rfl rfl (by kernel_rfl) (fun _ _ _ h => h) (Or.inl ⟨by rfl, ?_⟩) hHeld ?_ ?_
                         rotate_left
                         ·rintro w' ⟨s0, s1⟩
                          go_simp
                          with_reducible rfl
                         rotate_left
                         ·exact pt_
                         refine one_ (i := 3) (N := some 212) (bm_ 7 15) rfl rfl (by kernel_rfl) (by decide) (fun K hK => ?_)
                         refine goes_ Tryd.func32 (by kernel_rfl) rfl #[.int .i64 36000, .int .i64 36000] (by rfl) rfl rfl ls_ ?_
                         with_reducible refine (cottonpadlaw06_span.calls 36000 36000 t797 t798 _ A114.out).mono ?_
                         rintro e w124 ⟨rfl, hb⟩
                         refine ⟨_, rfl, ?_⟩
                         replace HO_794000 := rb_ HO_794000 hb
                         replace HO_794001 := rb_ HO_794001 hb
                         replace BK769 := bb_ BK769 hb
                         replace BK793 := bb_ BK793 hb
                         replace HB := bs2_ HB GE769 GE793 hb
                         (try clear hb)
                         (try clear hb2)
                         (try clear hk)
                         (try clear hi)
                         have p117 : 0 ≤ (t774 : Int) := of_decide_eq_true as_
                         have q117 : (t774 : Int) < ((t787.length : Int) : Int) := of_decide_eq_true as_
                         obtain ⟨go117, co117, eo117, gb117, gl117, cl117, HG117⟩ := Kd.R_form HO_794000.out (by omega)
                         (first | cases eo117 | (injection eo117 with ea_ en_ ec_; (first | subst ea_ | (injection ea_ with ea_; subst ea_)); subst ec_; clear en_))
                         have GB117 := Aside0.mk gb117
                         have GG117 := Aside0.mk HG117
                         clear gb117 gl117 HG117
                         obtain ⟨ce117, hcl117, hM117, hcc117, hfr117⟩ := Kd.R_elem HO_794000.out z62 (t774 : Int) p117 q117
                         obtain rfl := k62_openM hM117
                         have hx117_0 : World.cell? _ ⟨go117, (t774 : Int).toNat * 6, none⟩ = some (.int .i64 ((rd_T62 t787 t774).f0)) := hcc117 0 _ rfl
                         have hx117_1 : World.cell? _ ⟨go117, (t774 : Int).toNat * 6 + 1, none⟩ = some (.int .i64 ((rd_T62 t787 t774).f1)) := hcc117 1 _ rfl
                         have hx117_2 : World.cell? _ ⟨go117, (t774 : Int).toNat * 6 + 2, none⟩ = some (.int .i64 ((rd_T62 t787 t774).f2.f0)) := hcc117 2 _ rfl
                         have hx117_3 : World.cell? _ ⟨go117, (t774 : Int).toNat * 6 + 3, none⟩ = some (.int .i64 ((rd_T62 t787 t774).f2.f1)) := hcc117 3 _ rfl
                         have hx117_4 : World.cell? _ ⟨go117, (t774 : Int).toNat * 6 + 4, none⟩ = some (.int .i64 ((rd_T62 t787 t774).f3.f0)) := hcc117 4 _ rfl
                         have hx117_5 : World.cell? _ ⟨go117, (t774 : Int).toNat * 6 + 5, none⟩ = some (.int .i64 ((rd_T62 t787 t774).f3.f1)) := hcc117 5 _ rfl
                         have hf117_0 : World.frozen? _ ⟨go117, (t774 : Int).toNat * 6, none⟩ = false := hfr117 0
                         have hf117_1 : World.frozen? _ ⟨go117, (t774 : Int).toNat * 6 + 1, none⟩ = false := hfr117 1
                         have hf117_2 : World.frozen? _ ⟨go117, (t774 : Int).toNat * 6 + 2, none⟩ = false := hfr117 2
                         have hf117_3 : World.frozen? _ ⟨go117, (t774 : Int).toNat * 6 + 3, none⟩ = false := hfr117 3
                         have hf117_4 : World.frozen? _ ⟨go117, (t774 : Int).toNat * 6 + 4, none⟩ = false := hfr117 4
                         have hf117_5 : World.frozen? _ ⟨go117, (t774 : Int).toNat * 6 + 5, none⟩ = false := hfr117 5
                         clear hcl117 hcc117 hfr117 hM117
                         replace p117 := eq_true p117
                         replace q117 := eq_true q117
                         obtain ⟨ce125, hcl125, hM125, hcc125, hfr125⟩ := Kd.R_elem HO_794000.out z62 (t774 : Int) (of_decide_eq_true as_) (by have h_ : (t774 : Int) < ((t787.length : Int) : Int) := of_decide_eq_true as_; first | exact h_ | (have e_ := (Kd.R_reads' HO_794000.out).1; omega) | simpa using h_)
                         obtain rfl := k62_openM hM125
                         have HP125 := (Kd.R_seg HO_794000.out (t774 : Int) (of_decide_eq_true as_) (by have h_ : (t774 : Int) < ((t787.length : Int) : Int) := of_decide_eq_true as_; first | exact h_ | (have e_ := (Kd.R_reads' HO_794000.out).1; omega) | simpa using h_) (seg := [.int .i64 t797, .int .i64 t798]) (j := 4) hcl125 hcc125 (show 6 ≤ 6 from by decide) (x' := (⟨(rd_T62 t787 t774).f0, (rd_T62 t787 t774).f1, (⟨(rd_T62 t787 t774).f2.f0, (rd_T62 t787 t774).f2.f1⟩ : S36), (⟨t797, t798⟩ : S36)⟩ : S62)) (k62_mkM _ _ _ (⟨(rd_T62 t787 t774).f0, (rd_T62 t787 t774).f1, (⟨(rd_T62 t787 t774).f2.f0, (rd_T62 t787 t774).f2.f1⟩ : S36), (⟨t797, t798⟩ : S36)⟩ : S62) ) (fun _ hk => hk)).1
                         rw [← Ny799.out] at HP125
                         have HQ125 := Aside0.mk HP125
                         clear hcl125 hcc125 hfr125 hM125 HP125
                         refine hK.out _ _ ⟨bc_ BK793 0, bc_ BK793 1⟩ (fun hHeld => ?_)
                         clear hK K
                         refine norm_ (a' := ?_) ?_ ?_
                         rotate_left
                         ·show Act.put _ (some 212) _ = _
                          simp only [Act.put, List.setIfInBounds_toArray, List.set_cons_zero, List.set_cons_succ, i64_w, i32_w]
                          rfl
                         refine pure_ (i := 4) (N := some 213) (v := ?_) (a' := ?_) (bm_ 7 31) rfl rfl (by kernel_rfl) (fun _ _ _ h => h) (Or.inl ⟨by rfl, ?_⟩) ?_ ?_
                         rotate_left
                         ·intro w'
                          go_simp
                          with_reducible rfl
                         rotate_left
                         ·exact pt_
                         refine pure_ (i := 5) (N := some 214) (v := ?_) (a' := ?_) (bm_ 7 63) rfl rfl (by kernel_rfl) (fun _ _ _ h => h) (Or.inl ⟨by rfl, ?_⟩) ?_ ?_
                         rotate_left
                         ·intro w'
                          go_simp
                          with_reducible rfl
                         rotate_left
                         ·exact pt_
                         refine last_ (i := 6) (N := none) (bm_ 7 127) rfl rfl (by kernel_rfl) (by decide) (fun K hK => ?_)
                         refine skip_ (w1 := ?_) (by rfl) rfl ?_ ?_
                         rotate_left
                         ·go_simp
                          rfl
                         refine hK.out _ _ ?_
                         clear hK K
                         refine done_ (by kernel_rfl) ?_
                         have hnb126 := NB793_769.out
                         have hnc126 := NB769_793.out
                         have hcz127_0 : w124.cell? ⟨gb793, 0, none⟩ = some (.slice (some ⟨go117, 0, none⟩) t787.length co100) := bc_ BK793 0
                         have hcz127_1 : w124.cell? ⟨gb793, 1, none⟩ = some (u794001) := bc_ BK793 1
                         have hfz127_0 := blk_frozen BK793.out 0
                         have hfz127_1 := blk_frozen BK793.out 1
                         obtain ⟨Ao128, co128, eo128⟩ := Kd.R_slice HO_794001.out
                         subst eo128
                         try go_wp2_with (first | ((with_reducible refine gate_callee (f := 26) rfl ?_); refine goesL_ (some 218) rfl rfl Tryd.func26 (by kernel_rfl) rfl #[.agg #[.slice (some ⟨go117, 0, none⟩) y799.length co100, .slice Ao128 x794001_95.length co128], .slice A1 l1.length c1] rfl (by (try simp only [List.map_toArray, List.map_cons, List.map_nil]); first | done | (rw [show y799.length = t787.length from (Kd.R_reads' HQ125.out).1.symm] <;> rfl) | rfl | (simp only [List.length_drop, List.length_take]; rfl)) ?_; (with_reducible refine (exits_Safe.calls _ _ y799 _ _ x794001_95 _ _ l1 t800 t801 t802 t803 _ ?side7 ?side1 ?side2 ?side3 ?side4 ?side5 ?side6 A118.out).mono ?_); (case side1 => refine (Kd.R_reads' (e := 62) (base := w.heap.size) (ok := fun k_ => True) (n := t787.length) (c := co100) ?_).2.2; exact (by (with_reducible repeat (first | apply Kd.R_alloc | apply Kd.R_drewN | apply Kd.R_drew)); exact HQ125.out)); (case side2 => rw [show y799.length = t787.length from (Kd.R_reads' HQ125.out).1.symm]; exact (Kd.R_reads' HO_794000.out).2.1); (case side3 => refine (Kd.R_reads' (e := 81) (base := w.heap.size) (ok := fun k_ => True) (n := x794001_95.length) (c := co128) ?_).2.2; exact (by (with_reducible repeat (first | apply Kd.R_alloc | apply Kd.R_drewN | apply Kd.R_drew)); exact (Kd.R_mono (Kd.R_far (p := ⟨go117, (t774 : Int).toNat * 6 + 5, none⟩) (Kd.R_far (p := ⟨go117, (t774 : Int).toNat * 6 + 4, none⟩) (Kd.R_types HO_794001.out GG117.out (by decide)) (fun _ hk => hk.2) (.int .i64 t797)) (fun _ hk => hk.2) (.int .i64 t798)) (fun _ h_ => h_.1)))); (case side4 => exact (Kd.R_reads' HO_794001.out).2.1); (case side5 => exact Kd.C_below HR1.out (by repeat (first | (with_reducible first | exact HB.out | apply below_alloc | apply pw_below_drewN | apply below_drew1 | refine below_set ?_ GB117.out | refine below_set ?_ GB117.out | refine below_set ?_ GE769.out | refine below_set ?_ GE793.out) | exact HB.out))); (case side6 => exact HC1.out); (case side7 => exact Globs.below HG.out (by repeat (first | (with_reducible first | exact HB.out | apply below_alloc | apply pw_below_drewN | apply below_drew1 | refine below_set ?_ GB117.out | refine below_set ?_ GB117.out | refine below_set ?_ GE769.out | refine below_set ?_ GE793.out) | exact HB.out))); rintro e w129 ⟨rfl, hb⟩; refine ⟨_, rfl, ?_⟩; replace HO_794001 := Aside0.mk (Kd.R_below (by (with_reducible repeat (first | apply Kd.R_alloc | apply Kd.R_drewN | apply Kd.R_drew)); exact (Kd.R_mono (Kd.R_far (p := ⟨go117, (t774 : Int).toNat * 6 + 5, none⟩) (Kd.R_far (p := ⟨go117, (t774 : Int).toNat * 6 + 4, none⟩) (Kd.R_types HO_794001.out GG117.out (by decide)) (fun _ hk => hk.2) (.int .i64 t797)) (fun _ hk => hk.2) (.int .i64 t798)) (fun _ h_ => h_.1))) hb); replace BK769 := Aside0.mk (blk_below (g := gb769) (o := .cells #[.slice A0_0 l0_0.length c0_0, .slice A0_1 l0_1.length c0_1] 25 (0, 0)) (by refine bx_ ?_; refine blk_far ?_ (by have h_ := Kd.R_ne HO_794000.out BK769.out (by decide); intro e_; exact h_ (by rw [e_]; rfl)) _; refine bx_ ?_; refine blk_far ?_ (by have h_ := Kd.R_ne HO_794000.out BK769.out (by decide); intro e_; exact h_ (by rw [e_]; rfl)) _; refine bx_ ?_; exact BK769.out) hb); replace BK793 := Aside0.mk (blk_below (g := gb793) (o := .cells #[.slice (some ⟨go117, 0, none⟩) t787.length co100, .slice Ao128 x794001_95.length co128] 25 (0, 0)) (by refine bx_ ?_; refine blk_far ?_ (by have h_ := Kd.R_ne HO_794000.out BK793.out (by decide); intro e_; exact h_ (by rw [e_]; rfl)) _; refine bx_ ?_; refine blk_far ?_ (by have h_ := Kd.R_ne HO_794000.out BK793.out (by decide); intro e_; exact h_ (by rw [e_]; rfl)) _; refine bx_ ?_; exact BK793.out) hb); replace HO_794000 := Aside0.mk (Kd.R_below (by (with_reducible repeat (first | apply Kd.R_alloc | apply Kd.R_drewN | apply Kd.R_drew)); exact HQ125.out) hb); replace HB := Aside0.mk (below_step (by repeat (first | (with_reducible first | exact HB.out | apply below_alloc | apply pw_below_drewN | apply below_drew1 | refine below_set ?_ GB117.out | refine below_set ?_ GB117.out | refine below_set ?_ GE769.out | refine below_set ?_ GE793.out) | exact HB.out)) hb); (try clear hb); (try clear hb2); (try clear hk); (try clear hi)))
                         go_ret
                         exact ⟨rf_, be2_ HB GE769 GE793⟩
                        ·rw [if_neg c122] at H
                         have c122b0 : decide (t802 < 0) = false := decide_eq_false c122
                         clear c122
                         obtain rfl := Option.some.inj H
                         try go_wp2
                         replace HO_794000 := Aside0.mk (Kd.R_drew HO_794000.out)
                         replace HO_794001 := Aside0.mk (Kd.R_drew HO_794001.out)
                         replace BK769 := Aside0.mk (blk_drew BK769.out)
                         replace BK793 := Aside0.mk (blk_drew BK793.out)
                         replace HB := Aside0.mk (below_drew1 HB.out)
                         refine start_ (n := 7) (S := fun w' => w'.cell? ⟨gb793, 0, none⟩ = some (.slice Ao100 t787.length co100) ∧ w'.cell? ⟨gb793, 1, none⟩ = some (u794001)) (ds := [6]) (bm_ 7 0) (by kernel_rfl) rfl rfl ⟨bc_ BK793 0, bc_ BK793 1⟩ (fun hHeld => ?_)
                         generalize wc.drew = w130 at HO_794000 HO_794001 BK769 BK793 HB hHeld ⊢
                         refine pure_ (i := 0) (N := some 209) (v := ?_) (a' := ?_) (bm_ 7 1) rfl rfl (by kernel_rfl) (fun _ _ _ h => h) (Or.inl ⟨by rfl, ?_⟩) ?_ ?_
                         rotate_left
                         ·intro w'
                          go_simp
                          with_reducible rfl
                         rotate_left
                         ·exact pt_
                         refine pure_ (i := 2) (N := some 211) (v := ?_) (a' := ?_) (bm_ 7 5) rfl rfl (by kernel_rfl) (fun _ _ _ h => h) (Or.inl ⟨by rfl, ?_⟩) ?_ ?_
                         rotate_left
                         ·intro w'
                          go_simp
                          with_reducible rfl
                         rotate_left
                         ·exact pt_
                         refine take_ (i := 1) (N := some 210) (v := ?_) (a' := ?_) (bm_ 7 7) rfl rfl (by kernel_rfl) (fun _ _ _ h => h) (Or.inl ⟨by rfl, ?_⟩) hHeld ?_ ?_
                         rotate_left
                         ·rintro w' ⟨s0, s1⟩
                          go_simp
                          with_reducible rfl
                         rotate_left
                         ·exact pt_
                         refine one_ (i := 3) (N := some 212) (bm_ 7 15) rfl rfl (by kernel_rfl) (by decide) (fun K hK => ?_)
                         refine goes_ Tryd.func32 (by kernel_rfl) rfl #[.int .i64 36000, .int .i64 36000] (by rfl) rfl rfl ls_ ?_
                         with_reducible refine (cottonpadlaw06_span.calls 36000 36000 t797 t798 _ A114.out).mono ?_
                         rintro e w131 ⟨rfl, hb⟩
                         refine ⟨_, rfl, ?_⟩
                         replace HO_794000 := rb_ HO_794000 hb
                         replace HO_794001 := rb_ HO_794001 hb
                         replace BK769 := bb_ BK769 hb
                         replace BK793 := bb_ BK793 hb
                         replace HB := bs2_ HB GE769 GE793 hb
                         (try clear hb)
                         (try clear hb2)
                         (try clear hk)
                         (try clear hi)
                         have p117 : 0 ≤ (t774 : Int) := of_decide_eq_true as_
                         have q117 : (t774 : Int) < ((t787.length : Int) : Int) := of_decide_eq_true as_
                         obtain ⟨go117, co117, eo117, gb117, gl117, cl117, HG117⟩ := Kd.R_form HO_794000.out (by omega)
                         (first | cases eo117 | (injection eo117 with ea_ en_ ec_; (first | subst ea_ | (injection ea_ with ea_; subst ea_)); subst ec_; clear en_))
                         have GB117 := Aside0.mk gb117
                         have GG117 := Aside0.mk HG117
                         clear gb117 gl117 HG117
                         obtain ⟨ce117, hcl117, hM117, hcc117, hfr117⟩ := Kd.R_elem HO_794000.out z62 (t774 : Int) p117 q117
                         obtain rfl := k62_openM hM117
                         have hx117_0 : World.cell? _ ⟨go117, (t774 : Int).toNat * 6, none⟩ = some (.int .i64 ((rd_T62 t787 t774).f0)) := hcc117 0 _ rfl
                         have hx117_1 : World.cell? _ ⟨go117, (t774 : Int).toNat * 6 + 1, none⟩ = some (.int .i64 ((rd_T62 t787 t774).f1)) := hcc117 1 _ rfl
                         have hx117_2 : World.cell? _ ⟨go117, (t774 : Int).toNat * 6 + 2, none⟩ = some (.int .i64 ((rd_T62 t787 t774).f2.f0)) := hcc117 2 _ rfl
                         have hx117_3 : World.cell? _ ⟨go117, (t774 : Int).toNat * 6 + 3, none⟩ = some (.int .i64 ((rd_T62 t787 t774).f2.f1)) := hcc117 3 _ rfl
                         have hx117_4 : World.cell? _ ⟨go117, (t774 : Int).toNat * 6 + 4, none⟩ = some (.int .i64 ((rd_T62 t787 t774).f3.f0)) := hcc117 4 _ rfl
                         have hx117_5 : World.cell? _ ⟨go117, (t774 : Int).toNat * 6 + 5, none⟩ = some (.int .i64 ((rd_T62 t787 t774).f3.f1)) := hcc117 5 _ rfl
                         have hf117_0 : World.frozen? _ ⟨go117, (t774 : Int).toNat * 6, none⟩ = false := hfr117 0
                         have hf117_1 : World.frozen? _ ⟨go117, (t774 : Int).toNat * 6 + 1, none⟩ = false := hfr117 1
                         have hf117_2 : World.frozen? _ ⟨go117, (t774 : Int).toNat * 6 + 2, none⟩ = false := hfr117 2
                         have hf117_3 : World.frozen? _ ⟨go117, (t774 : Int).toNat * 6 + 3, none⟩ = false := hfr117 3
                         have hf117_4 : World.frozen? _ ⟨go117, (t774 : Int).toNat * 6 + 4, none⟩ = false := hfr117 4
                         have hf117_5 : World.frozen? _ ⟨go117, (t774 : Int).toNat * 6 + 5, none⟩ = false := hfr117 5
                         clear hcl117 hcc117 hfr117 hM117
                         replace p117 := eq_true p117
                         replace q117 := eq_true q117
                         obtain ⟨ce132, hcl132, hM132, hcc132, hfr132⟩ := Kd.R_elem HO_794000.out z62 (t774 : Int) (of_decide_eq_true as_) (by have h_ : (t774 : Int) < ((t787.length : Int) : Int) := of_decide_eq_true as_; first | exact h_ | (have e_ := (Kd.R_reads' HO_794000.out).1; omega) | simpa using h_)
                         obtain rfl := k62_openM hM132
                         have HP132 := (Kd.R_seg HO_794000.out (t774 : Int) (of_decide_eq_true as_) (by have h_ : (t774 : Int) < ((t787.length : Int) : Int) := of_decide_eq_true as_; first | exact h_ | (have e_ := (Kd.R_reads' HO_794000.out).1; omega) | simpa using h_) (seg := [.int .i64 t797, .int .i64 t798]) (j := 4) hcl132 hcc132 (show 6 ≤ 6 from by decide) (x' := (⟨(rd_T62 t787 t774).f0, (rd_T62 t787 t774).f1, (⟨(rd_T62 t787 t774).f2.f0, (rd_T62 t787 t774).f2.f1⟩ : S36), (⟨t797, t798⟩ : S36)⟩ : S62)) (k62_mkM _ _ _ (⟨(rd_T62 t787 t774).f0, (rd_T62 t787 t774).f1, (⟨(rd_T62 t787 t774).f2.f0, (rd_T62 t787 t774).f2.f1⟩ : S36), (⟨t797, t798⟩ : S36)⟩ : S62) ) (fun _ hk => hk)).1
                         rw [← Ny799.out] at HP132
                         have HQ132 := Aside0.mk HP132
                         clear hcl132 hcc132 hfr132 hM132 HP132
                         refine hK.out _ _ ⟨bc_ BK793 0, bc_ BK793 1⟩ (fun hHeld => ?_)
                         clear hK K
                         refine norm_ (a' := ?_) ?_ ?_
                         rotate_left
                         ·show Act.put _ (some 212) _ = _
                          simp only [Act.put, List.setIfInBounds_toArray, List.set_cons_zero, List.set_cons_succ, i64_w, i32_w]
                          rfl
                         refine pure_ (i := 4) (N := some 213) (v := ?_) (a' := ?_) (bm_ 7 31) rfl rfl (by kernel_rfl) (fun _ _ _ h => h) (Or.inl ⟨by rfl, ?_⟩) ?_ ?_
                         rotate_left
                         ·intro w'
                          go_simp
                          with_reducible rfl
                         rotate_left
                         ·exact pt_
                         refine pure_ (i := 5) (N := some 214) (v := ?_) (a' := ?_) (bm_ 7 63) rfl rfl (by kernel_rfl) (fun _ _ _ h => h) (Or.inl ⟨by rfl, ?_⟩) ?_ ?_
                         rotate_left
                         ·intro w'
                          go_simp
                          with_reducible rfl
                         rotate_left
                         ·exact pt_
                         refine last_ (i := 6) (N := none) (bm_ 7 127) rfl rfl (by kernel_rfl) (by decide) (fun K hK => ?_)
                         refine skip_ (w1 := ?_) (by rfl) rfl ?_ ?_
                         rotate_left
                         ·go_simp
                          rfl
                         refine hK.out _ _ ?_
                         clear hK K
                         refine done_ (by kernel_rfl) ?_
                         have hnb133 := NB793_769.out
                         have hnc133 := NB769_793.out
                         have hcz134_0 : w131.cell? ⟨gb793, 0, none⟩ = some (.slice (some ⟨go117, 0, none⟩) t787.length co100) := bc_ BK793 0
                         have hcz134_1 : w131.cell? ⟨gb793, 1, none⟩ = some (u794001) := bc_ BK793 1
                         have hfz134_0 := blk_frozen BK793.out 0
                         have hfz134_1 := blk_frozen BK793.out 1
                         obtain ⟨Ao135, co135, eo135⟩ := Kd.R_slice HO_794001.out
                         subst eo135
                         try go_wp2_with (first | ((with_reducible refine gate_callee (f := 26) rfl ?_); refine goesL_ (some 218) rfl rfl Tryd.func26 (by kernel_rfl) rfl #[.agg #[.slice (some ⟨go117, 0, none⟩) y799.length co100, .slice Ao135 x794001_95.length co135], .slice A1 l1.length c1] rfl (by (try simp only [List.map_toArray, List.map_cons, List.map_nil]); first | done | (rw [show y799.length = t787.length from (Kd.R_reads' HQ132.out).1.symm] <;> rfl) | rfl | (simp only [List.length_drop, List.length_take]; rfl)) ?_; (with_reducible refine (exits_Safe.calls _ _ y799 _ _ x794001_95 _ _ l1 t800 t801 t802 t803 _ ?side7 ?side1 ?side2 ?side3 ?side4 ?side5 ?side6 A118.out).mono ?_); (case side1 => refine (Kd.R_reads' (e := 62) (base := w.heap.size) (ok := fun k_ => True) (n := t787.length) (c := co100) ?_).2.2; exact (by (with_reducible repeat (first | apply Kd.R_alloc | apply Kd.R_drewN | apply Kd.R_drew)); exact HQ132.out)); (case side2 => rw [show y799.length = t787.length from (Kd.R_reads' HQ132.out).1.symm]; exact (Kd.R_reads' HO_794000.out).2.1); (case side3 => refine (Kd.R_reads' (e := 81) (base := w.heap.size) (ok := fun k_ => True) (n := x794001_95.length) (c := co135) ?_).2.2; exact (by (with_reducible repeat (first | apply Kd.R_alloc | apply Kd.R_drewN | apply Kd.R_drew)); exact (Kd.R_mono (Kd.R_far (p := ⟨go117, (t774 : Int).toNat * 6 + 5, none⟩) (Kd.R_far (p := ⟨go117, (t774 : Int).toNat * 6 + 4, none⟩) (Kd.R_types HO_794001.out GG117.out (by decide)) (fun _ hk => hk.2) (.int .i64 t797)) (fun _ hk => hk.2) (.int .i64 t798)) (fun _ h_ => h_.1)))); (case side4 => exact (Kd.R_reads' HO_794001.out).2.1); (case side5 => exact Kd.C_below HR1.out (by repeat (first | (with_reducible first | exact HB.out | apply below_alloc | apply pw_below_drewN | apply below_drew1 | refine below_set ?_ GB117.out | refine below_set ?_ GB117.out | refine below_set ?_ GE769.out | refine below_set ?_ GE793.out) | exact HB.out))); (case side6 => exact HC1.out); (case side7 => exact Globs.below HG.out (by repeat (first | (with_reducible first | exact HB.out | apply below_alloc | apply pw_below_drewN | apply below_drew1 | refine below_set ?_ GB117.out | refine below_set ?_ GB117.out | refine below_set ?_ GE769.out | refine below_set ?_ GE793.out) | exact HB.out))); rintro e w136 ⟨rfl, hb⟩; refine ⟨_, rfl, ?_⟩; replace HO_794001 := Aside0.mk (Kd.R_below (by (with_reducible repeat (first | apply Kd.R_alloc | apply Kd.R_drewN | apply Kd.R_drew)); exact (Kd.R_mono (Kd.R_far (p := ⟨go117, (t774 : Int).toNat * 6 + 5, none⟩) (Kd.R_far (p := ⟨go117, (t774 : Int).toNat * 6 + 4, none⟩) (Kd.R_types HO_794001.out GG117.out (by decide)) (fun _ hk => hk.2) (.int .i64 t797)) (fun _ hk => hk.2) (.int .i64 t798)) (fun _ h_ => h_.1))) hb); replace BK769 := Aside0.mk (blk_below (g := gb769) (o := .cells #[.slice A0_0 l0_0.length c0_0, .slice A0_1 l0_1.length c0_1] 25 (0, 0)) (by refine bx_ ?_; refine blk_far ?_ (by have h_ := Kd.R_ne HO_794000.out BK769.out (by decide); intro e_; exact h_ (by rw [e_]; rfl)) _; refine bx_ ?_; refine blk_far ?_ (by have h_ := Kd.R_ne HO_794000.out BK769.out (by decide); intro e_; exact h_ (by rw [e_]; rfl)) _; refine bx_ ?_; exact BK769.out) hb); replace BK793 := Aside0.mk (blk_below (g := gb793) (o := .cells #[.slice (some ⟨go117, 0, none⟩) t787.length co100, .slice Ao135 x794001_95.length co135] 25 (0, 0)) (by refine bx_ ?_; refine blk_far ?_ (by have h_ := Kd.R_ne HO_794000.out BK793.out (by decide); intro e_; exact h_ (by rw [e_]; rfl)) _; refine bx_ ?_; refine blk_far ?_ (by have h_ := Kd.R_ne HO_794000.out BK793.out (by decide); intro e_; exact h_ (by rw [e_]; rfl)) _; refine bx_ ?_; exact BK793.out) hb); replace HO_794000 := Aside0.mk (Kd.R_below (by (with_reducible repeat (first | apply Kd.R_alloc | apply Kd.R_drewN | apply Kd.R_drew)); exact HQ132.out) hb); replace HB := Aside0.mk (below_step (by repeat (first | (with_reducible first | exact HB.out | apply below_alloc | apply pw_below_drewN | apply below_drew1 | refine below_set ?_ GB117.out | refine below_set ?_ GB117.out | refine below_set ?_ GE769.out | refine below_set ?_ GE793.out) | exact HB.out)) hb); (try clear hb); (try clear hb2); (try clear hk); (try clear hi)))
                         go_ret
                         exact ⟨rf_, be2_ HB GE769 GE793⟩
                       ·rw [if_neg c121] at H
                        have c121b0 : decide (t801 < 0) = false := decide_eq_false c121
                        clear c121
                        by_cases c137 : t801 > t773
                        ·rw [if_pos c137] at H
                         have c137b0 : decide (t773 < t801) = true := decide_eq_true c137
                         clear c137
                         by_cases c138 : t802 < 0
                         ·rw [if_pos c138] at H
                          have c138b0 : decide (t802 < 0) = true := decide_eq_true c138
                          clear c138
                          obtain rfl := Option.some.inj H
                          try go_wp2
                          replace HO_794000 := Aside0.mk (Kd.R_drew HO_794000.out)
                          replace HO_794001 := Aside0.mk (Kd.R_drew HO_794001.out)
                          replace BK769 := Aside0.mk (blk_drew BK769.out)
                          replace BK793 := Aside0.mk (blk_drew BK793.out)
                          replace HB := Aside0.mk (below_drew1 HB.out)
                          refine start_ (n := 7) (S := fun w' => w'.cell? ⟨gb793, 0, none⟩ = some (.slice Ao100 t787.length co100) ∧ w'.cell? ⟨gb793, 1, none⟩ = some (u794001)) (ds := [6]) (bm_ 7 0) (by kernel_rfl) rfl rfl ⟨bc_ BK793 0, bc_ BK793 1⟩ (fun hHeld => ?_)
                          generalize wc.drew = w139 at HO_794000 HO_794001 BK769 BK793 HB hHeld ⊢
                          refine pure_ (i := 0) (N := some 209) (v := ?_) (a' := ?_) (bm_ 7 1) rfl rfl (by kernel_rfl) (fun _ _ _ h => h) (Or.inl ⟨by rfl, ?_⟩) ?_ ?_
                          rotate_left
                          ·intro w'
                           go_simp
                           with_reducible rfl
                          rotate_left
                          ·exact pt_
                          refine pure_ (i := 2) (N := some 211) (v := ?_) (a' := ?_) (bm_ 7 5) rfl rfl (by kernel_rfl) (fun _ _ _ h => h) (Or.inl ⟨by rfl, ?_⟩) ?_ ?_
                          rotate_left
                          ·intro w'
                           go_simp
                           with_reducible rfl
                          rotate_left
                          ·exact pt_
                          refine take_ (i := 1) (N := some 210) (v := ?_) (a' := ?_) (bm_ 7 7) rfl rfl (by kernel_rfl) (fun _ _ _ h => h) (Or.inl ⟨by rfl, ?_⟩) hHeld ?_ ?_
                          rotate_left
                          ·rintro w' ⟨s0, s1⟩
                           go_simp
                           with_reducible rfl
                          rotate_left
                          ·exact pt_
                          refine one_ (i := 3) (N := some 212) (bm_ 7 15) rfl rfl (by kernel_rfl) (by decide) (fun K hK => ?_)
                          refine goes_ Tryd.func32 (by kernel_rfl) rfl #[.int .i64 36000, .int .i64 36000] (by rfl) rfl rfl ls_ ?_
                          with_reducible refine (cottonpadlaw06_span.calls 36000 36000 t797 t798 _ A114.out).mono ?_
                          rintro e w140 ⟨rfl, hb⟩
                          refine ⟨_, rfl, ?_⟩
                          replace HO_794000 := rb_ HO_794000 hb
                          replace HO_794001 := rb_ HO_794001 hb
                          replace BK769 := bb_ BK769 hb
                          replace BK793 := bb_ BK793 hb
                          replace HB := bs2_ HB GE769 GE793 hb
                          (try clear hb)
                          (try clear hb2)
                          (try clear hk)
                          (try clear hi)
                          have p117 : 0 ≤ (t774 : Int) := of_decide_eq_true as_
                          have q117 : (t774 : Int) < ((t787.length : Int) : Int) := of_decide_eq_true as_
                          obtain ⟨go117, co117, eo117, gb117, gl117, cl117, HG117⟩ := Kd.R_form HO_794000.out (by omega)
                          (first | cases eo117 | (injection eo117 with ea_ en_ ec_; (first | subst ea_ | (injection ea_ with ea_; subst ea_)); subst ec_; clear en_))
                          have GB117 := Aside0.mk gb117
                          have GG117 := Aside0.mk HG117
                          clear gb117 gl117 HG117
                          obtain ⟨ce117, hcl117, hM117, hcc117, hfr117⟩ := Kd.R_elem HO_794000.out z62 (t774 : Int) p117 q117
                          obtain rfl := k62_openM hM117
                          have hx117_0 : World.cell? _ ⟨go117, (t774 : Int).toNat * 6, none⟩ = some (.int .i64 ((rd_T62 t787 t774).f0)) := hcc117 0 _ rfl
                          have hx117_1 : World.cell? _ ⟨go117, (t774 : Int).toNat * 6 + 1, none⟩ = some (.int .i64 ((rd_T62 t787 t774).f1)) := hcc117 1 _ rfl
                          have hx117_2 : World.cell? _ ⟨go117, (t774 : Int).toNat * 6 + 2, none⟩ = some (.int .i64 ((rd_T62 t787 t774).f2.f0)) := hcc117 2 _ rfl
                          have hx117_3 : World.cell? _ ⟨go117, (t774 : Int).toNat * 6 + 3, none⟩ = some (.int .i64 ((rd_T62 t787 t774).f2.f1)) := hcc117 3 _ rfl
                          have hx117_4 : World.cell? _ ⟨go117, (t774 : Int).toNat * 6 + 4, none⟩ = some (.int .i64 ((rd_T62 t787 t774).f3.f0)) := hcc117 4 _ rfl
                          have hx117_5 : World.cell? _ ⟨go117, (t774 : Int).toNat * 6 + 5, none⟩ = some (.int .i64 ((rd_T62 t787 t774).f3.f1)) := hcc117 5 _ rfl
                          have hf117_0 : World.frozen? _ ⟨go117, (t774 : Int).toNat * 6, none⟩ = false := hfr117 0
                          have hf117_1 : World.frozen? _ ⟨go117, (t774 : Int).toNat * 6 + 1, none⟩ = false := hfr117 1
                          have hf117_2 : World.frozen? _ ⟨go117, (t774 : Int).toNat * 6 + 2, none⟩ = false := hfr117 2
                          have hf117_3 : World.frozen? _ ⟨go117, (t774 : Int).toNat * 6 + 3, none⟩ = false := hfr117 3
                          have hf117_4 : World.frozen? _ ⟨go117, (t774 : Int).toNat * 6 + 4, none⟩ = false := hfr117 4
                          have hf117_5 : World.frozen? _ ⟨go117, (t774 : Int).toNat * 6 + 5, none⟩ = false := hfr117 5
                          clear hcl117 hcc117 hfr117 hM117
                          replace p117 := eq_true p117
                          replace q117 := eq_true q117
                          obtain ⟨ce141, hcl141, hM141, hcc141, hfr141⟩ := Kd.R_elem HO_794000.out z62 (t774 : Int) (of_decide_eq_true as_) (by have h_ : (t774 : Int) < ((t787.length : Int) : Int) := of_decide_eq_true as_; first | exact h_ | (have e_ := (Kd.R_reads' HO_794000.out).1; omega) | simpa using h_)
                          obtain rfl := k62_openM hM141
                          have HP141 := (Kd.R_seg HO_794000.out (t774 : Int) (of_decide_eq_true as_) (by have h_ : (t774 : Int) < ((t787.length : Int) : Int) := of_decide_eq_true as_; first | exact h_ | (have e_ := (Kd.R_reads' HO_794000.out).1; omega) | simpa using h_) (seg := [.int .i64 t797, .int .i64 t798]) (j := 4) hcl141 hcc141 (show 6 ≤ 6 from by decide) (x' := (⟨(rd_T62 t787 t774).f0, (rd_T62 t787 t774).f1, (⟨(rd_T62 t787 t774).f2.f0, (rd_T62 t787 t774).f2.f1⟩ : S36), (⟨t797, t798⟩ : S36)⟩ : S62)) (k62_mkM _ _ _ (⟨(rd_T62 t787 t774).f0, (rd_T62 t787 t774).f1, (⟨(rd_T62 t787 t774).f2.f0, (rd_T62 t787 t774).f2.f1⟩ : S36), (⟨t797, t798⟩ : S36)⟩ : S62) ) (fun _ hk => hk)).1
                          rw [← Ny799.out] at HP141
                          have HQ141 := Aside0.mk HP141
                          clear hcl141 hcc141 hfr141 hM141 HP141
                          refine hK.out _ _ ⟨bc_ BK793 0, bc_ BK793 1⟩ (fun hHeld => ?_)
                          clear hK K
                          refine norm_ (a' := ?_) ?_ ?_
                          rotate_left
                          ·show Act.put _ (some 212) _ = _
                           simp only [Act.put, List.setIfInBounds_toArray, List.set_cons_zero, List.set_cons_succ, i64_w, i32_w]
                           rfl
                          refine pure_ (i := 4) (N := some 213) (v := ?_) (a' := ?_) (bm_ 7 31) rfl rfl (by kernel_rfl) (fun _ _ _ h => h) (Or.inl ⟨by rfl, ?_⟩) ?_ ?_
                          rotate_left
                          ·intro w'
                           go_simp
                           with_reducible rfl
                          rotate_left
                          ·exact pt_
                          refine pure_ (i := 5) (N := some 214) (v := ?_) (a' := ?_) (bm_ 7 63) rfl rfl (by kernel_rfl) (fun _ _ _ h => h) (Or.inl ⟨by rfl, ?_⟩) ?_ ?_
                          rotate_left
                          ·intro w'
                           go_simp
                           with_reducible rfl
                          rotate_left
                          ·exact pt_
                          refine last_ (i := 6) (N := none) (bm_ 7 127) rfl rfl (by kernel_rfl) (by decide) (fun K hK => ?_)
                          refine skip_ (w1 := ?_) (by rfl) rfl ?_ ?_
                          rotate_left
                          ·go_simp
                           rfl
                          refine hK.out _ _ ?_
                          clear hK K
                          refine done_ (by kernel_rfl) ?_
                          have hnb142 := NB793_769.out
                          have hnc142 := NB769_793.out
                          have hcz143_0 : w140.cell? ⟨gb793, 0, none⟩ = some (.slice (some ⟨go117, 0, none⟩) t787.length co100) := bc_ BK793 0
                          have hcz143_1 : w140.cell? ⟨gb793, 1, none⟩ = some (u794001) := bc_ BK793 1
                          have hfz143_0 := blk_frozen BK793.out 0
                          have hfz143_1 := blk_frozen BK793.out 1
                          obtain ⟨Ao144, co144, eo144⟩ := Kd.R_slice HO_794001.out
                          subst eo144
                          try go_wp2_with (first | ((with_reducible refine gate_callee (f := 26) rfl ?_); refine goesL_ (some 218) rfl rfl Tryd.func26 (by kernel_rfl) rfl #[.agg #[.slice (some ⟨go117, 0, none⟩) y799.length co100, .slice Ao144 x794001_95.length co144], .slice A1 l1.length c1] rfl (by (try simp only [List.map_toArray, List.map_cons, List.map_nil]); first | done | (rw [show y799.length = t787.length from (Kd.R_reads' HQ141.out).1.symm] <;> rfl) | rfl | (simp only [List.length_drop, List.length_take]; rfl)) ?_; (with_reducible refine (exits_Safe.calls _ _ y799 _ _ x794001_95 _ _ l1 t800 t801 t802 t803 _ ?side7 ?side1 ?side2 ?side3 ?side4 ?side5 ?side6 A118.out).mono ?_); (case side1 => refine (Kd.R_reads' (e := 62) (base := w.heap.size) (ok := fun k_ => True) (n := t787.length) (c := co100) ?_).2.2; exact (by (with_reducible repeat (first | apply Kd.R_alloc | apply Kd.R_drewN | apply Kd.R_drew)); exact HQ141.out)); (case side2 => rw [show y799.length = t787.length from (Kd.R_reads' HQ141.out).1.symm]; exact (Kd.R_reads' HO_794000.out).2.1); (case side3 => refine (Kd.R_reads' (e := 81) (base := w.heap.size) (ok := fun k_ => True) (n := x794001_95.length) (c := co144) ?_).2.2; exact (by (with_reducible repeat (first | apply Kd.R_alloc | apply Kd.R_drewN | apply Kd.R_drew)); exact (Kd.R_mono (Kd.R_far (p := ⟨go117, (t774 : Int).toNat * 6 + 5, none⟩) (Kd.R_far (p := ⟨go117, (t774 : Int).toNat * 6 + 4, none⟩) (Kd.R_types HO_794001.out GG117.out (by decide)) (fun _ hk => hk.2) (.int .i64 t797)) (fun _ hk => hk.2) (.int .i64 t798)) (fun _ h_ => h_.1)))); (case side4 => exact (Kd.R_reads' HO_794001.out).2.1); (case side5 => exact Kd.C_below HR1.out (by repeat (first | (with_reducible first | exact HB.out | apply below_alloc | apply pw_below_drewN | apply below_drew1 | refine below_set ?_ GB117.out | refine below_set ?_ GB117.out | refine below_set ?_ GE769.out | refine below_set ?_ GE793.out) | exact HB.out))); (case side6 => exact HC1.out); (case side7 => exact Globs.below HG.out (by repeat (first | (with_reducible first | exact HB.out | apply below_alloc | apply pw_below_drewN | apply below_drew1 | refine below_set ?_ GB117.out | refine below_set ?_ GB117.out | refine below_set ?_ GE769.out | refine below_set ?_ GE793.out) | exact HB.out))); rintro e w145 ⟨rfl, hb⟩; refine ⟨_, rfl, ?_⟩; replace HO_794001 := Aside0.mk (Kd.R_below (by (with_reducible repeat (first | apply Kd.R_alloc | apply Kd.R_drewN | apply Kd.R_drew)); exact (Kd.R_mono (Kd.R_far (p := ⟨go117, (t774 : Int).toNat * 6 + 5, none⟩) (Kd.R_far (p := ⟨go117, (t774 : Int).toNat * 6 + 4, none⟩) (Kd.R_types HO_794001.out GG117.out (by decide)) (fun _ hk => hk.2) (.int .i64 t797)) (fun _ hk => hk.2) (.int .i64 t798)) (fun _ h_ => h_.1))) hb); replace BK769 := Aside0.mk (blk_below (g := gb769) (o := .cells #[.slice A0_0 l0_0.length c0_0, .slice A0_1 l0_1.length c0_1] 25 (0, 0)) (by refine bx_ ?_; refine blk_far ?_ (by have h_ := Kd.R_ne HO_794000.out BK769.out (by decide); intro e_; exact h_ (by rw [e_]; rfl)) _; refine bx_ ?_; refine blk_far ?_ (by have h_ := Kd.R_ne HO_794000.out BK769.out (by decide); intro e_; exact h_ (by rw [e_]; rfl)) _; refine bx_ ?_; exact BK769.out) hb); replace BK793 := Aside0.mk (blk_below (g := gb793) (o := .cells #[.slice (some ⟨go117, 0, none⟩) t787.length co100, .slice Ao144 x794001_95.length co144] 25 (0, 0)) (by refine bx_ ?_; refine blk_far ?_ (by have h_ := Kd.R_ne HO_794000.out BK793.out (by decide); intro e_; exact h_ (by rw [e_]; rfl)) _; refine bx_ ?_; refine blk_far ?_ (by have h_ := Kd.R_ne HO_794000.out BK793.out (by decide); intro e_; exact h_ (by rw [e_]; rfl)) _; refine bx_ ?_; exact BK793.out) hb); replace HO_794000 := Aside0.mk (Kd.R_below (by (with_reducible repeat (first | apply Kd.R_alloc | apply Kd.R_drewN | apply Kd.R_drew)); exact HQ141.out) hb); replace HB := Aside0.mk (below_step (by repeat (first | (with_reducible first | exact HB.out | apply below_alloc | apply pw_below_drewN | apply below_drew1 | refine below_set ?_ GB117.out | refine below_set ?_ GB117.out | refine below_set ?_ GE769.out | refine below_set ?_ GE793.out) | exact HB.out)) hb); (try clear hb); (try clear hb2); (try clear hk); (try clear hi)))
                          go_ret
                          exact ⟨rf_, be2_ HB GE769 GE793⟩
                         ·rw [if_neg c138] at H
                          have c138b0 : decide (t802 < 0) = false := decide_eq_false c138
                          clear c138
                          obtain rfl := Option.some.inj H
                          try go_wp2
                          replace HO_794000 := Aside0.mk (Kd.R_drew HO_794000.out)
                          replace HO_794001 := Aside0.mk (Kd.R_drew HO_794001.out)
                          replace BK769 := Aside0.mk (blk_drew BK769.out)
                          replace BK793 := Aside0.mk (blk_drew BK793.out)
                          replace HB := Aside0.mk (below_drew1 HB.out)
                          refine start_ (n := 7) (S := fun w' => w'.cell? ⟨gb793, 0, none⟩ = some (.slice Ao100 t787.length co100) ∧ w'.cell? ⟨gb793, 1, none⟩ = some (u794001)) (ds := [6]) (bm_ 7 0) (by kernel_rfl) rfl rfl ⟨bc_ BK793 0, bc_ BK793 1⟩ (fun hHeld => ?_)
                          generalize wc.drew = w146 at HO_794000 HO_794001 BK769 BK793 HB hHeld ⊢
                          refine pure_ (i := 0) (N := some 209) (v := ?_) (a' := ?_) (bm_ 7 1) rfl rfl (by kernel_rfl) (fun _ _ _ h => h) (Or.inl ⟨by rfl, ?_⟩) ?_ ?_
                          rotate_left
                          ·intro w'
                           go_simp
                           with_reducible rfl
                          rotate_left
                          ·exact pt_
                          refine pure_ (i := 2) (N := some 211) (v := ?_) (a' := ?_) (bm_ 7 5) rfl rfl (by kernel_rfl) (fun _ _ _ h => h) (Or.inl ⟨by rfl, ?_⟩) ?_ ?_
                          rotate_left
                          ·intro w'
                           go_simp
                           with_reducible rfl
                          rotate_left
                          ·exact pt_
                          refine take_ (i := 1) (N := some 210) (v := ?_) (a' := ?_) (bm_ 7 7) rfl rfl (by kernel_rfl) (fun _ _ _ h => h) (Or.inl ⟨by rfl, ?_⟩) hHeld ?_ ?_
                          rotate_left
                          ·rintro w' ⟨s0, s1⟩
                           go_simp
                           with_reducible rfl
                          rotate_left
                          ·exact pt_
                          refine one_ (i := 3) (N := some 212) (bm_ 7 15) rfl rfl (by kernel_rfl) (by decide) (fun K hK => ?_)
                          refine goes_ Tryd.func32 (by kernel_rfl) rfl #[.int .i64 36000, .int .i64 36000] (by rfl) rfl rfl ls_ ?_
                          with_reducible refine (cottonpadlaw06_span.calls 36000 36000 t797 t798 _ A114.out).mono ?_
                          rintro e w147 ⟨rfl, hb⟩
                          refine ⟨_, rfl, ?_⟩
                          replace HO_794000 := rb_ HO_794000 hb
                          replace HO_794001 := rb_ HO_794001 hb
                          replace BK769 := bb_ BK769 hb
                          replace BK793 := bb_ BK793 hb
                          replace HB := bs2_ HB GE769 GE793 hb
                          (try clear hb)
                          (try clear hb2)
                          (try clear hk)
                          (try clear hi)
                          have p117 : 0 ≤ (t774 : Int) := of_decide_eq_true as_
                          have q117 : (t774 : Int) < ((t787.length : Int) : Int) := of_decide_eq_true as_
                          obtain ⟨go117, co117, eo117, gb117, gl117, cl117, HG117⟩ := Kd.R_form HO_794000.out (by omega)
                          (first | cases eo117 | (injection eo117 with ea_ en_ ec_; (first | subst ea_ | (injection ea_ with ea_; subst ea_)); subst ec_; clear en_))
                          have GB117 := Aside0.mk gb117
                          have GG117 := Aside0.mk HG117
                          clear gb117 gl117 HG117
                          obtain ⟨ce117, hcl117, hM117, hcc117, hfr117⟩ := Kd.R_elem HO_794000.out z62 (t774 : Int) p117 q117
                          obtain rfl := k62_openM hM117
                          have hx117_0 : World.cell? _ ⟨go117, (t774 : Int).toNat * 6, none⟩ = some (.int .i64 ((rd_T62 t787 t774).f0)) := hcc117 0 _ rfl
                          have hx117_1 : World.cell? _ ⟨go117, (t774 : Int).toNat * 6 + 1, none⟩ = some (.int .i64 ((rd_T62 t787 t774).f1)) := hcc117 1 _ rfl
                          have hx117_2 : World.cell? _ ⟨go117, (t774 : Int).toNat * 6 + 2, none⟩ = some (.int .i64 ((rd_T62 t787 t774).f2.f0)) := hcc117 2 _ rfl
                          have hx117_3 : World.cell? _ ⟨go117, (t774 : Int).toNat * 6 + 3, none⟩ = some (.int .i64 ((rd_T62 t787 t774).f2.f1)) := hcc117 3 _ rfl
                          have hx117_4 : World.cell? _ ⟨go117, (t774 : Int).toNat * 6 + 4, none⟩ = some (.int .i64 ((rd_T62 t787 t774).f3.f0)) := hcc117 4 _ rfl
                          have hx117_5 : World.cell? _ ⟨go117, (t774 : Int).toNat * 6 + 5, none⟩ = some (.int .i64 ((rd_T62 t787 t774).f3.f1)) := hcc117 5 _ rfl
                          have hf117_0 : World.frozen? _ ⟨go117, (t774 : Int).toNat * 6, none⟩ = false := hfr117 0
                          have hf117_1 : World.frozen? _ ⟨go117, (t774 : Int).toNat * 6 + 1, none⟩ = false := hfr117 1
                          have hf117_2 : World.frozen? _ ⟨go117, (t774 : Int).toNat * 6 + 2, none⟩ = false := hfr117 2
                          have hf117_3 : World.frozen? _ ⟨go117, (t774 : Int).toNat * 6 + 3, none⟩ = false := hfr117 3
                          have hf117_4 : World.frozen? _ ⟨go117, (t774 : Int).toNat * 6 + 4, none⟩ = false := hfr117 4
                          have hf117_5 : World.frozen? _ ⟨go117, (t774 : Int).toNat * 6 + 5, none⟩ = false := hfr117 5
                          clear hcl117 hcc117 hfr117 hM117
                          replace p117 := eq_true p117
                          replace q117 := eq_true q117
                          obtain ⟨ce148, hcl148, hM148, hcc148, hfr148⟩ := Kd.R_elem HO_794000.out z62 (t774 : Int) (of_decide_eq_true as_) (by have h_ : (t774 : Int) < ((t787.length : Int) : Int) := of_decide_eq_true as_; first | exact h_ | (have e_ := (Kd.R_reads' HO_794000.out).1; omega) | simpa using h_)
                          obtain rfl := k62_openM hM148
                          have HP148 := (Kd.R_seg HO_794000.out (t774 : Int) (of_decide_eq_true as_) (by have h_ : (t774 : Int) < ((t787.length : Int) : Int) := of_decide_eq_true as_; first | exact h_ | (have e_ := (Kd.R_reads' HO_794000.out).1; omega) | simpa using h_) (seg := [.int .i64 t797, .int .i64 t798]) (j := 4) hcl148 hcc148 (show 6 ≤ 6 from by decide) (x' := (⟨(rd_T62 t787 t774).f0, (rd_T62 t787 t774).f1, (⟨(rd_T62 t787 t774).f2.f0, (rd_T62 t787 t774).f2.f1⟩ : S36), (⟨t797, t798⟩ : S36)⟩ : S62)) (k62_mkM _ _ _ (⟨(rd_T62 t787 t774).f0, (rd_T62 t787 t774).f1, (⟨(rd_T62 t787 t774).f2.f0, (rd_T62 t787 t774).f2.f1⟩ : S36), (⟨t797, t798⟩ : S36)⟩ : S62) ) (fun _ hk => hk)).1
                          rw [← Ny799.out] at HP148
                          have HQ148 := Aside0.mk HP148
                          clear hcl148 hcc148 hfr148 hM148 HP148
                          refine hK.out _ _ ⟨bc_ BK793 0, bc_ BK793 1⟩ (fun hHeld => ?_)
                          clear hK K
                          refine norm_ (a' := ?_) ?_ ?_
                          rotate_left
                          ·show Act.put _ (some 212) _ = _
                           simp only [Act.put, List.setIfInBounds_toArray, List.set_cons_zero, List.set_cons_succ, i64_w, i32_w]
                           rfl
                          refine pure_ (i := 4) (N := some 213) (v := ?_) (a' := ?_) (bm_ 7 31) rfl rfl (by kernel_rfl) (fun _ _ _ h => h) (Or.inl ⟨by rfl, ?_⟩) ?_ ?_
                          rotate_left
                          ·intro w'
                           go_simp
                           with_reducible rfl
                          rotate_left
                          ·exact pt_
                          refine pure_ (i := 5) (N := some 214) (v := ?_) (a' := ?_) (bm_ 7 63) rfl rfl (by kernel_rfl) (fun _ _ _ h => h) (Or.inl ⟨by rfl, ?_⟩) ?_ ?_
                          rotate_left
                          ·intro w'
                           go_simp
                           with_reducible rfl
                          rotate_left
                          ·exact pt_
                          refine last_ (i := 6) (N := none) (bm_ 7 127) rfl rfl (by kernel_rfl) (by decide) (fun K hK => ?_)
                          refine skip_ (w1 := ?_) (by rfl) rfl ?_ ?_
                          rotate_left
                          ·go_simp
                           rfl
                          refine hK.out _ _ ?_
                          clear hK K
                          refine done_ (by kernel_rfl) ?_
                          have hnb149 := NB793_769.out
                          have hnc149 := NB769_793.out
                          have hcz150_0 : w147.cell? ⟨gb793, 0, none⟩ = some (.slice (some ⟨go117, 0, none⟩) t787.length co100) := bc_ BK793 0
                          have hcz150_1 : w147.cell? ⟨gb793, 1, none⟩ = some (u794001) := bc_ BK793 1
                          have hfz150_0 := blk_frozen BK793.out 0
                          have hfz150_1 := blk_frozen BK793.out 1
                          obtain ⟨Ao151, co151, eo151⟩ := Kd.R_slice HO_794001.out
                          subst eo151
                          try go_wp2_with (first | ((with_reducible refine gate_callee (f := 26) rfl ?_); refine goesL_ (some 218) rfl rfl Tryd.func26 (by kernel_rfl) rfl #[.agg #[.slice (some ⟨go117, 0, none⟩) y799.length co100, .slice Ao151 x794001_95.length co151], .slice A1 l1.length c1] rfl (by (try simp only [List.map_toArray, List.map_cons, List.map_nil]); first | done | (rw [show y799.length = t787.length from (Kd.R_reads' HQ148.out).1.symm] <;> rfl) | rfl | (simp only [List.length_drop, List.length_take]; rfl)) ?_; (with_reducible refine (exits_Safe.calls _ _ y799 _ _ x794001_95 _ _ l1 t800 t801 t802 t803 _ ?side7 ?side1 ?side2 ?side3 ?side4 ?side5 ?side6 A118.out).mono ?_); (case side1 => refine (Kd.R_reads' (e := 62) (base := w.heap.size) (ok := fun k_ => True) (n := t787.length) (c := co100) ?_).2.2; exact (by (with_reducible repeat (first | apply Kd.R_alloc | apply Kd.R_drewN | apply Kd.R_drew)); exact HQ148.out)); (case side2 => rw [show y799.length = t787.length from (Kd.R_reads' HQ148.out).1.symm]; exact (Kd.R_reads' HO_794000.out).2.1); (case side3 => refine (Kd.R_reads' (e := 81) (base := w.heap.size) (ok := fun k_ => True) (n := x794001_95.length) (c := co151) ?_).2.2; exact (by (with_reducible repeat (first | apply Kd.R_alloc | apply Kd.R_drewN | apply Kd.R_drew)); exact (Kd.R_mono (Kd.R_far (p := ⟨go117, (t774 : Int).toNat * 6 + 5, none⟩) (Kd.R_far (p := ⟨go117, (t774 : Int).toNat * 6 + 4, none⟩) (Kd.R_types HO_794001.out GG117.out (by decide)) (fun _ hk => hk.2) (.int .i64 t797)) (fun _ hk => hk.2) (.int .i64 t798)) (fun _ h_ => h_.1)))); (case side4 => exact (Kd.R_reads' HO_794001.out).2.1); (case side5 => exact Kd.C_below HR1.out (by repeat (first | (with_reducible first | exact HB.out | apply below_alloc | apply pw_below_drewN | apply below_drew1 | refine below_set ?_ GB117.out | refine below_set ?_ GB117.out | refine below_set ?_ GE769.out | refine below_set ?_ GE793.out) | exact HB.out))); (case side6 => exact HC1.out); (case side7 => exact Globs.below HG.out (by repeat (first | (with_reducible first | exact HB.out | apply below_alloc | apply pw_below_drewN | apply below_drew1 | refine below_set ?_ GB117.out | refine below_set ?_ GB117.out | refine below_set ?_ GE769.out | refine below_set ?_ GE793.out) | exact HB.out))); rintro e w152 ⟨rfl, hb⟩; refine ⟨_, rfl, ?_⟩; replace HO_794001 := Aside0.mk (Kd.R_below (by (with_reducible repeat (first | apply Kd.R_alloc | apply Kd.R_drewN | apply Kd.R_drew)); exact (Kd.R_mono (Kd.R_far (p := ⟨go117, (t774 : Int).toNat * 6 + 5, none⟩) (Kd.R_far (p := ⟨go117, (t774 : Int).toNat * 6 + 4, none⟩) (Kd.R_types HO_794001.out GG117.out (by decide)) (fun _ hk => hk.2) (.int .i64 t797)) (fun _ hk => hk.2) (.int .i64 t798)) (fun _ h_ => h_.1))) hb); replace BK769 := Aside0.mk (blk_below (g := gb769) (o := .cells #[.slice A0_0 l0_0.length c0_0, .slice A0_1 l0_1.length c0_1] 25 (0, 0)) (by refine bx_ ?_; refine blk_far ?_ (by have h_ := Kd.R_ne HO_794000.out BK769.out (by decide); intro e_; exact h_ (by rw [e_]; rfl)) _; refine bx_ ?_; refine blk_far ?_ (by have h_ := Kd.R_ne HO_794000.out BK769.out (by decide); intro e_; exact h_ (by rw [e_]; rfl)) _; refine bx_ ?_; exact BK769.out) hb); replace BK793 := Aside0.mk (blk_below (g := gb793) (o := .cells #[.slice (some ⟨go117, 0, none⟩) t787.length co100, .slice Ao151 x794001_95.length co151] 25 (0, 0)) (by refine bx_ ?_; refine blk_far ?_ (by have h_ := Kd.R_ne HO_794000.out BK793.out (by decide); intro e_; exact h_ (by rw [e_]; rfl)) _; refine bx_ ?_; refine blk_far ?_ (by have h_ := Kd.R_ne HO_794000.out BK793.out (by decide); intro e_; exact h_ (by rw [e_]; rfl)) _; refine bx_ ?_; exact BK793.out) hb); replace HO_794000 := Aside0.mk (Kd.R_below (by (with_reducible repeat (first | apply Kd.R_alloc | apply Kd.R_drewN | apply Kd.R_drew)); exact HQ148.out) hb); replace HB := Aside0.mk (below_step (by repeat (first | (with_reducible first | exact HB.out | apply below_alloc | apply pw_below_drewN | apply below_drew1 | refine below_set ?_ GB117.out | refine below_set ?_ GB117.out | refine below_set ?_ GE769.out | refine below_set ?_ GE793.out) | exact HB.out)) hb); (try clear hb); (try clear hb2); (try clear hk); (try clear hi)))
                          go_ret
                          exact ⟨rf_, be2_ HB GE769 GE793⟩
                        ·rw [if_neg c137] at H
                         have c137b0 : decide (t773 < t801) = false := decide_eq_false c137
                         clear c137
                         exact absurd (H.trans (congrArg some HRT.out)) (by simp)
                      ·rw [if_neg c120] at H
                       have c120b0 : (t803 == 0) = false := beq_eq_false_iff_ne.mpr c120
                       have c120b1 : (t803 != 0) = true := bne_iff_ne.mpr c120
                       exact absurd (H.trans (congrArg some HRT.out)) (by simp)
                     ·replace c119 := Bool.eq_false_iff.mpr c119
                      subst c119
                      have H1 : (some false) = some r := by rw [if_neg (show ¬ (false = true) by decide)] at H; exact H
                      clear H
                      have H := H1
                      clear H1
                      exact absurd (H.trans (congrArg some HRT.out)) (by simp)
                    ·rw [if_neg c116] at H
                     exact absurd H (by simp)
                   ·rw [if_neg c115] at H
                    exact absurd H (by simp)
                  ·rw [if_neg c113] at H
                   have c113b0 : decide (0 ≤ t774) = false := decide_eq_false c113
                   clear c113
                   replace H := Option.bind_eq_some_iff.mp H
                   obtain ⟨⟨t804, t805, t806, t807⟩, A1530, H⟩ := H
                   replace H : (if t770 = true then (if t807 = 0 then (if t805 < 0 then (if t806 < 0 then (some true) else (some (decide (t806 > t774)))) else (if t805 > t773 then (if t806 < 0 then (some true) else (some (decide (t806 > t774)))) else (some false))) else (some false)) else (some false)) = some r := H
                   have A153 := Aside0.mk A1530
                   clear A1530
                   by_cases c154 : t770 = true
                   ·subst c154
                    have H1 : (if t807 = 0 then (if t805 < 0 then (if t806 < 0 then (some true) else (some (decide (t806 > t774)))) else (if t805 > t773 then (if t806 < 0 then (some true) else (some (decide (t806 > t774)))) else (some false))) else (some false)) = some r := by rw [if_pos rfl] at H; exact H
                    clear H
                    have H := H1
                    clear H1
                    by_cases c155 : t807 = 0
                    ·rw [if_pos c155] at H
                     have c155b0 : (t807 == 0) = true := beq_iff_eq.mpr c155
                     have c155b1 : (t807 != 0) = false := bne_eq_false_iff_eq.mpr c155
                     clear c155
                     by_cases c156 : t805 < 0
                     ·rw [if_pos c156] at H
                      have c156b0 : decide (t805 < 0) = true := decide_eq_true c156
                      clear c156
                      by_cases c157 : t806 < 0
                      ·rw [if_pos c157] at H
                       have c157b0 : decide (t806 < 0) = true := decide_eq_true c157
                       clear c157
                       obtain rfl := Option.some.inj H
                       have hnb158 := NB793_769.out
                       have hnc158 := NB769_793.out
                       have hcz159_0 : wc.cell? ⟨gb793, 0, none⟩ = some (.slice Ao100 t787.length co100) := bc_ BK793 0
                       have hcz159_1 : wc.cell? ⟨gb793, 1, none⟩ = some (u794001) := bc_ BK793 1
                       have hfz159_0 := blk_frozen BK793.out 0
                       have hfz159_1 := blk_frozen BK793.out 1
                       obtain ⟨Ao160, co160, eo160⟩ := Kd.R_slice HO_794001.out
                       subst eo160
                       go_wp2_with (first | ((with_reducible refine gate_callee (f := 26) rfl ?_); refine goesL_ (some 218) rfl rfl Tryd.func26 (by kernel_rfl) rfl #[.agg #[.slice Ao100 t787.length co100, .slice Ao160 x794001_95.length co160], .slice A1 l1.length c1] rfl ls_ ?_; (with_reducible refine (exits_Safe.calls _ _ t787 _ _ x794001_95 _ _ l1 t804 t805 t806 t807 _ ?side7 ?side1 ?side2 ?side3 ?side4 ?side5 ?side6 A153.out).mono ?_); (case side1 => exact kd_ (Kd.R_reads' HO_794000.out).2.2); (case side2 => exact (Kd.R_reads' HO_794000.out).2.1); (case side3 => exact kd_ (Kd.R_reads' HO_794001.out).2.2); (case side4 => exact (Kd.R_reads' HO_794001.out).2.1); (case side5 => exact kc_ HR1 HB); (case side6 => exact HC1.out); (case side7 => exact Globs.below HG.out (be2_ HB GE769 GE793)); rintro e w161 ⟨rfl, hb⟩; refine ⟨_, rfl, ?_⟩; replace HO_794000 := rb_ HO_794000 hb; replace HO_794001 := rb_ HO_794001 hb; replace BK769 := bb_ BK769 hb; replace BK793 := bb_ BK793 hb; replace HB := bs2_ HB GE769 GE793 hb; (try clear hb); (try clear hb2); (try clear hk); (try clear hi)))
                       go_ret
                       exact ⟨rf_, be2_ HB GE769 GE793⟩
                      ·rw [if_neg c157] at H
                       have c157b0 : decide (t806 < 0) = false := decide_eq_false c157
                       clear c157
                       obtain rfl := Option.some.inj H
                       have hnb162 := NB793_769.out
                       have hnc162 := NB769_793.out
                       have hcz163_0 : wc.cell? ⟨gb793, 0, none⟩ = some (.slice Ao100 t787.length co100) := bc_ BK793 0
                       have hcz163_1 : wc.cell? ⟨gb793, 1, none⟩ = some (u794001) := bc_ BK793 1
                       have hfz163_0 := blk_frozen BK793.out 0
                       have hfz163_1 := blk_frozen BK793.out 1
                       obtain ⟨Ao164, co164, eo164⟩ := Kd.R_slice HO_794001.out
                       subst eo164
                       go_wp2_with (first | ((with_reducible refine gate_callee (f := 26) rfl ?_); refine goesL_ (some 218) rfl rfl Tryd.func26 (by kernel_rfl) rfl #[.agg #[.slice Ao100 t787.length co100, .slice Ao164 x794001_95.length co164], .slice A1 l1.length c1] rfl ls_ ?_; (with_reducible refine (exits_Safe.calls _ _ t787 _ _ x794001_95 _ _ l1 t804 t805 t806 t807 _ ?side7 ?side1 ?side2 ?side3 ?side4 ?side5 ?side6 A153.out).mono ?_); (case side1 => exact kd_ (Kd.R_reads' HO_794000.out).2.2); (case side2 => exact (Kd.R_reads' HO_794000.out).2.1); (case side3 => exact kd_ (Kd.R_reads' HO_794001.out).2.2); (case side4 => exact (Kd.R_reads' HO_794001.out).2.1); (case side5 => exact kc_ HR1 HB); (case side6 => exact HC1.out); (case side7 => exact Globs.below HG.out (be2_ HB GE769 GE793)); rintro e w165 ⟨rfl, hb⟩; refine ⟨_, rfl, ?_⟩; replace HO_794000 := rb_ HO_794000 hb; replace HO_794001 := rb_ HO_794001 hb; replace BK769 := bb_ BK769 hb; replace BK793 := bb_ BK793 hb; replace HB := bs2_ HB GE769 GE793 hb; (try clear hb); (try clear hb2); (try clear hk); (try clear hi)))
                       go_ret
                       exact ⟨rf_, be2_ HB GE769 GE793⟩
                     ·rw [if_neg c156] at H
                      have c156b0 : decide (t805 < 0) = false := decide_eq_false c156
                      clear c156
                      by_cases c166 : t805 > t773
                      ·rw [if_pos c166] at H
                       have c166b0 : decide (t773 < t805) = true := decide_eq_true c166
                       clear c166
                       by_cases c167 : t806 < 0
                       ·rw [if_pos c167] at H
                        have c167b0 : decide (t806 < 0) = true := decide_eq_true c167
                        clear c167
                        obtain rfl := Option.some.inj H
                        have hnb168 := NB793_769.out
                        have hnc168 := NB769_793.out
                        have hcz169_0 : wc.cell? ⟨gb793, 0, none⟩ = some (.slice Ao100 t787.length co100) := bc_ BK793 0
                        have hcz169_1 : wc.cell? ⟨gb793, 1, none⟩ = some (u794001) := bc_ BK793 1
                        have hfz169_0 := blk_frozen BK793.out 0
                        have hfz169_1 := blk_frozen BK793.out 1
                        obtain ⟨Ao170, co170, eo170⟩ := Kd.R_slice HO_794001.out
                        subst eo170
                        go_wp2_with (first | ((with_reducible refine gate_callee (f := 26) rfl ?_); refine goesL_ (some 218) rfl rfl Tryd.func26 (by kernel_rfl) rfl #[.agg #[.slice Ao100 t787.length co100, .slice Ao170 x794001_95.length co170], .slice A1 l1.length c1] rfl ls_ ?_; (with_reducible refine (exits_Safe.calls _ _ t787 _ _ x794001_95 _ _ l1 t804 t805 t806 t807 _ ?side7 ?side1 ?side2 ?side3 ?side4 ?side5 ?side6 A153.out).mono ?_); (case side1 => exact kd_ (Kd.R_reads' HO_794000.out).2.2); (case side2 => exact (Kd.R_reads' HO_794000.out).2.1); (case side3 => exact kd_ (Kd.R_reads' HO_794001.out).2.2); (case side4 => exact (Kd.R_reads' HO_794001.out).2.1); (case side5 => exact kc_ HR1 HB); (case side6 => exact HC1.out); (case side7 => exact Globs.below HG.out (be2_ HB GE769 GE793)); rintro e w171 ⟨rfl, hb⟩; refine ⟨_, rfl, ?_⟩; replace HO_794000 := rb_ HO_794000 hb; replace HO_794001 := rb_ HO_794001 hb; replace BK769 := bb_ BK769 hb; replace BK793 := bb_ BK793 hb; replace HB := bs2_ HB GE769 GE793 hb; (try clear hb); (try clear hb2); (try clear hk); (try clear hi)))
                        go_ret
                        exact ⟨rf_, be2_ HB GE769 GE793⟩
                       ·rw [if_neg c167] at H
                        have c167b0 : decide (t806 < 0) = false := decide_eq_false c167
                        clear c167
                        obtain rfl := Option.some.inj H
                        have hnb172 := NB793_769.out
                        have hnc172 := NB769_793.out
                        have hcz173_0 : wc.cell? ⟨gb793, 0, none⟩ = some (.slice Ao100 t787.length co100) := bc_ BK793 0
                        have hcz173_1 : wc.cell? ⟨gb793, 1, none⟩ = some (u794001) := bc_ BK793 1
                        have hfz173_0 := blk_frozen BK793.out 0
                        have hfz173_1 := blk_frozen BK793.out 1
                        obtain ⟨Ao174, co174, eo174⟩ := Kd.R_slice HO_794001.out
                        subst eo174
                        go_wp2_with (first | ((with_reducible refine gate_callee (f := 26) rfl ?_); refine goesL_ (some 218) rfl rfl Tryd.func26 (by kernel_rfl) rfl #[.agg #[.slice Ao100 t787.length co100, .slice Ao174 x794001_95.length co174], .slice A1 l1.length c1] rfl ls_ ?_; (with_reducible refine (exits_Safe.calls _ _ t787 _ _ x794001_95 _ _ l1 t804 t805 t806 t807 _ ?side7 ?side1 ?side2 ?side3 ?side4 ?side5 ?side6 A153.out).mono ?_); (case side1 => exact kd_ (Kd.R_reads' HO_794000.out).2.2); (case side2 => exact (Kd.R_reads' HO_794000.out).2.1); (case side3 => exact kd_ (Kd.R_reads' HO_794001.out).2.2); (case side4 => exact (Kd.R_reads' HO_794001.out).2.1); (case side5 => exact kc_ HR1 HB); (case side6 => exact HC1.out); (case side7 => exact Globs.below HG.out (be2_ HB GE769 GE793)); rintro e w175 ⟨rfl, hb⟩; refine ⟨_, rfl, ?_⟩; replace HO_794000 := rb_ HO_794000 hb; replace HO_794001 := rb_ HO_794001 hb; replace BK769 := bb_ BK769 hb; replace BK793 := bb_ BK793 hb; replace HB := bs2_ HB GE769 GE793 hb; (try clear hb); (try clear hb2); (try clear hk); (try clear hi)))
                        go_ret
                        exact ⟨rf_, be2_ HB GE769 GE793⟩
                      ·rw [if_neg c166] at H
                       have c166b0 : decide (t773 < t805) = false := decide_eq_false c166
                       clear c166
                       exact absurd (H.trans (congrArg some HRT.out)) (by simp)
                    ·rw [if_neg c155] at H
                     have c155b0 : (t807 == 0) = false := beq_eq_false_iff_ne.mpr c155
                     have c155b1 : (t807 != 0) = true := bne_iff_ne.mpr c155
                     exact absurd (H.trans (congrArg some HRT.out)) (by simp)
                   ·replace c154 := Bool.eq_false_iff.mpr c154
                    subst c154
                    have H1 : (some false) = some r := by rw [if_neg (show ¬ (false = true) by decide)] at H; exact H
                    clear H
                    have H := H1
                    clear H1
                    exact absurd (H.trans (congrArg some HRT.out)) (by simp)

end Go.Proofs.YtdeaccbolnlgpaaDoor.X
