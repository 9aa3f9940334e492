import Derived.Test.YtdeaccbolnlgpaaDoorX0
import Derived.Test.YtdeaccbolnlgpaaDoorXE1
import Derived.Test.YtdeaccbolnlgpaaDoorXN16
import Derived.Test.YtdeaccbolnlgpaaDoorXNB
import Derived.Test.YtdeaccbolnlgpaaDoorXNA
import Derived.Test.YtdeaccbolnlgpaaDoorXAlive
import Derived.Test.YtdeaccbolnlgpaaDoorXG
import Derived.Test.YtdeaccbolnlgpaaDoorXHL
import Derived.Test.YtdeaccbolnlgpaaDoorXHO
import Derived.Test.YtdeaccbolnlgpaaDoorXHS
namespace Go.Proofs.YtdeaccbolnlgpaaDoor.X
open Go.RowKit Go.Proofs.YtdeaccbolnlgpaaDoorW.PrintWords Go.Proofs.YtdeaccbolnlgpaaDoorW.PrintLast Go.Proofs.YtdeaccbolnlgpaaDoorW.PrintMore
attribute [local go_sem] max2_int min2_int max_two min_two max_three min_three max_four min_four   -- for this text's walks alone
set_option linter.unusedVariables false
set_option linter.unusedSimpArgs false

attribute [local go_sem high] eqA36
/-! ### cottonpadlaw06_ExitsLater: function 12 -/
mutual
def cottonpadlaw06_ExitsLater.j0 : Nat → List (S48) → Int → Int → Bool → Bool → List (S62) → List (S81) → Option (Bool)
 | 0, _, _, _, _, _, _, _ => none
 | k + 1, x1, x2, x3, x9, x47, x871000, x871001 => if x47 = true then (some x9) else ((cottonpadref06_Twin.f x871000 x871001).bind fun bt873 => ((some (([] : List (S48)) : List (S48))).bind fun y879 => (if y879.length + x1.length < 3518437208883 then (cottonpadlaw06_ExitsLater.l0 k x1 x3 x9 (Int.tmod (wrap64 (x2)) 1000) (y879 ++ x1) (bt873.1.length : Int) 0 x871000 x871001 bt873.1 bt873.2) else (none))))
def cottonpadlaw06_ExitsLater.l0 : Nat → List (S48) → Int → Bool → Int → List (S48) → Int → Int → List (S62) → List (S81) → List (S62) → List (S81) → Option (Bool)
 | 0, _, _, _, _, _, _, _, _, _, _, _ => none
 | k + 1, x1, x3, x9, x10, x12, x59, x60, x871000, x871001, x886000, x886001 => if x60 < x59 then (if 0 ≤ x60 then (if x60 < (x886000.length : Int) then ((cottonpadlaw06_span.f (wrap64 (((rd_T62 x886000 x60).f3.f0) + x10)) (wrap64 (((rd_T62 x886000 x60).f3.f1) + x10))).bind fun bt888 => (cottonpadlaw06_ExitsLater.l0 k x1 x3 x9 x10 x12 x59 (wrap64 (x60 + 1)) x871000 x871001 (x886000.set (x60 : Int).toNat (⟨(rd_T62 x886000 x60).f0, (rd_T62 x886000 x60).f1, (⟨(rd_T62 x886000 x60).f2.f0, (rd_T62 x886000 x60).f2.f1⟩ : S36), (⟨bt888.1, bt888.2⟩ : S36)⟩ : S62)) x886001)) else (none)) else (none)) else (cottonpadlaw06_ExitsLater.l1 k x1 x3 x9 x10 x12 (x886001.length : Int) 0 x871000 x871001 x886000 x886001)
def cottonpadlaw06_ExitsLater.l1 : Nat → List (S48) → Int → Bool → Int → List (S48) → Int → Int → List (S62) → List (S81) → List (S62) → List (S81) → Option (Bool)
 | 0, _, _, _, _, _, _, _, _, _, _, _ => none
 | k + 1, x1, x3, x9, x10, x12, x90, x91, x871000, x871001, x886000, x886001 => if x91 < x90 then (if 0 ≤ x91 then (if x91 < (x886001.length : Int) then ((cottonpadlaw06_span.f (wrap64 (((rd_T81 x886001 x91).f2.f0) + x10)) (wrap64 (((rd_T81 x886001 x91).f2.f1) + x10))).bind fun bt893 => (cottonpadlaw06_ExitsLater.l1 k x1 x3 x9 x10 x12 x90 (wrap64 (x91 + 1)) x871000 x871001 x886000 (x886001.set (x91 : Int).toNat (⟨(rd_T81 x886001 x91).f0, (rd_T81 x886001 x91).f1, (⟨bt893.1, bt893.2⟩ : S36)⟩ : S81)))) else (none)) else (none)) else (cottonpadlaw06_ExitsLater.l2 k x1 x3 x9 x10 x12 (x12.length : Int) 0 x871000 x871001 x886000 x886001)
def cottonpadlaw06_ExitsLater.l2 : Nat → List (S48) → Int → Bool → Int → List (S48) → Int → Int → List (S62) → List (S81) → List (S62) → List (S81) → Option (Bool)
 | 0, _, _, _, _, _, _, _, _, _, _, _ => none
 | k + 1, x1, x3, x9, x10, x12, x120, x121, x871000, x871001, x886000, x886001 => if x121 < x120 then (if 0 ≤ x121 then (if x121 < (x12.length : Int) then ((cottonpadlaw06_span.f (wrap64 (((rd_T48 x12 x121).f2.f0) + x10)) (wrap64 (((rd_T48 x12 x121).f2.f1) + x10))).bind fun bt898 => (cottonpadlaw06_ExitsLater.l2 k x1 x3 x9 x10 (x12.set (x121 : Int).toNat (⟨(rd_T48 x12 x121).f0, (⟨(rd_T48 x12 x121).f1.f0, (rd_T48 x12 x121).f1.f1⟩ : S36), (⟨bt898.1, bt898.2⟩ : S36)⟩ : S48)) x120 (wrap64 (x121 + 1)) x871000 x871001 x886000 x886001)) else (none)) else (none)) else ((cottonpadlaw06_ready.f k x886000 x886001 x12).bind fun t901 => (if t901 = true then (if (x871000.length : Int) = 0 then (none) else ((exits_Leaves.f x871000 x871001 x1 (Int.tmod (wrap64 (x3)) (x871000.length : Int))).bind fun bt902 => ((exits_Leaves.f x886000 x886001 x12 (Int.tmod (wrap64 (x3)) (x871000.length : Int))).bind fun bt906 => ((exits_Out.f x871000 x871001 x1).bind fun bt910 => ((exits_Out.f x886000 x886001 x12).bind fun bt914 => ((exits_Safe.f x871000 x871001 x1).bind fun bt918 => ((exits_Safe.f x886000 x886001 x12).bind fun bt922 => (if bt902.2 = 0 then (if bt906.2 = 0 then (if bt910.2.2 = 0 then (if bt914.2.2 = 0 then (if bt918.2.2.2 = 0 then (if bt922.2.2.2 = 0 then (if (bt902.1.length : Int) = (bt906.1.length : Int) then ((cottonpadlaw06_span.f (wrap64 (bt910.1 + x10)) (wrap64 (bt910.2.1 + x10))).bind fun bt926 => (if (!(bt914.1 == bt926.1) || (!(bt914.2.1 == bt926.2))) = true then (cottonpadlaw06_ExitsLater.j4 k x9 x10 bt902.1 bt906.1 true) else (if bt918.1 = bt922.1 then (if bt918.2.1 = bt922.2.1 then (cottonpadlaw06_ExitsLater.j4 k x9 x10 bt902.1 bt906.1 (bt918.2.2.1 != bt922.2.2.1)) else (cottonpadlaw06_ExitsLater.j4 k x9 x10 bt902.1 bt906.1 true)) else (cottonpadlaw06_ExitsLater.j4 k x9 x10 bt902.1 bt906.1 true)))) else (cottonpadlaw06_ExitsLater.j4 k x9 x10 bt902.1 bt906.1 true)) else (cottonpadlaw06_ExitsLater.j4 k x9 x10 bt902.1 bt906.1 true)) else (cottonpadlaw06_ExitsLater.j4 k x9 x10 bt902.1 bt906.1 true)) else (cottonpadlaw06_ExitsLater.j4 k x9 x10 bt902.1 bt906.1 true)) else (cottonpadlaw06_ExitsLater.j4 k x9 x10 bt902.1 bt906.1 true)) else (cottonpadlaw06_ExitsLater.j4 k x9 x10 bt902.1 bt906.1 true)) else (cottonpadlaw06_ExitsLater.j4 k x9 x10 bt902.1 bt906.1 true))))))))) else (some x9)))
def cottonpadlaw06_ExitsLater.j4 : Nat → Bool → Int → List (S36) → List (S36) → Bool → Option (Bool)
 | 0, _, _, _, _, _ => none
 | k + 1, x9, x10, x17, x19, x255 => if x255 = true then (some false) else (cottonpadlaw06_ExitsLater.l3 k x9 x10 x17 x19 (x17.length : Int) 0)
def cottonpadlaw06_ExitsLater.l3 : Nat → Bool → Int → List (S36) → List (S36) → Int → Int → Option (Bool)
 | 0, _, _, _, _, _, _ => none
 | k + 1, x9, x10, x17, x19, x257, x258 => if x258 < x257 then (if 0 ≤ x258 then (if x258 < (x19.length : Int) then (if x258 < (x17.length : Int) then ((cottonpadlaw06_span.f (wrap64 (((rd_T36 x17 x258).f0) + x10)) (wrap64 (((rd_T36 x17 x258).f1) + x10))).bind fun bt931 => (if (!(((rd_T36 x19 x258).f0) == bt931.1) || (!(((rd_T36 x19 x258).f1) == bt931.2))) = true then (some false) else (cottonpadlaw06_ExitsLater.l3 k x9 x10 x17 x19 x257 (wrap64 (x258 + 1))))) else (none)) else (none)) else (none)) else (some x9)
end
def cottonpadlaw06_ExitsLater.f (k : Nat) (l0_0 : List (S62)) (l0_1 : List (S81)) (l1 : List (S48)) (a2 : Int) (a3 : Int) : Option (Bool) := (cottonpadlaw06_alive_t.f).bind fun t871 => ((cottonpadlaw06_ready.f k l0_0 l0_1 l1).bind fun t872 => (if t872 = true then (if (l1.length : Int) = 0 then (cottonpadlaw06_ExitsLater.j0 k l1 a2 a3 t871 true l0_0 l0_1) else (cottonpadlaw06_ExitsLater.j0 k l1 a2 a3 t871 (!t871) l0_0 l0_1)) else (cottonpadlaw06_ExitsLater.j0 k l1 a2 a3 t871 true l0_0 l0_1)))
theorem cottonpadlaw06_ExitsLater.mono_l : ∀ k, (∀ y0 y1 y2 y3 y4 y5 y6, LeO (cottonpadlaw06_ExitsLater.j0 k y0 y1 y2 y3 y4 y5 y6) (cottonpadlaw06_ExitsLater.j0 (k + 1) y0 y1 y2 y3 y4 y5 y6)) ∧ (∀ y0 y1 y2 y3 y4 y5 y6 y7 y8 y9 y10, LeO (cottonpadlaw06_ExitsLater.l0 k y0 y1 y2 y3 y4 y5 y6 y7 y8 y9 y10) (cottonpadlaw06_ExitsLater.l0 (k + 1) y0 y1 y2 y3 y4 y5 y6 y7 y8 y9 y10)) ∧ (∀ y0 y1 y2 y3 y4 y5 y6 y7 y8 y9 y10, LeO (cottonpadlaw06_ExitsLater.l1 k y0 y1 y2 y3 y4 y5 y6 y7 y8 y9 y10) (cottonpadlaw06_ExitsLater.l1 (k + 1) y0 y1 y2 y3 y4 y5 y6 y7 y8 y9 y10)) ∧ (∀ y0 y1 y2 y3 y4 y5 y6 y7 y8 y9 y10, LeO (cottonpadlaw06_ExitsLater.l2 k y0 y1 y2 y3 y4 y5 y6 y7 y8 y9 y10) (cottonpadlaw06_ExitsLater.l2 (k + 1) y0 y1 y2 y3 y4 y5 y6 y7 y8 y9 y10)) ∧ (∀ y0 y1 y2 y3 y4, LeO (cottonpadlaw06_ExitsLater.j4 k y0 y1 y2 y3 y4) (cottonpadlaw06_ExitsLater.j4 (k + 1) y0 y1 y2 y3 y4)) ∧ (∀ y0 y1 y2 y3 y4 y5, LeO (cottonpadlaw06_ExitsLater.l3 k y0 y1 y2 y3 y4 y5) (cottonpadlaw06_ExitsLater.l3 (k + 1) y0 y1 y2 y3 y4 y5))
 | 0 => ⟨fun _ _ _ _ _ _ _ r h => by simp [cottonpadlaw06_ExitsLater.j0] at h, fun _ _ _ _ _ _ _ _ _ _ _ r h => by simp [cottonpadlaw06_ExitsLater.l0] at h, fun _ _ _ _ _ _ _ _ _ _ _ r h => by simp [cottonpadlaw06_ExitsLater.l1] at h, fun _ _ _ _ _ _ _ _ _ _ _ r h => by simp [cottonpadlaw06_ExitsLater.l2] at h, fun _ _ _ _ _ r h => by simp [cottonpadlaw06_ExitsLater.j4] at h, fun _ _ _ _ _ _ r h => by simp [cottonpadlaw06_ExitsLater.l3] at h⟩
 | k + 1 => by
  obtain ⟨ih0, ih1, ih2, ih3, ih4, ih5⟩ := cottonpadlaw06_ExitsLater.mono_l k
  refine ⟨?_, ?_, ?_, ?_, ?_, ?_⟩
  ·intro y0 y1 y2 y3 y4 y5 y6
   unfold cottonpadlaw06_ExitsLater.j0
   repeat' (with_reducible first | exact ih0 .. | exact ih1 .. | exact ih2 .. | exact ih3 .. | exact ih4 .. | exact ih5 .. | exact cottonpadlaw06_ready.mono .. | exact LeO.refl .. | exact LeO.none .. | refine LeO.ite ?_ ?_ | refine LeO.bind ?_ (fun _ => ?_))
  ·intro y0 y1 y2 y3 y4 y5 y6 y7 y8 y9 y10
   unfold cottonpadlaw06_ExitsLater.l0
   repeat' (with_reducible first | exact ih0 .. | exact ih1 .. | exact ih2 .. | exact ih3 .. | exact ih4 .. | exact ih5 .. | exact cottonpadlaw06_ready.mono .. | exact LeO.refl .. | exact LeO.none .. | refine LeO.ite ?_ ?_ | refine LeO.bind ?_ (fun _ => ?_))
  ·intro y0 y1 y2 y3 y4 y5 y6 y7 y8 y9 y10
   unfold cottonpadlaw06_ExitsLater.l1
   repeat' (with_reducible first | exact ih0 .. | exact ih1 .. | exact ih2 .. | exact ih3 .. | exact ih4 .. | exact ih5 .. | exact cottonpadlaw06_ready.mono .. | exact LeO.refl .. | exact LeO.none .. | refine LeO.ite ?_ ?_ | refine LeO.bind ?_ (fun _ => ?_))
  ·intro y0 y1 y2 y3 y4 y5 y6 y7 y8 y9 y10
   unfold cottonpadlaw06_ExitsLater.l2
   repeat' (with_reducible first | exact ih0 .. | exact ih1 .. | exact ih2 .. | exact ih3 .. | exact ih4 .. | exact ih5 .. | exact cottonpadlaw06_ready.mono .. | exact LeO.refl .. | exact LeO.none .. | refine LeO.ite ?_ ?_ | refine LeO.bind ?_ (fun _ => ?_))
  ·intro y0 y1 y2 y3 y4
   unfold cottonpadlaw06_ExitsLater.j4
   repeat' (with_reducible first | exact ih0 .. | exact ih1 .. | exact ih2 .. | exact ih3 .. | exact ih4 .. | exact ih5 .. | exact cottonpadlaw06_ready.mono .. | exact LeO.refl .. | exact LeO.none .. | refine LeO.ite ?_ ?_ | refine LeO.bind ?_ (fun _ => ?_))
  ·intro y0 y1 y2 y3 y4 y5
   unfold cottonpadlaw06_ExitsLater.l3
   repeat' (with_reducible first | exact ih0 .. | exact ih1 .. | exact ih2 .. | exact ih3 .. | exact ih4 .. | exact ih5 .. | exact cottonpadlaw06_ready.mono .. | exact LeO.refl .. | exact LeO.none .. | refine LeO.ite ?_ ?_ | refine LeO.bind ?_ (fun _ => ?_))
theorem cottonpadlaw06_ExitsLater.mono : ∀ a0 a1 a2 a3 a4 k, LeO (cottonpadlaw06_ExitsLater.f k a0 a1 a2 a3 a4) (cottonpadlaw06_ExitsLater.f (k + 1) a0 a1 a2 a3 a4) := by
 intro a0 a1 a2 a3 a4 k
 obtain ⟨ih0, ih1, ih2, ih3, ih4, ih5⟩ := cottonpadlaw06_ExitsLater.mono_l k
 unfold cottonpadlaw06_ExitsLater.f
 repeat' (with_reducible first | exact ih0 .. | exact ih1 .. | exact ih2 .. | exact ih3 .. | exact ih4 .. | exact ih5 .. | exact cottonpadlaw06_ready.mono .. | exact LeO.refl .. | exact LeO.none .. | refine LeO.ite ?_ ?_ | refine LeO.bind ?_ (fun _ => ?_))
def cottonpadlaw06_ExitsLater.T9 : Bool × List (List Nat × List Nat) := (true, [([], []), ([0], [0]), ([], []), ([], []), ([3], [3]), ([], []), ([4, 5], [4, 5]), ([6], [6]), ([7], [7]), ([8], [8]), ([], []), ([9, 10], [9, 10]), ([], []), ([12], [12]), ([], []), ([13, 14], [13, 14]), ([15], [15]), ([16], [16]), ([17], [17]), ([], []), ([18, 19], [18, 19]), ([11, 20], [11, 20]), ([1, 2, 0, 1, 2, 3, 4, 5, 6, 7, 8, 9, 10, 11, 12, 13, 14, 15, 16, 17, 18, 19, 20, 21], [1, 2]), ([22, 0, 1, 2, 3, 4, 5, 6, 7, 8, 9, 10, 11, 12, 13, 14, 15, 16, 17, 18, 19, 20, 21], [22]), ([23, 21, 21, 0, 1, 2, 3, 4, 5, 6, 7, 8, 9, 10, 11, 12, 13, 14, 15, 16, 17, 18, 19, 20, 21], [21, 23])])
def cottonpadlaw06_ExitsLater.B9 : List Nat := [0, 1, 0, 0, 8, 0, 56, 120, 248, 504, 0, 2040, 0, 4096, 0, 28672, 61440, 126976, 258048, 0, 1044480, 2097144, 4194303, 8388607, 16777215]
theorem cottonpadlaw06_ExitsLater.tab9 : rtab .any (opsOf Tryd.f12 9) = cottonpadlaw06_ExitsLater.T9 := by kernel_rfl
theorem cottonpadlaw06_ExitsLater.bits9 : waitsOk cottonpadlaw06_ExitsLater.T9.2 cottonpadlaw06_ExitsLater.B9 = true := by kernel_rfl
def cottonpadlaw06_ExitsLater.T14 : Bool × List (List Nat × List Nat) := (true, [([], []), ([0], [0]), ([], []), ([], []), ([3], [3]), ([], []), ([4, 5], [4, 5]), ([6], [6]), ([7], [7]), ([8], [8]), ([], []), ([9, 10], [9, 10]), ([], []), ([12], [12]), ([], []), ([13, 14], [13, 14]), ([15], [15]), ([16], [16]), ([17], [17]), ([], []), ([18, 19], [18, 19]), ([11, 20], [11, 20]), ([1, 2, 0, 1, 2, 3, 4, 5, 6, 7, 8, 9, 10, 11, 12, 13, 14, 15, 16, 17, 18, 19, 20, 21], [1, 2]), ([22, 0, 1, 2, 3, 4, 5, 6, 7, 8, 9, 10, 11, 12, 13, 14, 15, 16, 17, 18, 19, 20, 21], [22]), ([23, 21, 21, 0, 1, 2, 3, 4, 5, 6, 7, 8, 9, 10, 11, 12, 13, 14, 15, 16, 17, 18, 19, 20, 21], [21, 23])])
def cottonpadlaw06_ExitsLater.B14 : List Nat := [0, 1, 0, 0, 8, 0, 56, 120, 248, 504, 0, 2040, 0, 4096, 0, 28672, 61440, 126976, 258048, 0, 1044480, 2097144, 4194303, 8388607, 16777215]
theorem cottonpadlaw06_ExitsLater.tab14 : rtab .any (opsOf Tryd.f12 14) = cottonpadlaw06_ExitsLater.T14 := by kernel_rfl
theorem cottonpadlaw06_ExitsLater.bits14 : waitsOk cottonpadlaw06_ExitsLater.T14.2 cottonpadlaw06_ExitsLater.B14 = true := by kernel_rfl
def cottonpadlaw06_ExitsLater.T19 : Bool × List (List Nat × List Nat) := (true, [([], []), ([], []), ([], []), ([], []), ([2, 3], [2, 3]), ([4], [4]), ([5], [5]), ([6], [6]), ([], []), ([7, 8], [7, 8]), ([], []), ([], []), ([10, 11], [10, 11]), ([12], [12]), ([13], [13]), ([14], [14]), ([], []), ([15, 16], [15, 16]), ([9, 17], [9, 17]), ([0, 1, 0, 1, 2, 3, 4, 5, 6, 7, 8, 9, 10, 11, 12, 13, 14, 15, 16, 17, 18], [0, 1]), ([19, 0, 1, 2, 3, 4, 5, 6, 7, 8, 9, 10, 11, 12, 13, 14, 15, 16, 17, 18], [19]), ([20, 18, 18, 0, 1, 2, 3, 4, 5, 6, 7, 8, 9, 10, 11, 12, 13, 14, 15, 16, 17, 18], [18, 20])])
def cottonpadlaw06_ExitsLater.B19 : List Nat := [0, 0, 0, 0, 12, 28, 60, 124, 0, 508, 0, 0, 3072, 7168, 15360, 31744, 0, 130048, 262140, 524287, 1048575, 2097151]
theorem cottonpadlaw06_ExitsLater.tab19 : rtab .any (opsOf Tryd.f12 19) = cottonpadlaw06_ExitsLater.T19 := by kernel_rfl
theorem cottonpadlaw06_ExitsLater.bits19 : waitsOk cottonpadlaw06_ExitsLater.T19.2 cottonpadlaw06_ExitsLater.B19 = true := by kernel_rfl
def cottonpadlaw06_ExitsLater.T30 : Bool × List (List Nat × List Nat) := (true, [([], []), ([0], [0]), ([1], [1]), ([2], [2]), ([3, 2], [2, 3]), ([2, 4], [2, 4]), ([5, 2], [5]), ([6], [6]), ([7, 6], [6, 7]), ([6, 8], [6, 8]), ([9, 6], [9]), ([10], [10]), ([11, 10], [10, 11]), ([10, 12], [10, 12]), ([13, 10], [13]), ([14], [14]), ([15, 14], [14, 15]), ([14, 16], [14, 16]), ([17, 14], [17]), ([18], [18]), ([19, 18], [18, 19]), ([18, 20], [18, 20]), ([21, 18], [21]), ([22], [22]), ([23, 22], [22, 23]), ([22], [22]), ([25, 22], [22, 25]), ([24, 26, 22], [22, 24, 26]), ([22, 27], [22, 27]), ([28, 22], [28]), ([29], [29]), ([29], [29]), ([31, 29], [29, 31]), ([29], [29]), ([32, 33, 29], [29, 32, 33]), ([29], [29]), ([35, 29], [29, 35]), ([29], [29]), ([36, 37, 29], [29, 36, 37]), ([34, 38, 29, 29], [29, 34, 38]), ([30, 39, 29], [29, 30, 39]), ([29, 40], [29, 40]), ([41, 39], [41]), ([42], [42]), ([42], [42]), ([43, 44, 42], [42, 43, 44]), ([42, 45], [42, 45]), ([46, 42], [46]), ([47], [47]), ([47], [47]), ([48, 49, 47], [47, 48, 49]), ([47, 50], [47, 50]), ([51, 47], [51]), ([52], [52]), ([52], [52]), ([53, 54, 52], [52, 53, 54]), ([52, 55], [52, 55])])
def cottonpadlaw06_ExitsLater.B30 : List Nat := [0, 1, 3, 7, 15, 31, 63, 127, 255, 511, 1023, 2047, 4095, 8191, 16383, 32767, 65535, 131071, 262143, 524287, 1048575, 2097151, 4194303, 8388607, 16777215, 8388607, 41943039, 134217727, 268435455, 536870911, 1073741823, 1073741823, 3221225471, 1073741823, 16106127359, 1073741823, 35433480191, 1073741823, 241591910399, 548682072063, 1099511627775, 2199023255551, 4398046511103, 8796093022207, 8796093022207, 35184372088831, 70368744177663, 140737488355327, 281474976710655, 281474976710655, 1125899906842623, 2251799813685247, 4503599627370495, 9007199254740991, 9007199254740991, 36028797018963967, 72057594037927935]
theorem cottonpadlaw06_ExitsLater.tab30 : rtab .any (opsOf Tryd.f12 30) = cottonpadlaw06_ExitsLater.T30 := by kernel_rfl
theorem cottonpadlaw06_ExitsLater.bits30 : waitsOk cottonpadlaw06_ExitsLater.T30.2 cottonpadlaw06_ExitsLater.B30 = true := by kernel_rfl
def cottonpadlaw06_ExitsLater.T35 : Bool × List (List Nat × List Nat) := (true, [([], []), ([], []), ([0, 1], [0, 1]), ([2], [2]), ([], []), ([], []), ([4, 5], [4, 5]), ([6], [6]), ([7], [7]), ([], []), ([8, 9], [8, 9]), ([], []), ([], []), ([11, 12], [11, 12]), ([13], [13]), ([14], [14]), ([], []), ([15, 16], [15, 16]), ([10, 17], [10, 17]), ([3, 18], [3, 18])])
def cottonpadlaw06_ExitsLater.B35 : List Nat := [0, 0, 3, 7, 0, 0, 48, 112, 240, 0, 1008, 0, 0, 6144, 14336, 30720, 0, 129024, 262128, 524287]
theorem cottonpadlaw06_ExitsLater.tab35 : rtab .any (opsOf Tryd.f12 35) = cottonpadlaw06_ExitsLater.T35 := by kernel_rfl
theorem cottonpadlaw06_ExitsLater.bits35 : waitsOk cottonpadlaw06_ExitsLater.T35.2 cottonpadlaw06_ExitsLater.B35 = true := by kernel_rfl
set_option maxHeartbeats 8000000 in
set_option maxRecDepth 100000 in
theorem cottonpadlaw06_ExitsLater.calls (k : Nat) (A0_0 : Option Addr) (c0_0 : Nat) (l0_0 : List (S62)) (A0_1 : Option Addr) (c0_1 : Nat) (l0_1 : List (S81)) (A1 : Option Addr) (c1 : Nat) (l1 : List (S48)) (a2 : Int) (a3 : Int) (r : Bool) (w : World) (hG : Globs w) (hrt : r = true) (hr0_0 : Kd.C k62 w A0_0 l0_0.length l0_0) (hc0_0 : l0_0.length ≤ c0_0) (hr0_1 : Kd.C k81 w A0_1 l0_1.length l0_1) (hc0_1 : l0_1.length ≤ c0_1) (hr1 : Kd.C k48 w A1 l1.length l1) (hc1 : l1.length ≤ c1) (h : cottonpadlaw06_ExitsLater.f k l0_0 l0_1 l1 a2 a3 = some r) :
  Calls Tryd.prog 12 #[.agg #[.slice A0_0 l0_0.length c0_0, .slice A0_1 l0_1.length c0_1], .slice A1 l1.length c1, .int .u16 a2, .int .u8 a3] w fun e w' => e = .returned (.bool r) ∧ Below w.heap.size w w' := by
 have hu25 := Tryd.underlying25
 have hu36 := Tryd.underlying36
 have HR0_0 := Aside0.mk hr0_0
 have HC0_0 := Aside0.mk hc0_0
 clear hr0_0 hc0_0
 have HR0_1 := Aside0.mk hr0_1
 have HC0_1 := Aside0.mk hc0_1
 clear hr0_1 hc0_1
 have HR1 := Aside0.mk hr1
 have HC1 := Aside0.mk hc1
 clear hr1 hc1
 have HB := Aside0.mk (Below.refl w.heap.size w)
 have HG := Aside0.mk hG
 clear hG
 have HRT := Aside0.mk hrt
 clear hrt
 have H : ((cottonpadlaw06_alive_t.f).bind fun t871 => ((cottonpadlaw06_ready.f k l0_0 l0_1 l1).bind fun t872 => (if t872 = true then (if (l1.length : Int) = 0 then (cottonpadlaw06_ExitsLater.j0 k l1 a2 a3 t871 true l0_0 l0_1) else (cottonpadlaw06_ExitsLater.j0 k l1 a2 a3 t871 (!t871) l0_0 l0_1)) else (cottonpadlaw06_ExitsLater.j0 k l1 a2 a3 t871 true l0_0 l0_1)))) = some r := h
 clear h
 replace H := Option.bind_eq_some_iff.mp H
 obtain ⟨t871, A50, H⟩ := H
 replace H : ((cottonpadlaw06_ready.f k l0_0 l0_1 l1).bind fun t872 => (if t872 = true then (if (l1.length : Int) = 0 then (cottonpadlaw06_ExitsLater.j0 k l1 a2 a3 t871 true l0_0 l0_1) else (cottonpadlaw06_ExitsLater.j0 k l1 a2 a3 t871 (!t871) l0_0 l0_1)) else (cottonpadlaw06_ExitsLater.j0 k l1 a2 a3 t871 true l0_0 l0_1))) = some r := H
 have A5 := Aside0.mk A50
 clear A50
 have HC6 := Aside0.mk H
 clear H
 go_enter Tryd.func12, Tryd.ntmps12
 go_upto_region 2 with (first | ((with_reducible refine gate_dst (N := 4) rfl ?_); (try (refine gate_guard (by rfl) ?_; dsimp only)); refine box_event ?hg (N := 4) ?hd (cs := #[.slice A0_0 l0_0.length c0_0, .slice A0_1 l0_1.length c0_1]) (t := 25) ?hr ?_; (case hd => rfl); (case hg => rfl); (case hr => exact gs_); intro gb870 hg w7 hbox hb; have BK870 := Aside0.mk (hbox); have GW870 := hl_ hg (be_ HB); have GE870 := hl_ hg (be_ HB); replace HB := bs_ HB hb; clear hb hbox hg) | ((with_reducible refine gate_callee (f := 30) rfl ?_); refine goesL_ (some 34) rfl rfl Tryd.func30 (by kernel_rfl) rfl #[] rfl ls_ ?_; (with_reducible refine (cottonpadlaw06_alive_t.calls  t871 _ ?side1 A5.out).mono ?_); (case side1 => exact Globs.below HG.out (be1_ HB GE870)); rintro e w8 ⟨rfl, hb⟩; refine ⟨_, rfl, ?_⟩; replace BK870 := bb_ BK870 hb; replace HB := bs1_ HB GE870 hb; (try clear hb); (try clear hb2); (try clear hk); (try clear hi)))
 (try simp only [Act.put, List.setIfInBounds_toArray, List.set_cons_zero, List.set_cons_succ])
 go_cut [47] (fun v47 wc => ∃ (kq : Nat) (x47_5 : Bool), v47 = .bool x47_5 ∧ Aside0 (cottonpadlaw06_ExitsLater.j0 kq l1 a2 a3 t871 x47_5 l0_0 l0_1 = some r) ∧ Aside0 (kq ≤ k) ∧ Aside0 (wc.heap[gb870]? = some (.cells #[(.slice A0_0 l0_0.length c0_0), (.slice A0_1 l0_1.length c0_1)] 25 (0, 0))) ∧ Aside0 (Below w.heap.size w wc))
 case first =>
  have H := HC6.out
  clear HC6
  replace H := Option.bind_eq_some_iff.mp H
  obtain ⟨t872, A90, H⟩ := H
  replace H : (if t872 = true then (if (l1.length : Int) = 0 then (cottonpadlaw06_ExitsLater.j0 k l1 a2 a3 t871 true l0_0 l0_1) else (cottonpadlaw06_ExitsLater.j0 k l1 a2 a3 t871 (!t871) l0_0 l0_1)) else (cottonpadlaw06_ExitsLater.j0 k l1 a2 a3 t871 true l0_0 l0_1)) = some r := H
  have A9 := Aside0.mk A90
  clear A90
  by_cases c10 : t872 = true
  ·subst c10
   have H1 : (if (l1.length : Int) = 0 then (cottonpadlaw06_ExitsLater.j0 k l1 a2 a3 t871 true l0_0 l0_1) else (cottonpadlaw06_ExitsLater.j0 k l1 a2 a3 t871 (!t871) l0_0 l0_1)) = some r := by rw [if_pos rfl] at H; exact H
   clear H
   have H := H1
   clear H1
   by_cases c11 : (l1.length : Int) = 0
   ·rw [if_pos c11] at H
    have c11b0 : ((l1.length : Int) == 0) = true := beq_iff_eq.mpr c11
    have c11b1 : ((l1.length : Int) != 0) = false := bne_eq_false_iff_eq.mpr c11
    clear c11
    (first | rw [c11b0] | (simp only [i64_w, i32_w]; rw [c11b0]) | skip)
    have H' := Aside0.mk H
    clear H
    have hcz12_0 : w8.cell? ⟨gb870, 0, none⟩ = some (.slice A0_0 l0_0.length c0_0) := bc_ BK870 0
    have hcz12_1 : w8.cell? ⟨gb870, 1, none⟩ = some (.slice A0_1 l0_1.length c0_1) := bc_ BK870 1
    have hfz12_0 := blk_frozen BK870.out 0
    have hfz12_1 := blk_frozen BK870.out 1
    go_wp2_with (first | ((with_reducible refine gate_callee (f := 36) rfl ?_); refine goesL_ (some 37) rfl rfl Tryd.func36 (by kernel_rfl) rfl #[.agg #[.slice A0_0 l0_0.length c0_0, .slice A0_1 l0_1.length c0_1], .slice A1 l1.length c1] rfl ls_ ?_; (with_reducible refine (cottonpadlaw06_ready.calls k _ _ l0_0 _ _ l0_1 _ _ l1 true _ ?side1 ?side2 ?side3 ?side4 ?side5 ?side6 A9.out).mono ?_); (case side1 => exact kc_ HR0_0 HB); (case side2 => exact HC0_0.out); (case side3 => exact kc_ HR0_1 HB); (case side4 => exact HC0_1.out); (case side5 => exact kc_ HR1 HB); (case side6 => exact HC1.out); rintro e w13 ⟨rfl, hb⟩; refine ⟨_, rfl, ?_⟩; replace BK870 := bb_ BK870 hb; replace HB := bs1_ HB GE870 hb; (try clear hb); (try clear hb2); (try clear hk); (try clear hi)))
    go_meet
    case rel => exact ⟨_, (true), (by first | rfl | (simp; done) | (simp [*]; done)), H', ⟨by first | omega | exact Nat.le_refl _⟩, ⟨by refine bx_ ?_; exact BK870.out⟩, ⟨be1_ HB GE870⟩⟩
   ·rw [if_neg c11] at H
    have c11b0 : ((l1.length : Int) == 0) = false := beq_eq_false_iff_ne.mpr c11
    have c11b1 : ((l1.length : Int) != 0) = true := bne_iff_ne.mpr c11
    have c11b2 : ¬ (l1 = []) := fun h_ => c11 (by rw [h_]; rfl)
    (first | rw [c11b0] | (simp only [i64_w, i32_w]; rw [c11b0]) | skip)
    have H' := Aside0.mk H
    clear H
    have hcz14_0 : w8.cell? ⟨gb870, 0, none⟩ = some (.slice A0_0 l0_0.length c0_0) := bc_ BK870 0
    have hcz14_1 : w8.cell? ⟨gb870, 1, none⟩ = some (.slice A0_1 l0_1.length c0_1) := bc_ BK870 1
    have hfz14_0 := blk_frozen BK870.out 0
    have hfz14_1 := blk_frozen BK870.out 1
    go_wp2_with (first | ((with_reducible refine gate_callee (f := 36) rfl ?_); refine goesL_ (some 37) rfl rfl Tryd.func36 (by kernel_rfl) rfl #[.agg #[.slice A0_0 l0_0.length c0_0, .slice A0_1 l0_1.length c0_1], .slice A1 l1.length c1] rfl ls_ ?_; (with_reducible refine (cottonpadlaw06_ready.calls k _ _ l0_0 _ _ l0_1 _ _ l1 true _ ?side1 ?side2 ?side3 ?side4 ?side5 ?side6 A9.out).mono ?_); (case side1 => exact kc_ HR0_0 HB); (case side2 => exact HC0_0.out); (case side3 => exact kc_ HR0_1 HB); (case side4 => exact HC0_1.out); (case side5 => exact kc_ HR1 HB); (case side6 => exact HC1.out); rintro e w15 ⟨rfl, hb⟩; refine ⟨_, rfl, ?_⟩; replace BK870 := bb_ BK870 hb; replace HB := bs1_ HB GE870 hb; (try clear hb); (try clear hb2); (try clear hk); (try clear hi)))
    go_meet
    case rel => exact ⟨_, (!t871), (by first | rfl | (simp; done) | (simp [*]; done)), H', ⟨by first | omega | exact Nat.le_refl _⟩, ⟨by refine bx_ ?_; exact BK870.out⟩, ⟨be1_ HB GE870⟩⟩
  ·replace c10 := Bool.eq_false_iff.mpr c10
   subst c10
   have H1 : (cottonpadlaw06_ExitsLater.j0 k l1 a2 a3 t871 true l0_0 l0_1) = some r := by rw [if_neg (show ¬ (false = true) by decide)] at H; exact H
   clear H
   have H := H1
   clear H1
   have H' := Aside0.mk H
   clear H
   have hcz16_0 : w8.cell? ⟨gb870, 0, none⟩ = some (.slice A0_0 l0_0.length c0_0) := bc_ BK870 0
   have hcz16_1 : w8.cell? ⟨gb870, 1, none⟩ = some (.slice A0_1 l0_1.length c0_1) := bc_ BK870 1
   have hfz16_0 := blk_frozen BK870.out 0
   have hfz16_1 := blk_frozen BK870.out 1
   go_wp2_with (first | ((with_reducible refine gate_callee (f := 36) rfl ?_); refine goesL_ (some 37) rfl rfl Tryd.func36 (by kernel_rfl) rfl #[.agg #[.slice A0_0 l0_0.length c0_0, .slice A0_1 l0_1.length c0_1], .slice A1 l1.length c1] rfl ls_ ?_; (with_reducible refine (cottonpadlaw06_ready.calls k _ _ l0_0 _ _ l0_1 _ _ l1 false _ ?side1 ?side2 ?side3 ?side4 ?side5 ?side6 A9.out).mono ?_); (case side1 => exact kc_ HR0_0 HB); (case side2 => exact HC0_0.out); (case side3 => exact kc_ HR0_1 HB); (case side4 => exact HC0_1.out); (case side5 => exact kc_ HR1 HB); (case side6 => exact HC1.out); rintro e w17 ⟨rfl, hb⟩; refine ⟨_, rfl, ?_⟩; replace BK870 := bb_ BK870 hb; replace HB := bs1_ HB GE870 hb; (try clear hb); (try clear hb2); (try clear hk); (try clear hi)))
   go_meet
   case rel => exact ⟨_, (true), (by first | rfl | (simp; done) | (simp [*]; done)), H', ⟨by first | omega | exact Nat.le_refl _⟩, ⟨by refine bx_ ?_; exact BK870.out⟩, ⟨be1_ HB GE870⟩⟩
 case rest =>
  as_aux_lemma =>
   clear HC6
   try clear c1
   try clear p2
   try clear c3
   try clear c10
   try clear c11
   try clear c11b0
   try clear c11b1
   try clear c11b2
   try clear c12
   try clear hcz12_0
   try clear hcz12_1
   try clear hcz14_0
   try clear hcz14_1
   try clear hcz16_0
   try clear hcz16_1
   try clear hfz12_0
   try clear hfz12_1
   try clear hfz14_0
   try clear hfz14_1
   try clear hfz16_0
   try clear hfz16_1
   obtain ⟨kq, x47_5, rfl, HA, HJ5, BK870, HB⟩ := hcut
   cases kq with
   | zero => exact absurd HA.out (by simp [cottonpadlaw06_ExitsLater.j0])
   | succ kj5 =>
    have H := HA.out
    clear HA
    simp only [cottonpadlaw06_ExitsLater.j0] at H
    by_cases c18 : x47_5 = true
    ·subst c18
     have H1 : (some t871) = some r := by rw [if_pos rfl] at H; exact H
     clear H
     have H := H1
     clear H1
     obtain rfl := Option.some.inj H
     go_wp2
     go_ret
     exact ⟨rf_, be1_ HB GE870⟩
    ·replace c18 := Bool.eq_false_iff.mpr c18
     subst c18
     have H1 : ((cottonpadref06_Twin.f l0_0 l0_1).bind fun bt873 => ((some (([] : List (S48)) : List (S48))).bind fun y879 => (if y879.length + l1.length < 3518437208883 then (cottonpadlaw06_ExitsLater.l0 kj5 l1 a3 t871 (Int.tmod (wrap64 (a2)) 1000) (y879 ++ l1) (bt873.1.length : Int) 0 l0_0 l0_1 bt873.1 bt873.2) else (none)))) = some r := by rw [if_neg (show ¬ (false = true) by decide)] at H; exact H
     clear H
     have H := H1
     clear H1
     replace H := Option.bind_eq_some_iff.mp H
     obtain ⟨⟨t873, t876⟩, A190, H⟩ := H
     replace H : ((some (([] : List (S48)) : List (S48))).bind fun y879 => (if y879.length + l1.length < 3518437208883 then (cottonpadlaw06_ExitsLater.l0 kj5 l1 a3 t871 (Int.tmod (wrap64 (a2)) 1000) (y879 ++ l1) (t873.length : Int) 0 l0_0 l0_1 t873 t876) else (none))) = some r := H
     have A19 := Aside0.mk A190
     clear A190
     obtain ⟨y879, hy879⟩ : ∃ y_ : List (S48), y_ = (([] : List (S48))) := ⟨_, rfl⟩
     replace H : (if y879.length + l1.length < 3518437208883 then (cottonpadlaw06_ExitsLater.l0 kj5 l1 a3 t871 (Int.tmod (wrap64 (a2)) 1000) (y879 ++ l1) (t873.length : Int) 0 l0_0 l0_1 t873 t876) else (none)) = some r := by first | (rw [hy879]; with_reducible exact H) | (have H2_ := (Option.bind_some _ _).symm.trans H; rw [hy879]; with_reducible exact H2_) | (have H2_ := (Option.bind_some _ _).symm.trans H; with_reducible exact H2_) | with_reducible exact H | (rw [hy879]; exact H) | exact H
     have Ny879 := Aside0.mk hy879
     clear hy879
     by_cases c20 : y879.length + l1.length < 3518437208883
     ·rw [if_pos c20] at H
      have LMc20 := Aside0.mk c20
      clear c20
      obtain ⟨y882, hy882⟩ : ∃ y_ : List (S48), y_ = (y879 ++ l1) := ⟨_, rfl⟩
      replace H : (cottonpadlaw06_ExitsLater.l0 kj5 l1 a3 t871 (Int.tmod (wrap64 (a2)) 1000) y882 (t873.length : Int) 0 l0_0 l0_1 t873 t876) = some r := by first | (rw [hy882]; with_reducible exact H) | (have H2_ := (Option.bind_some _ _).symm.trans H; rw [hy882]; with_reducible exact H2_) | (have H2_ := (Option.bind_some _ _).symm.trans H; with_reducible exact H2_) | with_reducible exact H | (rw [hy882]; exact H) | exact H
      have Ny882 := Aside0.mk hy882
      clear hy882
      have H' := Aside0.mk H
      clear H
      have hcz21_0 : wc.cell? ⟨gb870, 0, none⟩ = some (.slice A0_0 l0_0.length c0_0) := bc_ BK870 0
      have hcz21_1 : wc.cell? ⟨gb870, 1, none⟩ = some (.slice A0_1 l0_1.length c0_1) := bc_ BK870 1
      have hfz21_0 := blk_frozen BK870.out 0
      have hfz21_1 := blk_frozen BK870.out 1
      go_wp2_with (first | ((with_reducible refine gate_callee (f := 16) rfl ?_); refine goesL_ (some 53) rfl rfl Tryd.func16 (by kernel_rfl) rfl #[.agg #[.slice A0_0 l0_0.length c0_0, .slice A0_1 l0_1.length c0_1]] rfl ls_ ?_; (with_reducible refine (cottonpadref06_Twin.calls _ _ l0_0 _ _ l0_1 t873 t876 _ ?side1 ?side2 ?side3 ?side4 A19.out).mono ?_); (case side1 => exact kc_ HR0_0 HB); (case side2 => exact HC0_0.out); (case side3 => exact kc_ HR0_1 HB); (case side4 => exact HC0_1.out); rintro e w22 ⟨v874, v877, rfl, ho0, ho1, hb⟩; refine ⟨_, rfl, ?_⟩; have HO875 := Aside0.mk (Kd.R_lower ho0 (below_size (be1_ HB GE870))); have HO878 := Aside0.mk (Kd.R_lower ho1 (below_size (be1_ HB GE870))); replace BK870 := bb_ BK870 hb; replace HB := bs1_ HB GE870 hb; (try clear hb); (try clear hb2); (try clear hk); (try clear hi); (try clear ho0); (try clear ho1)) | ((with_reducible refine gate_dst (N := 54) rfl ?_); (try (refine gate_guard (by rfl) ?_; dsimp only)); refine Kd.R_lit k48 _ 48 ?hg (N := 54) ?hd (xs := ([] : List (S48))) (inner := []) (ok := fun _ => True) (okp := fun _ => True) ?hr ?hp (fun _ hk => hk) trivial (Below.refl _ _) (Nat.le_refl _) (by simp) ?_; (case hd => rfl); (case hg => rfl); (case hr => exact gs_); (case hp => exact (Reps.none _ _)); intro v880 w23 ho24 hb hg_ hnew_; clear hg_ hnew_; (first | rw [← Ny879.out] at ho24 | (simp only [Int.reduceToNat] at ho24; rw [← Ny879.out] at ho24)); replace HO875 := rb_ HO875 hb; replace HO878 := rb_ HO878 hb; have HO881 := Aside0.mk (Kd.R_lower ho24 (below_size (be1_ HB GE870))); replace BK870 := bb_ BK870 hb; replace HB := bs1_ HB GE870 hb; clear hb ho24) | ((with_reducible refine gate_builtin (b := .append) (xs := #[.tmp 54, .tmp 55]) rfl ?_); (try (refine gate_guard (by rfl) ?_; dsimp only)); at_builtin; refine Kd.R_append_rows k48 (w0 := w) w.heap.size rfl (.tmp 54) (.tmp 55) 26 48 (.agg #[(.int .i64 0), (.int .i64 0), (.int .i64 0), (.int .i64 0), (.int .i64 0)]) 40 rfl Tryd.underlying26 info48 rfl (by decide) (by omega) v880 y879 l1 _ _ _ (fun _ => True) (fun _ => False) rfl rfl ?aO ?aR (fun _ _ h => h) (fun _ h => h.elim) ?aF ?aB ?aS ?aL ?_; (case aR => exact kc_ HR1 HB); (case aB => exact (be1_ HB GE870)); (case aF => exact (fun _ _ => trivial)); (case aO => exact (ro_ HO881)); (case aS => exact (below_size (be1_ HB GE870))); (case aL => have := LMc20.out; omega); intro v883 w25 ho hb hg hat; rw [← Ny882.out] at ho; replace BK870 := Aside0.mk (blk_grown (g := gb870) (o := .cells #[.slice A0_0 l0_0.length c0_0, .slice A0_1 l0_1.length c0_1] 25 (0, 0)) (bk_ BK870) hg (Kd.R_ne HO881.out BK870.out (by decide))); replace HO875 := Aside0.mk (Kd.R_over' (ro_ HO875) (Kd.R_typed (ro_ HO881)) (by decide) hg); replace HO878 := Aside0.mk (Kd.R_over' (ro_ HO878) (Kd.R_typed (ro_ HO881)) (by decide) hg); replace HB := Aside0.mk (hb); have HO884 := Aside0.mk (ho); clear HO881; clear ho hb hg hat) | ((with_reducible refine gate_dst (N := 11) rfl ?_); (try (refine gate_guard (by rfl) ?_; dsimp only)); refine box_event ?hg (N := 11) ?hd (cs := #[.slice none 0 0, .slice none 0 0]) (t := 25) ?hr ?_; (case hd => rfl); (case hg => rfl); (case hr => exact gs_); intro gb885 hg w26 hbox hb; replace HO875 := rb_ HO875 hb; replace HO878 := rb_ HO878 hb; replace HO884 := rb_ HO884 hb; have BK885 := Aside0.mk (hbox); have GW885 := hl_ hg (be1_ HB GE870); have GE885 := hl_ hg (be1_ HB GE870); replace HB := bs1_ HB GE870 hb; have NB870_885 := Aside0.mk ((by rw [hg]; exact Nat.ne_of_lt (blk_lt (bk_ BK870)) : gb870 ≠ gb885)); have NB885_870 := Aside0.mk ((by rw [hg]; exact Nat.ne_of_gt (blk_lt (bk_ BK870)) : gb885 ≠ gb870)); replace BK870 := bb_ BK870 hb; clear hb hbox hg; obtain ⟨Ao27, co27, eo27⟩ := Kd.R_slice HO875.out; subst eo27; have hnb28 := NB885_870.out; have hnc28 := NB870_885.out; have hcz29_0 : w26.cell? ⟨gb885, 0, none⟩ = some (.slice none 0 0) := bc_ BK885 0; have hcz29_1 : w26.cell? ⟨gb885, 1, none⟩ = some (.slice none 0 0) := bc_ BK885 1; have hfz29_0 := blk_frozen BK885.out 0; have hfz29_1 := blk_frozen BK885.out 1; obtain ⟨Ao30, co30, eo30⟩ := Kd.R_slice HO878.out; subst eo30))
      go_loopg [60] kj5 (fun kq v60 w' => ∃ (x60_2 : Int) (x886000_2 : List (S62)) (u886000 : Value), v60 = .int .i64 x60_2 ∧ Aside0 (cottonpadlaw06_ExitsLater.l0 kq l1 a3 t871 (Int.tmod (wrap64 (a2)) 1000) y882 (t873.length : Int) x60_2 l0_0 l0_1 x886000_2 t876 = some r) ∧ Aside0 (kq ≤ kj5) ∧ Aside0 (Kd.R k48 48 w' w.heap.size (fun _ => True) v883 y882) ∧ Aside0 (Kd.R k62 62 w' w.heap.size (fun _ => True) u886000 x886000_2) ∧ Aside0 (Kd.R k81 81 w' w.heap.size (fun _ => True) (.slice Ao30 t876.length co30) t876) ∧ Aside0 (w'.heap[gb870]? = some (.cells #[(.slice A0_0 l0_0.length c0_0), (.slice A0_1 l0_1.length c0_1)] 25 (0, 0))) ∧ Aside0 (w'.heap[gb885]? = some (.cells #[u886000, (.slice Ao30 t876.length co30)] 25 (0, 0))) ∧ Aside0 (Below w.heap.size w w'))
      case atStart => exact ⟨(0), (t873), (.slice Ao27 t873.length co27), (by first | rfl | (simp; done) | (simp [*]; done)), H', ⟨Nat.le_refl _⟩, ⟨by (with_reducible repeat (first | apply Kd.R_alloc | apply Kd.R_drewN | apply Kd.R_drew)); exact Kd.R_mono (Kd.R_far (p := ⟨gb885, 1, none⟩) (Kd.R_far (p := ⟨gb885, 0, none⟩) (Kd.R_types HO884.out BK885.out (by decide)) (fun _ hk => hk.2) (.slice Ao27 t873.length co27)) (fun _ hk => hk.2) (.slice Ao30 t876.length co30)) (fun _ hk => trivial)⟩, ⟨by (with_reducible repeat (first | apply Kd.R_alloc | apply Kd.R_drewN | apply Kd.R_drew)); exact Kd.R_mono (Kd.R_far (p := ⟨gb885, 1, none⟩) (Kd.R_far (p := ⟨gb885, 0, none⟩) (Kd.R_types HO875.out BK885.out (by decide)) (fun _ hk => hk.2) (.slice Ao27 t873.length co27)) (fun _ hk => hk.2) (.slice Ao30 t876.length co30)) (fun _ hk => trivial)⟩, ⟨by (with_reducible repeat (first | apply Kd.R_alloc | apply Kd.R_drewN | apply Kd.R_drew)); exact Kd.R_mono (Kd.R_far (p := ⟨gb885, 1, none⟩) (Kd.R_far (p := ⟨gb885, 0, none⟩) (Kd.R_types HO878.out BK885.out (by decide)) (fun _ hk => hk.2) (.slice Ao27 t873.length co27)) (fun _ hk => hk.2) (.slice Ao30 t876.length co30)) (fun _ hk => trivial)⟩, ⟨by refine bx_ ?_; refine blk_far ?_ NB870_885.out _; refine bx_ ?_; refine blk_far ?_ NB870_885.out _; refine bx_ ?_; exact BK870.out⟩, ⟨by refine bx_ ?_; refine blk_put (cs := #[.slice Ao27 t873.length co27, .slice none 0 0]) ?_ 1 _ rfl; refine bx_ ?_; refine blk_put (cs := #[.slice none 0 0, .slice none 0 0]) ?_ 0 _ rfl; refine bx_ ?_; exact BK885.out⟩, ⟨be2_ HB GE870 GE885⟩⟩
      case round =>
       clear H'
       try clear c1
       try clear c2
       try clear p2
       try clear c3
       try clear p6
       try clear c10
       try clear c11
       try clear c11b0
       try clear c11b1
       try clear c11b2
       try clear c12
       try clear c16
       try clear c18
       try clear c20
       try clear c28
       try clear c30
       try clear hcz12_0
       try clear hcz12_1
       try clear hcz14_0
       try clear hcz14_1
       try clear hcz16_0
       try clear hcz16_1
       try clear hcz21_0
       try clear hcz21_1
       try clear hcz29_0
       try clear hcz29_1
       try clear hfz12_0
       try clear hfz12_1
       try clear hfz14_0
       try clear hfz14_1
       try clear hfz16_0
       try clear hfz16_1
       try clear hfz21_0
       try clear hfz21_1
       try clear hfz29_0
       try clear hfz29_1
       try clear p2
       obtain ⟨x60_2, x886000_2, u886000, rfl, HA, HK2, HO_12, HO_886000, HO_886001, BK870, BK885, HB⟩ := hrel
       cases gk with
       | zero => exact absurd HA.out (by simp [cottonpadlaw06_ExitsLater.l0])
       | succ k2 =>
        have H := HA.out
        clear HA
        simp only [cottonpadlaw06_ExitsLater.l0] at H
        by_cases c31 : x60_2 < (t873.length : Int)
        ·rw [if_pos c31] at H
         have c31b0 : decide (x60_2 < (t873.length : Int)) = true := decide_eq_true c31
         clear c31
         by_cases c32 : 0 ≤ x60_2
         ·rw [if_pos c32] at H
          have c32b0 : decide (0 ≤ x60_2) = true := decide_eq_true c32
          clear c32
          by_cases c33 : x60_2 < (x886000_2.length : Int)
          ·rw [if_pos c33] at H
           have c33b0 : decide (x60_2 < (x886000_2.length : Int)) = true := decide_eq_true c33
           clear c33
           replace H := Option.bind_eq_some_iff.mp H
           obtain ⟨⟨t888, t889⟩, A340, H⟩ := H
           replace H : (cottonpadlaw06_ExitsLater.l0 k2 l1 a3 t871 (Int.tmod (wrap64 (a2)) 1000) y882 (t873.length : Int) (wrap64 (x60_2 + 1)) l0_0 l0_1 (x886000_2.set (x60_2 : Int).toNat (⟨(rd_T62 x886000_2 x60_2).f0, (rd_T62 x886000_2 x60_2).f1, (⟨(rd_T62 x886000_2 x60_2).f2.f0, (rd_T62 x886000_2 x60_2).f2.f1⟩ : S36), (⟨t888, t889⟩ : S36)⟩ : S62)) t876) = some r := H
           have A34 := Aside0.mk A340
           clear A340
           obtain ⟨y890, hy890⟩ : ∃ y_ : List (S62), y_ = (x886000_2.set (x60_2 : Int).toNat (⟨(rd_T62 x886000_2 x60_2).f0, (rd_T62 x886000_2 x60_2).f1, (⟨(rd_T62 x886000_2 x60_2).f2.f0, (rd_T62 x886000_2 x60_2).f2.f1⟩ : S36), (⟨t888, t889⟩ : S36)⟩ : S62)) := ⟨_, rfl⟩
           replace H : (cottonpadlaw06_ExitsLater.l0 k2 l1 a3 t871 (Int.tmod (wrap64 (a2)) 1000) y882 (t873.length : Int) (wrap64 (x60_2 + 1)) l0_0 l0_1 y890 t876) = some r := by first | (rw [hy890]; with_reducible exact H) | (have H2_ := (Option.bind_some _ _).symm.trans H; rw [hy890]; with_reducible exact H2_) | (have H2_ := (Option.bind_some _ _).symm.trans H; with_reducible exact H2_) | with_reducible exact H | (rw [hy890]; exact H) | exact H
           have Ny890 := Aside0.mk hy890
           clear hy890
           have H' := Aside0.mk H
           clear H
           try go_wp2
           replace HO_12 := Aside0.mk (Kd.R_drew HO_12.out)
           replace HO_886000 := Aside0.mk (Kd.R_drew HO_886000.out)
           replace HO_886001 := Aside0.mk (Kd.R_drew HO_886001.out)
           replace BK870 := Aside0.mk (blk_drew BK870.out)
           replace BK885 := Aside0.mk (blk_drew BK885.out)
           replace HB := Aside0.mk (below_drew1 HB.out)
           obtain ⟨Ao37, co37, eo37⟩ := Kd.R_slice HO_886000.out
           (first | subst eo37 | (injection eo37 with f1_ f2_ f3_; have f4_ := f1_.symm; have f5_ := f3_.symm; clear f1_ f2_ f3_; subst f4_; subst f5_))
           have p886 : 0 ≤ (x60_2 : Int) := of_decide_eq_true as_
           have q886 : x60_2 < (x886000_2.length : Int) := of_decide_eq_true as_
           obtain ⟨ad886, e886, hx886_0, hx886_1, hx886_2, hx886_3, hx886_4, hx886_5⟩ := at_T62 (Kd.R_reads' HO_886000.out).2.2 x60_2 p886 q886
           cases e886
           replace p886 := eq_true p886
           replace q886 := eq_true q886
           have p887 : 0 ≤ (x60_2 : Int) := of_decide_eq_true as_
           have q887 : x60_2 < (x886000_2.length : Int) := of_decide_eq_true as_
           obtain ⟨ad887, e887, hx887_0, hx887_1, hx887_2, hx887_3, hx887_4, hx887_5⟩ := at_T62 (Kd.R_reads' HO_886000.out).2.2 x60_2 p887 q887
           obtain rfl : ad886 = ad887 := (by injection e887)
           replace p887 := eq_true p887
           replace q887 := eq_true q887
           refine start_ (n := 25) (S := fun w' => w'.cell? ⟨gb885, 0, none⟩ = some (.slice (some ad886) x886000_2.length co37) ∧ w'.cell? ⟨gb885, 1, none⟩ = some (.slice Ao30 t876.length co30) ∧ w'.cell? (ad886.add ((x60_2).toNat * 6)) = some (.int .i64 ((rd_T62 x886000_2 x60_2).f0)) ∧ w'.cell? ⟨(ad886.add ((x60_2).toNat * 6)).block, (ad886.add ((x60_2).toNat * 6)).off + 1, none⟩ = some (.int .i64 ((rd_T62 x886000_2 x60_2).f1)) ∧ w'.cell? ⟨(ad886.add ((x60_2).toNat * 6)).block, (ad886.add ((x60_2).toNat * 6)).off + 2, none⟩ = some (.int .i64 ((rd_T62 x886000_2 x60_2).f2.f0)) ∧ w'.cell? ⟨(ad886.add ((x60_2).toNat * 6)).block, (ad886.add ((x60_2).toNat * 6)).off + 3, none⟩ = some (.int .i64 ((rd_T62 x886000_2 x60_2).f2.f1)) ∧ w'.cell? ⟨(ad886.add ((x60_2).toNat * 6)).block, (ad886.add ((x60_2).toNat * 6)).off + 4, none⟩ = some (.int .i64 ((rd_T62 x886000_2 x60_2).f3.f0)) ∧ w'.cell? ⟨(ad886.add ((x60_2).toNat * 6)).block, (ad886.add ((x60_2).toNat * 6)).off + 5, none⟩ = some (.int .i64 ((rd_T62 x886000_2 x60_2).f3.f1)) ∧ w'.cell? (ad886.add ((x60_2).toNat * 6)) = some (.int .i64 ((rd_T62 x886000_2 x60_2).f0)) ∧ w'.cell? ⟨(ad886.add ((x60_2).toNat * 6)).block, (ad886.add ((x60_2).toNat * 6)).off + 1, none⟩ = some (.int .i64 ((rd_T62 x886000_2 x60_2).f1)) ∧ w'.cell? ⟨(ad886.add ((x60_2).toNat * 6)).block, (ad886.add ((x60_2).toNat * 6)).off + 2, none⟩ = some (.int .i64 ((rd_T62 x886000_2 x60_2).f2.f0)) ∧ w'.cell? ⟨(ad886.add ((x60_2).toNat * 6)).block, (ad886.add ((x60_2).toNat * 6)).off + 3, none⟩ = some (.int .i64 ((rd_T62 x886000_2 x60_2).f2.f1)) ∧ w'.cell? ⟨(ad886.add ((x60_2).toNat * 6)).block, (ad886.add ((x60_2).toNat * 6)).off + 4, none⟩ = some (.int .i64 ((rd_T62 x886000_2 x60_2).f3.f0)) ∧ w'.cell? ⟨(ad886.add ((x60_2).toNat * 6)).block, (ad886.add ((x60_2).toNat * 6)).off + 5, none⟩ = some (.int .i64 ((rd_T62 x886000_2 x60_2).f3.f1))) (ds := [24]) (bm_ 25 0) (by kernel_rfl) rfl rfl ⟨bc_ BK885 0, bc_ BK885 1, hx886_0, hx886_1, hx886_2, hx886_3, hx886_4, hx886_5, hx887_0, hx887_1, hx887_2, hx887_3, hx887_4, hx887_5⟩ (fun hHeld => ?_); refine with_tabW cottonpadlaw06_ExitsLater.tab9 cottonpadlaw06_ExitsLater.bits9 (fun HT_ HW_ => ?_)
           generalize wr.drew = w36 at HO_12 HO_886000 HO_886001 BK870 BK885 HB hx886_0 hx886_1 hx886_2 hx886_3 hx886_4 hx886_5 hx887_0 hx887_1 hx887_2 hx887_3 hx887_4 hx887_5 hHeld ⊢
           refine pr_ 0 63 25 1 HT_ rfl rfl ?_
           refine pr_ 2 65 25 5 HT_ rfl rfl ?_
           refine pr_ 3 66 25 13 HT_ rfl rfl ?_
           refine pr_ 5 68 25 45 HT_ rfl rfl ?_
           refine pr_ 10 73 25 1069 HT_ rfl rfl ?_
           refine pr_ 12 75 25 5165 HT_ rfl rfl ?_
           refine pr_ 14 77 25 21549 HT_ rfl rfl ?_
           refine pr_ 19 82 25 545837 HT_ rfl rfl ?_
           refine ta_ 1 64 25 545839 HT_ HW_ rfl rfl hHeld ?_
           refine ta_ 4 67 25 545855 HT_ HW_ rfl rfl hHeld ?_
           refine pr_ 6 69 25 545919 HT_ rfl rfl ?_
           refine pr_ 7 70 25 546047 HT_ rfl rfl ?_
           refine pr_ 8 71 25 546303 HT_ rfl rfl ?_
           refine ta_ 9 72 25 546815 HT_ HW_ rfl rfl hHeld ?_
           refine pr_ 11 74 25 548863 HT_ rfl rfl ?_
           refine ta_ 13 76 25 557055 HT_ HW_ rfl rfl hHeld ?_
           refine pr_ 15 78 25 589823 HT_ rfl rfl ?_
           refine pr_ 16 79 25 655359 HT_ rfl rfl ?_
           refine pr_ 17 80 25 786431 HT_ rfl rfl ?_
           refine ta_ 18 81 25 1048575 HT_ HW_ rfl rfl hHeld ?_
           refine pr_ 20 83 25 2097151 HT_ rfl rfl ?_
           refine one_ (i := 21) (N := some 84) (bm_ 25 4194303) rfl rfl (one_of HT_.out (by kernel_rfl)) (by decide) (fun K hK => ?_)
           refine goes_ Tryd.func32 (by kernel_rfl) rfl #[.int .i64 (wrap64 (((rd_T62 x886000_2 x60_2).f3.f0) + (Int.tmod (wrap64 (a2)) 1000))), .int .i64 (wrap64 (((rd_T62 x886000_2 x60_2).f3.f1) + (Int.tmod (wrap64 (a2)) 1000)))] (by rfl) rfl rfl ls_ ?_
           with_reducible refine (cottonpadlaw06_span.calls (wrap64 (((rd_T62 x886000_2 x60_2).f3.f0) + (Int.tmod (wrap64 (a2)) 1000))) (wrap64 (((rd_T62 x886000_2 x60_2).f3.f1) + (Int.tmod (wrap64 (a2)) 1000))) t888 t889 _ A34.out).mono ?_
           rintro e w38 ⟨rfl, hb⟩
           have HS2_ := (hb.cell (World.block_lt_of_cell? _ _ (hHeld.2.2.1))).trans (hHeld.2.2.1)
           have HS3_ := (hb.cell (World.block_lt_of_cell? _ _ (hHeld.2.2.2.1))).trans (hHeld.2.2.2.1)
           have HS4_ := (hb.cell (World.block_lt_of_cell? _ _ (hHeld.2.2.2.2.1))).trans (hHeld.2.2.2.2.1)
           have HS5_ := (hb.cell (World.block_lt_of_cell? _ _ (hHeld.2.2.2.2.2.1))).trans (hHeld.2.2.2.2.2.1)
           have HS6_ := (hb.cell (World.block_lt_of_cell? _ _ (hHeld.2.2.2.2.2.2.1))).trans (hHeld.2.2.2.2.2.2.1)
           have HS7_ := (hb.cell (World.block_lt_of_cell? _ _ (hHeld.2.2.2.2.2.2.2.1))).trans (hHeld.2.2.2.2.2.2.2.1)
           have HS8_ := (hb.cell (World.block_lt_of_cell? _ _ (hHeld.2.2.2.2.2.2.2.2.1))).trans (hHeld.2.2.2.2.2.2.2.2.1)
           have HS9_ := (hb.cell (World.block_lt_of_cell? _ _ (hHeld.2.2.2.2.2.2.2.2.2.1))).trans (hHeld.2.2.2.2.2.2.2.2.2.1)
           have HS10_ := (hb.cell (World.block_lt_of_cell? _ _ (hHeld.2.2.2.2.2.2.2.2.2.2.1))).trans (hHeld.2.2.2.2.2.2.2.2.2.2.1)
           have HS11_ := (hb.cell (World.block_lt_of_cell? _ _ (hHeld.2.2.2.2.2.2.2.2.2.2.2.1))).trans (hHeld.2.2.2.2.2.2.2.2.2.2.2.1)
           have HS12_ := (hb.cell (World.block_lt_of_cell? _ _ (hHeld.2.2.2.2.2.2.2.2.2.2.2.2.1))).trans (hHeld.2.2.2.2.2.2.2.2.2.2.2.2.1)
           have HS13_ := (hb.cell (World.block_lt_of_cell? _ _ (hHeld.2.2.2.2.2.2.2.2.2.2.2.2.2))).trans (hHeld.2.2.2.2.2.2.2.2.2.2.2.2.2)
           refine ⟨_, rfl, ?_⟩
           replace HO_12 := rb_ HO_12 hb
           replace HO_886000 := rb_ HO_886000 hb
           replace HO_886001 := rb_ HO_886001 hb
           replace BK870 := bb_ BK870 hb
           replace BK885 := bb_ BK885 hb
           replace HB := bs2_ HB GE870 GE885 hb
           (try clear hb)
           (try clear hb2)
           (try clear hk)
           (try clear hi)
           have p35 : 0 ≤ (x60_2 : Int) := of_decide_eq_true as_
           have q35 : (x60_2 : Int) < ((x886000_2.length : Int) : Int) := of_decide_eq_true as_
           obtain ⟨go35, co35, eo35, gb35, gl35, cl35, HG35⟩ := Kd.R_form HO_886000.out (by omega)
           (first | cases eo35 | (injection eo35 with ea_ en_ ec_; (first | subst ea_ | (injection ea_ with ea_; subst ea_)); subst ec_; clear en_))
           have GB35 := Aside0.mk gb35
           have GG35 := Aside0.mk HG35
           clear gb35 gl35 HG35
           (first | simp only [add_plain] at hx886_0 | skip)
           (first | simp only [add_plain] at hx886_1 | skip)
           (first | simp only [add_plain] at hx886_2 | skip)
           (first | simp only [add_plain] at hx886_3 | skip)
           (first | simp only [add_plain] at hx886_4 | skip)
           (first | simp only [add_plain] at hx886_5 | skip)
           (first | simp only [add_plain] at hx887_0 | skip)
           (first | simp only [add_plain] at hx887_1 | skip)
           (first | simp only [add_plain] at hx887_2 | skip)
           (first | simp only [add_plain] at hx887_3 | skip)
           (first | simp only [add_plain] at hx887_4 | skip)
           (first | simp only [add_plain] at hx887_5 | skip)
           obtain ⟨ce35, hcl35, hM35, hcc35, hfr35⟩ := Kd.R_elem HO_886000.out z62 (x60_2 : Int) p35 q35
           obtain rfl := k62_openM hM35
           have hx35_0 : World.cell? _ ⟨go35, (x60_2 : Int).toNat * 6, none⟩ = some (.int .i64 ((rd_T62 x886000_2 x60_2).f0)) := hcc35 0 _ rfl
           have hx35_1 : World.cell? _ ⟨go35, (x60_2 : Int).toNat * 6 + 1, none⟩ = some (.int .i64 ((rd_T62 x886000_2 x60_2).f1)) := hcc35 1 _ rfl
           have hx35_2 : World.cell? _ ⟨go35, (x60_2 : Int).toNat * 6 + 2, none⟩ = some (.int .i64 ((rd_T62 x886000_2 x60_2).f2.f0)) := hcc35 2 _ rfl
           have hx35_3 : World.cell? _ ⟨go35, (x60_2 : Int).toNat * 6 + 3, none⟩ = some (.int .i64 ((rd_T62 x886000_2 x60_2).f2.f1)) := hcc35 3 _ rfl
           have hx35_4 : World.cell? _ ⟨go35, (x60_2 : Int).toNat * 6 + 4, none⟩ = some (.int .i64 ((rd_T62 x886000_2 x60_2).f3.f0)) := hcc35 4 _ rfl
           have hx35_5 : World.cell? _ ⟨go35, (x60_2 : Int).toNat * 6 + 5, none⟩ = some (.int .i64 ((rd_T62 x886000_2 x60_2).f3.f1)) := hcc35 5 _ rfl
           have hf35_0 : World.frozen? _ ⟨go35, (x60_2 : Int).toNat * 6, none⟩ = false := hfr35 0
           have hf35_1 : World.frozen? _ ⟨go35, (x60_2 : Int).toNat * 6 + 1, none⟩ = false := hfr35 1
           have hf35_2 : World.frozen? _ ⟨go35, (x60_2 : Int).toNat * 6 + 2, none⟩ = false := hfr35 2
           have hf35_3 : World.frozen? _ ⟨go35, (x60_2 : Int).toNat * 6 + 3, none⟩ = false := hfr35 3
           have hf35_4 : World.frozen? _ ⟨go35, (x60_2 : Int).toNat * 6 + 4, none⟩ = false := hfr35 4
           have hf35_5 : World.frozen? _ ⟨go35, (x60_2 : Int).toNat * 6 + 5, none⟩ = false := hfr35 5
           clear hcl35 hcc35 hfr35 hM35
           replace p35 := eq_true p35
           replace q35 := eq_true q35
           obtain ⟨ce39, hcl39, hM39, hcc39, hfr39⟩ := Kd.R_elem HO_886000.out z62 (x60_2 : Int) (of_decide_eq_true as_) (by have h_ : (x60_2 : Int) < ((x886000_2.length : Int) : Int) := of_decide_eq_true as_; first | exact h_ | (have e_ := (Kd.R_reads' HO_886000.out).1; omega) | simpa using h_)
           obtain rfl := k62_openM hM39
           have HP39 := (Kd.R_seg HO_886000.out (x60_2 : Int) (of_decide_eq_true as_) (by have h_ : (x60_2 : Int) < ((x886000_2.length : Int) : Int) := of_decide_eq_true as_; first | exact h_ | (have e_ := (Kd.R_reads' HO_886000.out).1; omega) | simpa using h_) (seg := [.int .i64 t888, .int .i64 t889]) (j := 4) hcl39 hcc39 (show 6 ≤ 6 from by decide) (x' := (⟨(rd_T62 x886000_2 x60_2).f0, (rd_T62 x886000_2 x60_2).f1, (⟨(rd_T62 x886000_2 x60_2).f2.f0, (rd_T62 x886000_2 x60_2).f2.f1⟩ : S36), (⟨t888, t889⟩ : S36)⟩ : S62)) (k62_mkM _ _ _ (⟨(rd_T62 x886000_2 x60_2).f0, (rd_T62 x886000_2 x60_2).f1, (⟨(rd_T62 x886000_2 x60_2).f2.f0, (rd_T62 x886000_2 x60_2).f2.f1⟩ : S36), (⟨t888, t889⟩ : S36)⟩ : S62) ) (fun _ hk => hk)).1
           rw [← Ny890.out] at HP39
           have HQ39 := Aside0.mk HP39
           clear hcl39 hcc39 hfr39 hM39 HP39
           refine hK.out _ _ ⟨bc_ BK885 0, bc_ BK885 1, HS2_, HS3_, HS4_, HS5_, HS6_, HS7_, HS8_, HS9_, HS10_, HS11_, HS12_, HS13_⟩ (fun hHeld => ?_)
           clear hK K
           refine norm_ (a' := ?_) ?_ ?_
           rotate_left
           ·show Act.put _ (some 84) _ = _
            simp only [Act.put, List.setIfInBounds_toArray, List.set_cons_zero, List.set_cons_succ, i64_w, i32_w]
            rfl
           refine pr_ 22 85 25 8388607 HT_ rfl rfl ?_
           refine pr_ 23 86 25 16777215 HT_ rfl rfl ?_
           refine last_ (i := 24) (N := none) (bm_ 25 33554431) rfl rfl (one_of HT_.out (by kernel_rfl)) (by decide) (fun K hK => ?_)
           refine skip_ (w1 := ?_) (by rfl) rfl ?_ ?_
           rotate_left
           ·go_simp
            rfl
           refine hK.out _ _ ?_
           clear hK K
           refine done_ (done_of HT_.out (by kernel_rfl)) ?_
           try go_wp2
           go_roundg k2
           case measure => have := HJ5.out; have := HK2.out; omega
           case rel => exact ⟨(wrap64 (x60_2 + 1)), (y890), (.slice (some ⟨go35, 0, none⟩) x886000_2.length co37), (by first | rfl | (simp; done) | (simp [*]; done)), H', ⟨by have := HJ5.out; have := HK2.out; omega⟩, ⟨by (with_reducible repeat (first | apply Kd.R_alloc | apply Kd.R_drewN | apply Kd.R_drew)); exact Kd.R_mono (Kd.R_far (p := ⟨go35, (x60_2 : Int).toNat * 6 + 5, none⟩) (Kd.R_far (p := ⟨go35, (x60_2 : Int).toNat * 6 + 4, none⟩) (Kd.R_types HO_12.out GG35.out (by decide)) (fun _ hk => hk.2) (.int .i64 t888)) (fun _ hk => hk.2) (.int .i64 t889)) (fun _ hk => trivial)⟩, ⟨by (with_reducible repeat (first | apply Kd.R_alloc | apply Kd.R_drewN | apply Kd.R_drew)); exact HQ39.out⟩, ⟨by (with_reducible repeat (first | apply Kd.R_alloc | apply Kd.R_drewN | apply Kd.R_drew)); exact Kd.R_mono (Kd.R_far (p := ⟨go35, (x60_2 : Int).toNat * 6 + 5, none⟩) (Kd.R_far (p := ⟨go35, (x60_2 : Int).toNat * 6 + 4, none⟩) (Kd.R_types HO_886001.out GG35.out (by decide)) (fun _ hk => hk.2) (.int .i64 t888)) (fun _ hk => hk.2) (.int .i64 t889)) (fun _ hk => trivial)⟩, ⟨by refine bx_ ?_; refine blk_far ?_ (by have h_ := Kd.R_ne HO_886000.out BK870.out (by decide); intro e_; exact h_ (by rw [e_]; rfl)) _; refine bx_ ?_; refine blk_far ?_ (by have h_ := Kd.R_ne HO_886000.out BK870.out (by decide); intro e_; exact h_ (by rw [e_]; rfl)) _; refine bx_ ?_; exact BK870.out⟩, ⟨by refine bx_ ?_; refine blk_far ?_ (by have h_ := Kd.R_ne HO_886000.out BK885.out (by decide); intro e_; exact h_ (by rw [e_]; rfl)) _; refine bx_ ?_; refine blk_far ?_ (by have h_ := Kd.R_ne HO_886000.out BK885.out (by decide); intro e_; exact h_ (by rw [e_]; rfl)) _; refine bx_ ?_; exact BK885.out⟩, ⟨by repeat (first | (with_reducible first | exact HB.out | apply below_alloc | apply pw_below_drewN | apply below_drew1 | refine below_set ?_ GB35.out | refine below_set ?_ GB35.out | refine below_set ?_ GE870.out | refine below_set ?_ GE885.out) | exact HB.out)⟩⟩
          ·rw [if_neg c33] at H
           exact absurd H (by simp)
         ·rw [if_neg c32] at H
          exact absurd H (by simp)
        ·rw [if_neg c31] at H
         have c31b0 : decide (x60_2 < (t873.length : Int)) = false := decide_eq_false c31
         clear c31
         have H' := Aside0.mk H
         clear H
         have hnb40 := NB885_870.out
         have hnc40 := NB870_885.out
         have hcz41_0 : wr.cell? ⟨gb885, 0, none⟩ = some (u886000) := bc_ BK885 0
         have hcz41_1 : wr.cell? ⟨gb885, 1, none⟩ = some (.slice Ao30 t876.length co30) := bc_ BK885 1
         have hfz41_0 := blk_frozen BK885.out 0
         have hfz41_1 := blk_frozen BK885.out 1
         go_wp2
         go_loopg [91] k2 (fun kq v91 w' => ∃ (x91_3 : Int) (x886001_3 : List (S81)) (u886001 : Value), v91 = .int .i64 x91_3 ∧ Aside0 (cottonpadlaw06_ExitsLater.l1 kq l1 a3 t871 (Int.tmod (wrap64 (a2)) 1000) y882 (t876.length : Int) x91_3 l0_0 l0_1 x886000_2 x886001_3 = some r) ∧ Aside0 (kq ≤ k2) ∧ Aside0 (Kd.R k48 48 w' w.heap.size (fun _ => True) v883 y882) ∧ Aside0 (Kd.R k62 62 w' w.heap.size (fun _ => True) u886000 x886000_2) ∧ Aside0 (Kd.R k81 81 w' w.heap.size (fun _ => True) u886001 x886001_3) ∧ Aside0 (w'.heap[gb870]? = some (.cells #[(.slice A0_0 l0_0.length c0_0), (.slice A0_1 l0_1.length c0_1)] 25 (0, 0))) ∧ Aside0 (w'.heap[gb885]? = some (.cells #[u886000, u886001] 25 (0, 0))) ∧ Aside0 (Below w.heap.size w w'))
         case atStart => exact ⟨(0), (t876), (.slice Ao30 t876.length co30), (by first | rfl | (simp; done) | (simp [*]; done)), H', ⟨Nat.le_refl _⟩, ⟨by (with_reducible repeat (first | apply Kd.R_alloc | apply Kd.R_drewN | apply Kd.R_drew)); exact HO_12.out⟩, ⟨by (with_reducible repeat (first | apply Kd.R_alloc | apply Kd.R_drewN | apply Kd.R_drew)); exact HO_886000.out⟩, ⟨by (with_reducible repeat (first | apply Kd.R_alloc | apply Kd.R_drewN | apply Kd.R_drew)); exact HO_886001.out⟩, ⟨by refine bx_ ?_; exact BK870.out⟩, ⟨by refine bx_ ?_; exact BK885.out⟩, ⟨be2_ HB GE870 GE885⟩⟩
         case round =>
          clear H'
          try clear c1
          try clear c2
          try clear p2
          try clear c3
          try clear p3
          try clear q3
          try clear hx3
          try clear c4
          try clear p6
          try clear p8
          try clear q8
          try clear hx8
          try clear c10
          try clear c11
          try clear c11b0
          try clear c11b1
          try clear c11b2
          try clear c12
          try clear c16
          try clear c18
          try clear c20
          try clear c28
          try clear c30
          try clear c31
          try clear c31b0
          try clear c32
          try clear c32b0
          try clear c33
          try clear c33b0
          try clear c35
          try clear p35
          try clear q35
          try clear hx35
          try clear hf35
          try clear c36
          try clear c39
          try clear c40
          try clear hcz12_0
          try clear hcz12_1
          try clear hcz14_0
          try clear hcz14_1
          try clear hcz16_0
          try clear hcz16_1
          try clear hcz21_0
          try clear hcz21_1
          try clear hcz29_0
          try clear hcz29_1
          try clear hcz41_0
          try clear hcz41_1
          try clear hfz12_0
          try clear hfz12_1
          try clear hfz14_0
          try clear hfz14_1
          try clear hfz16_0
          try clear hfz16_1
          try clear hfz21_0
          try clear hfz21_1
          try clear hfz29_0
          try clear hfz29_1
          try clear hfz41_0
          try clear hfz41_1
          try clear hx35_0
          try clear hx35_1
          try clear hx35_2
          try clear hx35_3
          try clear hx35_4
          try clear hx35_5
          try clear hx886_0
          try clear hx886_1
          try clear hx886_2
          try clear hx886_3
          try clear hx886_4
          try clear hx886_5
          try clear hx887_0
          try clear hx887_1
          try clear hx887_2
          try clear hx887_3
          try clear hx887_4
          try clear hx887_5
          try clear p2
          try clear p35
          try clear p6
          try clear p886
          try clear p887
          try clear q35
          try clear q886
          try clear q887
          obtain ⟨x91_3, x886001_3, u886001, rfl, HA, HK3, HO_12, HO_886000, HO_886001, BK870, BK885, HB⟩ := hrel
          cases gk with
          | zero => exact absurd HA.out (by simp [cottonpadlaw06_ExitsLater.l1])
          | succ k3 =>
           have H := HA.out
           clear HA
           simp only [cottonpadlaw06_ExitsLater.l1] at H
           by_cases c42 : x91_3 < (t876.length : Int)
           ·rw [if_pos c42] at H
            have c42b0 : decide (x91_3 < (t876.length : Int)) = true := decide_eq_true c42
            clear c42
            by_cases c43 : 0 ≤ x91_3
            ·rw [if_pos c43] at H
             have c43b0 : decide (0 ≤ x91_3) = true := decide_eq_true c43
             clear c43
             by_cases c44 : x91_3 < (x886001_3.length : Int)
             ·rw [if_pos c44] at H
              have c44b0 : decide (x91_3 < (x886001_3.length : Int)) = true := decide_eq_true c44
              clear c44
              replace H := Option.bind_eq_some_iff.mp H
              obtain ⟨⟨t893, t894⟩, A450, H⟩ := H
              replace H : (cottonpadlaw06_ExitsLater.l1 k3 l1 a3 t871 (Int.tmod (wrap64 (a2)) 1000) y882 (t876.length : Int) (wrap64 (x91_3 + 1)) l0_0 l0_1 x886000_2 (x886001_3.set (x91_3 : Int).toNat (⟨(rd_T81 x886001_3 x91_3).f0, (rd_T81 x886001_3 x91_3).f1, (⟨t893, t894⟩ : S36)⟩ : S81))) = some r := H
              have A45 := Aside0.mk A450
              clear A450
              obtain ⟨y895, hy895⟩ : ∃ y_ : List (S81), y_ = (x886001_3.set (x91_3 : Int).toNat (⟨(rd_T81 x886001_3 x91_3).f0, (rd_T81 x886001_3 x91_3).f1, (⟨t893, t894⟩ : S36)⟩ : S81)) := ⟨_, rfl⟩
              replace H : (cottonpadlaw06_ExitsLater.l1 k3 l1 a3 t871 (Int.tmod (wrap64 (a2)) 1000) y882 (t876.length : Int) (wrap64 (x91_3 + 1)) l0_0 l0_1 x886000_2 y895) = some r := by first | (rw [hy895]; with_reducible exact H) | (have H2_ := (Option.bind_some _ _).symm.trans H; rw [hy895]; with_reducible exact H2_) | (have H2_ := (Option.bind_some _ _).symm.trans H; with_reducible exact H2_) | with_reducible exact H | (rw [hy895]; exact H) | exact H
              have Ny895 := Aside0.mk hy895
              clear hy895
              have H' := Aside0.mk H
              clear H
              try go_wp2
              replace HO_12 := Aside0.mk (Kd.R_drew HO_12.out)
              replace HO_886000 := Aside0.mk (Kd.R_drew HO_886000.out)
              replace HO_886001 := Aside0.mk (Kd.R_drew HO_886001.out)
              replace BK870 := Aside0.mk (blk_drew BK870.out)
              replace BK885 := Aside0.mk (blk_drew BK885.out)
              replace HB := Aside0.mk (below_drew1 HB.out)
              obtain ⟨Ao48, co48, eo48⟩ := Kd.R_slice HO_886001.out
              (first | subst eo48 | (injection eo48 with f1_ f2_ f3_; have f4_ := f1_.symm; have f5_ := f3_.symm; clear f1_ f2_ f3_; subst f4_; subst f5_))
              have p891 : 0 ≤ (x91_3 : Int) := of_decide_eq_true as_
              have q891 : x91_3 < (x886001_3.length : Int) := of_decide_eq_true as_
              obtain ⟨ad891, e891, hx891_0, hx891_1, hx891_2, hx891_3⟩ := at_T81 (Kd.R_reads' HO_886001.out).2.2 x91_3 p891 q891
              cases e891
              replace p891 := eq_true p891
              replace q891 := eq_true q891
              have p892 : 0 ≤ (x91_3 : Int) := of_decide_eq_true as_
              have q892 : x91_3 < (x886001_3.length : Int) := of_decide_eq_true as_
              obtain ⟨ad892, e892, hx892_0, hx892_1, hx892_2, hx892_3⟩ := at_T81 (Kd.R_reads' HO_886001.out).2.2 x91_3 p892 q892
              obtain rfl : ad891 = ad892 := (by injection e892)
              replace p892 := eq_true p892
              replace q892 := eq_true q892
              refine start_ (n := 25) (S := fun w' => w'.cell? ⟨gb885, 0, none⟩ = some (u886000) ∧ w'.cell? ⟨gb885, 1, none⟩ = some (.slice (some ad891) x886001_3.length co48) ∧ w'.cell? (ad891.add ((x91_3).toNat * 4)) = some (.int .i64 ((rd_T81 x886001_3 x91_3).f0)) ∧ w'.cell? ⟨(ad891.add ((x91_3).toNat * 4)).block, (ad891.add ((x91_3).toNat * 4)).off + 1, none⟩ = some (.int .i64 ((rd_T81 x886001_3 x91_3).f1)) ∧ w'.cell? ⟨(ad891.add ((x91_3).toNat * 4)).block, (ad891.add ((x91_3).toNat * 4)).off + 2, none⟩ = some (.int .i64 ((rd_T81 x886001_3 x91_3).f2.f0)) ∧ w'.cell? ⟨(ad891.add ((x91_3).toNat * 4)).block, (ad891.add ((x91_3).toNat * 4)).off + 3, none⟩ = some (.int .i64 ((rd_T81 x886001_3 x91_3).f2.f1)) ∧ w'.cell? (ad891.add ((x91_3).toNat * 4)) = some (.int .i64 ((rd_T81 x886001_3 x91_3).f0)) ∧ w'.cell? ⟨(ad891.add ((x91_3).toNat * 4)).block, (ad891.add ((x91_3).toNat * 4)).off + 1, none⟩ = some (.int .i64 ((rd_T81 x886001_3 x91_3).f1)) ∧ w'.cell? ⟨(ad891.add ((x91_3).toNat * 4)).block, (ad891.add ((x91_3).toNat * 4)).off + 2, none⟩ = some (.int .i64 ((rd_T81 x886001_3 x91_3).f2.f0)) ∧ w'.cell? ⟨(ad891.add ((x91_3).toNat * 4)).block, (ad891.add ((x91_3).toNat * 4)).off + 3, none⟩ = some (.int .i64 ((rd_T81 x886001_3 x91_3).f2.f1))) (ds := [24]) (bm_ 25 0) (by kernel_rfl) rfl rfl ⟨bc_ BK885 0, bc_ BK885 1, hx891_0, hx891_1, hx891_2, hx891_3, hx892_0, hx892_1, hx892_2, hx892_3⟩ (fun hHeld => ?_); refine with_tabW cottonpadlaw06_ExitsLater.tab14 cottonpadlaw06_ExitsLater.bits14 (fun HT_ HW_ => ?_)
              generalize wr.drew = w47 at HO_12 HO_886000 HO_886001 BK870 BK885 HB hx891_0 hx891_1 hx891_2 hx891_3 hx892_0 hx892_1 hx892_2 hx892_3 hHeld ⊢
              refine pr_ 0 94 25 1 HT_ rfl rfl ?_
              refine pr_ 2 96 25 5 HT_ rfl rfl ?_
              refine pr_ 3 97 25 13 HT_ rfl rfl ?_
              refine pr_ 5 99 25 45 HT_ rfl rfl ?_
              refine pr_ 10 104 25 1069 HT_ rfl rfl ?_
              refine pr_ 12 106 25 5165 HT_ rfl rfl ?_
              refine pr_ 14 108 25 21549 HT_ rfl rfl ?_
              refine pr_ 19 113 25 545837 HT_ rfl rfl ?_
              refine ta_ 1 95 25 545839 HT_ HW_ rfl rfl hHeld ?_
              refine ta_ 4 98 25 545855 HT_ HW_ rfl rfl hHeld ?_
              refine pr_ 6 100 25 545919 HT_ rfl rfl ?_
              refine pr_ 7 101 25 546047 HT_ rfl rfl ?_
              refine pr_ 8 102 25 546303 HT_ rfl rfl ?_
              refine ta_ 9 103 25 546815 HT_ HW_ rfl rfl hHeld ?_
              refine pr_ 11 105 25 548863 HT_ rfl rfl ?_
              refine ta_ 13 107 25 557055 HT_ HW_ rfl rfl hHeld ?_
              refine pr_ 15 109 25 589823 HT_ rfl rfl ?_
              refine pr_ 16 110 25 655359 HT_ rfl rfl ?_
              refine pr_ 17 111 25 786431 HT_ rfl rfl ?_
              refine ta_ 18 112 25 1048575 HT_ HW_ rfl rfl hHeld ?_
              refine pr_ 20 114 25 2097151 HT_ rfl rfl ?_
              refine one_ (i := 21) (N := some 115) (bm_ 25 4194303) rfl rfl (one_of HT_.out (by kernel_rfl)) (by decide) (fun K hK => ?_)
              refine goes_ Tryd.func32 (by kernel_rfl) rfl #[.int .i64 (wrap64 (((rd_T81 x886001_3 x91_3).f2.f0) + (Int.tmod (wrap64 (a2)) 1000))), .int .i64 (wrap64 (((rd_T81 x886001_3 x91_3).f2.f1) + (Int.tmod (wrap64 (a2)) 1000)))] (by rfl) rfl rfl ls_ ?_
              with_reducible refine (cottonpadlaw06_span.calls (wrap64 (((rd_T81 x886001_3 x91_3).f2.f0) + (Int.tmod (wrap64 (a2)) 1000))) (wrap64 (((rd_T81 x886001_3 x91_3).f2.f1) + (Int.tmod (wrap64 (a2)) 1000))) t893 t894 _ A45.out).mono ?_
              rintro e w49 ⟨rfl, hb⟩
              have HS2_ := (hb.cell (World.block_lt_of_cell? _ _ (hHeld.2.2.1))).trans (hHeld.2.2.1)
              have HS3_ := (hb.cell (World.block_lt_of_cell? _ _ (hHeld.2.2.2.1))).trans (hHeld.2.2.2.1)
              have HS4_ := (hb.cell (World.block_lt_of_cell? _ _ (hHeld.2.2.2.2.1))).trans (hHeld.2.2.2.2.1)
              have HS5_ := (hb.cell (World.block_lt_of_cell? _ _ (hHeld.2.2.2.2.2.1))).trans (hHeld.2.2.2.2.2.1)
              have HS6_ := (hb.cell (World.block_lt_of_cell? _ _ (hHeld.2.2.2.2.2.2.1))).trans (hHeld.2.2.2.2.2.2.1)
              have HS7_ := (hb.cell (World.block_lt_of_cell? _ _ (hHeld.2.2.2.2.2.2.2.1))).trans (hHeld.2.2.2.2.2.2.2.1)
              have HS8_ := (hb.cell (World.block_lt_of_cell? _ _ (hHeld.2.2.2.2.2.2.2.2.1))).trans (hHeld.2.2.2.2.2.2.2.2.1)
              have HS9_ := (hb.cell (World.block_lt_of_cell? _ _ (hHeld.2.2.2.2.2.2.2.2.2))).trans (hHeld.2.2.2.2.2.2.2.2.2)
              refine ⟨_, rfl, ?_⟩
              replace HO_12 := rb_ HO_12 hb
              replace HO_886000 := rb_ HO_886000 hb
              replace HO_886001 := rb_ HO_886001 hb
              replace BK870 := bb_ BK870 hb
              replace BK885 := bb_ BK885 hb
              replace HB := bs2_ HB GE870 GE885 hb
              (try clear hb)
              (try clear hb2)
              (try clear hk)
              (try clear hi)
              have p46 : 0 ≤ (x91_3 : Int) := of_decide_eq_true as_
              have q46 : (x91_3 : Int) < ((x886001_3.length : Int) : Int) := of_decide_eq_true as_
              obtain ⟨go46, co46, eo46, gb46, gl46, cl46, HG46⟩ := Kd.R_form HO_886001.out (by omega)
              (first | cases eo46 | (injection eo46 with ea_ en_ ec_; (first | subst ea_ | (injection ea_ with ea_; subst ea_)); subst ec_; clear en_))
              have GB46 := Aside0.mk gb46
              have GG46 := Aside0.mk HG46
              clear gb46 gl46 HG46
              (first | simp only [add_plain] at hx891_0 | skip)
              (first | simp only [add_plain] at hx891_1 | skip)
              (first | simp only [add_plain] at hx891_2 | skip)
              (first | simp only [add_plain] at hx891_3 | skip)
              (first | simp only [add_plain] at hx892_0 | skip)
              (first | simp only [add_plain] at hx892_1 | skip)
              (first | simp only [add_plain] at hx892_2 | skip)
              (first | simp only [add_plain] at hx892_3 | skip)
              obtain ⟨ce46, hcl46, hM46, hcc46, hfr46⟩ := Kd.R_elem HO_886001.out z81 (x91_3 : Int) p46 q46
              obtain rfl := k81_openM hM46
              have hx46_0 : World.cell? _ ⟨go46, (x91_3 : Int).toNat * 4, none⟩ = some (.int .i64 ((rd_T81 x886001_3 x91_3).f0)) := hcc46 0 _ rfl
              have hx46_1 : World.cell? _ ⟨go46, (x91_3 : Int).toNat * 4 + 1, none⟩ = some (.int .i64 ((rd_T81 x886001_3 x91_3).f1)) := hcc46 1 _ rfl
              have hx46_2 : World.cell? _ ⟨go46, (x91_3 : Int).toNat * 4 + 2, none⟩ = some (.int .i64 ((rd_T81 x886001_3 x91_3).f2.f0)) := hcc46 2 _ rfl
              have hx46_3 : World.cell? _ ⟨go46, (x91_3 : Int).toNat * 4 + 3, none⟩ = some (.int .i64 ((rd_T81 x886001_3 x91_3).f2.f1)) := hcc46 3 _ rfl
              have hf46_0 : World.frozen? _ ⟨go46, (x91_3 : Int).toNat * 4, none⟩ = false := hfr46 0
              have hf46_1 : World.frozen? _ ⟨go46, (x91_3 : Int).toNat * 4 + 1, none⟩ = false := hfr46 1
              have hf46_2 : World.frozen? _ ⟨go46, (x91_3 : Int).toNat * 4 + 2, none⟩ = false := hfr46 2
              have hf46_3 : World.frozen? _ ⟨go46, (x91_3 : Int).toNat * 4 + 3, none⟩ = false := hfr46 3
              clear hcl46 hcc46 hfr46 hM46
              replace p46 := eq_true p46
              replace q46 := eq_true q46
              obtain ⟨ce50, hcl50, hM50, hcc50, hfr50⟩ := Kd.R_elem HO_886001.out z81 (x91_3 : Int) (of_decide_eq_true as_) (by have h_ : (x91_3 : Int) < ((x886001_3.length : Int) : Int) := of_decide_eq_true as_; first | exact h_ | (have e_ := (Kd.R_reads' HO_886001.out).1; omega) | simpa using h_)
              obtain rfl := k81_openM hM50
              have HP50 := (Kd.R_seg HO_886001.out (x91_3 : Int) (of_decide_eq_true as_) (by have h_ : (x91_3 : Int) < ((x886001_3.length : Int) : Int) := of_decide_eq_true as_; first | exact h_ | (have e_ := (Kd.R_reads' HO_886001.out).1; omega) | simpa using h_) (seg := [.int .i64 t893, .int .i64 t894]) (j := 2) hcl50 hcc50 (show 4 ≤ 4 from by decide) (x' := (⟨(rd_T81 x886001_3 x91_3).f0, (rd_T81 x886001_3 x91_3).f1, (⟨t893, t894⟩ : S36)⟩ : S81)) (k81_mkM _ _ _ (⟨(rd_T81 x886001_3 x91_3).f0, (rd_T81 x886001_3 x91_3).f1, (⟨t893, t894⟩ : S36)⟩ : S81) ) (fun _ hk => hk)).1
              rw [← Ny895.out] at HP50
              have HQ50 := Aside0.mk HP50
              clear hcl50 hcc50 hfr50 hM50 HP50
              refine hK.out _ _ ⟨bc_ BK885 0, bc_ BK885 1, HS2_, HS3_, HS4_, HS5_, HS6_, HS7_, HS8_, HS9_⟩ (fun hHeld => ?_)
              clear hK K
              refine norm_ (a' := ?_) ?_ ?_
              rotate_left
              ·show Act.put _ (some 115) _ = _
               simp only [Act.put, List.setIfInBounds_toArray, List.set_cons_zero, List.set_cons_succ, i64_w, i32_w]
               rfl
              refine pr_ 22 116 25 8388607 HT_ rfl rfl ?_
              refine pr_ 23 117 25 16777215 HT_ rfl rfl ?_
              refine last_ (i := 24) (N := none) (bm_ 25 33554431) rfl rfl (one_of HT_.out (by kernel_rfl)) (by decide) (fun K hK => ?_)
              refine skip_ (w1 := ?_) (by rfl) rfl ?_ ?_
              rotate_left
              ·go_simp
               rfl
              refine hK.out _ _ ?_
              clear hK K
              refine done_ (done_of HT_.out (by kernel_rfl)) ?_
              try go_wp2
              go_roundg k3
              case measure => have := HJ5.out; have := HK2.out; have := HK3.out; omega
              case rel => exact ⟨(wrap64 (x91_3 + 1)), (y895), (.slice (some ⟨go46, 0, none⟩) x886001_3.length co48), (by first | rfl | (simp; done) | (simp [*]; done)), H', ⟨by have := HJ5.out; have := HK2.out; have := HK3.out; omega⟩, ⟨by (with_reducible repeat (first | apply Kd.R_alloc | apply Kd.R_drewN | apply Kd.R_drew)); exact Kd.R_mono (Kd.R_far (p := ⟨go46, (x91_3 : Int).toNat * 4 + 3, none⟩) (Kd.R_far (p := ⟨go46, (x91_3 : Int).toNat * 4 + 2, none⟩) (Kd.R_types HO_12.out GG46.out (by decide)) (fun _ hk => hk.2) (.int .i64 t893)) (fun _ hk => hk.2) (.int .i64 t894)) (fun _ hk => trivial)⟩, ⟨by (with_reducible repeat (first | apply Kd.R_alloc | apply Kd.R_drewN | apply Kd.R_drew)); exact Kd.R_mono (Kd.R_far (p := ⟨go46, (x91_3 : Int).toNat * 4 + 3, none⟩) (Kd.R_far (p := ⟨go46, (x91_3 : Int).toNat * 4 + 2, none⟩) (Kd.R_types HO_886000.out GG46.out (by decide)) (fun _ hk => hk.2) (.int .i64 t893)) (fun _ hk => hk.2) (.int .i64 t894)) (fun _ hk => trivial)⟩, ⟨by (with_reducible repeat (first | apply Kd.R_alloc | apply Kd.R_drewN | apply Kd.R_drew)); exact HQ50.out⟩, ⟨by refine bx_ ?_; refine blk_far ?_ (by have h_ := Kd.R_ne HO_886001.out BK870.out (by decide); intro e_; exact h_ (by rw [e_]; rfl)) _; refine bx_ ?_; refine blk_far ?_ (by have h_ := Kd.R_ne HO_886001.out BK870.out (by decide); intro e_; exact h_ (by rw [e_]; rfl)) _; refine bx_ ?_; exact BK870.out⟩, ⟨by refine bx_ ?_; refine blk_far ?_ (by have h_ := Kd.R_ne HO_886001.out BK885.out (by decide); intro e_; exact h_ (by rw [e_]; rfl)) _; refine bx_ ?_; refine blk_far ?_ (by have h_ := Kd.R_ne HO_886001.out BK885.out (by decide); intro e_; exact h_ (by rw [e_]; rfl)) _; refine bx_ ?_; exact BK885.out⟩, ⟨by repeat (first | (with_reducible first | exact HB.out | apply below_alloc | apply pw_below_drewN | apply below_drew1 | refine below_set ?_ GB46.out | refine below_set ?_ GB46.out | refine below_set ?_ GE870.out | refine below_set ?_ GE885.out) | exact HB.out)⟩⟩
             ·rw [if_neg c44] at H
              exact absurd H (by simp)
            ·rw [if_neg c43] at H
             exact absurd H (by simp)
           ·rw [if_neg c42] at H
            have c42b0 : decide (x91_3 < (t876.length : Int)) = false := decide_eq_false c42
            clear c42
            have H' := Aside0.mk H
            clear H
            obtain ⟨Ao51, co51, eo51⟩ := Kd.R_slice HO_12.out
            subst eo51
            go_wp2
            go_loopg [121] k3 (fun kq v121 w' => ∃ (x12_4 : List (S48)) (x121_4 : Int), v121 = .int .i64 x121_4 ∧ Aside0 (cottonpadlaw06_ExitsLater.l2 kq l1 a3 t871 (Int.tmod (wrap64 (a2)) 1000) x12_4 (y882.length : Int) x121_4 l0_0 l0_1 x886000_2 x886001_3 = some r) ∧ Aside0 (kq ≤ k3) ∧ Aside0 (Kd.R k48 48 w' w.heap.size (fun _ => True) (.slice Ao51 y882.length co51) x12_4) ∧ Aside0 (Kd.R k62 62 w' w.heap.size (fun _ => True) u886000 x886000_2) ∧ Aside0 (Kd.R k81 81 w' w.heap.size (fun _ => True) u886001 x886001_3) ∧ Aside0 (w'.heap[gb870]? = some (.cells #[(.slice A0_0 l0_0.length c0_0), (.slice A0_1 l0_1.length c0_1)] 25 (0, 0))) ∧ Aside0 (w'.heap[gb885]? = some (.cells #[u886000, u886001] 25 (0, 0))) ∧ Aside0 (Below w.heap.size w w'))
            case atStart => exact ⟨(y882), (0), (by first | rfl | (simp; done) | (simp [*]; done)), H', ⟨Nat.le_refl _⟩, ⟨by (with_reducible repeat (first | apply Kd.R_alloc | apply Kd.R_drewN | apply Kd.R_drew)); exact HO_12.out⟩, ⟨by (with_reducible repeat (first | apply Kd.R_alloc | apply Kd.R_drewN | apply Kd.R_drew)); exact HO_886000.out⟩, ⟨by (with_reducible repeat (first | apply Kd.R_alloc | apply Kd.R_drewN | apply Kd.R_drew)); exact HO_886001.out⟩, ⟨by refine bx_ ?_; exact BK870.out⟩, ⟨by refine bx_ ?_; exact BK885.out⟩, ⟨be2_ HB GE870 GE885⟩⟩
            case round =>
             clear H'
             try clear c1
             try clear c2
             try clear p2
             try clear c3
             try clear p3
             try clear q3
             try clear hx3
             try clear c4
             try clear p4
             try clear q4
             try clear hx4
             try clear hf4
             try clear c5
             try clear p6
             try clear p8
             try clear q8
             try clear hx8
             try clear c10
             try clear c11
             try clear c11b0
             try clear c11b1
             try clear c11b2
             try clear c12
             try clear c16
             try clear c18
             try clear c20
             try clear c28
             try clear c30
             try clear c31
             try clear c31b0
             try clear c32
             try clear c32b0
             try clear c33
             try clear c33b0
             try clear c35
             try clear p35
             try clear q35
             try clear hx35
             try clear hf35
             try clear c36
             try clear c39
             try clear c40
             try clear c42
             try clear c42b0
             try clear c43
             try clear c43b0
             try clear c44
             try clear c44b0
             try clear c46
             try clear p46
             try clear q46
             try clear hx46
             try clear hf46
             try clear c50
             try clear hcz12_0
             try clear hcz12_1
             try clear hcz14_0
             try clear hcz14_1
             try clear hcz16_0
             try clear hcz16_1
             try clear hcz21_0
             try clear hcz21_1
             try clear hcz29_0
             try clear hcz29_1
             try clear hcz41_0
             try clear hcz41_1
             try clear hfz12_0
             try clear hfz12_1
             try clear hfz14_0
             try clear hfz14_1
             try clear hfz16_0
             try clear hfz16_1
             try clear hfz21_0
             try clear hfz21_1
             try clear hfz29_0
             try clear hfz29_1
             try clear hfz41_0
             try clear hfz41_1
             try clear hx35_0
             try clear hx35_1
             try clear hx35_2
             try clear hx35_3
             try clear hx35_4
             try clear hx35_5
             try clear hx46_0
             try clear hx46_1
             try clear hx46_2
             try clear hx46_3
             try clear hx886_0
             try clear hx886_1
             try clear hx886_2
             try clear hx886_3
             try clear hx886_4
             try clear hx886_5
             try clear hx887_0
             try clear hx887_1
             try clear hx887_2
             try clear hx887_3
             try clear hx887_4
             try clear hx887_5
             try clear hx891_0
             try clear hx891_1
             try clear hx891_2
             try clear hx891_3
             try clear hx892_0
             try clear hx892_1
             try clear hx892_2
             try clear hx892_3
             try clear p2
             try clear p3
             try clear p35
             try clear p46
             try clear p6
             try clear p8
             try clear p886
             try clear p887
             try clear p891
             try clear p892
             try clear q3
             try clear q35
             try clear q46
             try clear q8
             try clear q886
             try clear q887
             try clear q891
             try clear q892
             obtain ⟨x12_4, x121_4, rfl, HA, HK4, HO_12, HO_886000, HO_886001, BK870, BK885, HB⟩ := hrel
             have hl12_4 := (Kd.R_reads' HO_12.out).1
             rw [hl12_4] at HO_12
             (try simp only [hl12_4])
             (try simp only [hl12_4] at BK870)
             (try simp only [hl12_4] at BK885)
             (try simp only [hl12_4] at HO_886000)
             (try simp only [hl12_4] at HO_886001)
             cases gk with
             | zero => exact absurd HA.out (by simp [cottonpadlaw06_ExitsLater.l2])
             | succ k4 =>
              have H := HA.out
              clear HA
              simp only [cottonpadlaw06_ExitsLater.l2] at H
              by_cases c52 : x121_4 < (y882.length : Int)
              ·rw [if_pos c52] at H
               have c52b0 : decide (x121_4 < (y882.length : Int)) = true := decide_eq_true c52
               clear c52
               by_cases c53 : 0 ≤ x121_4
               ·rw [if_pos c53] at H
                have c53b0 : decide (0 ≤ x121_4) = true := decide_eq_true c53
                clear c53
                by_cases c54 : x121_4 < (x12_4.length : Int)
                ·rw [if_pos c54] at H
                 have c54b0 : decide (x121_4 < (x12_4.length : Int)) = true := decide_eq_true c54
                 clear c54
                 replace H := Option.bind_eq_some_iff.mp H
                 obtain ⟨⟨t898, t899⟩, A550, H⟩ := H
                 replace H : (cottonpadlaw06_ExitsLater.l2 k4 l1 a3 t871 (Int.tmod (wrap64 (a2)) 1000) (x12_4.set (x121_4 : Int).toNat (⟨(rd_T48 x12_4 x121_4).f0, (⟨(rd_T48 x12_4 x121_4).f1.f0, (rd_T48 x12_4 x121_4).f1.f1⟩ : S36), (⟨t898, t899⟩ : S36)⟩ : S48)) (y882.length : Int) (wrap64 (x121_4 + 1)) l0_0 l0_1 x886000_2 x886001_3) = some r := H
                 have A55 := Aside0.mk A550
                 clear A550
                 obtain ⟨y900, hy900⟩ : ∃ y_ : List (S48), y_ = (x12_4.set (x121_4 : Int).toNat (⟨(rd_T48 x12_4 x121_4).f0, (⟨(rd_T48 x12_4 x121_4).f1.f0, (rd_T48 x12_4 x121_4).f1.f1⟩ : S36), (⟨t898, t899⟩ : S36)⟩ : S48)) := ⟨_, rfl⟩
                 replace H : (cottonpadlaw06_ExitsLater.l2 k4 l1 a3 t871 (Int.tmod (wrap64 (a2)) 1000) y900 (y882.length : Int) (wrap64 (x121_4 + 1)) l0_0 l0_1 x886000_2 x886001_3) = some r := by first | (rw [hy900]; with_reducible exact H) | (have H2_ := (Option.bind_some _ _).symm.trans H; rw [hy900]; with_reducible exact H2_) | (have H2_ := (Option.bind_some _ _).symm.trans H; with_reducible exact H2_) | with_reducible exact H | (rw [hy900]; exact H) | exact H
                 have Ny900 := Aside0.mk hy900
                 clear hy900
                 have H' := Aside0.mk H
                 clear H
                 try go_wp2
                 replace HO_12 := Aside0.mk (Kd.R_drew HO_12.out)
                 replace HO_886000 := Aside0.mk (Kd.R_drew HO_886000.out)
                 replace HO_886001 := Aside0.mk (Kd.R_drew HO_886001.out)
                 replace BK870 := Aside0.mk (blk_drew BK870.out)
                 replace BK885 := Aside0.mk (blk_drew BK885.out)
                 replace HB := Aside0.mk (below_drew1 HB.out)
                 have p896 : 0 ≤ (x121_4 : Int) := of_decide_eq_true as_
                 have q896 : x121_4 < (x12_4.length : Int) := of_decide_eq_true as_
                 obtain ⟨ad896, e896, hx896_0, hx896_1, hx896_2, hx896_3, hx896_4⟩ := at_T48 (Kd.R_reads' HO_12.out).2.2 x121_4 p896 q896
                 cases e896
                 replace p896 := eq_true p896
                 replace q896 := eq_true q896
                 have p897 : 0 ≤ (x121_4 : Int) := of_decide_eq_true as_
                 have q897 : x121_4 < (x12_4.length : Int) := of_decide_eq_true as_
                 obtain ⟨ad897, e897, hx897_0, hx897_1, hx897_2, hx897_3, hx897_4⟩ := at_T48 (Kd.R_reads' HO_12.out).2.2 x121_4 p897 q897
                 obtain rfl : ad896 = ad897 := (by injection e897)
                 replace p897 := eq_true p897
                 replace q897 := eq_true q897
                 refine start_ (n := 22) (S := fun w' => w'.cell? (ad896.add ((x121_4).toNat * 5)) = some (.int .i64 ((rd_T48 x12_4 x121_4).f0)) ∧ w'.cell? ⟨(ad896.add ((x121_4).toNat * 5)).block, (ad896.add ((x121_4).toNat * 5)).off + 1, none⟩ = some (.int .i64 ((rd_T48 x12_4 x121_4).f1.f0)) ∧ w'.cell? ⟨(ad896.add ((x121_4).toNat * 5)).block, (ad896.add ((x121_4).toNat * 5)).off + 2, none⟩ = some (.int .i64 ((rd_T48 x12_4 x121_4).f1.f1)) ∧ w'.cell? ⟨(ad896.add ((x121_4).toNat * 5)).block, (ad896.add ((x121_4).toNat * 5)).off + 3, none⟩ = some (.int .i64 ((rd_T48 x12_4 x121_4).f2.f0)) ∧ w'.cell? ⟨(ad896.add ((x121_4).toNat * 5)).block, (ad896.add ((x121_4).toNat * 5)).off + 4, none⟩ = some (.int .i64 ((rd_T48 x12_4 x121_4).f2.f1)) ∧ w'.cell? (ad896.add ((x121_4).toNat * 5)) = some (.int .i64 ((rd_T48 x12_4 x121_4).f0)) ∧ w'.cell? ⟨(ad896.add ((x121_4).toNat * 5)).block, (ad896.add ((x121_4).toNat * 5)).off + 1, none⟩ = some (.int .i64 ((rd_T48 x12_4 x121_4).f1.f0)) ∧ w'.cell? ⟨(ad896.add ((x121_4).toNat * 5)).block, (ad896.add ((x121_4).toNat * 5)).off + 2, none⟩ = some (.int .i64 ((rd_T48 x12_4 x121_4).f1.f1)) ∧ w'.cell? ⟨(ad896.add ((x121_4).toNat * 5)).block, (ad896.add ((x121_4).toNat * 5)).off + 3, none⟩ = some (.int .i64 ((rd_T48 x12_4 x121_4).f2.f0)) ∧ w'.cell? ⟨(ad896.add ((x121_4).toNat * 5)).block, (ad896.add ((x121_4).toNat * 5)).off + 4, none⟩ = some (.int .i64 ((rd_T48 x12_4 x121_4).f2.f1))) (ds := [21]) (bm_ 22 0) (by kernel_rfl) rfl rfl ⟨hx896_0, hx896_1, hx896_2, hx896_3, hx896_4, hx897_0, hx897_1, hx897_2, hx897_3, hx897_4⟩ (fun hHeld => ?_); refine with_tabW cottonpadlaw06_ExitsLater.tab19 cottonpadlaw06_ExitsLater.bits19 (fun HT_ HW_ => ?_)
                 generalize wr.drew = w57 at HO_12 HO_886000 HO_886001 BK870 BK885 HB hx896_0 hx896_1 hx896_2 hx896_3 hx896_4 hx897_0 hx897_1 hx897_2 hx897_3 hx897_4 hHeld ⊢
                 refine pr_ 0 124 22 1 HT_ rfl rfl ?_
                 refine pr_ 1 125 22 3 HT_ rfl rfl ?_
                 refine pr_ 2 126 22 7 HT_ rfl rfl ?_
                 refine pr_ 3 127 22 15 HT_ rfl rfl ?_
                 refine pr_ 4 128 22 31 HT_ rfl rfl ?_
                 refine pr_ 5 129 22 63 HT_ rfl rfl ?_
                 refine pr_ 6 130 22 127 HT_ rfl rfl ?_
                 refine pr_ 8 132 22 383 HT_ rfl rfl ?_
                 refine pr_ 10 134 22 1407 HT_ rfl rfl ?_
                 refine pr_ 11 135 22 3455 HT_ rfl rfl ?_
                 refine pr_ 12 136 22 7551 HT_ rfl rfl ?_
                 refine pr_ 13 137 22 15743 HT_ rfl rfl ?_
                 refine pr_ 14 138 22 32127 HT_ rfl rfl ?_
                 refine pr_ 16 140 22 97663 HT_ rfl rfl ?_
                 refine ta_ 7 131 22 97791 HT_ HW_ rfl rfl hHeld ?_
                 refine pr_ 9 133 22 98303 HT_ rfl rfl ?_
                 refine ta_ 15 139 22 131071 HT_ HW_ rfl rfl hHeld ?_
                 refine pr_ 17 141 22 262143 HT_ rfl rfl ?_
                 refine one_ (i := 18) (N := some 142) (bm_ 22 524287) rfl rfl (one_of HT_.out (by kernel_rfl)) (by decide) (fun K hK => ?_)
                 refine goes_ Tryd.func32 (by kernel_rfl) rfl #[.int .i64 (wrap64 (((rd_T48 x12_4 x121_4).f2.f0) + (Int.tmod (wrap64 (a2)) 1000))), .int .i64 (wrap64 (((rd_T48 x12_4 x121_4).f2.f1) + (Int.tmod (wrap64 (a2)) 1000)))] (by rfl) rfl rfl ls_ ?_
                 with_reducible refine (cottonpadlaw06_span.calls (wrap64 (((rd_T48 x12_4 x121_4).f2.f0) + (Int.tmod (wrap64 (a2)) 1000))) (wrap64 (((rd_T48 x12_4 x121_4).f2.f1) + (Int.tmod (wrap64 (a2)) 1000))) t898 t899 _ A55.out).mono ?_
                 rintro e w58 ⟨rfl, hb⟩
                 have HS0_ := (hb.cell (World.block_lt_of_cell? _ _ (hHeld.1))).trans (hHeld.1)
                 have HS1_ := (hb.cell (World.block_lt_of_cell? _ _ (hHeld.2.1))).trans (hHeld.2.1)
                 have HS2_ := (hb.cell (World.block_lt_of_cell? _ _ (hHeld.2.2.1))).trans (hHeld.2.2.1)
                 have HS3_ := (hb.cell (World.block_lt_of_cell? _ _ (hHeld.2.2.2.1))).trans (hHeld.2.2.2.1)
                 have HS4_ := (hb.cell (World.block_lt_of_cell? _ _ (hHeld.2.2.2.2.1))).trans (hHeld.2.2.2.2.1)
                 have HS5_ := (hb.cell (World.block_lt_of_cell? _ _ (hHeld.2.2.2.2.2.1))).trans (hHeld.2.2.2.2.2.1)
                 have HS6_ := (hb.cell (World.block_lt_of_cell? _ _ (hHeld.2.2.2.2.2.2.1))).trans (hHeld.2.2.2.2.2.2.1)
                 have HS7_ := (hb.cell (World.block_lt_of_cell? _ _ (hHeld.2.2.2.2.2.2.2.1))).trans (hHeld.2.2.2.2.2.2.2.1)
                 have HS8_ := (hb.cell (World.block_lt_of_cell? _ _ (hHeld.2.2.2.2.2.2.2.2.1))).trans (hHeld.2.2.2.2.2.2.2.2.1)
                 have HS9_ := (hb.cell (World.block_lt_of_cell? _ _ (hHeld.2.2.2.2.2.2.2.2.2))).trans (hHeld.2.2.2.2.2.2.2.2.2)
                 refine ⟨_, rfl, ?_⟩
                 replace HO_12 := rb_ HO_12 hb
                 replace HO_886000 := rb_ HO_886000 hb
                 replace HO_886001 := rb_ HO_886001 hb
                 replace BK870 := bb_ BK870 hb
                 replace BK885 := bb_ BK885 hb
                 replace HB := bs2_ HB GE870 GE885 hb
                 (try clear hb)
                 (try clear hb2)
                 (try clear hk)
                 (try clear hi)
                 have p56 : 0 ≤ (x121_4 : Int) := of_decide_eq_true as_
                 have q56 : (x121_4 : Int) < ((x12_4.length : Int) : Int) := of_decide_eq_true as_
                 obtain ⟨go56, co56, eo56, gb56, gl56, cl56, HG56⟩ := Kd.R_form HO_12.out (by omega)
                 (first | cases eo56 | (injection eo56 with ea_ en_ ec_; (first | subst ea_ | (injection ea_ with ea_; subst ea_)); subst ec_; clear en_))
                 have GB56 := Aside0.mk gb56
                 have GG56 := Aside0.mk HG56
                 clear gb56 gl56 HG56
                 (first | simp only [add_plain] at hx896_0 | skip)
                 (first | simp only [add_plain] at hx896_1 | skip)
                 (first | simp only [add_plain] at hx896_2 | skip)
                 (first | simp only [add_plain] at hx896_3 | skip)
                 (first | simp only [add_plain] at hx896_4 | skip)
                 (first | simp only [add_plain] at hx897_0 | skip)
                 (first | simp only [add_plain] at hx897_1 | skip)
                 (first | simp only [add_plain] at hx897_2 | skip)
                 (first | simp only [add_plain] at hx897_3 | skip)
                 (first | simp only [add_plain] at hx897_4 | skip)
                 obtain ⟨ce56, hcl56, hM56, hcc56, hfr56⟩ := Kd.R_elem HO_12.out z48 (x121_4 : Int) p56 q56
                 obtain rfl := k48_openM hM56
                 have hx56_0 : World.cell? _ ⟨go56, (x121_4 : Int).toNat * 5, none⟩ = some (.int .i64 ((rd_T48 x12_4 x121_4).f0)) := hcc56 0 _ rfl
                 have hx56_1 : World.cell? _ ⟨go56, (x121_4 : Int).toNat * 5 + 1, none⟩ = some (.int .i64 ((rd_T48 x12_4 x121_4).f1.f0)) := hcc56 1 _ rfl
                 have hx56_2 : World.cell? _ ⟨go56, (x121_4 : Int).toNat * 5 + 2, none⟩ = some (.int .i64 ((rd_T48 x12_4 x121_4).f1.f1)) := hcc56 2 _ rfl
                 have hx56_3 : World.cell? _ ⟨go56, (x121_4 : Int).toNat * 5 + 3, none⟩ = some (.int .i64 ((rd_T48 x12_4 x121_4).f2.f0)) := hcc56 3 _ rfl
                 have hx56_4 : World.cell? _ ⟨go56, (x121_4 : Int).toNat * 5 + 4, none⟩ = some (.int .i64 ((rd_T48 x12_4 x121_4).f2.f1)) := hcc56 4 _ rfl
                 have hf56_0 : World.frozen? _ ⟨go56, (x121_4 : Int).toNat * 5, none⟩ = false := hfr56 0
                 have hf56_1 : World.frozen? _ ⟨go56, (x121_4 : Int).toNat * 5 + 1, none⟩ = false := hfr56 1
                 have hf56_2 : World.frozen? _ ⟨go56, (x121_4 : Int).toNat * 5 + 2, none⟩ = false := hfr56 2
                 have hf56_3 : World.frozen? _ ⟨go56, (x121_4 : Int).toNat * 5 + 3, none⟩ = false := hfr56 3
                 have hf56_4 : World.frozen? _ ⟨go56, (x121_4 : Int).toNat * 5 + 4, none⟩ = false := hfr56 4
                 clear hcl56 hcc56 hfr56 hM56
                 replace p56 := eq_true p56
                 replace q56 := eq_true q56
                 obtain ⟨ce59, hcl59, hM59, hcc59, hfr59⟩ := Kd.R_elem HO_12.out z48 (x121_4 : Int) (of_decide_eq_true as_) (by have h_ : (x121_4 : Int) < ((x12_4.length : Int) : Int) := of_decide_eq_true as_; first | exact h_ | (have e_ := (Kd.R_reads' HO_12.out).1; omega) | simpa using h_)
                 obtain rfl := k48_openM hM59
                 have HP59 := (Kd.R_seg HO_12.out (x121_4 : Int) (of_decide_eq_true as_) (by have h_ : (x121_4 : Int) < ((x12_4.length : Int) : Int) := of_decide_eq_true as_; first | exact h_ | (have e_ := (Kd.R_reads' HO_12.out).1; omega) | simpa using h_) (seg := [.int .i64 t898, .int .i64 t899]) (j := 3) hcl59 hcc59 (show 5 ≤ 5 from by decide) (x' := (⟨(rd_T48 x12_4 x121_4).f0, (⟨(rd_T48 x12_4 x121_4).f1.f0, (rd_T48 x12_4 x121_4).f1.f1⟩ : S36), (⟨t898, t899⟩ : S36)⟩ : S48)) (k48_mkM _ _ _ (⟨(rd_T48 x12_4 x121_4).f0, (⟨(rd_T48 x12_4 x121_4).f1.f0, (rd_T48 x12_4 x121_4).f1.f1⟩ : S36), (⟨t898, t899⟩ : S36)⟩ : S48) ) (fun _ hk => hk)).1
                 rw [← Ny900.out] at HP59
                 have HQ59 := Aside0.mk HP59
                 clear hcl59 hcc59 hfr59 hM59 HP59
                 refine hK.out _ _ ⟨HS0_, HS1_, HS2_, HS3_, HS4_, HS5_, HS6_, HS7_, HS8_, HS9_⟩ (fun hHeld => ?_)
                 clear hK K
                 refine norm_ (a' := ?_) ?_ ?_
                 rotate_left
                 ·show Act.put _ (some 142) _ = _
                  simp only [Act.put, List.setIfInBounds_toArray, List.set_cons_zero, List.set_cons_succ, i64_w, i32_w]
                  rfl
                 refine pr_ 19 143 22 1048575 HT_ rfl rfl ?_
                 refine pr_ 20 144 22 2097151 HT_ rfl rfl ?_
                 refine last_ (i := 21) (N := none) (bm_ 22 4194303) rfl rfl (one_of HT_.out (by kernel_rfl)) (by decide) (fun K hK => ?_)
                 refine skip_ (w1 := ?_) (by rfl) rfl ?_ ?_
                 rotate_left
                 ·go_simp
                  rfl
                 refine hK.out _ _ ?_
                 clear hK K
                 refine done_ (done_of HT_.out (by kernel_rfl)) ?_
                 try go_wp2
                 (try simp only [← hl12_4])
                 go_roundg k4
                 case measure => have := HJ5.out; have := HK2.out; have := HK3.out; have := HK4.out; omega
                 case rel => exact ⟨(y900), (wrap64 (x121_4 + 1)), (by first | rfl | (simp; done) | (simp [*]; done)), H', ⟨by have := HJ5.out; have := HK2.out; have := HK3.out; have := HK4.out; omega⟩, ⟨by (try simp only [hl12_4]); (with_reducible repeat (first | apply Kd.R_alloc | apply Kd.R_drewN | apply Kd.R_drew)); exact HQ59.out⟩, ⟨by (try simp only [hl12_4]); (with_reducible repeat (first | apply Kd.R_alloc | apply Kd.R_drewN | apply Kd.R_drew)); exact Kd.R_mono (Kd.R_far (p := ⟨go56, (x121_4 : Int).toNat * 5 + 4, none⟩) (Kd.R_far (p := ⟨go56, (x121_4 : Int).toNat * 5 + 3, none⟩) (Kd.R_types HO_886000.out GG56.out (by decide)) (fun _ hk => hk.2) (.int .i64 t898)) (fun _ hk => hk.2) (.int .i64 t899)) (fun _ hk => trivial)⟩, ⟨by (try simp only [hl12_4]); (with_reducible repeat (first | apply Kd.R_alloc | apply Kd.R_drewN | apply Kd.R_drew)); exact Kd.R_mono (Kd.R_far (p := ⟨go56, (x121_4 : Int).toNat * 5 + 4, none⟩) (Kd.R_far (p := ⟨go56, (x121_4 : Int).toNat * 5 + 3, none⟩) (Kd.R_types HO_886001.out GG56.out (by decide)) (fun _ hk => hk.2) (.int .i64 t898)) (fun _ hk => hk.2) (.int .i64 t899)) (fun _ hk => trivial)⟩, ⟨by (try simp only [hl12_4]); refine bx_ ?_; refine blk_far ?_ (by have h_ := Kd.R_ne HO_12.out BK870.out (by decide); intro e_; exact h_ (by rw [e_]; rfl)) _; refine bx_ ?_; refine blk_far ?_ (by have h_ := Kd.R_ne HO_12.out BK870.out (by decide); intro e_; exact h_ (by rw [e_]; rfl)) _; refine bx_ ?_; exact BK870.out⟩, ⟨by (try simp only [hl12_4]); refine bx_ ?_; refine blk_far ?_ (by have h_ := Kd.R_ne HO_12.out BK885.out (by decide); intro e_; exact h_ (by rw [e_]; rfl)) _; refine bx_ ?_; refine blk_far ?_ (by have h_ := Kd.R_ne HO_12.out BK885.out (by decide); intro e_; exact h_ (by rw [e_]; rfl)) _; refine bx_ ?_; exact BK885.out⟩, ⟨by repeat (first | (with_reducible first | exact HB.out | apply below_alloc | apply pw_below_drewN | apply below_drew1 | refine below_set ?_ GB56.out | refine below_set ?_ GB56.out | refine below_set ?_ GE870.out | refine below_set ?_ GE885.out) | exact HB.out)⟩⟩
                ·rw [if_neg c54] at H
                 exact absurd H (by simp)
               ·rw [if_neg c53] at H
                exact absurd H (by simp)
              ·rw [if_neg c52] at H
               have c52b0 : decide (x121_4 < (y882.length : Int)) = false := decide_eq_false c52
               (try have c52b0z : decide (x121_4 < (x12_4.length : Int)) = false := by rw [← hl12_4]; exact c52b0)
               clear c52
               replace H := Option.bind_eq_some_iff.mp H
               obtain ⟨t901, A600, H⟩ := H
               replace H : (if t901 = true then (if (l0_0.length : Int) = 0 then (none) else ((exits_Leaves.f l0_0 l0_1 l1 (Int.tmod (wrap64 (a3)) (l0_0.length : Int))).bind fun bt902 => ((exits_Leaves.f x886000_2 x886001_3 x12_4 (Int.tmod (wrap64 (a3)) (l0_0.length : Int))).bind fun bt906 => ((exits_Out.f l0_0 l0_1 l1).bind fun bt910 => ((exits_Out.f x886000_2 x886001_3 x12_4).bind fun bt914 => ((exits_Safe.f l0_0 l0_1 l1).bind fun bt918 => ((exits_Safe.f x886000_2 x886001_3 x12_4).bind fun bt922 => (if bt902.2 = 0 then (if bt906.2 = 0 then (if bt910.2.2 = 0 then (if bt914.2.2 = 0 then (if bt918.2.2.2 = 0 then (if bt922.2.2.2 = 0 then (if (bt902.1.length : Int) = (bt906.1.length : Int) then ((cottonpadlaw06_span.f (wrap64 (bt910.1 + (Int.tmod (wrap64 (a2)) 1000))) (wrap64 (bt910.2.1 + (Int.tmod (wrap64 (a2)) 1000)))).bind fun bt926 => (if (!(bt914.1 == bt926.1) || (!(bt914.2.1 == bt926.2))) = true then (cottonpadlaw06_ExitsLater.j4 k4 t871 (Int.tmod (wrap64 (a2)) 1000) bt902.1 bt906.1 true) else (if bt918.1 = bt922.1 then (if bt918.2.1 = bt922.2.1 then (cottonpadlaw06_ExitsLater.j4 k4 t871 (Int.tmod (wrap64 (a2)) 1000) bt902.1 bt906.1 (bt918.2.2.1 != bt922.2.2.1)) else (cottonpadlaw06_ExitsLater.j4 k4 t871 (Int.tmod (wrap64 (a2)) 1000) bt902.1 bt906.1 true)) else (cottonpadlaw06_ExitsLater.j4 k4 t871 (Int.tmod (wrap64 (a2)) 1000) bt902.1 bt906.1 true)))) else (cottonpadlaw06_ExitsLater.j4 k4 t871 (Int.tmod (wrap64 (a2)) 1000) bt902.1 bt906.1 true)) else (cottonpadlaw06_ExitsLater.j4 k4 t871 (Int.tmod (wrap64 (a2)) 1000) bt902.1 bt906.1 true)) else (cottonpadlaw06_ExitsLater.j4 k4 t871 (Int.tmod (wrap64 (a2)) 1000) bt902.1 bt906.1 true)) else (cottonpadlaw06_ExitsLater.j4 k4 t871 (Int.tmod (wrap64 (a2)) 1000) bt902.1 bt906.1 true)) else (cottonpadlaw06_ExitsLater.j4 k4 t871 (Int.tmod (wrap64 (a2)) 1000) bt902.1 bt906.1 true)) else (cottonpadlaw06_ExitsLater.j4 k4 t871 (Int.tmod (wrap64 (a2)) 1000) bt902.1 bt906.1 true)) else (cottonpadlaw06_ExitsLater.j4 k4 t871 (Int.tmod (wrap64 (a2)) 1000) bt902.1 bt906.1 true))))))))) else (some t871)) = some r := H
               have A60 := Aside0.mk A600
               clear A600
               by_cases c61 : t901 = true
               ·subst c61
                have H1 : (if (l0_0.length : Int) = 0 then (none) else ((exits_Leaves.f l0_0 l0_1 l1 (Int.tmod (wrap64 (a3)) (l0_0.length : Int))).bind fun bt902 => ((exits_Leaves.f x886000_2 x886001_3 x12_4 (Int.tmod (wrap64 (a3)) (l0_0.length : Int))).bind fun bt906 => ((exits_Out.f l0_0 l0_1 l1).bind fun bt910 => ((exits_Out.f x886000_2 x886001_3 x12_4).bind fun bt914 => ((exits_Safe.f l0_0 l0_1 l1).bind fun bt918 => ((exits_Safe.f x886000_2 x886001_3 x12_4).bind fun bt922 => (if bt902.2 = 0 then (if bt906.2 = 0 then (if bt910.2.2 = 0 then (if bt914.2.2 = 0 then (if bt918.2.2.2 = 0 then (if bt922.2.2.2 = 0 then (if (bt902.1.length : Int) = (bt906.1.length : Int) then ((cottonpadlaw06_span.f (wrap64 (bt910.1 + (Int.tmod (wrap64 (a2)) 1000))) (wrap64 (bt910.2.1 + (Int.tmod (wrap64 (a2)) 1000)))).bind fun bt926 => (if (!(bt914.1 == bt926.1) || (!(bt914.2.1 == bt926.2))) = true then (cottonpadlaw06_ExitsLater.j4 k4 t871 (Int.tmod (wrap64 (a2)) 1000) bt902.1 bt906.1 true) else (if bt918.1 = bt922.1 then (if bt918.2.1 = bt922.2.1 then (cottonpadlaw06_ExitsLater.j4 k4 t871 (Int.tmod (wrap64 (a2)) 1000) bt902.1 bt906.1 (bt918.2.2.1 != bt922.2.2.1)) else (cottonpadlaw06_ExitsLater.j4 k4 t871 (Int.tmod (wrap64 (a2)) 1000) bt902.1 bt906.1 true)) else (cottonpadlaw06_ExitsLater.j4 k4 t871 (Int.tmod (wrap64 (a2)) 1000) bt902.1 bt906.1 true)))) else (cottonpadlaw06_ExitsLater.j4 k4 t871 (Int.tmod (wrap64 (a2)) 1000) bt902.1 bt906.1 true)) else (cottonpadlaw06_ExitsLater.j4 k4 t871 (Int.tmod (wrap64 (a2)) 1000) bt902.1 bt906.1 true)) else (cottonpadlaw06_ExitsLater.j4 k4 t871 (Int.tmod (wrap64 (a2)) 1000) bt902.1 bt906.1 true)) else (cottonpadlaw06_ExitsLater.j4 k4 t871 (Int.tmod (wrap64 (a2)) 1000) bt902.1 bt906.1 true)) else (cottonpadlaw06_ExitsLater.j4 k4 t871 (Int.tmod (wrap64 (a2)) 1000) bt902.1 bt906.1 true)) else (cottonpadlaw06_ExitsLater.j4 k4 t871 (Int.tmod (wrap64 (a2)) 1000) bt902.1 bt906.1 true)) else (cottonpadlaw06_ExitsLater.j4 k4 t871 (Int.tmod (wrap64 (a2)) 1000) bt902.1 bt906.1 true))))))))) = some r := by rw [if_pos rfl] at H; exact H
                clear H
                have H := H1
                clear H1
                by_cases c62 : (l0_0.length : Int) = 0
                ·rw [if_pos c62] at H
                 exact absurd H (by simp)
                ·rw [if_neg c62] at H
                 have c62b0 : ((l0_0.length : Int) == 0) = false := beq_eq_false_iff_ne.mpr c62
                 have c62b1 : ((l0_0.length : Int) != 0) = true := bne_iff_ne.mpr c62
                 have c62b2 : ¬ (l0_0 = []) := fun h_ => c62 (by rw [h_]; rfl)
                 replace H := Option.bind_eq_some_iff.mp H
                 obtain ⟨⟨t902, t905⟩, A630, H⟩ := H
                 replace H : ((exits_Leaves.f x886000_2 x886001_3 x12_4 (Int.tmod (wrap64 (a3)) (l0_0.length : Int))).bind fun bt906 => ((exits_Out.f l0_0 l0_1 l1).bind fun bt910 => ((exits_Out.f x886000_2 x886001_3 x12_4).bind fun bt914 => ((exits_Safe.f l0_0 l0_1 l1).bind fun bt918 => ((exits_Safe.f x886000_2 x886001_3 x12_4).bind fun bt922 => (if t905 = 0 then (if bt906.2 = 0 then (if bt910.2.2 = 0 then (if bt914.2.2 = 0 then (if bt918.2.2.2 = 0 then (if bt922.2.2.2 = 0 then (if (t902.length : Int) = (bt906.1.length : Int) then ((cottonpadlaw06_span.f (wrap64 (bt910.1 + (Int.tmod (wrap64 (a2)) 1000))) (wrap64 (bt910.2.1 + (Int.tmod (wrap64 (a2)) 1000)))).bind fun bt926 => (if (!(bt914.1 == bt926.1) || (!(bt914.2.1 == bt926.2))) = true then (cottonpadlaw06_ExitsLater.j4 k4 t871 (Int.tmod (wrap64 (a2)) 1000) t902 bt906.1 true) else (if bt918.1 = bt922.1 then (if bt918.2.1 = bt922.2.1 then (cottonpadlaw06_ExitsLater.j4 k4 t871 (Int.tmod (wrap64 (a2)) 1000) t902 bt906.1 (bt918.2.2.1 != bt922.2.2.1)) else (cottonpadlaw06_ExitsLater.j4 k4 t871 (Int.tmod (wrap64 (a2)) 1000) t902 bt906.1 true)) else (cottonpadlaw06_ExitsLater.j4 k4 t871 (Int.tmod (wrap64 (a2)) 1000) t902 bt906.1 true)))) else (cottonpadlaw06_ExitsLater.j4 k4 t871 (Int.tmod (wrap64 (a2)) 1000) t902 bt906.1 true)) else (cottonpadlaw06_ExitsLater.j4 k4 t871 (Int.tmod (wrap64 (a2)) 1000) t902 bt906.1 true)) else (cottonpadlaw06_ExitsLater.j4 k4 t871 (Int.tmod (wrap64 (a2)) 1000) t902 bt906.1 true)) else (cottonpadlaw06_ExitsLater.j4 k4 t871 (Int.tmod (wrap64 (a2)) 1000) t902 bt906.1 true)) else (cottonpadlaw06_ExitsLater.j4 k4 t871 (Int.tmod (wrap64 (a2)) 1000) t902 bt906.1 true)) else (cottonpadlaw06_ExitsLater.j4 k4 t871 (Int.tmod (wrap64 (a2)) 1000) t902 bt906.1 true)) else (cottonpadlaw06_ExitsLater.j4 k4 t871 (Int.tmod (wrap64 (a2)) 1000) t902 bt906.1 true))))))) = some r := H
                 have A63 := Aside0.mk A630
                 clear A630
                 replace H := Option.bind_eq_some_iff.mp H
                 obtain ⟨⟨t906, t909⟩, A640, H⟩ := H
                 replace H : ((exits_Out.f l0_0 l0_1 l1).bind fun bt910 => ((exits_Out.f x886000_2 x886001_3 x12_4).bind fun bt914 => ((exits_Safe.f l0_0 l0_1 l1).bind fun bt918 => ((exits_Safe.f x886000_2 x886001_3 x12_4).bind fun bt922 => (if t905 = 0 then (if t909 = 0 then (if bt910.2.2 = 0 then (if bt914.2.2 = 0 then (if bt918.2.2.2 = 0 then (if bt922.2.2.2 = 0 then (if (t902.length : Int) = (t906.length : Int) then ((cottonpadlaw06_span.f (wrap64 (bt910.1 + (Int.tmod (wrap64 (a2)) 1000))) (wrap64 (bt910.2.1 + (Int.tmod (wrap64 (a2)) 1000)))).bind fun bt926 => (if (!(bt914.1 == bt926.1) || (!(bt914.2.1 == bt926.2))) = true then (cottonpadlaw06_ExitsLater.j4 k4 t871 (Int.tmod (wrap64 (a2)) 1000) t902 t906 true) else (if bt918.1 = bt922.1 then (if bt918.2.1 = bt922.2.1 then (cottonpadlaw06_ExitsLater.j4 k4 t871 (Int.tmod (wrap64 (a2)) 1000) t902 t906 (bt918.2.2.1 != bt922.2.2.1)) else (cottonpadlaw06_ExitsLater.j4 k4 t871 (Int.tmod (wrap64 (a2)) 1000) t902 t906 true)) else (cottonpadlaw06_ExitsLater.j4 k4 t871 (Int.tmod (wrap64 (a2)) 1000) t902 t906 true)))) else (cottonpadlaw06_ExitsLater.j4 k4 t871 (Int.tmod (wrap64 (a2)) 1000) t902 t906 true)) else (cottonpadlaw06_ExitsLater.j4 k4 t871 (Int.tmod (wrap64 (a2)) 1000) t902 t906 true)) else (cottonpadlaw06_ExitsLater.j4 k4 t871 (Int.tmod (wrap64 (a2)) 1000) t902 t906 true)) else (cottonpadlaw06_ExitsLater.j4 k4 t871 (Int.tmod (wrap64 (a2)) 1000) t902 t906 true)) else (cottonpadlaw06_ExitsLater.j4 k4 t871 (Int.tmod (wrap64 (a2)) 1000) t902 t906 true)) else (cottonpadlaw06_ExitsLater.j4 k4 t871 (Int.tmod (wrap64 (a2)) 1000) t902 t906 true)) else (cottonpadlaw06_ExitsLater.j4 k4 t871 (Int.tmod (wrap64 (a2)) 1000) t902 t906 true)))))) = some r := H
                 have A64 := Aside0.mk A640
                 clear A640
                 replace H := Option.bind_eq_some_iff.mp H
                 obtain ⟨⟨t910, t911, t912⟩, A650, H⟩ := H
                 replace H : ((exits_Out.f x886000_2 x886001_3 x12_4).bind fun bt914 => ((exits_Safe.f l0_0 l0_1 l1).bind fun bt918 => ((exits_Safe.f x886000_2 x886001_3 x12_4).bind fun bt922 => (if t905 = 0 then (if t909 = 0 then (if t912 = 0 then (if bt914.2.2 = 0 then (if bt918.2.2.2 = 0 then (if bt922.2.2.2 = 0 then (if (t902.length : Int) = (t906.length : Int) then ((cottonpadlaw06_span.f (wrap64 (t910 + (Int.tmod (wrap64 (a2)) 1000))) (wrap64 (t911 + (Int.tmod (wrap64 (a2)) 1000)))).bind fun bt926 => (if (!(bt914.1 == bt926.1) || (!(bt914.2.1 == bt926.2))) = true then (cottonpadlaw06_ExitsLater.j4 k4 t871 (Int.tmod (wrap64 (a2)) 1000) t902 t906 true) else (if bt918.1 = bt922.1 then (if bt918.2.1 = bt922.2.1 then (cottonpadlaw06_ExitsLater.j4 k4 t871 (Int.tmod (wrap64 (a2)) 1000) t902 t906 (bt918.2.2.1 != bt922.2.2.1)) else (cottonpadlaw06_ExitsLater.j4 k4 t871 (Int.tmod (wrap64 (a2)) 1000) t902 t906 true)) else (cottonpadlaw06_ExitsLater.j4 k4 t871 (Int.tmod (wrap64 (a2)) 1000) t902 t906 true)))) else (cottonpadlaw06_ExitsLater.j4 k4 t871 (Int.tmod (wrap64 (a2)) 1000) t902 t906 true)) else (cottonpadlaw06_ExitsLater.j4 k4 t871 (Int.tmod (wrap64 (a2)) 1000) t902 t906 true)) else (cottonpadlaw06_ExitsLater.j4 k4 t871 (Int.tmod (wrap64 (a2)) 1000) t902 t906 true)) else (cottonpadlaw06_ExitsLater.j4 k4 t871 (Int.tmod (wrap64 (a2)) 1000) t902 t906 true)) else (cottonpadlaw06_ExitsLater.j4 k4 t871 (Int.tmod (wrap64 (a2)) 1000) t902 t906 true)) else (cottonpadlaw06_ExitsLater.j4 k4 t871 (Int.tmod (wrap64 (a2)) 1000) t902 t906 true)) else (cottonpadlaw06_ExitsLater.j4 k4 t871 (Int.tmod (wrap64 (a2)) 1000) t902 t906 true))))) = some r := H
                 have A65 := Aside0.mk A650
                 clear A650
                 replace H := Option.bind_eq_some_iff.mp H
                 obtain ⟨⟨t914, t915, t916⟩, A660, H⟩ := H
                 replace H : ((exits_Safe.f l0_0 l0_1 l1).bind fun bt918 => ((exits_Safe.f x886000_2 x886001_3 x12_4).bind fun bt922 => (if t905 = 0 then (if t909 = 0 then (if t912 = 0 then (if t916 = 0 then (if bt918.2.2.2 = 0 then (if bt922.2.2.2 = 0 then (if (t902.length : Int) = (t906.length : Int) then ((cottonpadlaw06_span.f (wrap64 (t910 + (Int.tmod (wrap64 (a2)) 1000))) (wrap64 (t911 + (Int.tmod (wrap64 (a2)) 1000)))).bind fun bt926 => (if (!(t914 == bt926.1) || (!(t915 == bt926.2))) = true then (cottonpadlaw06_ExitsLater.j4 k4 t871 (Int.tmod (wrap64 (a2)) 1000) t902 t906 true) else (if bt918.1 = bt922.1 then (if bt918.2.1 = bt922.2.1 then (cottonpadlaw06_ExitsLater.j4 k4 t871 (Int.tmod (wrap64 (a2)) 1000) t902 t906 (bt918.2.2.1 != bt922.2.2.1)) else (cottonpadlaw06_ExitsLater.j4 k4 t871 (Int.tmod (wrap64 (a2)) 1000) t902 t906 true)) else (cottonpadlaw06_ExitsLater.j4 k4 t871 (Int.tmod (wrap64 (a2)) 1000) t902 t906 true)))) else (cottonpadlaw06_ExitsLater.j4 k4 t871 (Int.tmod (wrap64 (a2)) 1000) t902 t906 true)) else (cottonpadlaw06_ExitsLater.j4 k4 t871 (Int.tmod (wrap64 (a2)) 1000) t902 t906 true)) else (cottonpadlaw06_ExitsLater.j4 k4 t871 (Int.tmod (wrap64 (a2)) 1000) t902 t906 true)) else (cottonpadlaw06_ExitsLater.j4 k4 t871 (Int.tmod (wrap64 (a2)) 1000) t902 t906 true)) else (cottonpadlaw06_ExitsLater.j4 k4 t871 (Int.tmod (wrap64 (a2)) 1000) t902 t906 true)) else (cottonpadlaw06_ExitsLater.j4 k4 t871 (Int.tmod (wrap64 (a2)) 1000) t902 t906 true)) else (cottonpadlaw06_ExitsLater.j4 k4 t871 (Int.tmod (wrap64 (a2)) 1000) t902 t906 true)))) = some r := H
                 have A66 := Aside0.mk A660
                 clear A660
                 replace H := Option.bind_eq_some_iff.mp H
                 obtain ⟨⟨t918, t919, t920, t921⟩, A670, H⟩ := H
                 replace H : ((exits_Safe.f x886000_2 x886001_3 x12_4).bind fun bt922 => (if t905 = 0 then (if t909 = 0 then (if t912 = 0 then (if t916 = 0 then (if t921 = 0 then (if bt922.2.2.2 = 0 then (if (t902.length : Int) = (t906.length : Int) then ((cottonpadlaw06_span.f (wrap64 (t910 + (Int.tmod (wrap64 (a2)) 1000))) (wrap64 (t911 + (Int.tmod (wrap64 (a2)) 1000)))).bind fun bt926 => (if (!(t914 == bt926.1) || (!(t915 == bt926.2))) = true then (cottonpadlaw06_ExitsLater.j4 k4 t871 (Int.tmod (wrap64 (a2)) 1000) t902 t906 true) else (if t918 = bt922.1 then (if t919 = bt922.2.1 then (cottonpadlaw06_ExitsLater.j4 k4 t871 (Int.tmod (wrap64 (a2)) 1000) t902 t906 (t920 != bt922.2.2.1)) else (cottonpadlaw06_ExitsLater.j4 k4 t871 (Int.tmod (wrap64 (a2)) 1000) t902 t906 true)) else (cottonpadlaw06_ExitsLater.j4 k4 t871 (Int.tmod (wrap64 (a2)) 1000) t902 t906 true)))) else (cottonpadlaw06_ExitsLater.j4 k4 t871 (Int.tmod (wrap64 (a2)) 1000) t902 t906 true)) else (cottonpadlaw06_ExitsLater.j4 k4 t871 (Int.tmod (wrap64 (a2)) 1000) t902 t906 true)) else (cottonpadlaw06_ExitsLater.j4 k4 t871 (Int.tmod (wrap64 (a2)) 1000) t902 t906 true)) else (cottonpadlaw06_ExitsLater.j4 k4 t871 (Int.tmod (wrap64 (a2)) 1000) t902 t906 true)) else (cottonpadlaw06_ExitsLater.j4 k4 t871 (Int.tmod (wrap64 (a2)) 1000) t902 t906 true)) else (cottonpadlaw06_ExitsLater.j4 k4 t871 (Int.tmod (wrap64 (a2)) 1000) t902 t906 true)) else (cottonpadlaw06_ExitsLater.j4 k4 t871 (Int.tmod (wrap64 (a2)) 1000) t902 t906 true))) = some r := H
                 have A67 := Aside0.mk A670
                 clear A670
                 replace H := Option.bind_eq_some_iff.mp H
                 obtain ⟨⟨t922, t923, t924, t925⟩, A680, H⟩ := H
                 replace H : (if t905 = 0 then (if t909 = 0 then (if t912 = 0 then (if t916 = 0 then (if t921 = 0 then (if t925 = 0 then (if (t902.length : Int) = (t906.length : Int) then ((cottonpadlaw06_span.f (wrap64 (t910 + (Int.tmod (wrap64 (a2)) 1000))) (wrap64 (t911 + (Int.tmod (wrap64 (a2)) 1000)))).bind fun bt926 => (if (!(t914 == bt926.1) || (!(t915 == bt926.2))) = true then (cottonpadlaw06_ExitsLater.j4 k4 t871 (Int.tmod (wrap64 (a2)) 1000) t902 t906 true) else (if t918 = t922 then (if t919 = t923 then (cottonpadlaw06_ExitsLater.j4 k4 t871 (Int.tmod (wrap64 (a2)) 1000) t902 t906 (t920 != t924)) else (cottonpadlaw06_ExitsLater.j4 k4 t871 (Int.tmod (wrap64 (a2)) 1000) t902 t906 true)) else (cottonpadlaw06_ExitsLater.j4 k4 t871 (Int.tmod (wrap64 (a2)) 1000) t902 t906 true)))) else (cottonpadlaw06_ExitsLater.j4 k4 t871 (Int.tmod (wrap64 (a2)) 1000) t902 t906 true)) else (cottonpadlaw06_ExitsLater.j4 k4 t871 (Int.tmod (wrap64 (a2)) 1000) t902 t906 true)) else (cottonpadlaw06_ExitsLater.j4 k4 t871 (Int.tmod (wrap64 (a2)) 1000) t902 t906 true)) else (cottonpadlaw06_ExitsLater.j4 k4 t871 (Int.tmod (wrap64 (a2)) 1000) t902 t906 true)) else (cottonpadlaw06_ExitsLater.j4 k4 t871 (Int.tmod (wrap64 (a2)) 1000) t902 t906 true)) else (cottonpadlaw06_ExitsLater.j4 k4 t871 (Int.tmod (wrap64 (a2)) 1000) t902 t906 true)) else (cottonpadlaw06_ExitsLater.j4 k4 t871 (Int.tmod (wrap64 (a2)) 1000) t902 t906 true)) = some r := H
                 have A68 := Aside0.mk A680
                 clear A680
                 have HC69 := Aside0.mk H
                 clear H
                 have hnb70 := NB885_870.out
                 have hnc70 := NB870_885.out
                 have hcz71_0 : wr.cell? ⟨gb885, 0, none⟩ = some (u886000) := bc_ BK885 0
                 have hcz71_1 : wr.cell? ⟨gb885, 1, none⟩ = some (u886001) := bc_ BK885 1
                 have hfz71_0 := blk_frozen BK885.out 0
                 have hfz71_1 := blk_frozen BK885.out 1
                 obtain ⟨Ao72, co72, eo72⟩ := Kd.R_slice HO_886000.out
                 subst eo72
                 obtain ⟨Ao73, co73, eo73⟩ := Kd.R_slice HO_886001.out
                 subst eo73
                 go_upto_region 30 with (first | ((with_reducible refine gate_callee (f := 36) rfl ?_); refine goesL_ (some 148) rfl rfl Tryd.func36 (by kernel_rfl) rfl #[.agg #[.slice Ao72 x886000_2.length co72, .slice Ao73 x886001_3.length co73], .slice Ao51 x12_4.length co51] rfl ls_ ?_; (with_reducible refine (cottonpadlaw06_ready.calls k4 _ _ x886000_2 _ _ x886001_3 _ _ x12_4 true _ ?side1 ?side2 ?side3 ?side4 ?side5 ?side6 A60.out).mono ?_); (case side1 => exact kd_ (Kd.R_reads' HO_886000.out).2.2); (case side2 => exact (Kd.R_reads' HO_886000.out).2.1); (case side3 => exact kd_ (Kd.R_reads' HO_886001.out).2.2); (case side4 => exact (Kd.R_reads' HO_886001.out).2.1); (case side5 => exact kd_ (Kd.R_reads' HO_12.out).2.2); (case side6 => exact (Kd.R_reads' HO_12.out).2.1); rintro e w74 ⟨rfl, hb⟩; refine ⟨_, rfl, ?_⟩; replace HO_12 := rb_ HO_12 hb; replace HO_886000 := rb_ HO_886000 hb; replace HO_886001 := rb_ HO_886001 hb; replace BK870 := bb_ BK870 hb; replace BK885 := bb_ BK885 hb; replace HB := bs2_ HB GE870 GE885 hb; (try clear hb); (try clear hb2); (try clear hk); (try clear hi); have hcz75_0 : w74.cell? ⟨gb870, 0, none⟩ = some (.slice A0_0 l0_0.length c0_0) := bc_ BK870 0; have hcz75_1 : w74.cell? ⟨gb870, 1, none⟩ = some (.slice A0_1 l0_1.length c0_1) := bc_ BK870 1; have hfz75_0 := blk_frozen BK870.out 0; have hfz75_1 := blk_frozen BK870.out 1) | ((with_reducible refine gate_callee (f := 17) rfl ?_); refine goesL_ (some 161) rfl rfl Tryd.func17 (by kernel_rfl) rfl #[.agg #[.slice A0_0 l0_0.length c0_0, .slice A0_1 l0_1.length c0_1], .slice A1 l1.length c1, .int .i64 (Int.tmod (wrap64 (a3)) (l0_0.length : Int))] rfl ls_ ?_; (with_reducible refine (exits_Leaves.calls _ _ l0_0 _ _ l0_1 _ _ l1 (Int.tmod (wrap64 (a3)) (l0_0.length : Int)) t902 t905 _ ?side7 ?side1 ?side2 ?side3 ?side4 ?side5 ?side6 A63.out).mono ?_); (case side1 => exact kc_ HR0_0 HB); (case side2 => exact HC0_0.out); (case side3 => exact kc_ HR0_1 HB); (case side4 => exact HC0_1.out); (case side5 => exact kc_ HR1 HB); (case side6 => exact HC1.out); (case side7 => exact GlobsE.below HG.out.1 (be2_ HB GE870 GE885)); rintro e w76 ⟨v903, rfl, ho0, hb⟩; refine ⟨_, rfl, ?_⟩; replace HO_12 := rb_ HO_12 hb; replace HO_886000 := rb_ HO_886000 hb; replace HO_886001 := rb_ HO_886001 hb; have HO904 := Aside0.mk (Kd.R_lower ho0 (below_size (be2_ HB GE870 GE885))); replace BK870 := bb_ BK870 hb; replace BK885 := bb_ BK885 hb; replace HB := bs2_ HB GE870 GE885 hb; (try clear hb); (try clear hb2); (try clear hk); (try clear hi); (try clear ho0); have hcz77_0 : w76.cell? ⟨gb885, 0, none⟩ = some (.slice Ao72 x886000_2.length co72) := bc_ BK885 0; have hcz77_1 : w76.cell? ⟨gb885, 1, none⟩ = some (.slice Ao73 x886001_3.length co73) := bc_ BK885 1; have hfz77_0 := blk_frozen BK885.out 0; have hfz77_1 := blk_frozen BK885.out 1) | ((with_reducible refine gate_callee (f := 17) rfl ?_); refine goesL_ (some 168) rfl rfl Tryd.func17 (by kernel_rfl) rfl #[.agg #[.slice Ao72 x886000_2.length co72, .slice Ao73 x886001_3.length co73], .slice Ao51 x12_4.length co51, .int .i64 (Int.tmod (wrap64 (a3)) (l0_0.length : Int))] rfl ls_ ?_; (with_reducible refine (exits_Leaves.calls _ _ x886000_2 _ _ x886001_3 _ _ x12_4 (Int.tmod (wrap64 (a3)) (l0_0.length : Int)) t906 t909 _ ?side7 ?side1 ?side2 ?side3 ?side4 ?side5 ?side6 A64.out).mono ?_); (case side1 => exact kd_ (Kd.R_reads' HO_886000.out).2.2); (case side2 => exact (Kd.R_reads' HO_886000.out).2.1); (case side3 => exact kd_ (Kd.R_reads' HO_886001.out).2.2); (case side4 => exact (Kd.R_reads' HO_886001.out).2.1); (case side5 => exact kd_ (Kd.R_reads' HO_12.out).2.2); (case side6 => exact (Kd.R_reads' HO_12.out).2.1); (case side7 => exact GlobsE.below HG.out.1 (be2_ HB GE870 GE885)); rintro e w78 ⟨v907, rfl, ho0, hb⟩; refine ⟨_, rfl, ?_⟩; replace HO_12 := rb_ HO_12 hb; replace HO_886000 := rb_ HO_886000 hb; replace HO_886001 := rb_ HO_886001 hb; have HO908 := Aside0.mk (Kd.R_lower (Kd.R_new' ho0 (Kd.R_lt (ro_ HO904))) (below_size (be2_ HB GE870 GE885))); replace HO904 := Aside0.mk (Kd.R_elder' (ro_ HO904) (Kd.R_base ho0) hb); replace BK870 := bb_ BK870 hb; replace BK885 := bb_ BK885 hb; replace HB := bs2_ HB GE870 GE885 hb; (try clear hb); (try clear hb2); (try clear hk); (try clear hi); (try clear ho0); have hcz79_0 : w78.cell? ⟨gb870, 0, none⟩ = some (.slice A0_0 l0_0.length c0_0) := bc_ BK870 0; have hcz79_1 : w78.cell? ⟨gb870, 1, none⟩ = some (.slice A0_1 l0_1.length c0_1) := bc_ BK870 1; have hfz79_0 := blk_frozen BK870.out 0; have hfz79_1 := blk_frozen BK870.out 1) | ((with_reducible refine gate_callee (f := 19) rfl ?_); refine goesL_ (some 174) rfl rfl Tryd.func19 (by kernel_rfl) rfl #[.agg #[.slice A0_0 l0_0.length c0_0, .slice A0_1 l0_1.length c0_1], .slice A1 l1.length c1] rfl ls_ ?_; (with_reducible refine (exits_Out.calls _ _ l0_0 _ _ l0_1 _ _ l1 t910 t911 t912 _ ?side7 ?side1 ?side2 ?side3 ?side4 ?side5 ?side6 A65.out).mono ?_); (case side1 => exact kc_ HR0_0 HB); (case side2 => exact HC0_0.out); (case side3 => exact kc_ HR0_1 HB); (case side4 => exact HC0_1.out); (case side5 => exact kc_ HR1 HB); (case side6 => exact HC1.out); (case side7 => exact GlobsE.below HG.out.1 (be2_ HB GE870 GE885)); rintro e w80 ⟨rfl, hb⟩; refine ⟨_, rfl, ?_⟩; replace HO_12 := rb_ HO_12 hb; replace HO_886000 := rb_ HO_886000 hb; replace HO_886001 := rb_ HO_886001 hb; replace HO904 := rb_ HO904 hb; replace HO908 := rb_ HO908 hb; replace BK870 := bb_ BK870 hb; replace BK885 := bb_ BK885 hb; replace HB := bs2_ HB GE870 GE885 hb; (try clear hb); (try clear hb2); (try clear hk); (try clear hi)) | ((with_reducible refine gate_dst (N := 21) rfl ?_); (try (refine gate_guard (by rfl) ?_; dsimp only)); refine box_event ?hg (N := 21) ?hd (cs := #[.int .i64 0, .int .i64 0]) (t := 36) ?hr ?_; (case hd => rfl); (case hg => rfl); (case hr => exact gs_); intro gb913 hg w81 hbox hb; replace HO_12 := rb_ HO_12 hb; replace HO_886000 := rb_ HO_886000 hb; replace HO_886001 := rb_ HO_886001 hb; replace HO904 := Aside0.mk (Kd.R_below (Kd.R_elderB (ro_ HO904) gb913 (Nat.le_of_eq hg.symm)) hb); replace HO908 := Aside0.mk (Kd.R_below (Kd.R_elderB (ro_ HO908) gb913 (Nat.le_of_eq hg.symm)) hb); have BK913 := Aside0.mk (hbox); have GW913 := hl_ hg (be2_ HB GE870 GE885); have GE913 := hl_ hg (be2_ HB GE870 GE885); replace HB := bs2_ HB GE870 GE885 hb; have NB870_913 := Aside0.mk ((by rw [hg]; exact Nat.ne_of_lt (blk_lt (bk_ BK870)) : gb870 ≠ gb913)); have NB913_870 := Aside0.mk ((by rw [hg]; exact Nat.ne_of_gt (blk_lt (bk_ BK870)) : gb913 ≠ gb870)); replace BK870 := bb_ BK870 hb; have NB885_913 := Aside0.mk ((by rw [hg]; exact Nat.ne_of_lt (blk_lt (bk_ BK885)) : gb885 ≠ gb913)); have NB913_885 := Aside0.mk ((by rw [hg]; exact Nat.ne_of_gt (blk_lt (bk_ BK885)) : gb913 ≠ gb885)); replace BK885 := bb_ BK885 hb; clear hb hbox hg; have hnb82 := NB913_870.out; have hnc82 := NB870_913.out; have hnb83 := NB913_885.out; have hnc83 := NB885_913.out; have hcz84_0 : w81.cell? ⟨gb913, 0, none⟩ = some (.int .i64 0) := bc_ BK913 0; have hcz84_1 : w81.cell? ⟨gb913, 1, none⟩ = some (.int .i64 0) := bc_ BK913 1; have hfz84_0 := blk_frozen BK913.out 0; have hfz84_1 := blk_frozen BK913.out 1; have hcz85_0 : w81.cell? ⟨gb885, 0, none⟩ = some (.slice Ao72 x886000_2.length co72) := bc_ BK885 0; have hcz85_1 : w81.cell? ⟨gb885, 1, none⟩ = some (.slice Ao73 x886001_3.length co73) := bc_ BK885 1; have hfz85_0 := blk_frozen BK885.out 0; have hfz85_1 := blk_frozen BK885.out 1) | ((with_reducible refine gate_callee (f := 19) rfl ?_); refine goesL_ (some 180) rfl rfl Tryd.func19 (by kernel_rfl) rfl #[.agg #[.slice Ao72 x886000_2.length co72, .slice Ao73 x886001_3.length co73], .slice Ao51 x12_4.length co51] rfl ls_ ?_; (with_reducible refine (exits_Out.calls _ _ x886000_2 _ _ x886001_3 _ _ x12_4 t914 t915 t916 _ ?side7 ?side1 ?side2 ?side3 ?side4 ?side5 ?side6 A66.out).mono ?_); (case side1 => refine (Kd.R_reads' (e := 62) (base := w.heap.size) (ok := fun k_ => True) (n := x886000_2.length) (c := co72) ?_).2.2; exact (by (with_reducible repeat (first | apply Kd.R_alloc | apply Kd.R_drewN | apply Kd.R_drew)); exact (Kd.R_mono (Kd.R_far (p := ⟨gb913, 1, none⟩) (Kd.R_far (p := ⟨gb913, 0, none⟩) (Kd.R_types HO_886000.out BK913.out (by decide)) (fun _ hk => hk.2) (.int .i64 t910)) (fun _ hk => hk.2) (.int .i64 t911)) (fun _ h_ => h_.1)))); (case side2 => exact (Kd.R_reads' HO_886000.out).2.1); (case side3 => refine (Kd.R_reads' (e := 81) (base := w.heap.size) (ok := fun k_ => True) (n := x886001_3.length) (c := co73) ?_).2.2; exact (by (with_reducible repeat (first | apply Kd.R_alloc | apply Kd.R_drewN | apply Kd.R_drew)); exact (Kd.R_mono (Kd.R_far (p := ⟨gb913, 1, none⟩) (Kd.R_far (p := ⟨gb913, 0, none⟩) (Kd.R_types HO_886001.out BK913.out (by decide)) (fun _ hk => hk.2) (.int .i64 t910)) (fun _ hk => hk.2) (.int .i64 t911)) (fun _ h_ => h_.1)))); (case side4 => exact (Kd.R_reads' HO_886001.out).2.1); (case side5 => refine (Kd.R_reads' (e := 48) (base := w.heap.size) (ok := fun k_ => True) (n := x12_4.length) (c := co51) ?_).2.2; exact (by (with_reducible repeat (first | apply Kd.R_alloc | apply Kd.R_drewN | apply Kd.R_drew)); exact (Kd.R_mono (Kd.R_far (p := ⟨gb913, 1, none⟩) (Kd.R_far (p := ⟨gb913, 0, none⟩) (Kd.R_types HO_12.out BK913.out (by decide)) (fun _ hk => hk.2) (.int .i64 t910)) (fun _ hk => hk.2) (.int .i64 t911)) (fun _ h_ => h_.1)))); (case side6 => exact (Kd.R_reads' HO_12.out).2.1); (case side7 => exact GlobsE.below HG.out.1 (be3_ HB GE870 GE885 GE913)); rintro e w86 ⟨rfl, hb⟩; refine ⟨_, rfl, ?_⟩; replace HO_12 := Aside0.mk (Kd.R_below (by (with_reducible repeat (first | apply Kd.R_alloc | apply Kd.R_drewN | apply Kd.R_drew)); exact (Kd.R_mono (Kd.R_far (p := ⟨gb913, 1, none⟩) (Kd.R_far (p := ⟨gb913, 0, none⟩) (Kd.R_types HO_12.out BK913.out (by decide)) (fun _ hk => hk.2) (.int .i64 t910)) (fun _ hk => hk.2) (.int .i64 t911)) (fun _ h_ => h_.1))) hb); replace HO_886000 := Aside0.mk (Kd.R_below (by (with_reducible repeat (first | apply Kd.R_alloc | apply Kd.R_drewN | apply Kd.R_drew)); exact (Kd.R_mono (Kd.R_far (p := ⟨gb913, 1, none⟩) (Kd.R_far (p := ⟨gb913, 0, none⟩) (Kd.R_types HO_886000.out BK913.out (by decide)) (fun _ hk => hk.2) (.int .i64 t910)) (fun _ hk => hk.2) (.int .i64 t911)) (fun _ h_ => h_.1))) hb); replace HO_886001 := Aside0.mk (Kd.R_below (by (with_reducible repeat (first | apply Kd.R_alloc | apply Kd.R_drewN | apply Kd.R_drew)); exact (Kd.R_mono (Kd.R_far (p := ⟨gb913, 1, none⟩) (Kd.R_far (p := ⟨gb913, 0, none⟩) (Kd.R_types HO_886001.out BK913.out (by decide)) (fun _ hk => hk.2) (.int .i64 t910)) (fun _ hk => hk.2) (.int .i64 t911)) (fun _ h_ => h_.1))) hb); replace HO904 := Aside0.mk (Kd.R_below (by (with_reducible repeat (first | apply Kd.R_alloc | apply Kd.R_drewN | apply Kd.R_drew)); exact (Kd.R_mono (Kd.R_far (p := ⟨gb913, 1, none⟩) (Kd.R_far (p := ⟨gb913, 0, none⟩) (Kd.R_mono HO904.out (fun k_ hk => (⟨hk, hk.2⟩ : _ ∧ k_ ≠ gb913))) (fun _ hk => hk.2) (.int .i64 t910)) (fun _ hk => hk.2) (.int .i64 t911)) (fun _ h_ => h_.1))) hb); replace HO908 := Aside0.mk (Kd.R_below (by (with_reducible repeat (first | apply Kd.R_alloc | apply Kd.R_drewN | apply Kd.R_drew)); exact (Kd.R_mono (Kd.R_far (p := ⟨gb913, 1, none⟩) (Kd.R_far (p := ⟨gb913, 0, none⟩) (Kd.R_mono HO908.out (fun k_ hk => (⟨hk, hk.2⟩ : _ ∧ k_ ≠ gb913))) (fun _ hk => hk.2) (.int .i64 t910)) (fun _ hk => hk.2) (.int .i64 t911)) (fun _ h_ => h_.1))) hb); replace BK870 := Aside0.mk (blk_below (g := gb870) (o := .cells #[.slice A0_0 l0_0.length c0_0, .slice A0_1 l0_1.length c0_1] 25 (0, 0)) (by refine bx_ ?_; refine blk_far ?_ NB870_913.out _; refine bx_ ?_; refine blk_far ?_ NB870_913.out _; refine bx_ ?_; exact BK870.out) hb); replace BK885 := Aside0.mk (blk_below (g := gb885) (o := .cells #[.slice Ao72 x886000_2.length co72, .slice Ao73 x886001_3.length co73] 25 (0, 0)) (by refine bx_ ?_; refine blk_far ?_ NB885_913.out _; refine bx_ ?_; refine blk_far ?_ NB885_913.out _; refine bx_ ?_; exact BK885.out) hb); replace BK913 := Aside0.mk (blk_below (g := gb913) (o := .cells #[.int .i64 t910, .int .i64 t911] 36 (0, 0)) (by refine bx_ ?_; refine blk_put (cs := #[.int .i64 t910, .int .i64 0]) ?_ 1 _ rfl; refine bx_ ?_; refine blk_put (cs := #[.int .i64 0, .int .i64 0]) ?_ 0 _ rfl; refine bx_ ?_; exact BK913.out) hb); replace HB := bs3_ HB GE870 GE885 GE913 hb; (try clear hb); (try clear hb2); (try clear hk); (try clear hi)) | ((with_reducible refine gate_dst (N := 23) rfl ?_); (try (refine gate_guard (by rfl) ?_; dsimp only)); refine box_event ?hg (N := 23) ?hd (cs := #[.int .i64 0, .int .i64 0]) (t := 36) ?hr ?_; (case hd => rfl); (case hg => rfl); (case hr => exact gs_); intro gb917 hg w87 hbox hb; replace HO_12 := rb_ HO_12 hb; replace HO_886000 := rb_ HO_886000 hb; replace HO_886001 := rb_ HO_886001 hb; replace HO904 := Aside0.mk (Kd.R_below (Kd.R_elderB (ro_ HO904) gb917 (Nat.le_of_eq hg.symm)) hb); replace HO908 := Aside0.mk (Kd.R_below (Kd.R_elderB (ro_ HO908) gb917 (Nat.le_of_eq hg.symm)) hb); have BK917 := Aside0.mk (hbox); have GW917 := hl_ hg (be3_ HB GE870 GE885 GE913); have GE917 := hl_ hg (be3_ HB GE870 GE885 GE913); replace HB := bs3_ HB GE870 GE885 GE913 hb; have NB870_917 := Aside0.mk ((by rw [hg]; exact Nat.ne_of_lt (blk_lt (bk_ BK870)) : gb870 ≠ gb917)); have NB917_870 := Aside0.mk ((by rw [hg]; exact Nat.ne_of_gt (blk_lt (bk_ BK870)) : gb917 ≠ gb870)); replace BK870 := bb_ BK870 hb; have NB885_917 := Aside0.mk ((by rw [hg]; exact Nat.ne_of_lt (blk_lt (bk_ BK885)) : gb885 ≠ gb917)); have NB917_885 := Aside0.mk ((by rw [hg]; exact Nat.ne_of_gt (blk_lt (bk_ BK885)) : gb917 ≠ gb885)); replace BK885 := bb_ BK885 hb; have NB913_917 := Aside0.mk ((by rw [hg]; exact Nat.ne_of_lt (blk_lt (bk_ BK913)) : gb913 ≠ gb917)); have NB917_913 := Aside0.mk ((by rw [hg]; exact Nat.ne_of_gt (blk_lt (bk_ BK913)) : gb917 ≠ gb913)); replace BK913 := bb_ BK913 hb; clear hb hbox hg; have hnb88 := NB917_870.out; have hnc88 := NB870_917.out; have hnb89 := NB917_885.out; have hnc89 := NB885_917.out; have hnb90 := NB917_913.out; have hnc90 := NB913_917.out; have hcz91_0 : w87.cell? ⟨gb917, 0, none⟩ = some (.int .i64 0) := bc_ BK917 0; have hcz91_1 : w87.cell? ⟨gb917, 1, none⟩ = some (.int .i64 0) := bc_ BK917 1; have hfz91_0 := blk_frozen BK917.out 0; have hfz91_1 := blk_frozen BK917.out 1; have hcz92_0 : w87.cell? ⟨gb870, 0, none⟩ = some (.slice A0_0 l0_0.length c0_0) := bc_ BK870 0; have hcz92_1 : w87.cell? ⟨gb870, 1, none⟩ = some (.slice A0_1 l0_1.length c0_1) := bc_ BK870 1; have hfz92_0 := blk_frozen BK870.out 0; have hfz92_1 := blk_frozen BK870.out 1) | ((with_reducible refine gate_callee (f := 26) rfl ?_); refine goesL_ (some 186) rfl rfl Tryd.func26 (by kernel_rfl) rfl #[.agg #[.slice A0_0 l0_0.length c0_0, .slice A0_1 l0_1.length c0_1], .slice A1 l1.length c1] rfl ls_ ?_; (with_reducible refine (exits_Safe.calls _ _ l0_0 _ _ l0_1 _ _ l1 t918 t919 t920 t921 _ ?side7 ?side1 ?side2 ?side3 ?side4 ?side5 ?side6 A67.out).mono ?_); (case side1 => exact Kd.C_below HR0_0.out (by repeat (first | (with_reducible first | exact HB.out | apply below_alloc | apply pw_below_drewN | apply below_drew1 | refine below_set ?_ GE870.out | refine below_set ?_ GE885.out | refine below_set ?_ GE913.out | refine below_set ?_ GE917.out) | exact HB.out))); (case side2 => exact HC0_0.out); (case side3 => exact Kd.C_below HR0_1.out (by repeat (first | (with_reducible first | exact HB.out | apply below_alloc | apply pw_below_drewN | apply below_drew1 | refine below_set ?_ GE870.out | refine below_set ?_ GE885.out | refine below_set ?_ GE913.out | refine below_set ?_ GE917.out) | exact HB.out))); (case side4 => exact HC0_1.out); (case side5 => exact Kd.C_below HR1.out (by repeat (first | (with_reducible first | exact HB.out | apply below_alloc | apply pw_below_drewN | apply below_drew1 | refine below_set ?_ GE870.out | refine below_set ?_ GE885.out | refine below_set ?_ GE913.out | refine below_set ?_ GE917.out) | exact HB.out))); (case side6 => exact HC1.out); (case side7 => exact Globs.below HG.out (by repeat (first | (with_reducible first | exact HB.out | apply below_alloc | apply pw_below_drewN | apply below_drew1 | refine below_set ?_ GE870.out | refine below_set ?_ GE885.out | refine below_set ?_ GE913.out | refine below_set ?_ GE917.out) | exact HB.out))); rintro e w93 ⟨rfl, hb⟩; refine ⟨_, rfl, ?_⟩; replace HO_12 := Aside0.mk (Kd.R_below (by (with_reducible repeat (first | apply Kd.R_alloc | apply Kd.R_drewN | apply Kd.R_drew)); exact (Kd.R_mono (Kd.R_far (p := ⟨gb917, 1, none⟩) (Kd.R_far (p := ⟨gb917, 0, none⟩) (Kd.R_types HO_12.out BK917.out (by decide)) (fun _ hk => hk.2) (.int .i64 t914)) (fun _ hk => hk.2) (.int .i64 t915)) (fun _ h_ => h_.1))) hb); replace HO_886000 := Aside0.mk (Kd.R_below (by (with_reducible repeat (first | apply Kd.R_alloc | apply Kd.R_drewN | apply Kd.R_drew)); exact (Kd.R_mono (Kd.R_far (p := ⟨gb917, 1, none⟩) (Kd.R_far (p := ⟨gb917, 0, none⟩) (Kd.R_types HO_886000.out BK917.out (by decide)) (fun _ hk => hk.2) (.int .i64 t914)) (fun _ hk => hk.2) (.int .i64 t915)) (fun _ h_ => h_.1))) hb); replace HO_886001 := Aside0.mk (Kd.R_below (by (with_reducible repeat (first | apply Kd.R_alloc | apply Kd.R_drewN | apply Kd.R_drew)); exact (Kd.R_mono (Kd.R_far (p := ⟨gb917, 1, none⟩) (Kd.R_far (p := ⟨gb917, 0, none⟩) (Kd.R_types HO_886001.out BK917.out (by decide)) (fun _ hk => hk.2) (.int .i64 t914)) (fun _ hk => hk.2) (.int .i64 t915)) (fun _ h_ => h_.1))) hb); replace HO904 := Aside0.mk (Kd.R_below (by (with_reducible repeat (first | apply Kd.R_alloc | apply Kd.R_drewN | apply Kd.R_drew)); exact (Kd.R_mono (Kd.R_far (p := ⟨gb917, 1, none⟩) (Kd.R_far (p := ⟨gb917, 0, none⟩) (Kd.R_mono HO904.out (fun k_ hk => (⟨hk, hk.2⟩ : _ ∧ k_ ≠ gb917))) (fun _ hk => hk.2) (.int .i64 t914)) (fun _ hk => hk.2) (.int .i64 t915)) (fun _ h_ => h_.1))) hb); replace HO908 := Aside0.mk (Kd.R_below (by (with_reducible repeat (first | apply Kd.R_alloc | apply Kd.R_drewN | apply Kd.R_drew)); exact (Kd.R_mono (Kd.R_far (p := ⟨gb917, 1, none⟩) (Kd.R_far (p := ⟨gb917, 0, none⟩) (Kd.R_mono HO908.out (fun k_ hk => (⟨hk, hk.2⟩ : _ ∧ k_ ≠ gb917))) (fun _ hk => hk.2) (.int .i64 t914)) (fun _ hk => hk.2) (.int .i64 t915)) (fun _ h_ => h_.1))) hb); replace BK870 := Aside0.mk (blk_below (g := gb870) (o := .cells #[.slice A0_0 l0_0.length c0_0, .slice A0_1 l0_1.length c0_1] 25 (0, 0)) (by refine bx_ ?_; refine blk_far ?_ NB870_917.out _; refine bx_ ?_; refine blk_far ?_ NB870_917.out _; refine bx_ ?_; exact BK870.out) hb); replace BK885 := Aside0.mk (blk_below (g := gb885) (o := .cells #[.slice Ao72 x886000_2.length co72, .slice Ao73 x886001_3.length co73] 25 (0, 0)) (by refine bx_ ?_; refine blk_far ?_ NB885_917.out _; refine bx_ ?_; refine blk_far ?_ NB885_917.out _; refine bx_ ?_; exact BK885.out) hb); replace BK913 := Aside0.mk (blk_below (g := gb913) (o := .cells #[.int .i64 t910, .int .i64 t911] 36 (0, 0)) (by refine bx_ ?_; refine blk_far ?_ NB913_917.out _; refine bx_ ?_; refine blk_far ?_ NB913_917.out _; refine bx_ ?_; exact BK913.out) hb); replace BK917 := Aside0.mk (blk_below (g := gb917) (o := .cells #[.int .i64 t914, .int .i64 t915] 36 (0, 0)) (by refine bx_ ?_; refine blk_put (cs := #[.int .i64 t914, .int .i64 0]) ?_ 1 _ rfl; refine bx_ ?_; refine blk_put (cs := #[.int .i64 0, .int .i64 0]) ?_ 0 _ rfl; refine bx_ ?_; exact BK917.out) hb); replace HB := Aside0.mk (below_step (by repeat (first | (with_reducible first | exact HB.out | apply below_alloc | apply pw_below_drewN | apply below_drew1 | refine below_set ?_ GE870.out | refine below_set ?_ GE885.out | refine below_set ?_ GE913.out | refine below_set ?_ GE917.out) | exact HB.out)) hb); (try clear hb); (try clear hb2); (try clear hk); (try clear hi); have hcz94_0 : w93.cell? ⟨gb885, 0, none⟩ = some (.slice Ao72 x886000_2.length co72) := bc_ BK885 0; have hcz94_1 : w93.cell? ⟨gb885, 1, none⟩ = some (.slice Ao73 x886001_3.length co73) := bc_ BK885 1; have hfz94_0 := blk_frozen BK885.out 0; have hfz94_1 := blk_frozen BK885.out 1) | ((with_reducible refine gate_callee (f := 26) rfl ?_); refine goesL_ (some 194) rfl rfl Tryd.func26 (by kernel_rfl) rfl #[.agg #[.slice Ao72 x886000_2.length co72, .slice Ao73 x886001_3.length co73], .slice Ao51 x12_4.length co51] rfl ls_ ?_; (with_reducible refine (exits_Safe.calls _ _ x886000_2 _ _ x886001_3 _ _ x12_4 t922 t923 t924 t925 _ ?side7 ?side1 ?side2 ?side3 ?side4 ?side5 ?side6 A68.out).mono ?_); (case side1 => exact kd_ (Kd.R_reads' HO_886000.out).2.2); (case side2 => exact (Kd.R_reads' HO_886000.out).2.1); (case side3 => exact kd_ (Kd.R_reads' HO_886001.out).2.2); (case side4 => exact (Kd.R_reads' HO_886001.out).2.1); (case side5 => exact kd_ (Kd.R_reads' HO_12.out).2.2); (case side6 => exact (Kd.R_reads' HO_12.out).2.1); (case side7 => exact Globs.below HG.out (by repeat (first | (with_reducible first | exact HB.out | apply below_alloc | apply pw_below_drewN | apply below_drew1 | refine below_set ?_ GE870.out | refine below_set ?_ GE885.out | refine below_set ?_ GE913.out | refine below_set ?_ GE917.out) | exact HB.out))); rintro e w95 ⟨rfl, hb⟩; refine ⟨_, rfl, ?_⟩; replace HO_12 := rb_ HO_12 hb; replace HO_886000 := rb_ HO_886000 hb; replace HO_886001 := rb_ HO_886001 hb; replace HO904 := rb_ HO904 hb; replace HO908 := rb_ HO908 hb; replace BK870 := bb_ BK870 hb; replace BK885 := bb_ BK885 hb; replace BK913 := bb_ BK913 hb; replace BK917 := bb_ BK917 hb; replace HB := Aside0.mk (below_step (by repeat (first | (with_reducible first | exact HB.out | apply below_alloc | apply pw_below_drewN | apply below_drew1 | refine below_set ?_ GE870.out | refine below_set ?_ GE885.out | refine below_set ?_ GE913.out | refine below_set ?_ GE917.out) | exact HB.out)) hb); (try clear hb); (try clear hb2); (try clear hk); (try clear hi)))
                 (try simp only [Act.put, List.setIfInBounds_toArray, List.set_cons_zero, List.set_cons_succ])
                 go_cut [255] (fun v255 wc => ∃ (kq : Nat) (x255_68 : Bool), v255 = .bool x255_68 ∧ Aside0 (cottonpadlaw06_ExitsLater.j4 kq t871 (Int.tmod (wrap64 (a2)) 1000) t902 t906 x255_68 = some r) ∧ Aside0 (kq ≤ k4) ∧ Aside0 (Kd.R k36 36 wc w.heap.size (fun k_ => some k_ ≠ (v907 : Value).ownBlock ∧ k_ ≠ gb913 ∧ k_ ≠ gb917) v903 t902) ∧ Aside0 (Kd.R k36 36 wc w.heap.size (fun k_ => some k_ ≠ (v903 : Value).ownBlock ∧ k_ ≠ gb913 ∧ k_ ≠ gb917) v907 t906) ∧ Aside0 (Kd.R k62 62 wc w.heap.size (fun _ => True) (.slice Ao72 x886000_2.length co72) x886000_2) ∧ Aside0 (Kd.R k81 81 wc w.heap.size (fun _ => True) (.slice Ao73 x886001_3.length co73) x886001_3) ∧ Aside0 (wc.heap[gb870]? = some (.cells #[(.slice A0_0 l0_0.length c0_0), (.slice A0_1 l0_1.length c0_1)] 25 (0, 0))) ∧ Aside0 (wc.heap[gb885]? = some (.cells #[(.slice Ao72 x886000_2.length co72), (.slice Ao73 x886001_3.length co73)] 25 (0, 0))) ∧ Aside0 (wc.heap[gb913]? = some (.cells #[.int .i64 t910, .int .i64 t911] 36 (0, 0))) ∧ Aside0 (wc.heap[gb917]? = some (.cells #[.int .i64 t914, .int .i64 t915] 36 (0, 0))) ∧ Aside0 (Below w.heap.size w wc))
                 case first =>
                  have H := HC69.out
                  clear HC69
                  by_cases c96 : t905 = 0
                  ·rw [if_pos c96] at H
                   have c96b0 : (t905 == 0) = true := beq_iff_eq.mpr c96
                   have c96b1 : (t905 != 0) = false := bne_eq_false_iff_eq.mpr c96
                   clear c96
                   (first | rw [c96b0] | (simp only [i64_w, i32_w]; rw [c96b0]) | skip)
                   by_cases c97 : t909 = 0
                   ·rw [if_pos c97] at H
                    have c97b0 : (t909 == 0) = true := beq_iff_eq.mpr c97
                    have c97b1 : (t909 != 0) = false := bne_eq_false_iff_eq.mpr c97
                    clear c97
                    by_cases c98 : t912 = 0
                    ·rw [if_pos c98] at H
                     have c98b0 : (t912 == 0) = true := beq_iff_eq.mpr c98
                     have c98b1 : (t912 != 0) = false := bne_eq_false_iff_eq.mpr c98
                     clear c98
                     by_cases c99 : t916 = 0
                     ·rw [if_pos c99] at H
                      have c99b0 : (t916 == 0) = true := beq_iff_eq.mpr c99
                      have c99b1 : (t916 != 0) = false := bne_eq_false_iff_eq.mpr c99
                      clear c99
                      by_cases c100 : t921 = 0
                      ·rw [if_pos c100] at H
                       have c100b0 : (t921 == 0) = true := beq_iff_eq.mpr c100
                       have c100b1 : (t921 != 0) = false := bne_eq_false_iff_eq.mpr c100
                       clear c100
                       by_cases c101 : t925 = 0
                       ·rw [if_pos c101] at H
                        have c101b0 : (t925 == 0) = true := beq_iff_eq.mpr c101
                        have c101b1 : (t925 != 0) = false := bne_eq_false_iff_eq.mpr c101
                        clear c101
                        by_cases c102 : (t902.length : Int) = (t906.length : Int)
                        ·rw [if_pos c102] at H
                         have c102b0 : ((t902.length : Int) == (t906.length : Int)) = true := beq_iff_eq.mpr c102
                         have c102b1 : ((t902.length : Int) != (t906.length : Int)) = false := bne_eq_false_iff_eq.mpr c102
                         have c102b2 : (t902.length == t906.length) = true := by first | simpa using c102 | (simp at c102 ⊢; omega)
                         clear c102
                         replace H := Option.bind_eq_some_iff.mp H
                         obtain ⟨⟨t926, t927⟩, A1030, H⟩ := H
                         replace H : (if (!(t914 == t926) || (!(t915 == t927))) = true then (cottonpadlaw06_ExitsLater.j4 k4 t871 (Int.tmod (wrap64 (a2)) 1000) t902 t906 true) else (if t918 = t922 then (if t919 = t923 then (cottonpadlaw06_ExitsLater.j4 k4 t871 (Int.tmod (wrap64 (a2)) 1000) t902 t906 (t920 != t924)) else (cottonpadlaw06_ExitsLater.j4 k4 t871 (Int.tmod (wrap64 (a2)) 1000) t902 t906 true)) else (cottonpadlaw06_ExitsLater.j4 k4 t871 (Int.tmod (wrap64 (a2)) 1000) t902 t906 true))) = some r := H
                         have A103 := Aside0.mk A1030
                         clear A1030
                         by_cases c104 : (!(t914 == t926) || (!(t915 == t927))) = true
                         ·rw [if_pos c104] at H
                          have c104b0 : (!(t914 == t926) || (!(t915 == t927))) = true := c104
                          clear c104
                          exact absurd H (by rw [HRT.out]; cases k4 <;> simp [cottonpadlaw06_ExitsLater.j4])
                         ·rw [if_neg c104] at H
                          have c104b0 : (!(t914 == t926) || (!(t915 == t927))) = false := by simpa using c104
                          clear c104
                          by_cases c105 : t918 = t922
                          ·rw [if_pos c105] at H
                           have c105b0 : (t918 == t922) = true := beq_iff_eq.mpr c105
                           have c105b1 : (t918 != t922) = false := bne_eq_false_iff_eq.mpr c105
                           clear c105
                           by_cases c106 : t919 = t923
                           ·rw [if_pos c106] at H
                            have c106b0 : (t919 == t923) = true := beq_iff_eq.mpr c106
                            have c106b1 : (t919 != t923) = false := bne_eq_false_iff_eq.mpr c106
                            clear c106
                            have H' := Aside0.mk H
                            clear H
                            try go_wp2
                            replace HO_12 := Aside0.mk (Kd.R_drew HO_12.out)
                            replace HO_886000 := Aside0.mk (Kd.R_drew HO_886000.out)
                            replace HO_886001 := Aside0.mk (Kd.R_drew HO_886001.out)
                            replace HO904 := Aside0.mk (Kd.R_drew HO904.out)
                            replace HO908 := Aside0.mk (Kd.R_drew HO908.out)
                            replace BK870 := Aside0.mk (blk_drew BK870.out)
                            replace BK885 := Aside0.mk (blk_drew BK885.out)
                            replace BK913 := Aside0.mk (blk_drew BK913.out)
                            replace BK917 := Aside0.mk (blk_drew BK917.out)
                            replace HB := Aside0.mk (below_drew1 HB.out)
                            obtain ⟨Ao108, co108, eo108⟩ := Kd.R_slice HO904.out
                            (first | subst eo108 | (injection eo108 with f1_ f2_ f3_; have f4_ := f1_.symm; have f5_ := f3_.symm; clear f1_ f2_ f3_; subst f4_; subst f5_))
                            obtain ⟨Ao109, co109, eo109⟩ := Kd.R_slice HO908.out
                            (first | subst eo109 | (injection eo109 with f1_ f2_ f3_; have f4_ := f1_.symm; have f5_ := f3_.symm; clear f1_ f2_ f3_; subst f4_; subst f5_))
                            refine start_ (n := 57) (S := fun w' => w'.cell? ⟨gb917, 0, none⟩ = some (.int .i64 t914) ∧ w'.cell? ⟨gb917, 1, none⟩ = some (.int .i64 t915) ∧ w'.cell? ⟨gb913, 0, none⟩ = some (.int .i64 t910) ∧ w'.cell? ⟨gb913, 1, none⟩ = some (.int .i64 t911)) (ds := []) (bm_ 57 0) (by kernel_rfl) rfl rfl ⟨bc_ BK917 0, bc_ BK917 1, bc_ BK913 0, bc_ BK913 1⟩ (fun hHeld => ?_); refine with_tabW cottonpadlaw06_ExitsLater.tab30 cottonpadlaw06_ExitsLater.bits30 (fun HT_ HW_ => ?_)
                            generalize w95.drew = w107 at HO_12 HO_886000 HO_886001 HO904 HO908 BK870 BK885 BK913 BK917 HB hHeld ⊢
                            refine pr_ 0 199 57 1 HT_ rfl rfl ?_
                            refine pr_ 1 200 57 3 HT_ rfl rfl ?_
                            refine pr_ 2 201 57 7 HT_ rfl rfl ?_
                            refine pr_ 3 202 57 15 HT_ rfl rfl ?_
                            refine pr_ 4 203 57 31 HT_ rfl rfl ?_
                            refine pr_ 5 204 57 63 HT_ rfl rfl ?_
                            refine pr_ 6 205 57 127 HT_ rfl rfl ?_
                            refine pr_ 7 206 57 255 HT_ rfl rfl ?_
                            refine pr_ 8 207 57 511 HT_ rfl rfl ?_
                            refine pr_ 9 208 57 1023 HT_ rfl rfl ?_
                            refine pr_ 10 209 57 2047 HT_ rfl rfl ?_
                            refine pr_ 11 210 57 4095 HT_ rfl rfl ?_
                            refine pr_ 12 211 57 8191 HT_ rfl rfl ?_
                            refine pr_ 13 212 57 16383 HT_ rfl rfl ?_
                            refine pr_ 14 213 57 32767 HT_ rfl rfl ?_
                            refine pr_ 15 214 57 65535 HT_ rfl rfl ?_
                            refine pr_ 16 215 57 131071 HT_ rfl rfl ?_
                            refine pr_ 17 216 57 262143 HT_ rfl rfl ?_
                            refine pr_ 18 217 57 524287 HT_ rfl rfl ?_
                            refine pr_ 19 218 57 1048575 HT_ rfl rfl ?_
                            refine pr_ 20 219 57 2097151 HT_ rfl rfl ?_
                            refine pr_ 21 220 57 4194303 HT_ rfl rfl ?_
                            refine pr_ 22 221 57 8388607 HT_ rfl rfl ?_
                            refine pr_ 23 222 57 16777215 HT_ rfl rfl ?_
                            refine pr_ 24 223 57 33554431 HT_ rfl rfl ?_
                            refine pr_ 25 224 57 67108863 HT_ rfl rfl ?_
                            refine pr_ 26 225 57 134217727 HT_ rfl rfl ?_
                            refine pr_ 27 226 57 268435455 HT_ rfl rfl ?_
                            refine pr_ 28 227 57 536870911 HT_ rfl rfl ?_
                            refine pr_ 29 228 57 1073741823 HT_ rfl rfl ?_
                            refine pr_ 31 230 57 3221225471 HT_ rfl rfl ?_
                            refine pr_ 33 232 57 11811160063 HT_ rfl rfl ?_
                            refine pr_ 35 234 57 46170898431 HT_ rfl rfl ?_
                            refine pr_ 37 236 57 183609851903 HT_ rfl rfl ?_
                            refine ta_ 30 229 57 184683593727 HT_ HW_ rfl rfl hHeld ?_
                            refine ta_ 32 231 57 188978561023 HT_ HW_ rfl rfl hHeld ?_
                            refine pr_ 34 233 57 206158430207 HT_ rfl rfl ?_
                            refine ta_ 36 235 57 274877906943 HT_ HW_ rfl rfl hHeld ?_
                            refine pr_ 38 237 57 549755813887 HT_ rfl rfl ?_
                            refine one_ (i := 39) (N := some 238) (bm_ 57 1099511627775) rfl rfl (one_of HT_.out (by kernel_rfl)) (by decide) (fun K hK => ?_)
                            refine goes_ Tryd.func32 (by kernel_rfl) rfl #[.int .i64 (wrap64 (t910 + (Int.tmod (wrap64 (a2)) 1000))), .int .i64 (wrap64 (t911 + (Int.tmod (wrap64 (a2)) 1000)))] (by rfl) rfl rfl ls_ ?_
                            with_reducible refine (cottonpadlaw06_span.calls (wrap64 (t910 + (Int.tmod (wrap64 (a2)) 1000))) (wrap64 (t911 + (Int.tmod (wrap64 (a2)) 1000))) t926 t927 _ A103.out).mono ?_
                            rintro e w110 ⟨rfl, hb⟩
                            refine ⟨_, rfl, ?_⟩
                            replace HO_12 := rb_ HO_12 hb
                            replace HO_886000 := rb_ HO_886000 hb
                            replace HO_886001 := rb_ HO_886001 hb
                            replace HO904 := rb_ HO904 hb
                            replace HO908 := rb_ HO908 hb
                            replace BK870 := bb_ BK870 hb
                            replace BK885 := bb_ BK885 hb
                            replace BK913 := bb_ BK913 hb
                            replace BK917 := bb_ BK917 hb
                            replace HB := Aside0.mk (below_step (by repeat (first | (with_reducible first | exact HB.out | apply below_alloc | apply pw_below_drewN | apply below_drew1 | refine below_set ?_ GE870.out | refine below_set ?_ GE885.out | refine below_set ?_ GE913.out | refine below_set ?_ GE917.out) | exact HB.out)) hb)
                            (try clear hb)
                            (try clear hb2)
                            (try clear hk)
                            (try clear hi)
                            refine hK.out _ _ ⟨bc_ BK917 0, bc_ BK917 1, bc_ BK913 0, bc_ BK913 1⟩ (fun hHeld => ?_)
                            clear hK K
                            refine norm_ (a' := ?_) ?_ ?_
                            rotate_left
                            ·show Act.put _ (some 238) _ = _
                             simp only [Act.put, List.setIfInBounds_toArray, List.set_cons_zero, List.set_cons_succ, i64_w, i32_w]
                             rfl
                            refine pr_ 40 239 57 2199023255551 HT_ rfl rfl ?_
                            refine pr_ 41 240 57 4398046511103 HT_ rfl rfl ?_
                            refine pr_ 42 241 57 8796093022207 HT_ rfl rfl ?_
                            refine pr_ 43 242 57 17592186044415 HT_ rfl rfl ?_
                            refine pr_ 44 243 57 35184372088831 HT_ rfl rfl ?_
                            refine pr_ 45 244 57 70368744177663 HT_ rfl rfl ?_
                            refine pr_ 46 245 57 140737488355327 HT_ rfl rfl ?_
                            refine pr_ 47 246 57 281474976710655 HT_ rfl rfl ?_
                            refine pr_ 48 247 57 562949953421311 HT_ rfl rfl ?_
                            refine pr_ 49 248 57 1125899906842623 HT_ rfl rfl ?_
                            refine pr_ 50 249 57 2251799813685247 HT_ rfl rfl ?_
                            refine pr_ 51 250 57 4503599627370495 HT_ rfl rfl ?_
                            refine pr_ 52 251 57 9007199254740991 HT_ rfl rfl ?_
                            refine pr_ 53 252 57 18014398509481983 HT_ rfl rfl ?_
                            refine pr_ 54 253 57 36028797018963967 HT_ rfl rfl ?_
                            refine pr_ 55 254 57 72057594037927935 HT_ rfl rfl ?_
                            refine pr_ 56 255 57 144115188075855871 HT_ rfl rfl ?_
                            refine done_ (done_of HT_.out (by kernel_rfl)) ?_
                            try go_wp2
                            go_meet
                            case rel => exact ⟨_, ((t920 != t924)), (by first | rfl | (simp; done) | (simp [*]; done)), H', ⟨by have := HJ5.out; have := HK2.out; have := HK3.out; have := HK4.out; first | omega | exact Nat.le_refl _⟩, ⟨by (try simp only [hl12_4]); (with_reducible repeat (first | apply Kd.R_alloc | apply Kd.R_drewN | apply Kd.R_drew)); exact Kd.R_mono HO904.out (fun _ hk => ⟨hk.1.1.2, ⟨hk.1.2, hk.2⟩⟩)⟩, ⟨by (try simp only [hl12_4]); (with_reducible repeat (first | apply Kd.R_alloc | apply Kd.R_drewN | apply Kd.R_drew)); exact Kd.R_mono HO908.out (fun _ hk => ⟨hk.1.1.2, ⟨hk.1.2, hk.2⟩⟩)⟩, ⟨by (try simp only [hl12_4]); (with_reducible repeat (first | apply Kd.R_alloc | apply Kd.R_drewN | apply Kd.R_drew)); exact HO_886000.out⟩, ⟨by (try simp only [hl12_4]); (with_reducible repeat (first | apply Kd.R_alloc | apply Kd.R_drewN | apply Kd.R_drew)); exact HO_886001.out⟩, ⟨by (try simp only [hl12_4]); refine bx_ ?_; exact BK870.out⟩, ⟨by (try simp only [hl12_4]); refine bx_ ?_; exact BK885.out⟩, ⟨by (try simp only [hl12_4]); refine bx_ ?_; exact BK913.out⟩, ⟨by (try simp only [hl12_4]); refine bx_ ?_; exact BK917.out⟩, ⟨by repeat (first | (with_reducible first | exact HB.out | apply below_alloc | apply pw_below_drewN | apply below_drew1 | refine below_set ?_ GE870.out | refine below_set ?_ GE885.out | refine below_set ?_ GE913.out | refine below_set ?_ GE917.out) | exact HB.out)⟩⟩
                           ·rw [if_neg c106] at H
                            have c106b0 : (t919 == t923) = false := beq_eq_false_iff_ne.mpr c106
                            have c106b1 : (t919 != t923) = true := bne_iff_ne.mpr c106
                            exact absurd H (by rw [HRT.out]; cases k4 <;> simp [cottonpadlaw06_ExitsLater.j4])
                          ·rw [if_neg c105] at H
                           have c105b0 : (t918 == t922) = false := beq_eq_false_iff_ne.mpr c105
                           have c105b1 : (t918 != t922) = true := bne_iff_ne.mpr c105
                           exact absurd H (by rw [HRT.out]; cases k4 <;> simp [cottonpadlaw06_ExitsLater.j4])
                        ·rw [if_neg c102] at H
                         have c102b0 : ((t902.length : Int) == (t906.length : Int)) = false := beq_eq_false_iff_ne.mpr c102
                         have c102b1 : ((t902.length : Int) != (t906.length : Int)) = true := bne_iff_ne.mpr c102
                         have c102b2 : (t902.length == t906.length) = false := by first | simpa using c102 | (simp at c102 ⊢; omega)
                         exact absurd H (by rw [HRT.out]; cases k4 <;> simp [cottonpadlaw06_ExitsLater.j4])
                       ·rw [if_neg c101] at H
                        have c101b0 : (t925 == 0) = false := beq_eq_false_iff_ne.mpr c101
                        have c101b1 : (t925 != 0) = true := bne_iff_ne.mpr c101
                        exact absurd H (by rw [HRT.out]; cases k4 <;> simp [cottonpadlaw06_ExitsLater.j4])
                      ·rw [if_neg c100] at H
                       have c100b0 : (t921 == 0) = false := beq_eq_false_iff_ne.mpr c100
                       have c100b1 : (t921 != 0) = true := bne_iff_ne.mpr c100
                       exact absurd H (by rw [HRT.out]; cases k4 <;> simp [cottonpadlaw06_ExitsLater.j4])
                     ·rw [if_neg c99] at H
                      have c99b0 : (t916 == 0) = false := beq_eq_false_iff_ne.mpr c99
                      have c99b1 : (t916 != 0) = true := bne_iff_ne.mpr c99
                      exact absurd H (by rw [HRT.out]; cases k4 <;> simp [cottonpadlaw06_ExitsLater.j4])
                    ·rw [if_neg c98] at H
                     have c98b0 : (t912 == 0) = false := beq_eq_false_iff_ne.mpr c98
                     have c98b1 : (t912 != 0) = true := bne_iff_ne.mpr c98
                     exact absurd H (by rw [HRT.out]; cases k4 <;> simp [cottonpadlaw06_ExitsLater.j4])
                   ·rw [if_neg c97] at H
                    have c97b0 : (t909 == 0) = false := beq_eq_false_iff_ne.mpr c97
                    have c97b1 : (t909 != 0) = true := bne_iff_ne.mpr c97
                    exact absurd H (by rw [HRT.out]; cases k4 <;> simp [cottonpadlaw06_ExitsLater.j4])
                  ·rw [if_neg c96] at H
                   have c96b0 : (t905 == 0) = false := beq_eq_false_iff_ne.mpr c96
                   have c96b1 : (t905 != 0) = true := bne_iff_ne.mpr c96
                   (first | rw [c96b0] | (simp only [i64_w, i32_w]; rw [c96b0]) | skip)
                   exact absurd H (by rw [HRT.out]; cases k4 <;> simp [cottonpadlaw06_ExitsLater.j4])
                 case rest =>
                  as_aux_lemma =>
                   clear HC69
                   try clear c1
                   try clear p2
                   try clear c3
                   try clear p6
                   try clear c9
                   try clear c10
                   try clear c32
                   try clear p64
                   try clear c96
                   try clear c96b0
                   try clear c96b1
                   try clear c97
                   try clear c97b0
                   try clear c97b1
                   try clear c98
                   try clear c98b0
                   try clear c98b1
                   try clear c99
                   try clear c99b0
                   try clear c99b1
                   try clear c100
                   try clear c100b0
                   try clear c100b1
                   try clear c101
                   try clear c101b0
                   try clear c101b1
                   try clear c102
                   try clear c102b0
                   try clear c102b1
                   try clear c102b2
                   try clear c104
                   try clear c104b0
                   try clear c105
                   try clear c105b0
                   try clear c105b1
                   try clear c106
                   try clear c106b0
                   try clear c106b1
                   obtain ⟨kq, x255_68, rfl, HA, HJ68, HO_17, HO_19, HO_886000, HO_886001, BK870, BK885, BK913, BK917, HB⟩ := hcut
                   cases kq with
                   | zero => exact absurd HA.out (by simp [cottonpadlaw06_ExitsLater.j4])
                   | succ kj68 =>
                    have H := HA.out
                    clear HA
                    simp only [cottonpadlaw06_ExitsLater.j4] at H
                    by_cases c111 : x255_68 = true
                    ·subst c111
                     have H1 : (some false) = some r := by rw [if_pos rfl] at H; exact H
                     clear H
                     have H := H1
                     clear H1
                     exact absurd (H.trans (congrArg some HRT.out)) (by simp)
                    ·replace c111 := Bool.eq_false_iff.mpr c111
                     subst c111
                     have H1 : (cottonpadlaw06_ExitsLater.l3 kj68 t871 (Int.tmod (wrap64 (a2)) 1000) t902 t906 (t902.length : Int) 0) = some r := by rw [if_neg (show ¬ (false = true) by decide)] at H; exact H
                     clear H
                     have H := H1
                     clear H1
                     have H' := Aside0.mk H
                     clear H
                     obtain ⟨Ao112, co112, eo112⟩ := Kd.R_slice HO_17.out
                     subst eo112
                     go_wp2
                     go_loopg [258] kj68 (fun kq v258 w' => ∃ (x258_6 : Int), v258 = .int .i64 x258_6 ∧ Aside0 (cottonpadlaw06_ExitsLater.l3 kq t871 (Int.tmod (wrap64 (a2)) 1000) t902 t906 (t902.length : Int) x258_6 = some r) ∧ Aside0 (kq ≤ kj68) ∧ Aside0 (Kd.R k36 36 w' w.heap.size (fun k_ => some k_ ≠ (v907 : Value).ownBlock ∧ k_ ≠ gb913 ∧ k_ ≠ gb917) (.slice Ao112 t902.length co112) t902) ∧ Aside0 (Kd.R k36 36 w' w.heap.size (fun k_ => some k_ ≠ ((.slice Ao112 t902.length co112) : Value).ownBlock ∧ k_ ≠ gb913 ∧ k_ ≠ gb917) v907 t906) ∧ Aside0 (Kd.R k62 62 w' w.heap.size (fun _ => True) (.slice Ao72 x886000_2.length co72) x886000_2) ∧ Aside0 (Kd.R k81 81 w' w.heap.size (fun _ => True) (.slice Ao73 x886001_3.length co73) x886001_3) ∧ Aside0 (w'.heap[gb870]? = some (.cells #[(.slice A0_0 l0_0.length c0_0), (.slice A0_1 l0_1.length c0_1)] 25 (0, 0))) ∧ Aside0 (w'.heap[gb885]? = some (.cells #[(.slice Ao72 x886000_2.length co72), (.slice Ao73 x886001_3.length co73)] 25 (0, 0))) ∧ Aside0 (w'.heap[gb913]? = some (.cells #[.int .i64 t910, .int .i64 t911] 36 (0, 0))) ∧ Aside0 (w'.heap[gb917]? = some (.cells #[.int .i64 t914, .int .i64 t915] 36 (0, 0))) ∧ Aside0 (Below w.heap.size w w'))
                     case atStart => exact ⟨(0), (by first | rfl | (simp; done) | (simp [*]; done)), H', ⟨Nat.le_refl _⟩, ⟨by (try simp only [hl12_4]); (with_reducible repeat (first | apply Kd.R_alloc | apply Kd.R_drewN | apply Kd.R_drew)); exact HO_17.out⟩, ⟨by (try simp only [hl12_4]); (with_reducible repeat (first | apply Kd.R_alloc | apply Kd.R_drewN | apply Kd.R_drew)); exact HO_19.out⟩, ⟨by (try simp only [hl12_4]); (with_reducible repeat (first | apply Kd.R_alloc | apply Kd.R_drewN | apply Kd.R_drew)); exact HO_886000.out⟩, ⟨by (try simp only [hl12_4]); (with_reducible repeat (first | apply Kd.R_alloc | apply Kd.R_drewN | apply Kd.R_drew)); exact HO_886001.out⟩, ⟨by (try simp only [hl12_4]); refine bx_ ?_; exact BK870.out⟩, ⟨by (try simp only [hl12_4]); refine bx_ ?_; exact BK885.out⟩, ⟨by (try simp only [hl12_4]); refine bx_ ?_; exact BK913.out⟩, ⟨by (try simp only [hl12_4]); refine bx_ ?_; exact BK917.out⟩, ⟨by repeat (first | (with_reducible first | exact HB.out | apply below_alloc | apply pw_below_drewN | apply below_drew1 | refine below_set ?_ GE870.out | refine below_set ?_ GE885.out | refine below_set ?_ GE913.out | refine below_set ?_ GE917.out) | exact HB.out)⟩⟩
                     case round =>
                      clear H'
                      try clear c1
                      try clear p2
                      try clear c3
                      try clear p6
                      try clear c9
                      try clear c10
                      try clear c11
                      try clear c32
                      try clear p64
                      try clear c96
                      try clear c96b0
                      try clear c96b1
                      try clear c97
                      try clear c97b0
                      try clear c97b1
                      try clear c98
                      try clear c98b0
                      try clear c98b1
                      try clear c99
                      try clear c99b0
                      try clear c99b1
                      try clear c100
                      try clear c100b0
                      try clear c100b1
                      try clear c101
                      try clear c101b0
                      try clear c101b1
                      try clear c102
                      try clear c102b0
                      try clear c102b1
                      try clear c102b2
                      try clear c104
                      try clear c104b0
                      try clear c105
                      try clear c105b0
                      try clear c105b1
                      try clear c106
                      try clear c106b0
                      try clear c106b1
                      try clear c111
                      try clear p2
                      try clear p6
                      try clear p64
                      obtain ⟨x258_6, rfl, HA, HK6, HO_17, HO_19, HO_886000, HO_886001, BK870, BK885, BK913, BK917, HB⟩ := hrel
                      cases gk with
                      | zero => exact absurd HA.out (by simp [cottonpadlaw06_ExitsLater.l3])
                      | succ k6 =>
                       have H := HA.out
                       clear HA
                       simp only [cottonpadlaw06_ExitsLater.l3] at H
                       by_cases c113 : x258_6 < (t902.length : Int)
                       ·rw [if_pos c113] at H
                        have c113b0 : decide (x258_6 < (t902.length : Int)) = true := decide_eq_true c113
                        clear c113
                        by_cases c114 : 0 ≤ x258_6
                        ·rw [if_pos c114] at H
                         have c114b0 : decide (0 ≤ x258_6) = true := decide_eq_true c114
                         clear c114
                         by_cases c115 : x258_6 < (t906.length : Int)
                         ·rw [if_pos c115] at H
                          have c115b0 : decide (x258_6 < (t906.length : Int)) = true := decide_eq_true c115
                          clear c115
                          by_cases c116 : x258_6 < (t902.length : Int)
                          ·rw [if_pos c116] at H
                           have c116b0 : decide (x258_6 < (t902.length : Int)) = true := decide_eq_true c116
                           clear c116
                           replace H := Option.bind_eq_some_iff.mp H
                           obtain ⟨⟨t931, t932⟩, A1170, H⟩ := H
                           replace H : (if (!(((rd_T36 t906 x258_6).f0) == t931) || (!(((rd_T36 t906 x258_6).f1) == t932))) = true then (some false) else (cottonpadlaw06_ExitsLater.l3 k6 t871 (Int.tmod (wrap64 (a2)) 1000) t902 t906 (t902.length : Int) (wrap64 (x258_6 + 1)))) = some r := H
                           have A117 := Aside0.mk A1170
                           clear A1170
                           by_cases c118 : (!(((rd_T36 t906 x258_6).f0) == t931) || (!(((rd_T36 t906 x258_6).f1) == t932))) = true
                           ·rw [if_pos c118] at H
                            have c118b0 : (!(((rd_T36 t906 x258_6).f0) == t931) || (!(((rd_T36 t906 x258_6).f1) == t932))) = true := c118
                            clear c118
                            exact absurd (H.trans (congrArg some HRT.out)) (by simp)
                           ·rw [if_neg c118] at H
                            have c118b0 : (!(((rd_T36 t906 x258_6).f0) == t931) || (!(((rd_T36 t906 x258_6).f1) == t932))) = false := by simpa using c118
                            clear c118
                            have H' := Aside0.mk H
                            clear H
                            try go_wp2
                            replace HO_17 := Aside0.mk (Kd.R_drew HO_17.out)
                            replace HO_19 := Aside0.mk (Kd.R_drew HO_19.out)
                            replace HO_886000 := Aside0.mk (Kd.R_drew HO_886000.out)
                            replace HO_886001 := Aside0.mk (Kd.R_drew HO_886001.out)
                            replace BK870 := Aside0.mk (blk_drew BK870.out)
                            replace BK885 := Aside0.mk (blk_drew BK885.out)
                            replace BK913 := Aside0.mk (blk_drew BK913.out)
                            replace BK917 := Aside0.mk (blk_drew BK917.out)
                            replace HB := Aside0.mk (below_drew1 HB.out)
                            obtain ⟨Ao120, co120, eo120⟩ := Kd.R_slice HO_19.out
                            (first | subst eo120 | (injection eo120 with f1_ f2_ f3_; have f4_ := f1_.symm; have f5_ := f3_.symm; clear f1_ f2_ f3_; subst f4_; subst f5_))
                            have p928 : 0 ≤ (x258_6 : Int) := of_decide_eq_true as_
                            have q928 : x258_6 < (t906.length : Int) := of_decide_eq_true as_
                            obtain ⟨ad928, e928, hx928_0, hx928_1⟩ := at_T36 (Kd.R_reads' HO_19.out).2.2 x258_6 p928 q928
                            cases e928
                            replace p928 := eq_true p928
                            replace q928 := eq_true q928
                            have p929 : 0 ≤ (x258_6 : Int) := of_decide_eq_true as_
                            have q929 : x258_6 < (t902.length : Int) := of_decide_eq_true as_
                            obtain ⟨ad929, e929, hx929_0, hx929_1⟩ := at_T36 (Kd.R_reads' HO_17.out).2.2 x258_6 p929 q929
                            cases e929
                            replace p929 := eq_true p929
                            replace q929 := eq_true q929
                            have p930 : 0 ≤ (x258_6 : Int) := of_decide_eq_true as_
                            have q930 : x258_6 < (t902.length : Int) := of_decide_eq_true as_
                            obtain ⟨ad930, e930, hx930_0, hx930_1⟩ := at_T36 (Kd.R_reads' HO_17.out).2.2 x258_6 p930 q930
                            obtain rfl : ad929 = ad930 := (by injection e930)
                            replace p930 := eq_true p930
                            replace q930 := eq_true q930
                            refine start_ (n := 20) (S := fun w' => w'.cell? (ad928.add ((x258_6).toNat * 2)) = some (.int .i64 ((rd_T36 t906 x258_6).f0)) ∧ w'.cell? ⟨(ad928.add ((x258_6).toNat * 2)).block, (ad928.add ((x258_6).toNat * 2)).off + 1, none⟩ = some (.int .i64 ((rd_T36 t906 x258_6).f1)) ∧ w'.cell? (ad929.add ((x258_6).toNat * 2)) = some (.int .i64 ((rd_T36 t902 x258_6).f0)) ∧ w'.cell? ⟨(ad929.add ((x258_6).toNat * 2)).block, (ad929.add ((x258_6).toNat * 2)).off + 1, none⟩ = some (.int .i64 ((rd_T36 t902 x258_6).f1)) ∧ w'.cell? (ad929.add ((x258_6).toNat * 2)) = some (.int .i64 ((rd_T36 t902 x258_6).f0)) ∧ w'.cell? ⟨(ad929.add ((x258_6).toNat * 2)).block, (ad929.add ((x258_6).toNat * 2)).off + 1, none⟩ = some (.int .i64 ((rd_T36 t902 x258_6).f1))) (ds := []) (bm_ 20 0) (by kernel_rfl) rfl rfl ⟨hx928_0, hx928_1, hx929_0, hx929_1, hx930_0, hx930_1⟩ (fun hHeld => ?_); refine with_tabW cottonpadlaw06_ExitsLater.tab35 cottonpadlaw06_ExitsLater.bits35 (fun HT_ HW_ => ?_)
                            generalize wr.drew = w119 at HO_17 HO_19 HO_886000 HO_886001 BK870 BK885 BK913 BK917 HB hx928_0 hx928_1 hx929_0 hx929_1 hx930_0 hx930_1 hHeld ⊢
                            refine pr_ 0 261 20 1 HT_ rfl rfl ?_
                            refine pr_ 1 262 20 3 HT_ rfl rfl ?_
                            refine pr_ 2 263 20 7 HT_ rfl rfl ?_
                            refine pr_ 4 265 20 23 HT_ rfl rfl ?_
                            refine pr_ 5 266 20 55 HT_ rfl rfl ?_
                            refine pr_ 6 267 20 119 HT_ rfl rfl ?_
                            refine pr_ 7 268 20 247 HT_ rfl rfl ?_
                            refine pr_ 9 270 20 759 HT_ rfl rfl ?_
                            refine pr_ 11 272 20 2807 HT_ rfl rfl ?_
                            refine pr_ 12 273 20 6903 HT_ rfl rfl ?_
                            refine pr_ 13 274 20 15095 HT_ rfl rfl ?_
                            refine pr_ 14 275 20 31479 HT_ rfl rfl ?_
                            refine pr_ 16 277 20 97015 HT_ rfl rfl ?_
                            refine ta_ 3 264 20 97023 HT_ HW_ rfl rfl hHeld ?_
                            refine ta_ 8 269 20 97279 HT_ HW_ rfl rfl hHeld ?_
                            refine pr_ 10 271 20 98303 HT_ rfl rfl ?_
                            refine ta_ 15 276 20 131071 HT_ HW_ rfl rfl hHeld ?_
                            refine pr_ 17 278 20 262143 HT_ rfl rfl ?_
                            refine one_ (i := 18) (N := some 279) (bm_ 20 524287) rfl rfl (one_of HT_.out (by kernel_rfl)) (by decide) (fun K hK => ?_)
                            refine goes_ Tryd.func32 (by kernel_rfl) rfl #[.int .i64 (wrap64 (((rd_T36 t902 x258_6).f0) + (Int.tmod (wrap64 (a2)) 1000))), .int .i64 (wrap64 (((rd_T36 t902 x258_6).f1) + (Int.tmod (wrap64 (a2)) 1000)))] (by rfl) rfl rfl ls_ ?_
                            with_reducible refine (cottonpadlaw06_span.calls (wrap64 (((rd_T36 t902 x258_6).f0) + (Int.tmod (wrap64 (a2)) 1000))) (wrap64 (((rd_T36 t902 x258_6).f1) + (Int.tmod (wrap64 (a2)) 1000))) t931 t932 _ A117.out).mono ?_
                            rintro e w121 ⟨rfl, hb⟩
                            have HS0_ := (hb.cell (World.block_lt_of_cell? _ _ (hHeld.1))).trans (hHeld.1)
                            have HS1_ := (hb.cell (World.block_lt_of_cell? _ _ (hHeld.2.1))).trans (hHeld.2.1)
                            have HS2_ := (hb.cell (World.block_lt_of_cell? _ _ (hHeld.2.2.1))).trans (hHeld.2.2.1)
                            have HS3_ := (hb.cell (World.block_lt_of_cell? _ _ (hHeld.2.2.2.1))).trans (hHeld.2.2.2.1)
                            have HS4_ := (hb.cell (World.block_lt_of_cell? _ _ (hHeld.2.2.2.2.1))).trans (hHeld.2.2.2.2.1)
                            have HS5_ := (hb.cell (World.block_lt_of_cell? _ _ (hHeld.2.2.2.2.2))).trans (hHeld.2.2.2.2.2)
                            refine ⟨_, rfl, ?_⟩
                            replace HO_17 := rb_ HO_17 hb
                            replace HO_19 := rb_ HO_19 hb
                            replace HO_886000 := rb_ HO_886000 hb
                            replace HO_886001 := rb_ HO_886001 hb
                            replace BK870 := bb_ BK870 hb
                            replace BK885 := bb_ BK885 hb
                            replace BK913 := bb_ BK913 hb
                            replace BK917 := bb_ BK917 hb
                            replace HB := Aside0.mk (below_step (by repeat (first | (with_reducible first | exact HB.out | apply below_alloc | apply pw_below_drewN | apply below_drew1 | refine below_set ?_ GE870.out | refine below_set ?_ GE885.out | refine below_set ?_ GE913.out | refine below_set ?_ GE917.out) | exact HB.out)) hb)
                            (try clear hb)
                            (try clear hb2)
                            (try clear hk)
                            (try clear hi)
                            refine hK.out _ _ ⟨HS0_, HS1_, HS2_, HS3_, HS4_, HS5_⟩ (fun hHeld => ?_)
                            clear hK K
                            refine norm_ (a' := ?_) ?_ ?_
                            rotate_left
                            ·show Act.put _ (some 279) _ = _
                             simp only [Act.put, List.setIfInBounds_toArray, List.set_cons_zero, List.set_cons_succ, i64_w, i32_w]
                             rfl
                            refine pr_ 19 280 20 1048575 HT_ rfl rfl ?_
                            refine done_ (done_of HT_.out (by kernel_rfl)) ?_
                            try go_wp2
                            go_roundg k6
                            case measure => have := HJ5.out; have := HK2.out; have := HK3.out; have := HK4.out; have := HJ68.out; have := HK6.out; omega
                            case rel => exact ⟨(wrap64 (x258_6 + 1)), (by first | rfl | (simp; done) | (simp [*]; done)), H', ⟨by have := HJ5.out; have := HK2.out; have := HK3.out; have := HK4.out; have := HJ68.out; have := HK6.out; omega⟩, ⟨by (try simp only [hl12_4]); (with_reducible repeat (first | apply Kd.R_alloc | apply Kd.R_drewN | apply Kd.R_drew)); exact HO_17.out⟩, ⟨by (try simp only [hl12_4]); (with_reducible repeat (first | apply Kd.R_alloc | apply Kd.R_drewN | apply Kd.R_drew)); exact HO_19.out⟩, ⟨by (try simp only [hl12_4]); (with_reducible repeat (first | apply Kd.R_alloc | apply Kd.R_drewN | apply Kd.R_drew)); exact HO_886000.out⟩, ⟨by (try simp only [hl12_4]); (with_reducible repeat (first | apply Kd.R_alloc | apply Kd.R_drewN | apply Kd.R_drew)); exact HO_886001.out⟩, ⟨by (try simp only [hl12_4]); refine bx_ ?_; exact BK870.out⟩, ⟨by (try simp only [hl12_4]); refine bx_ ?_; exact BK885.out⟩, ⟨by (try simp only [hl12_4]); refine bx_ ?_; exact BK913.out⟩, ⟨by (try simp only [hl12_4]); refine bx_ ?_; exact BK917.out⟩, ⟨by repeat (first | (with_reducible first | exact HB.out | apply below_alloc | apply pw_below_drewN | apply below_drew1 | refine below_set ?_ GE870.out | refine below_set ?_ GE885.out | refine below_set ?_ GE913.out | refine below_set ?_ GE917.out) | exact HB.out)⟩⟩
                          ·rw [if_neg c116] at H
                           exact absurd H (by simp)
                         ·rw [if_neg c115] at H
                          exact absurd H (by simp)
                        ·rw [if_neg c114] at H
                         exact absurd H (by simp)
                       ·rw [if_neg c113] at H
                        have c113b0 : decide (x258_6 < (t902.length : Int)) = false := decide_eq_false c113
                        clear c113
                        obtain rfl := Option.some.inj H
                        go_wp2
                        go_ret
                        exact ⟨rf_, by repeat (first | (with_reducible first | exact HB.out | apply below_alloc | apply pw_below_drewN | apply below_drew1 | refine below_set ?_ GE870.out | refine below_set ?_ GE885.out | refine below_set ?_ GE913.out | refine below_set ?_ GE917.out) | exact HB.out)⟩
               ·replace c61 := Bool.eq_false_iff.mpr c61
                subst c61
                have H1 : (some t871) = some r := by rw [if_neg (show ¬ (false = true) by decide)] at H; exact H
                clear H
                have H := H1
                clear H1
                obtain rfl := Option.some.inj H
                have hnb122 := NB885_870.out
                have hnc122 := NB870_885.out
                have hcz123_0 : wr.cell? ⟨gb885, 0, none⟩ = some (u886000) := bc_ BK885 0
                have hcz123_1 : wr.cell? ⟨gb885, 1, none⟩ = some (u886001) := bc_ BK885 1
                have hfz123_0 := blk_frozen BK885.out 0
                have hfz123_1 := blk_frozen BK885.out 1
                obtain ⟨Ao124, co124, eo124⟩ := Kd.R_slice HO_886000.out
                subst eo124
                obtain ⟨Ao125, co125, eo125⟩ := Kd.R_slice HO_886001.out
                subst eo125
                go_wp2_with (first | ((with_reducible refine gate_callee (f := 36) rfl ?_); refine goesL_ (some 148) rfl rfl Tryd.func36 (by kernel_rfl) rfl #[.agg #[.slice Ao124 x886000_2.length co124, .slice Ao125 x886001_3.length co125], .slice Ao51 x12_4.length co51] rfl ls_ ?_; (with_reducible refine (cottonpadlaw06_ready.calls k4 _ _ x886000_2 _ _ x886001_3 _ _ x12_4 false _ ?side1 ?side2 ?side3 ?side4 ?side5 ?side6 A60.out).mono ?_); (case side1 => exact kd_ (Kd.R_reads' HO_886000.out).2.2); (case side2 => exact (Kd.R_reads' HO_886000.out).2.1); (case side3 => exact kd_ (Kd.R_reads' HO_886001.out).2.2); (case side4 => exact (Kd.R_reads' HO_886001.out).2.1); (case side5 => exact kd_ (Kd.R_reads' HO_12.out).2.2); (case side6 => exact (Kd.R_reads' HO_12.out).2.1); rintro e w126 ⟨rfl, hb⟩; refine ⟨_, rfl, ?_⟩; replace HO_12 := rb_ HO_12 hb; replace HO_886000 := rb_ HO_886000 hb; replace HO_886001 := rb_ HO_886001 hb; replace BK870 := bb_ BK870 hb; replace BK885 := bb_ BK885 hb; replace HB := bs2_ HB GE870 GE885 hb; (try clear hb); (try clear hb2); (try clear hk); (try clear hi)))
                go_ret
                exact ⟨rf_, be2_ HB GE870 GE885⟩
     ·rw [if_neg c20] at H
      exact absurd H (by simp)

end Go.Proofs.YtdeaccbolnlgpaaDoor.X
