import Derived.Test.YtdeaccbolnlgpaaDoorXS2
import Derived.Test.YtdeaccbolnlgpaaDoorX0
import Derived.Test.YtdeaccbolnlgpaaDoorXN16
import Derived.Test.YtdeaccbolnlgpaaDoorXNA
import Derived.Test.YtdeaccbolnlgpaaDoorXND
import Derived.Test.YtdeaccbolnlgpaaDoorXAlive
import Derived.Test.YtdeaccbolnlgpaaDoorXG
import Derived.Test.YtdeaccbolnlgpaaDoorXHO
import Derived.Test.YtdeaccbolnlgpaaDoorXHS
namespace Go.Proofs.YtdeaccbolnlgpaaDoor.X
open Go.RowKit Go.Proofs.YtdeaccbolnlgpaaDoorW.PrintWords Go.Proofs.YtdeaccbolnlgpaaDoorW.PrintLast Go.Proofs.YtdeaccbolnlgpaaDoorW.PrintMore
attribute [local go_sem] max2_int min2_int max_two min_two max_three min_three max_four min_four   -- for this text's walks alone
set_option linter.unusedVariables false
set_option linter.unusedSimpArgs false

/-! ### cottonpadlaw06_ExitsSlower: function 13 -/
mutual
def cottonpadlaw06_ExitsSlower.j0 : Nat → List (S48) → List Int → Bool → List (S48) → Bool → List (S62) → List (S81) → Option (Bool)
 | 0, _, _, _, _, _, _, _ => none
 | k + 1, x1, x2, x9, x10, x53, x934000, x934001 => if x53 = true then (some x9) else ((cottonpadref06_Twin.f x934000 x934001).bind fun bt950 => ((some (([] : List (S48)) : List (S48))).bind fun y956 => (if y956.length + x1.length < 3518437208883 then (cottonpadlaw06_ExitsSlower.l0 k x1 x2 x9 x10 (y956 ++ x1) (bt950.1.length : Int) 0 x934000 x934001 bt950.1 bt950.2) else (none))))
def cottonpadlaw06_ExitsSlower.l0 : Nat → List (S48) → List Int → Bool → List (S48) → List (S48) → Int → Int → List (S62) → List (S81) → List (S62) → List (S81) → Option (Bool)
 | 0, _, _, _, _, _, _, _, _, _, _, _ => none
 | k + 1, x1, x2, x9, x10, x12, x62, x63, x934000, x934001, x963000, x963001 => if x63 < x62 then (if 0 ≤ x63 then (if x63 < (x963000.length : Int) then ((cottonpadlaw06_choose.f x2 x63).bind fun t964 => (cottonpadlaw06_ExitsSlower.l0 k x1 x2 x9 x10 x12 x62 (wrap64 (x63 + 1)) x934000 x934001 (x963000.set (x63 : Int).toNat (⟨(rd_T62 x963000 x63).f0, mn (wrap64 (((rd_T62 x963000 x63).f1) + (Int.tmod t964 5))) 60, (⟨(rd_T62 x963000 x63).f2.f0, (rd_T62 x963000 x63).f2.f1⟩ : S36), (⟨(rd_T62 x963000 x63).f3.f0, (rd_T62 x963000 x63).f3.f1⟩ : S36)⟩ : S62)) x963001)) else (none)) else (none)) else (cottonpadlaw06_ExitsSlower.l1 k x1 x2 x9 x10 x12 (x12.length : Int) 0 x934000 x934001 x963000 x963001)
def cottonpadlaw06_ExitsSlower.l1 : Nat → List (S48) → List Int → Bool → List (S48) → List (S48) → Int → Int → List (S62) → List (S81) → List (S62) → List (S81) → Option (Bool)
 | 0, _, _, _, _, _, _, _, _, _, _, _ => none
 | k + 1, x1, x2, x9, x10, x12, x85, x86, x934000, x934001, x963000, x963001 => if x86 < x85 then (if 0 ≤ x86 then (if x86 < (x12.length : Int) then ((cottonpadlaw06_choose.f x2 (wrap64 (6 + (wrap64 (2 * x86))))).bind fun t967 => ((some (x12.set (x86 : Int).toNat (⟨(rd_T48 x12 x86).f0, (⟨mx (wrap64 (((rd_T48 x12 x86).f1.f0) - (Int.tmod t967 200))) 100, (rd_T48 x12 x86).f1.f1⟩ : S36), (⟨(rd_T48 x12 x86).f2.f0, (rd_T48 x12 x86).f2.f1⟩ : S36)⟩ : S48) : List (S48))).bind fun y968 => ((cottonpadlaw06_choose.f x2 (wrap64 (7 + (wrap64 (2 * x86))))).bind fun t970 => (cottonpadlaw06_ExitsSlower.l1 k x1 x2 x9 x10 (y968.set (x86 : Int).toNat (⟨(rd_T48 y968 x86).f0, (⟨(rd_T48 y968 x86).f1.f0, mx (wrap64 (((rd_T48 y968 x86).f1.f1) - (Int.tmod t970 200))) ((rd_T48 y968 x86).f1.f0)⟩ : S36), (⟨(rd_T48 y968 x86).f2.f0, (rd_T48 y968 x86).f2.f1⟩ : S36)⟩ : S48)) x85 (wrap64 (x86 + 1)) x934000 x934001 x963000 x963001)))) else (none)) else (none)) else ((exits_Out.f x934000 x934001 x1).bind fun bt973 => ((exits_Out.f x963000 x963001 x12).bind fun bt977 => ((exits_Out.f x934000 x934001 x10).bind fun bt981 => ((exits_Safe.f x934000 x934001 x1).bind fun bt985 => ((exits_Safe.f x963000 x963001 x12).bind fun bt989 => ((exits_Safe.f x934000 x934001 x10).bind fun bt993 => (if x9 = true then (if bt973.2.2 = 0 then (if bt977.2.2 = 0 then (if bt981.2.2 = 0 then (if bt985.2.2.2 = 0 then (if bt989.2.2.2 = 0 then (if bt993.2.2.2 = 0 then (if bt977.1 ≥ bt973.1 then (if bt977.2.1 ≥ bt973.2.1 then (if bt981.1 ≥ bt973.1 then (if bt981.2.1 ≥ bt973.2.1 then (if bt989.1 ≤ bt985.1 then (some (decide (bt993.1 ≤ bt985.1))) else (some false)) else (some false)) else (some false)) else (some false)) else (some false)) else (some false)) else (some false)) else (some false)) else (some false)) else (some false)) else (some false)) else (some false))))))))
end
def cottonpadlaw06_ExitsSlower.f (k : Nat) (l0_0 : List (S62)) (l0_1 : List (S81)) (l1 : List (S48)) (l2 : List Int) (a3_0 : Int) (a3_1 : Int) (a3_2 : Int) (a3_3 : Int) (a3_4 : Int) : Option (Bool) := (cottonpadlaw06_alive_t.f).bind fun t935 => ((some (([] : List (S48)) : List (S48))).bind fun y936 => (if y936.length + l1.length < 3518437208883 then ((some (y936 ++ l1 : List (S48))).bind fun y939 => ((some (([(⟨a3_0, (⟨a3_1, a3_2⟩ : S36), (⟨a3_3, a3_4⟩ : S36)⟩ : S48)] : List (S48)) : List (S48))).bind fun y942 => (if y939.length + y942.length < 3518437208883 then ((some (y939 ++ y942 : List (S48))).bind fun y945 => ((cottonpadlaw06_ready.f k l0_0 l0_1 l1).bind fun t948 => (if t948 = true then ((cottonpadlaw06_ready.f k l0_0 l0_1 y945).bind fun t949 => (if t949 = true then (cottonpadlaw06_ExitsSlower.j0 k l1 l2 t935 y945 (!t935) l0_0 l0_1) else (cottonpadlaw06_ExitsSlower.j0 k l1 l2 t935 y945 true l0_0 l0_1))) else (cottonpadlaw06_ExitsSlower.j0 k l1 l2 t935 y945 true l0_0 l0_1)))) else (none)))) else (none)))
theorem cottonpadlaw06_ExitsSlower.mono_l : ∀ k, (∀ y0 y1 y2 y3 y4 y5 y6, LeO (cottonpadlaw06_ExitsSlower.j0 k y0 y1 y2 y3 y4 y5 y6) (cottonpadlaw06_ExitsSlower.j0 (k + 1) y0 y1 y2 y3 y4 y5 y6)) ∧ (∀ y0 y1 y2 y3 y4 y5 y6 y7 y8 y9 y10, LeO (cottonpadlaw06_ExitsSlower.l0 k y0 y1 y2 y3 y4 y5 y6 y7 y8 y9 y10) (cottonpadlaw06_ExitsSlower.l0 (k + 1) y0 y1 y2 y3 y4 y5 y6 y7 y8 y9 y10)) ∧ (∀ y0 y1 y2 y3 y4 y5 y6 y7 y8 y9 y10, LeO (cottonpadlaw06_ExitsSlower.l1 k y0 y1 y2 y3 y4 y5 y6 y7 y8 y9 y10) (cottonpadlaw06_ExitsSlower.l1 (k + 1) y0 y1 y2 y3 y4 y5 y6 y7 y8 y9 y10))
 | 0 => ⟨fun _ _ _ _ _ _ _ r h => by simp [cottonpadlaw06_ExitsSlower.j0] at h, fun _ _ _ _ _ _ _ _ _ _ _ r h => by simp [cottonpadlaw06_ExitsSlower.l0] at h, fun _ _ _ _ _ _ _ _ _ _ _ r h => by simp [cottonpadlaw06_ExitsSlower.l1] at h⟩
 | k + 1 => by
  obtain ⟨ih0, ih1, ih2⟩ := cottonpadlaw06_ExitsSlower.mono_l k
  refine ⟨?_, ?_, ?_⟩
  ·intro y0 y1 y2 y3 y4 y5 y6
   unfold cottonpadlaw06_ExitsSlower.j0
   repeat' (with_reducible first | exact ih0 .. | exact ih1 .. | exact ih2 .. | exact cottonpadlaw06_ready.mono .. | exact LeO.refl .. | exact LeO.none .. | refine LeO.ite ?_ ?_ | refine LeO.bind ?_ (fun _ => ?_))
  ·intro y0 y1 y2 y3 y4 y5 y6 y7 y8 y9 y10
   unfold cottonpadlaw06_ExitsSlower.l0
   repeat' (with_reducible first | exact ih0 .. | exact ih1 .. | exact ih2 .. | exact cottonpadlaw06_ready.mono .. | exact LeO.refl .. | exact LeO.none .. | refine LeO.ite ?_ ?_ | refine LeO.bind ?_ (fun _ => ?_))
  ·intro y0 y1 y2 y3 y4 y5 y6 y7 y8 y9 y10
   unfold cottonpadlaw06_ExitsSlower.l1
   repeat' (with_reducible first | exact ih0 .. | exact ih1 .. | exact ih2 .. | exact cottonpadlaw06_ready.mono .. | exact LeO.refl .. | exact LeO.none .. | refine LeO.ite ?_ ?_ | refine LeO.bind ?_ (fun _ => ?_))
theorem cottonpadlaw06_ExitsSlower.mono : ∀ a0 a1 a2 a3 a4 a5 a6 a7 a8 k, LeO (cottonpadlaw06_ExitsSlower.f k a0 a1 a2 a3 a4 a5 a6 a7 a8) (cottonpadlaw06_ExitsSlower.f (k + 1) a0 a1 a2 a3 a4 a5 a6 a7 a8) := by
 intro a0 a1 a2 a3 a4 a5 a6 a7 a8 k
 obtain ⟨ih0, ih1, ih2⟩ := cottonpadlaw06_ExitsSlower.mono_l k
 unfold cottonpadlaw06_ExitsSlower.f
 repeat' (with_reducible first | exact ih0 .. | exact ih1 .. | exact ih2 .. | exact cottonpadlaw06_ready.mono .. | exact LeO.refl .. | exact LeO.none .. | refine LeO.ite ?_ ?_ | refine LeO.bind ?_ (fun _ => ?_))
def cottonpadlaw06_ExitsSlower.T9 : Bool × List (List Nat × List Nat) := (true, [([], []), ([0], [0]), ([], []), ([], []), ([3], [3]), ([], []), ([4, 5], [4, 5]), ([6], [6]), ([7], [7]), ([], []), ([], []), ([9, 10], [9, 10]), ([11], [11]), ([8, 12], [8, 12]), ([13], [13]), ([1, 2, 0, 1, 2, 3, 4, 5, 6, 7, 8, 9, 10, 11, 12, 13, 14], [1, 2]), ([15, 0, 1, 2, 3, 4, 5, 6, 7, 8, 9, 10, 11, 12, 13, 14], [15]), ([16, 14, 11, 0, 1, 2, 3, 4, 5, 6, 7, 8, 9, 10, 11, 12, 13, 14], [14, 16])])
def cottonpadlaw06_ExitsSlower.B9 : List Nat := [0, 1, 0, 0, 8, 0, 56, 120, 248, 0, 0, 1536, 3584, 8184, 16376, 32767, 65535, 131071]
theorem cottonpadlaw06_ExitsSlower.tab9 : rtab .any (opsOf Tryd.f13 9) = cottonpadlaw06_ExitsSlower.T9 := by kernel_rfl
theorem cottonpadlaw06_ExitsSlower.bits9 : waitsOk cottonpadlaw06_ExitsSlower.T9.2 cottonpadlaw06_ExitsSlower.B9 = true := by kernel_rfl
def cottonpadlaw06_ExitsSlower.T14 : Bool × List (List Nat × List Nat) := (true, [([], []), ([], []), ([], []), ([], []), ([2, 3], [2, 3]), ([4], [4]), ([5], [5]), ([6], [6]), ([], []), ([], []), ([9], [9]), ([10], [10]), ([8, 11], [8, 11]), ([12], [12]), ([7, 13], [7, 13]), ([14], [14]), ([0, 1, 0, 1, 2, 3, 4, 5, 6, 7, 8, 9, 10, 11, 12, 13, 14, 15], [0, 1]), ([16, 0, 1, 2, 3, 4, 5, 6, 7, 8, 9, 10, 11, 12, 13, 14, 15], [16]), ([17, 0, 1, 2, 3, 4, 5, 6, 7, 8, 9, 10, 11, 12, 13, 14, 15], [17]), ([18, 15, 12, 0, 1, 2, 3, 4, 5, 6, 7, 8, 9, 10, 11, 12, 13, 14, 15], [15, 18])])
def cottonpadlaw06_ExitsSlower.B14 : List Nat := [0, 0, 0, 0, 12, 28, 60, 124, 0, 0, 512, 1536, 3840, 7936, 16380, 32764, 65535, 131071, 262143, 524287]
theorem cottonpadlaw06_ExitsSlower.tab14 : rtab .any (opsOf Tryd.f13 14) = cottonpadlaw06_ExitsSlower.T14 := by kernel_rfl
theorem cottonpadlaw06_ExitsSlower.bits14 : waitsOk cottonpadlaw06_ExitsSlower.T14.2 cottonpadlaw06_ExitsSlower.B14 = true := by kernel_rfl
def cottonpadlaw06_ExitsSlower.T15 : Bool × List (List Nat × List Nat) := (true, [([], []), ([], []), ([], []), ([], []), ([2, 3], [2, 3]), ([4], [4]), ([5], [5]), ([6], [6]), ([], []), ([], []), ([9], [9]), ([10], [10]), ([8, 11], [8, 11]), ([12], [12]), ([7, 13], [7, 13]), ([], []), ([], []), ([15, 16], [15, 16]), ([17], [17]), ([18], [18]), ([19], [19]), ([14, 20], [14, 20]), ([0, 1, 0, 1, 2, 3, 4, 5, 6, 7, 8, 9, 10, 11, 12, 13, 14, 15, 16, 17, 18, 19, 20, 21], [0, 1]), ([22, 0, 1, 2, 3, 4, 5, 6, 7, 8, 9, 10, 11, 12, 13, 14, 15, 16, 17, 18, 19, 20, 21], [22]), ([23, 0, 1, 2, 3, 4, 5, 6, 7, 8, 9, 10, 11, 12, 13, 14, 15, 16, 17, 18, 19, 20, 21], [23]), ([24, 21, 12, 0, 1, 2, 3, 4, 5, 6, 7, 8, 9, 10, 11, 12, 13, 14, 15, 16, 17, 18, 19, 20, 21], [21, 24])])
def cottonpadlaw06_ExitsSlower.B15 : List Nat := [0, 0, 0, 0, 12, 28, 60, 124, 0, 0, 512, 1536, 3840, 7936, 16380, 0, 0, 98304, 229376, 491520, 1015808, 2097148, 4194303, 8388607, 16777215, 33554431]
theorem cottonpadlaw06_ExitsSlower.tab15 : rtab .any (opsOf Tryd.f13 15) = cottonpadlaw06_ExitsSlower.T15 := by kernel_rfl
theorem cottonpadlaw06_ExitsSlower.bits15 : waitsOk cottonpadlaw06_ExitsSlower.T15.2 cottonpadlaw06_ExitsSlower.B15 = true := by kernel_rfl
set_option maxHeartbeats 8000000 in
set_option maxRecDepth 100000 in
theorem cottonpadlaw06_ExitsSlower.calls (k : Nat) (A0_0 : Option Addr) (c0_0 : Nat) (l0_0 : List (S62)) (A0_1 : Option Addr) (c0_1 : Nat) (l0_1 : List (S81)) (A1 : Option Addr) (c1 : Nat) (l1 : List (S48)) (A2 : Option Addr) (c2 : Nat) (l2 : List Int) (a3_0 : Int) (a3_1 : Int) (a3_2 : Int) (a3_3 : Int) (a3_4 : Int) (r : Bool) (w : World) (hG : Globs w) (hrt : r = true) (hr0_0 : Kd.C k62 w A0_0 l0_0.length l0_0) (hc0_0 : l0_0.length ≤ c0_0) (hr0_1 : Kd.C k81 w A0_1 l0_1.length l0_1) (hc0_1 : l0_1.length ≤ c0_1) (hr1 : Kd.C k48 w A1 l1.length l1) (hc1 : l1.length ≤ c1) (hr2 : Kd.C (Kd.int .u32) w A2 l2.length l2) (hc2 : l2.length ≤ c2) (h : cottonpadlaw06_ExitsSlower.f k l0_0 l0_1 l1 l2 a3_0 a3_1 a3_2 a3_3 a3_4 = some r) :
  Calls Tryd.prog 13 #[.agg #[.slice A0_0 l0_0.length c0_0, .slice A0_1 l0_1.length c0_1], .slice A1 l1.length c1, .slice A2 l2.length c2, .agg #[.int .i64 a3_0, .int .i64 a3_1, .int .i64 a3_2, .int .i64 a3_3, .int .i64 a3_4]] w fun e w' => e = .returned (.bool r) ∧ Below w.heap.size w w' := by
 have hu25 := Tryd.underlying25
 have hu48 := Tryd.underlying48
 have hu36 := Tryd.underlying36
 have HR0_0 := Aside0.mk hr0_0
 have HC0_0 := Aside0.mk hc0_0
 clear hr0_0 hc0_0
 have HR0_1 := Aside0.mk hr0_1
 have HC0_1 := Aside0.mk hc0_1
 clear hr0_1 hc0_1
 have HR1 := Aside0.mk hr1
 have HC1 := Aside0.mk hc1
 clear hr1 hc1
 have HR2 := Aside0.mk hr2
 have HC2 := Aside0.mk hc2
 clear hr2 hc2
 have HB := Aside0.mk (Below.refl w.heap.size w)
 have HG := Aside0.mk hG
 clear hG
 have HRT := Aside0.mk hrt
 clear hrt
 have H : ((cottonpadlaw06_alive_t.f).bind fun t935 => ((some (([] : List (S48)) : List (S48))).bind fun y936 => (if y936.length + l1.length < 3518437208883 then ((some (y936 ++ l1 : List (S48))).bind fun y939 => ((some (([(⟨a3_0, (⟨a3_1, a3_2⟩ : S36), (⟨a3_3, a3_4⟩ : S36)⟩ : S48)] : List (S48)) : List (S48))).bind fun y942 => (if y939.length + y942.length < 3518437208883 then ((some (y939 ++ y942 : List (S48))).bind fun y945 => ((cottonpadlaw06_ready.f k l0_0 l0_1 l1).bind fun t948 => (if t948 = true then ((cottonpadlaw06_ready.f k l0_0 l0_1 y945).bind fun t949 => (if t949 = true then (cottonpadlaw06_ExitsSlower.j0 k l1 l2 t935 y945 (!t935) l0_0 l0_1) else (cottonpadlaw06_ExitsSlower.j0 k l1 l2 t935 y945 true l0_0 l0_1))) else (cottonpadlaw06_ExitsSlower.j0 k l1 l2 t935 y945 true l0_0 l0_1)))) else (none)))) else (none)))) = some r := h
 clear h
 replace H := Option.bind_eq_some_iff.mp H
 obtain ⟨t935, A50, H⟩ := H
 replace H : ((some (([] : List (S48)) : List (S48))).bind fun y936 => (if y936.length + l1.length < 3518437208883 then ((some (y936 ++ l1 : List (S48))).bind fun y939 => ((some (([(⟨a3_0, (⟨a3_1, a3_2⟩ : S36), (⟨a3_3, a3_4⟩ : S36)⟩ : S48)] : List (S48)) : List (S48))).bind fun y942 => (if y939.length + y942.length < 3518437208883 then ((some (y939 ++ y942 : List (S48))).bind fun y945 => ((cottonpadlaw06_ready.f k l0_0 l0_1 l1).bind fun t948 => (if t948 = true then ((cottonpadlaw06_ready.f k l0_0 l0_1 y945).bind fun t949 => (if t949 = true then (cottonpadlaw06_ExitsSlower.j0 k l1 l2 t935 y945 (!t935) l0_0 l0_1) else (cottonpadlaw06_ExitsSlower.j0 k l1 l2 t935 y945 true l0_0 l0_1))) else (cottonpadlaw06_ExitsSlower.j0 k l1 l2 t935 y945 true l0_0 l0_1)))) else (none)))) else (none))) = some r := H
 have A5 := Aside0.mk A50
 clear A50
 obtain ⟨y936, hy936⟩ : ∃ y_ : List (S48), y_ = (([] : List (S48))) := ⟨_, rfl⟩
 replace H : (if y936.length + l1.length < 3518437208883 then ((some (y936 ++ l1 : List (S48))).bind fun y939 => ((some (([(⟨a3_0, (⟨a3_1, a3_2⟩ : S36), (⟨a3_3, a3_4⟩ : S36)⟩ : S48)] : List (S48)) : List (S48))).bind fun y942 => (if y939.length + y942.length < 3518437208883 then ((some (y939 ++ y942 : List (S48))).bind fun y945 => ((cottonpadlaw06_ready.f k l0_0 l0_1 l1).bind fun t948 => (if t948 = true then ((cottonpadlaw06_ready.f k l0_0 l0_1 y945).bind fun t949 => (if t949 = true then (cottonpadlaw06_ExitsSlower.j0 k l1 l2 t935 y945 (!t935) l0_0 l0_1) else (cottonpadlaw06_ExitsSlower.j0 k l1 l2 t935 y945 true l0_0 l0_1))) else (cottonpadlaw06_ExitsSlower.j0 k l1 l2 t935 y945 true l0_0 l0_1)))) else (none)))) else (none)) = some r := by first | (rw [hy936]; with_reducible exact H) | (have H2_ := (Option.bind_some _ _).symm.trans H; rw [hy936]; with_reducible exact H2_) | (have H2_ := (Option.bind_some _ _).symm.trans H; with_reducible exact H2_) | with_reducible exact H | (rw [hy936]; exact H) | exact H
 have Ny936 := Aside0.mk hy936
 clear hy936
 by_cases c6 : y936.length + l1.length < 3518437208883
 ·rw [if_pos c6] at H
  have LMc6 := Aside0.mk c6
  clear c6
  obtain ⟨y939, hy939⟩ : ∃ y_ : List (S48), y_ = (y936 ++ l1) := ⟨_, rfl⟩
  replace H : ((some (([(⟨a3_0, (⟨a3_1, a3_2⟩ : S36), (⟨a3_3, a3_4⟩ : S36)⟩ : S48)] : List (S48)) : List (S48))).bind fun y942 => (if y939.length + y942.length < 3518437208883 then ((some (y939 ++ y942 : List (S48))).bind fun y945 => ((cottonpadlaw06_ready.f k l0_0 l0_1 l1).bind fun t948 => (if t948 = true then ((cottonpadlaw06_ready.f k l0_0 l0_1 y945).bind fun t949 => (if t949 = true then (cottonpadlaw06_ExitsSlower.j0 k l1 l2 t935 y945 (!t935) l0_0 l0_1) else (cottonpadlaw06_ExitsSlower.j0 k l1 l2 t935 y945 true l0_0 l0_1))) else (cottonpadlaw06_ExitsSlower.j0 k l1 l2 t935 y945 true l0_0 l0_1)))) else (none))) = some r := by first | (rw [hy939]; with_reducible exact H) | (have H2_ := (Option.bind_some _ _).symm.trans H; rw [hy939]; with_reducible exact H2_) | (have H2_ := (Option.bind_some _ _).symm.trans H; with_reducible exact H2_) | with_reducible exact H | (rw [hy939]; exact H) | exact H
  have Ny939 := Aside0.mk hy939
  clear hy939
  obtain ⟨y942, hy942⟩ : ∃ y_ : List (S48), y_ = (([(⟨a3_0, (⟨a3_1, a3_2⟩ : S36), (⟨a3_3, a3_4⟩ : S36)⟩ : S48)] : List (S48))) := ⟨_, rfl⟩
  replace H : (if y939.length + y942.length < 3518437208883 then ((some (y939 ++ y942 : List (S48))).bind fun y945 => ((cottonpadlaw06_ready.f k l0_0 l0_1 l1).bind fun t948 => (if t948 = true then ((cottonpadlaw06_ready.f k l0_0 l0_1 y945).bind fun t949 => (if t949 = true then (cottonpadlaw06_ExitsSlower.j0 k l1 l2 t935 y945 (!t935) l0_0 l0_1) else (cottonpadlaw06_ExitsSlower.j0 k l1 l2 t935 y945 true l0_0 l0_1))) else (cottonpadlaw06_ExitsSlower.j0 k l1 l2 t935 y945 true l0_0 l0_1)))) else (none)) = some r := by first | (rw [hy942]; with_reducible exact H) | (have H2_ := (Option.bind_some _ _).symm.trans H; rw [hy942]; with_reducible exact H2_) | (have H2_ := (Option.bind_some _ _).symm.trans H; with_reducible exact H2_) | with_reducible exact H | (rw [hy942]; exact H) | exact H
  have Ny942 := Aside0.mk hy942
  clear hy942
  by_cases c7 : y939.length + y942.length < 3518437208883
  ·rw [if_pos c7] at H
   have LMc7 := Aside0.mk c7
   clear c7
   obtain ⟨y945, hy945⟩ : ∃ y_ : List (S48), y_ = (y939 ++ y942) := ⟨_, rfl⟩
   replace H : ((cottonpadlaw06_ready.f k l0_0 l0_1 l1).bind fun t948 => (if t948 = true then ((cottonpadlaw06_ready.f k l0_0 l0_1 y945).bind fun t949 => (if t949 = true then (cottonpadlaw06_ExitsSlower.j0 k l1 l2 t935 y945 (!t935) l0_0 l0_1) else (cottonpadlaw06_ExitsSlower.j0 k l1 l2 t935 y945 true l0_0 l0_1))) else (cottonpadlaw06_ExitsSlower.j0 k l1 l2 t935 y945 true l0_0 l0_1))) = some r := by first | (rw [hy945]; with_reducible exact H) | (have H2_ := (Option.bind_some _ _).symm.trans H; rw [hy945]; with_reducible exact H2_) | (have H2_ := (Option.bind_some _ _).symm.trans H; with_reducible exact H2_) | with_reducible exact H | (rw [hy945]; exact H) | exact H
   have Ny945 := Aside0.mk hy945
   clear hy945
   have HC8 := Aside0.mk H
   clear H
   go_enter Tryd.func13, Tryd.ntmps13
   try go_wp2_with (first | ((with_reducible refine gate_dst (N := 4) rfl ?_); refine box_event ?hg (N := 4) ?hd (cs := #[.slice A0_0 l0_0.length c0_0, .slice A0_1 l0_1.length c0_1]) (t := 25) ?hr ?_; (case hd => rfl); (case hg => rfl); (case hr => exact gs_); intro gb933 hg w9 hbox hb; have BK933 := Aside0.mk (hbox); have GW933 := hl_ hg (be_ HB); have GE933 := hl_ hg (be_ HB); replace HB := bs_ HB hb; clear hb hbox hg) | ((with_reducible refine gate_dst (N := 7) rfl ?_); refine box_event ?hg (N := 7) ?hd (cs := #[.int .i64 a3_0, .int .i64 a3_1, .int .i64 a3_2, .int .i64 a3_3, .int .i64 a3_4]) (t := 48) ?hr ?_; (case hd => rfl); (case hg => rfl); (case hr => exact gs_); intro gb934 hg w10 hbox hb; have BK934 := Aside0.mk (hbox); have GW934 := hl_ hg (be1_ HB GE933); have GE934 := hl_ hg (be1_ HB GE933); replace HB := bs1_ HB GE933 hb; have NB933_934 := Aside0.mk ((by rw [hg]; exact Nat.ne_of_lt (blk_lt (bk_ BK933)) : gb933 ≠ gb934)); have NB934_933 := Aside0.mk ((by rw [hg]; exact Nat.ne_of_gt (blk_lt (bk_ BK933)) : gb934 ≠ gb933)); replace BK933 := bb_ BK933 hb; clear hb hbox hg) | ((with_reducible refine gate_callee (f := 30) rfl ?_); refine goesL_ (some 33) rfl rfl Tryd.func30 (by decide +kernel) rfl #[] rfl ls_ ?_; (with_reducible refine (cottonpadlaw06_alive_t.calls  t935 _ ?side1 A5.out).mono ?_); (case side1 => exact Globs.below HG.out (be2_ HB GE933 GE934)); rintro e w11 ⟨rfl, hb⟩; refine ⟨_, rfl, ?_⟩; replace BK933 := bb_ BK933 hb; replace BK934 := bb_ BK934 hb; replace HB := bs2_ HB GE933 GE934 hb; (try clear hb); (try clear hb2); (try clear hk); (try clear hi)))
   replace BK933 := Aside0.mk (blk_drew BK933.out)
   replace BK934 := Aside0.mk (blk_drew BK934.out)
   replace HB := Aside0.mk (below_drew1 HB.out)
   refine start_ (n := 7) (S := fun w' => w'.cell? ⟨gb934, 0, none⟩ = some (.int .i64 a3_0) ∧ w'.cell? ⟨gb934, 1, none⟩ = some (.int .i64 a3_1) ∧ w'.cell? ⟨gb934, 2, none⟩ = some (.int .i64 a3_2) ∧ w'.cell? ⟨gb934, 3, none⟩ = some (.int .i64 a3_3) ∧ w'.cell? ⟨gb934, 4, none⟩ = some (.int .i64 a3_4)) (ds := []) (bm_ 7 0) (by decide +kernel) rfl rfl ⟨bc_ BK934 0, bc_ BK934 1, bc_ BK934 2, bc_ BK934 3, bc_ BK934 4⟩ (fun hHeld => ?_)
   generalize w11.drew = w12 at BK933 BK934 HB hHeld ⊢
   refine pure_ (i := 1) (N := some 35) (v := ?_) (a' := ?_) (bm_ 7 2) rfl rfl (by decide +kernel) (fun _ _ _ h => h) (Or.inl ⟨by rfl, ?_⟩) ?_ ?_
   rotate_left
   ·intro w'
    go_simp
    with_reducible rfl
   rotate_left
   ·exact pt_
   refine take_ (i := 3) (N := some 37) (v := ?_) (a' := ?_) (bm_ 7 10) rfl rfl (by decide +kernel) (fun _ _ _ h => h) (Or.inl ⟨by rfl, ?_⟩) hHeld ?_ ?_
   rotate_left
   ·rintro w' ⟨s0, s1, s2, s3, s4⟩
    go_simp
    with_reducible rfl
   rotate_left
   ·exact pt_
   refine join_ (σ := Value × Value × Value) 2 (bm_ 7 31) (fun s_ => [(34, s_.1), (36, s_.2.1), (38, s_.2.2)]) (fun s_ w' => (w'.cell? ⟨gb934, 0, none⟩ = some (.int .i64 a3_0) ∧ w'.cell? ⟨gb934, 1, none⟩ = some (.int .i64 a3_1) ∧ w'.cell? ⟨gb934, 2, none⟩ = some (.int .i64 a3_2) ∧ w'.cell? ⟨gb934, 3, none⟩ = some (.int .i64 a3_3) ∧ w'.cell? ⟨gb934, 4, none⟩ = some (.int .i64 a3_4)) ∧ (Kd.R k48 48 w' w.heap.size (fun k_ => some k_ ≠ (s_.2.2 : Value).ownBlock ∧ k_ ≠ gb934) s_.2.1 y939) ∧ (Kd.R k48 48 w' w.heap.size (fun k_ => some k_ ≠ (s_.2.1 : Value).ownBlock ∧ k_ ≠ gb934) s_.2.2 y942) ∧ (w'.heap[gb933]? = some (.cells #[.slice A0_0 l0_0.length c0_0, .slice A0_1 l0_1.length c0_1] 25 (0, 0))) ∧ (w'.heap[gb934]? = some (.cells #[.int .i64 a3_0, .int .i64 a3_1, .int .i64 a3_2, .int .i64 a3_3, .int .i64 a3_4] 48 (0, 0))) ∧ (Below w.heap.size w w')) ?_ ?_
   rotate_left
   ·intro hCont
    refine two_ (i := 0) (j := 4) (Ni := some 34) (Nj := some 38) (bm_ 7 11) (bm_ 7 26) rfl rfl rfl rfl (by decide +kernel) (by decide) (by decide) (fun K hK => ?_) (fun K hK => ?_)
    ·skip
     refine Kd.R_lit_step k48 _ 48 ?hg (N := 34) ?hd (xs := ([] : List (S48))) (inner := []) (ok := fun _ => True) (okp := fun _ => True) ?hr ?hp (fun _ hk => hk) trivial (Below.refl _ _) (Nat.le_refl _) (by simp) ?_; (case hd => rfl); (case hg => rfl); (case hr => exact gs_); (case hp => exact (Reps.none _ _))
     intro v937 w13 ho14 hb hg_ hnew_
     clear hg_ hnew_
     (first | rw [← Ny936.out] at ho14 | (simp only [Int.reduceToNat] at ho14; rw [← Ny936.out] at ho14))
     have HO938 := Aside0.mk (Kd.R_lower (Kd.R_newB ho14 (g := gb934) (o := .cells #[.int .i64 a3_0, .int .i64 a3_1, .int .i64 a3_2, .int .i64 a3_3, .int .i64 a3_4] 48 (0, 0)) (bk_ BK934)) (below_size (be2_ HB GE933 GE934)))
     replace BK933 := bb_ BK933 hb
     replace BK934 := bb_ BK934 hb
     replace HB := bs2_ HB GE933 GE934 hb
     clear hb ho14
     refine hK.out _ _ ⟨bc_ BK934 0, bc_ BK934 1, bc_ BK934 2, bc_ BK934 3, bc_ BK934 4⟩ (fun hHeld => ?_)
     clear hK K
     refine norm_ (a' := ?_) ?_ ?_
     rotate_left
     ·show Act.put _ (some 34) _ = _
      simp only [Act.put, List.setIfInBounds_toArray, List.set_cons_zero, List.set_cons_succ, i64_w, i32_w]
      rfl
     refine two_ (i := 2) (j := 4) (Ni := some 36) (Nj := some 38) (bm_ 7 15) (bm_ 7 27) rfl rfl rfl rfl (by decide +kernel) (by decide) (by decide) (fun K hK => ?_) (fun K hK => ?_)
     ·skip
      refine Kd.R_append_rows_step k48 (w0 := w) w.heap.size (by rfl) (.tmp 34) (.tmp 35) 26 48 (.agg #[(.int .i64 0), (.int .i64 0), (.int .i64 0), (.int .i64 0), (.int .i64 0)]) 40 rfl Tryd.underlying26 info48 rfl (by decide) (by omega) v937 y936 l1 _ _ _ (fun k_ => k_ ≠ gb934) (fun _ => False) rfl rfl ?aO ?aR (fun _ _ h => h) (fun _ h => h.elim) ?aF ?aB ?aS ?aL ?_
      (case aR => exact kc_ HR1 HB)
      (case aB => exact (be2_ HB GE933 GE934))
      (case aF => exact (fun k_ hk => Kd.freshB (g := gb934) (o := .cells #[.int .i64 a3_0, .int .i64 a3_1, .int .i64 a3_2, .int .i64 a3_3, .int .i64 a3_4] 48 (0, 0)) (bk_ BK934) k_ hk))
      (case aO => exact (by (with_reducible repeat (first | apply Kd.R_alloc | apply Kd.R_drewN | apply Kd.R_drew)); exact Kd.R_mono HO938.out (fun _ hk => hk.2)))
      (case aS => exact (below_size (be2_ HB GE933 GE934)))
      (case aL => have := LMc6.out; omega)
      intro v940 w15 ho hb hg hat
      rw [← Ny939.out] at ho
      replace BK933 := Aside0.mk (blk_grown (g := gb933) (o := .cells #[.slice A0_0 l0_0.length c0_0, .slice A0_1 l0_1.length c0_1] 25 (0, 0)) (bk_ BK933) hg (Kd.R_ne HO938.out BK933.out (by decide)))
      replace BK934 := Aside0.mk (blk_grown (g := gb934) (o := .cells #[.int .i64 a3_0, .int .i64 a3_1, .int .i64 a3_2, .int .i64 a3_3, .int .i64 a3_4] 48 (0, 0)) (bk_ BK934) hg (Kd.R_away HO938.out (fun _ hk => hk.2)))
      replace HB := Aside0.mk (hb)
      have HO941 := Aside0.mk (ho)
      clear HO938
      clear ho hb hg hat
      refine hK.out _ _ ⟨bc_ BK934 0, bc_ BK934 1, bc_ BK934 2, bc_ BK934 3, bc_ BK934 4⟩ (fun hHeld => ?_)
      clear hK K
      refine norm_ (a' := ?_) ?_ ?_
      rotate_left
      ·show Act.put _ (some 36) _ = _
       simp only [Act.put, List.setIfInBounds_toArray, List.set_cons_zero, List.set_cons_succ, i64_w, i32_w]
       rfl
      refine one_ (i := 4) (N := some 38) (bm_ 7 31) rfl rfl (by decide +kernel) (by decide) (fun K hK => ?_)
      refine Kd.R_lit_step k48 _ 48 ?hg (N := 38) ?hd (xs := ([(⟨a3_0, (⟨a3_1, a3_2⟩ : S36), (⟨a3_3, a3_4⟩ : S36)⟩ : S48)] : List (S48))) (inner := [.int .i64 a3_0, .int .i64 a3_1, .int .i64 a3_2, .int .i64 a3_3, .int .i64 a3_4]) (ok := fun _ => True) (okp := fun _ => True) ?hr ?hp (fun _ hk => hk) trivial (Below.refl _ _) (Nat.le_refl _) (by simp) ?_; (case hd => rfl); (case hg => rfl); (case hr => exact gs_); (case hp => exact (Reps.c5 (show Kd.M k48 _ _ _ (⟨a3_0, (⟨a3_1, a3_2⟩ : S36), (⟨a3_3, a3_4⟩ : S36)⟩ : S48) [.int .i64 a3_0, .int .i64 a3_1, .int .i64 a3_2, .int .i64 a3_3, .int .i64 a3_4] from (k48_mkM _ _ _ (⟨a3_0, (⟨a3_1, a3_2⟩ : S36), (⟨a3_3, a3_4⟩ : S36)⟩ : S48) )) (Reps.none _ _)))
      intro v943 w16 ho17 hb hg_ hnew_
      clear hg_ hnew_
      (first | rw [← Ny942.out] at ho17 | (simp only [Int.reduceToNat] at ho17; rw [← Ny942.out] at ho17))
      have HO944 := Aside0.mk (Kd.R_lower (Kd.R_newB (Kd.R_new' ho17 (Kd.R_lt (ro_ HO941))) (g := gb934) (o := .cells #[.int .i64 a3_0, .int .i64 a3_1, .int .i64 a3_2, .int .i64 a3_3, .int .i64 a3_4] 48 (0, 0)) (bk_ BK934)) (below_size (be2_ HB GE933 GE934)))
      replace HO941 := Aside0.mk (Kd.R_elder' (ro_ HO941) (Kd.R_base ho17) hb)
      replace BK933 := bb_ BK933 hb
      replace BK934 := bb_ BK934 hb
      replace HB := bs2_ HB GE933 GE934 hb
      clear hb ho17
      refine hK.out _ _ ⟨bc_ BK934 0, bc_ BK934 1, bc_ BK934 2, bc_ BK934 3, bc_ BK934 4⟩ (fun hHeld => ?_)
      clear hK K
      refine norm_ (a' := ?_) ?_ ?_
      rotate_left
      ·show Act.put _ (some 38) _ = _
       simp only [Act.put, List.setIfInBounds_toArray, List.set_cons_zero, List.set_cons_succ, i64_w, i32_w]
       rfl
      exact norm_ (by simp only [putAll, Act.put, List.setIfInBounds_toArray, List.set_cons_zero, List.set_cons_succ]) (hCont (v937, v940, v943) _ ⟨hHeld, (by (with_reducible repeat (first | apply Kd.R_alloc | apply Kd.R_drewN | apply Kd.R_drew)); exact Kd.R_mono HO941.out (fun _ hk => ⟨hk.2, hk.1⟩)), (by (with_reducible repeat (first | apply Kd.R_alloc | apply Kd.R_drewN | apply Kd.R_drew)); exact Kd.R_mono HO944.out (fun _ hk => ⟨hk.1.2, hk.2⟩)), (bk_ BK933), (bk_ BK934), (be2_ HB GE933 GE934)⟩)
     ·skip
      refine Kd.R_lit_step k48 _ 48 ?hg (N := 38) ?hd (xs := ([(⟨a3_0, (⟨a3_1, a3_2⟩ : S36), (⟨a3_3, a3_4⟩ : S36)⟩ : S48)] : List (S48))) (inner := [.int .i64 a3_0, .int .i64 a3_1, .int .i64 a3_2, .int .i64 a3_3, .int .i64 a3_4]) (ok := fun _ => True) (okp := fun _ => True) ?hr ?hp (fun _ hk => hk) trivial (Below.refl _ _) (Nat.le_refl _) (by simp) ?_; (case hd => rfl); (case hg => rfl); (case hr => exact gs_); (case hp => exact (Reps.c5 (show Kd.M k48 _ _ _ (⟨a3_0, (⟨a3_1, a3_2⟩ : S36), (⟨a3_3, a3_4⟩ : S36)⟩ : S48) [.int .i64 a3_0, .int .i64 a3_1, .int .i64 a3_2, .int .i64 a3_3, .int .i64 a3_4] from (k48_mkM _ _ _ (⟨a3_0, (⟨a3_1, a3_2⟩ : S36), (⟨a3_3, a3_4⟩ : S36)⟩ : S48) )) (Reps.none _ _)))
      intro v943 w15 ho16 hb hg_ hnew_
      clear hg_ hnew_
      (first | rw [← Ny942.out] at ho16 | (simp only [Int.reduceToNat] at ho16; rw [← Ny942.out] at ho16))
      have HO944 := Aside0.mk (Kd.R_lower (Kd.R_newB (Kd.R_new' ho16 (Kd.R_lt (ro_ HO938))) (g := gb934) (o := .cells #[.int .i64 a3_0, .int .i64 a3_1, .int .i64 a3_2, .int .i64 a3_3, .int .i64 a3_4] 48 (0, 0)) (bk_ BK934)) (below_size (be2_ HB GE933 GE934)))
      replace HO938 := Aside0.mk (Kd.R_elder' (ro_ HO938) (Kd.R_base ho16) hb)
      replace BK933 := bb_ BK933 hb
      replace BK934 := bb_ BK934 hb
      replace HB := bs2_ HB GE933 GE934 hb
      clear hb ho16
      refine hK.out _ _ ⟨bc_ BK934 0, bc_ BK934 1, bc_ BK934 2, bc_ BK934 3, bc_ BK934 4⟩ (fun hHeld => ?_)
      clear hK K
      refine norm_ (a' := ?_) ?_ ?_
      rotate_left
      ·show Act.put _ (some 38) _ = _
       simp only [Act.put, List.setIfInBounds_toArray, List.set_cons_zero, List.set_cons_succ, i64_w, i32_w]
       rfl
      refine one_ (i := 2) (N := some 36) (bm_ 7 31) rfl rfl (by decide +kernel) (by decide) (fun K hK => ?_)
      refine Kd.R_append_rows_step k48 (w0 := w) w.heap.size (by rfl) (.tmp 34) (.tmp 35) 26 48 (.agg #[(.int .i64 0), (.int .i64 0), (.int .i64 0), (.int .i64 0), (.int .i64 0)]) 40 rfl Tryd.underlying26 info48 rfl (by decide) (by omega) v937 y936 l1 _ _ _ (fun k_ => some k_ ≠ (v943 : Value).ownBlock ∧ k_ ≠ gb934) (fun _ => False) rfl rfl ?aO ?aR (fun _ _ h => h) (fun _ h => h.elim) ?aF ?aB ?aS ?aL ?_
      (case aR => exact kc_ HR1 HB)
      (case aB => exact (be2_ HB GE933 GE934))
      (case aF => exact (fun k_ hk => ⟨Kd.fresh' (Kd.R_lt (ro_ HO944)) k_ hk, Kd.freshB (g := gb934) (o := .cells #[.int .i64 a3_0, .int .i64 a3_1, .int .i64 a3_2, .int .i64 a3_3, .int .i64 a3_4] 48 (0, 0)) (bk_ BK934) k_ hk⟩))
      (case aO => exact (by (with_reducible repeat (first | apply Kd.R_alloc | apply Kd.R_drewN | apply Kd.R_drew)); exact Kd.R_mono HO938.out (fun _ hk => ⟨hk.2, hk.1.2⟩)))
      (case aS => exact (below_size (be2_ HB GE933 GE934)))
      (case aL => have := LMc6.out; omega)
      intro v940 w17 ho hb hg hat
      rw [← Ny939.out] at ho
      replace BK933 := Aside0.mk (blk_grown (g := gb933) (o := .cells #[.slice A0_0 l0_0.length c0_0, .slice A0_1 l0_1.length c0_1] 25 (0, 0)) (bk_ BK933) hg (Kd.R_ne HO938.out BK933.out (by decide)))
      replace BK934 := Aside0.mk (blk_grown (g := gb934) (o := .cells #[.int .i64 a3_0, .int .i64 a3_1, .int .i64 a3_2, .int .i64 a3_3, .int .i64 a3_4] 48 (0, 0)) (bk_ BK934) hg (Kd.R_away HO938.out (fun _ hk => hk.1.2)))
      replace HO944 := Aside0.mk (Kd.R_after (ok := (fun k_ => k_ ≠ gb934)) (by (with_reducible repeat (first | apply Kd.R_alloc | apply Kd.R_drewN | apply Kd.R_drew)); exact Kd.R_mono HO944.out (fun _ hk => ⟨hk.2, hk.1.2⟩)) hg hat)
      replace HB := Aside0.mk (hb)
      have HO941 := Aside0.mk (ho)
      clear HO938
      clear ho hb hg hat
      refine hK.out _ _ ⟨bc_ BK934 0, bc_ BK934 1, bc_ BK934 2, bc_ BK934 3, bc_ BK934 4⟩ (fun hHeld => ?_)
      clear hK K
      refine norm_ (a' := ?_) ?_ ?_
      rotate_left
      ·show Act.put _ (some 36) _ = _
       simp only [Act.put, List.setIfInBounds_toArray, List.set_cons_zero, List.set_cons_succ, i64_w, i32_w]
       rfl
      exact norm_ (by simp only [putAll, Act.put, List.setIfInBounds_toArray, List.set_cons_zero, List.set_cons_succ]) (hCont (v937, v940, v943) _ ⟨hHeld, (ro_ HO941), (by (with_reducible repeat (first | apply Kd.R_alloc | apply Kd.R_drewN | apply Kd.R_drew)); exact Kd.R_mono HO944.out (fun _ hk => ⟨hk.2, hk.1⟩)), (bk_ BK933), (bk_ BK934), (be2_ HB GE933 GE934)⟩)
    ·skip
     refine Kd.R_lit_step k48 _ 48 ?hg (N := 38) ?hd (xs := ([(⟨a3_0, (⟨a3_1, a3_2⟩ : S36), (⟨a3_3, a3_4⟩ : S36)⟩ : S48)] : List (S48))) (inner := [.int .i64 a3_0, .int .i64 a3_1, .int .i64 a3_2, .int .i64 a3_3, .int .i64 a3_4]) (ok := fun _ => True) (okp := fun _ => True) ?hr ?hp (fun _ hk => hk) trivial (Below.refl _ _) (Nat.le_refl _) (by simp) ?_; (case hd => rfl); (case hg => rfl); (case hr => exact gs_); (case hp => exact (Reps.c5 (show Kd.M k48 _ _ _ (⟨a3_0, (⟨a3_1, a3_2⟩ : S36), (⟨a3_3, a3_4⟩ : S36)⟩ : S48) [.int .i64 a3_0, .int .i64 a3_1, .int .i64 a3_2, .int .i64 a3_3, .int .i64 a3_4] from (k48_mkM _ _ _ (⟨a3_0, (⟨a3_1, a3_2⟩ : S36), (⟨a3_3, a3_4⟩ : S36)⟩ : S48) )) (Reps.none _ _)))
     intro v943 w13 ho14 hb hg_ hnew_
     clear hg_ hnew_
     (first | rw [← Ny942.out] at ho14 | (simp only [Int.reduceToNat] at ho14; rw [← Ny942.out] at ho14))
     have HO944 := Aside0.mk (Kd.R_lower (Kd.R_newB ho14 (g := gb934) (o := .cells #[.int .i64 a3_0, .int .i64 a3_1, .int .i64 a3_2, .int .i64 a3_3, .int .i64 a3_4] 48 (0, 0)) (bk_ BK934)) (below_size (be2_ HB GE933 GE934)))
     replace BK933 := bb_ BK933 hb
     replace BK934 := bb_ BK934 hb
     replace HB := bs2_ HB GE933 GE934 hb
     clear hb ho14
     refine hK.out _ _ ⟨bc_ BK934 0, bc_ BK934 1, bc_ BK934 2, bc_ BK934 3, bc_ BK934 4⟩ (fun hHeld => ?_)
     clear hK K
     refine norm_ (a' := ?_) ?_ ?_
     rotate_left
     ·show Act.put _ (some 38) _ = _
      simp only [Act.put, List.setIfInBounds_toArray, List.set_cons_zero, List.set_cons_succ, i64_w, i32_w]
      rfl
     refine one_ (i := 0) (N := some 34) (bm_ 7 27) rfl rfl (by decide +kernel) (by decide) (fun K hK => ?_)
     refine Kd.R_lit_step k48 _ 48 ?hg (N := 34) ?hd (xs := ([] : List (S48))) (inner := []) (ok := fun _ => True) (okp := fun _ => True) ?hr ?hp (fun _ hk => hk) trivial (Below.refl _ _) (Nat.le_refl _) (by simp) ?_; (case hd => rfl); (case hg => rfl); (case hr => exact gs_); (case hp => exact (Reps.none _ _))
     intro v937 w15 ho16 hb hg_ hnew_
     clear hg_ hnew_
     (first | rw [← Ny936.out] at ho16 | (simp only [Int.reduceToNat] at ho16; rw [← Ny936.out] at ho16))
     have HO938 := Aside0.mk (Kd.R_lower (Kd.R_newB (Kd.R_new' ho16 (Kd.R_lt (ro_ HO944))) (g := gb934) (o := .cells #[.int .i64 a3_0, .int .i64 a3_1, .int .i64 a3_2, .int .i64 a3_3, .int .i64 a3_4] 48 (0, 0)) (bk_ BK934)) (below_size (be2_ HB GE933 GE934)))
     replace HO944 := Aside0.mk (Kd.R_elder' (ro_ HO944) (Kd.R_base ho16) hb)
     replace BK933 := bb_ BK933 hb
     replace BK934 := bb_ BK934 hb
     replace HB := bs2_ HB GE933 GE934 hb
     clear hb ho16
     refine hK.out _ _ ⟨bc_ BK934 0, bc_ BK934 1, bc_ BK934 2, bc_ BK934 3, bc_ BK934 4⟩ (fun hHeld => ?_)
     clear hK K
     refine norm_ (a' := ?_) ?_ ?_
     rotate_left
     ·show Act.put _ (some 34) _ = _
      simp only [Act.put, List.setIfInBounds_toArray, List.set_cons_zero, List.set_cons_succ, i64_w, i32_w]
      rfl
     refine one_ (i := 2) (N := some 36) (bm_ 7 31) rfl rfl (by decide +kernel) (by decide) (fun K hK => ?_)
     refine Kd.R_append_rows_step k48 (w0 := w) w.heap.size (by rfl) (.tmp 34) (.tmp 35) 26 48 (.agg #[(.int .i64 0), (.int .i64 0), (.int .i64 0), (.int .i64 0), (.int .i64 0)]) 40 rfl Tryd.underlying26 info48 rfl (by decide) (by omega) v937 y936 l1 _ _ _ (fun k_ => some k_ ≠ (v943 : Value).ownBlock ∧ k_ ≠ gb934) (fun _ => False) rfl rfl ?aO ?aR (fun _ _ h => h) (fun _ h => h.elim) ?aF ?aB ?aS ?aL ?_
     (case aR => exact kc_ HR1 HB)
     (case aB => exact (be2_ HB GE933 GE934))
     (case aF => exact (fun k_ hk => ⟨Kd.fresh' (Kd.R_lt (ro_ HO944)) k_ hk, Kd.freshB (g := gb934) (o := .cells #[.int .i64 a3_0, .int .i64 a3_1, .int .i64 a3_2, .int .i64 a3_3, .int .i64 a3_4] 48 (0, 0)) (bk_ BK934) k_ hk⟩))
     (case aO => exact (by (with_reducible repeat (first | apply Kd.R_alloc | apply Kd.R_drewN | apply Kd.R_drew)); exact Kd.R_mono HO938.out (fun _ hk => ⟨hk.1.2, hk.2⟩)))
     (case aS => exact (below_size (be2_ HB GE933 GE934)))
     (case aL => have := LMc6.out; omega)
     intro v940 w17 ho hb hg hat
     rw [← Ny939.out] at ho
     replace BK933 := Aside0.mk (blk_grown (g := gb933) (o := .cells #[.slice A0_0 l0_0.length c0_0, .slice A0_1 l0_1.length c0_1] 25 (0, 0)) (bk_ BK933) hg (Kd.R_ne HO938.out BK933.out (by decide)))
     replace BK934 := Aside0.mk (blk_grown (g := gb934) (o := .cells #[.int .i64 a3_0, .int .i64 a3_1, .int .i64 a3_2, .int .i64 a3_3, .int .i64 a3_4] 48 (0, 0)) (bk_ BK934) hg (Kd.R_away HO938.out (fun _ hk => hk.2)))
     replace HO944 := Aside0.mk (Kd.R_after (ok := (fun k_ => k_ ≠ gb934)) (by (with_reducible repeat (first | apply Kd.R_alloc | apply Kd.R_drewN | apply Kd.R_drew)); exact Kd.R_mono HO944.out (fun _ hk => ⟨hk.1.2, hk.2⟩)) hg hat)
     replace HB := Aside0.mk (hb)
     have HO941 := Aside0.mk (ho)
     clear HO938
     clear ho hb hg hat
     refine hK.out _ _ ⟨bc_ BK934 0, bc_ BK934 1, bc_ BK934 2, bc_ BK934 3, bc_ BK934 4⟩ (fun hHeld => ?_)
     clear hK K
     refine norm_ (a' := ?_) ?_ ?_
     rotate_left
     ·show Act.put _ (some 36) _ = _
      simp only [Act.put, List.setIfInBounds_toArray, List.set_cons_zero, List.set_cons_succ, i64_w, i32_w]
      rfl
     exact norm_ (by simp only [putAll, Act.put, List.setIfInBounds_toArray, List.set_cons_zero, List.set_cons_succ]) (hCont (v937, v940, v943) _ ⟨hHeld, (ro_ HO941), (by (with_reducible repeat (first | apply Kd.R_alloc | apply Kd.R_drewN | apply Kd.R_drew)); exact Kd.R_mono HO944.out (fun _ hk => ⟨hk.2, hk.1⟩)), (bk_ BK933), (bk_ BK934), (be2_ HB GE933 GE934)⟩)
   rintro ⟨v937, v940, v943⟩ w18 ⟨hS_, h0_, h1_, h2_, h3_, h4_⟩
   have HO941 : Aside0 (Kd.R k48 48 w18 w.heap.size (fun k_ => some k_ ≠ (v943 : Value).ownBlock ∧ k_ ≠ gb934) v940 y939) := ⟨h0_⟩
   have HO944 : Aside0 (Kd.R k48 48 w18 w.heap.size (fun k_ => some k_ ≠ (v940 : Value).ownBlock ∧ k_ ≠ gb934) v943 y942) := ⟨h1_⟩
   replace BK933 : Aside0 (w18.heap[gb933]? = some (.cells #[.slice A0_0 l0_0.length c0_0, .slice A0_1 l0_1.length c0_1] 25 (0, 0))) := ⟨h2_⟩
   replace BK934 : Aside0 (w18.heap[gb934]? = some (.cells #[.int .i64 a3_0, .int .i64 a3_1, .int .i64 a3_2, .int .i64 a3_3, .int .i64 a3_4] 48 (0, 0))) := ⟨h3_⟩
   replace HB : Aside0 (Below w.heap.size w w18) := ⟨h4_⟩
   clear h0_ h1_ h2_ h3_ h4_
   have hHeld : w18.cell? ⟨gb934, 0, none⟩ = some (.int .i64 a3_0) ∧ w18.cell? ⟨gb934, 1, none⟩ = some (.int .i64 a3_1) ∧ w18.cell? ⟨gb934, 2, none⟩ = some (.int .i64 a3_2) ∧ w18.cell? ⟨gb934, 3, none⟩ = some (.int .i64 a3_3) ∧ w18.cell? ⟨gb934, 4, none⟩ = some (.int .i64 a3_4) := hS_
   obtain ⟨Ao20, co20, eo20⟩ := Kd.R_slice HO944.out
   (first | subst eo20 | (injection eo20 with f1_ f2_ f3_; have f4_ := f1_.symm; have f5_ := f3_.symm; clear f1_ f2_ f3_; subst f4_; subst f5_))
   refine norm_ (a' := ?_) ?_ ?_
   rotate_left
   ·simp only [putAll, Act.put, List.setIfInBounds_toArray, List.set_cons_zero, List.set_cons_succ]
    rfl
   refine one_ (i := 5) (N := some 39) (bm_ 7 63) rfl rfl (by decide +kernel) (by decide) (fun K hK => ?_)
   refine Kd.R_append_rows_step k48 (w0 := w) w.heap.size (by rfl) (.tmp 36) (.tmp 38) 26 48 (.agg #[(.int .i64 0), (.int .i64 0), (.int .i64 0), (.int .i64 0), (.int .i64 0)]) 40 rfl Tryd.underlying26 info48 rfl (by decide) (by omega) v940 y939 y942 _ _ _ (fun k_ => some k_ ≠ (.slice Ao20 y942.length co20 : Value).ownBlock ∧ k_ ≠ gb934) (fun _ => False) rfl rfl ?aO ?aR (fun _ _ h => h) (fun _ h => h.elim) ?aF ?aB ?aS ?aL ?_
   (case aR => exact kd_ (Kd.R_reads' HO944.out).2.2)
   (case aB => exact (be2_ HB GE933 GE934))
   (case aF => exact (fun k_ hk => ⟨Kd.fresh' (Kd.R_lt (ro_ HO944)) k_ hk, Kd.freshB (g := gb934) (o := .cells #[.int .i64 a3_0, .int .i64 a3_1, .int .i64 a3_2, .int .i64 a3_3, .int .i64 a3_4] 48 (0, 0)) (bk_ BK934) k_ hk⟩))
   (case aO => exact (ro_ HO941))
   (case aS => exact (below_size (be2_ HB GE933 GE934)))
   (case aL => have := LMc7.out; omega)
   intro v946 w19 ho hb hg hat
   rw [← Ny945.out] at ho
   replace BK933 := Aside0.mk (blk_grown (g := gb933) (o := .cells #[.slice A0_0 l0_0.length c0_0, .slice A0_1 l0_1.length c0_1] 25 (0, 0)) (bk_ BK933) hg (Kd.R_ne HO941.out BK933.out (by decide)))
   replace BK934 := Aside0.mk (blk_grown (g := gb934) (o := .cells #[.int .i64 a3_0, .int .i64 a3_1, .int .i64 a3_2, .int .i64 a3_3, .int .i64 a3_4] 48 (0, 0)) (bk_ BK934) hg (Kd.R_away HO941.out (fun _ hk => hk.2)))
   replace HO944 := Aside0.mk (Kd.R_after (ok := (fun k_ => k_ ≠ gb934)) (by (with_reducible repeat (first | apply Kd.R_alloc | apply Kd.R_drewN | apply Kd.R_drew)); exact Kd.R_mono HO944.out (fun _ hk => ⟨hk.2, hk.1⟩)) hg hat)
   replace HB := Aside0.mk (hb)
   have HO947 := Aside0.mk (ho)
   clear HO941
   clear ho hb hg hat
   refine hK.out _ _ ⟨bc_ BK934 0, bc_ BK934 1, bc_ BK934 2, bc_ BK934 3, bc_ BK934 4⟩ (fun hHeld => ?_)
   clear hK K
   refine norm_ (a' := ?_) ?_ ?_
   rotate_left
   ·show Act.put _ (some 39) _ = _
    simp only [Act.put, List.setIfInBounds_toArray, List.set_cons_zero, List.set_cons_succ, i64_w, i32_w]
    rfl
   refine pure_ (i := 6) (N := some 10) (v := ?_) (a' := ?_) (bm_ 7 127) rfl rfl (by decide +kernel) (fun _ _ _ h => h) (Or.inl ⟨by rfl, ?_⟩) ?_ ?_
   rotate_left
   ·intro w'
    go_simp
    with_reducible rfl
   rotate_left
   ·exact pt_
   refine done_ (by decide +kernel) ?_
   go_upto_region 3 with (fail)
   go_cut [53] (fun v53 wc => ∃ (kq : Nat) (x53_7 : Bool), v53 = .bool x53_7 ∧ Aside0 (cottonpadlaw06_ExitsSlower.j0 kq l1 l2 t935 y945 x53_7 l0_0 l0_1 = some r) ∧ Aside0 (kq ≤ k) ∧ Aside0 (Kd.R k48 48 wc w.heap.size (fun k_ => k_ ≠ gb934) v946 y945) ∧ Aside0 (wc.heap[gb933]? = some (.cells #[(.slice A0_0 l0_0.length c0_0), (.slice A0_1 l0_1.length c0_1)] 25 (0, 0))) ∧ Aside0 (wc.heap[gb934]? = some (.cells #[.int .i64 a3_0, .int .i64 a3_1, .int .i64 a3_2, .int .i64 a3_3, .int .i64 a3_4] 48 (0, 0))) ∧ Aside0 (Below w.heap.size w wc))
   case first =>
    have H := HC8.out
    clear HC8
    replace H := Option.bind_eq_some_iff.mp H
    obtain ⟨t948, A210, H⟩ := H
    replace H : (if t948 = true then ((cottonpadlaw06_ready.f k l0_0 l0_1 y945).bind fun t949 => (if t949 = true then (cottonpadlaw06_ExitsSlower.j0 k l1 l2 t935 y945 (!t935) l0_0 l0_1) else (cottonpadlaw06_ExitsSlower.j0 k l1 l2 t935 y945 true l0_0 l0_1))) else (cottonpadlaw06_ExitsSlower.j0 k l1 l2 t935 y945 true l0_0 l0_1)) = some r := H
    have A21 := Aside0.mk A210
    clear A210
    by_cases c22 : t948 = true
    ·subst c22
     have H1 : ((cottonpadlaw06_ready.f k l0_0 l0_1 y945).bind fun t949 => (if t949 = true then (cottonpadlaw06_ExitsSlower.j0 k l1 l2 t935 y945 (!t935) l0_0 l0_1) else (cottonpadlaw06_ExitsSlower.j0 k l1 l2 t935 y945 true l0_0 l0_1))) = some r := by rw [if_pos rfl] at H; exact H
     clear H
     have H := H1
     clear H1
     replace H := Option.bind_eq_some_iff.mp H
     obtain ⟨t949, A230, H⟩ := H
     replace H : (if t949 = true then (cottonpadlaw06_ExitsSlower.j0 k l1 l2 t935 y945 (!t935) l0_0 l0_1) else (cottonpadlaw06_ExitsSlower.j0 k l1 l2 t935 y945 true l0_0 l0_1)) = some r := H
     have A23 := Aside0.mk A230
     clear A230
     by_cases c24 : t949 = true
     ·subst c24
      have H1 : (cottonpadlaw06_ExitsSlower.j0 k l1 l2 t935 y945 (!t935) l0_0 l0_1) = some r := by rw [if_pos rfl] at H; exact H
      clear H
      have H := H1
      clear H1
      have H' := Aside0.mk H
      clear H
      have hnb25 := NB933_934.out
      have hnc25 := NB934_933.out
      have hcz26_0 : w19.cell? ⟨gb933, 0, none⟩ = some (.slice A0_0 l0_0.length c0_0) := bc_ BK933 0
      have hcz26_1 : w19.cell? ⟨gb933, 1, none⟩ = some (.slice A0_1 l0_1.length c0_1) := bc_ BK933 1
      have hfz26_0 := blk_frozen BK933.out 0
      have hfz26_1 := blk_frozen BK933.out 1
      go_wp2_with (first | ((with_reducible refine gate_callee (f := 36) rfl ?_); refine goesL_ (some 42) rfl rfl Tryd.func36 (by decide +kernel) rfl #[.agg #[.slice A0_0 l0_0.length c0_0, .slice A0_1 l0_1.length c0_1], .slice A1 l1.length c1] rfl ls_ ?_; (with_reducible refine (cottonpadlaw06_ready.calls k _ _ l0_0 _ _ l0_1 _ _ l1 true _ ?side1 ?side2 ?side3 ?side4 ?side5 ?side6 A21.out).mono ?_); (case side1 => exact kc_ HR0_0 HB); (case side2 => exact HC0_0.out); (case side3 => exact kc_ HR0_1 HB); (case side4 => exact HC0_1.out); (case side5 => exact kc_ HR1 HB); (case side6 => exact HC1.out); rintro e w27 ⟨rfl, hb⟩; refine ⟨_, rfl, ?_⟩; replace HO944 := rb_ HO944 hb; replace HO947 := rb_ HO947 hb; replace BK933 := bb_ BK933 hb; replace BK934 := bb_ BK934 hb; replace HB := bs2_ HB GE933 GE934 hb; (try clear hb); (try clear hb2); (try clear hk); (try clear hi); have hcz28_0 : w27.cell? ⟨gb933, 0, none⟩ = some (.slice A0_0 l0_0.length c0_0) := bc_ BK933 0; have hcz28_1 : w27.cell? ⟨gb933, 1, none⟩ = some (.slice A0_1 l0_1.length c0_1) := bc_ BK933 1; have hfz28_0 := blk_frozen BK933.out 0; have hfz28_1 := blk_frozen BK933.out 1; obtain ⟨Ao29, co29, eo29⟩ := Kd.R_slice HO947.out; subst eo29) | (go_at_call 36; (with_reducible refine (cottonpadlaw06_ready.calls k _ _ l0_0 _ _ l0_1 _ _ y945 true _ ?side1 ?side2 ?side3 ?side4 ?side5 ?side6 A23.out).mono ?_); (case side1 => exact kc_ HR0_0 HB); (case side2 => exact HC0_0.out); (case side3 => exact kc_ HR0_1 HB); (case side4 => exact HC0_1.out); (case side5 => exact kd_ (Kd.R_reads' HO947.out).2.2); (case side6 => exact (Kd.R_reads' HO947.out).2.1); rintro e w30 ⟨rfl, hb⟩; replace HO944 := rb_ HO944 hb; replace HO947 := rb_ HO947 hb; replace BK933 := bb_ BK933 hb; replace BK934 := bb_ BK934 hb; replace HB := bs2_ HB GE933 GE934 hb; (try clear hb); (try clear hb2); (try clear hk); (try clear hi)))
      go_meet
      case rel => exact ⟨_, (!t935), (by first | rfl | (simp; done) | (simp [*]; done)), H', ⟨by first | omega | exact Nat.le_refl _⟩, ⟨by (with_reducible repeat (first | apply Kd.R_alloc | apply Kd.R_drewN | apply Kd.R_drew)); exact Kd.R_mono HO947.out (fun _ hk => hk.2)⟩, ⟨by refine bx_ ?_; exact BK933.out⟩, ⟨by refine bx_ ?_; exact BK934.out⟩, ⟨be2_ HB GE933 GE934⟩⟩
     ·replace c24 := Bool.eq_false_iff.mpr c24
      subst c24
      have H1 : (cottonpadlaw06_ExitsSlower.j0 k l1 l2 t935 y945 true l0_0 l0_1) = some r := by rw [if_neg (show ¬ (false = true) by decide)] at H; exact H
      clear H
      have H := H1
      clear H1
      have H' := Aside0.mk H
      clear H
      have hnb31 := NB933_934.out
      have hnc31 := NB934_933.out
      have hcz32_0 : w19.cell? ⟨gb933, 0, none⟩ = some (.slice A0_0 l0_0.length c0_0) := bc_ BK933 0
      have hcz32_1 : w19.cell? ⟨gb933, 1, none⟩ = some (.slice A0_1 l0_1.length c0_1) := bc_ BK933 1
      have hfz32_0 := blk_frozen BK933.out 0
      have hfz32_1 := blk_frozen BK933.out 1
      go_wp2_with (first | ((with_reducible refine gate_callee (f := 36) rfl ?_); refine goesL_ (some 42) rfl rfl Tryd.func36 (by decide +kernel) rfl #[.agg #[.slice A0_0 l0_0.length c0_0, .slice A0_1 l0_1.length c0_1], .slice A1 l1.length c1] rfl ls_ ?_; (with_reducible refine (cottonpadlaw06_ready.calls k _ _ l0_0 _ _ l0_1 _ _ l1 true _ ?side1 ?side2 ?side3 ?side4 ?side5 ?side6 A21.out).mono ?_); (case side1 => exact kc_ HR0_0 HB); (case side2 => exact HC0_0.out); (case side3 => exact kc_ HR0_1 HB); (case side4 => exact HC0_1.out); (case side5 => exact kc_ HR1 HB); (case side6 => exact HC1.out); rintro e w33 ⟨rfl, hb⟩; refine ⟨_, rfl, ?_⟩; replace HO944 := rb_ HO944 hb; replace HO947 := rb_ HO947 hb; replace BK933 := bb_ BK933 hb; replace BK934 := bb_ BK934 hb; replace HB := bs2_ HB GE933 GE934 hb; (try clear hb); (try clear hb2); (try clear hk); (try clear hi); have hcz34_0 : w33.cell? ⟨gb933, 0, none⟩ = some (.slice A0_0 l0_0.length c0_0) := bc_ BK933 0; have hcz34_1 : w33.cell? ⟨gb933, 1, none⟩ = some (.slice A0_1 l0_1.length c0_1) := bc_ BK933 1; have hfz34_0 := blk_frozen BK933.out 0; have hfz34_1 := blk_frozen BK933.out 1; obtain ⟨Ao35, co35, eo35⟩ := Kd.R_slice HO947.out; subst eo35) | (go_at_call 36; (with_reducible refine (cottonpadlaw06_ready.calls k _ _ l0_0 _ _ l0_1 _ _ y945 false _ ?side1 ?side2 ?side3 ?side4 ?side5 ?side6 A23.out).mono ?_); (case side1 => exact kc_ HR0_0 HB); (case side2 => exact HC0_0.out); (case side3 => exact kc_ HR0_1 HB); (case side4 => exact HC0_1.out); (case side5 => exact kd_ (Kd.R_reads' HO947.out).2.2); (case side6 => exact (Kd.R_reads' HO947.out).2.1); rintro e w36 ⟨rfl, hb⟩; replace HO944 := rb_ HO944 hb; replace HO947 := rb_ HO947 hb; replace BK933 := bb_ BK933 hb; replace BK934 := bb_ BK934 hb; replace HB := bs2_ HB GE933 GE934 hb; (try clear hb); (try clear hb2); (try clear hk); (try clear hi)))
      go_meet
      case rel => exact ⟨_, (true), (by first | rfl | (simp; done) | (simp [*]; done)), H', ⟨by first | omega | exact Nat.le_refl _⟩, ⟨by (with_reducible repeat (first | apply Kd.R_alloc | apply Kd.R_drewN | apply Kd.R_drew)); exact Kd.R_mono HO947.out (fun _ hk => hk.2)⟩, ⟨by refine bx_ ?_; exact BK933.out⟩, ⟨by refine bx_ ?_; exact BK934.out⟩, ⟨be2_ HB GE933 GE934⟩⟩
    ·replace c22 := Bool.eq_false_iff.mpr c22
     subst c22
     have H1 : (cottonpadlaw06_ExitsSlower.j0 k l1 l2 t935 y945 true l0_0 l0_1) = some r := by rw [if_neg (show ¬ (false = true) by decide)] at H; exact H
     clear H
     have H := H1
     clear H1
     have H' := Aside0.mk H
     clear H
     have hnb37 := NB933_934.out
     have hnc37 := NB934_933.out
     have hcz38_0 : w19.cell? ⟨gb933, 0, none⟩ = some (.slice A0_0 l0_0.length c0_0) := bc_ BK933 0
     have hcz38_1 : w19.cell? ⟨gb933, 1, none⟩ = some (.slice A0_1 l0_1.length c0_1) := bc_ BK933 1
     have hfz38_0 := blk_frozen BK933.out 0
     have hfz38_1 := blk_frozen BK933.out 1
     go_wp2_with (first | ((with_reducible refine gate_callee (f := 36) rfl ?_); refine goesL_ (some 42) rfl rfl Tryd.func36 (by decide +kernel) rfl #[.agg #[.slice A0_0 l0_0.length c0_0, .slice A0_1 l0_1.length c0_1], .slice A1 l1.length c1] rfl ls_ ?_; (with_reducible refine (cottonpadlaw06_ready.calls k _ _ l0_0 _ _ l0_1 _ _ l1 false _ ?side1 ?side2 ?side3 ?side4 ?side5 ?side6 A21.out).mono ?_); (case side1 => exact kc_ HR0_0 HB); (case side2 => exact HC0_0.out); (case side3 => exact kc_ HR0_1 HB); (case side4 => exact HC0_1.out); (case side5 => exact kc_ HR1 HB); (case side6 => exact HC1.out); rintro e w39 ⟨rfl, hb⟩; refine ⟨_, rfl, ?_⟩; replace HO944 := rb_ HO944 hb; replace HO947 := rb_ HO947 hb; replace BK933 := bb_ BK933 hb; replace BK934 := bb_ BK934 hb; replace HB := bs2_ HB GE933 GE934 hb; (try clear hb); (try clear hb2); (try clear hk); (try clear hi)))
     go_meet
     case rel => exact ⟨_, (true), (by first | rfl | (simp; done) | (simp [*]; done)), H', ⟨by first | omega | exact Nat.le_refl _⟩, ⟨by (with_reducible repeat (first | apply Kd.R_alloc | apply Kd.R_drewN | apply Kd.R_drew)); exact Kd.R_mono HO947.out (fun _ hk => hk.2)⟩, ⟨by refine bx_ ?_; exact BK933.out⟩, ⟨by refine bx_ ?_; exact BK934.out⟩, ⟨be2_ HB GE933 GE934⟩⟩
   case rest =>
    clear HC8
    try clear c1
    try clear c2
    try clear p2
    try clear c3
    try clear c5
    try clear c6
    try clear c7
    try clear c13
    try clear c22
    try clear c24
    try clear c25
    try clear c30
    try clear c31
    try clear c36
    try clear c37
    try clear hcz26_0
    try clear hcz26_1
    try clear hcz28_0
    try clear hcz28_1
    try clear hcz32_0
    try clear hcz32_1
    try clear hcz34_0
    try clear hcz34_1
    try clear hcz38_0
    try clear hcz38_1
    try clear hfz26_0
    try clear hfz26_1
    try clear hfz28_0
    try clear hfz28_1
    try clear hfz32_0
    try clear hfz32_1
    try clear hfz34_0
    try clear hfz34_1
    try clear hfz38_0
    try clear hfz38_1
    obtain ⟨kq, x53_7, rfl, HA, HJ7, HO_10, BK933, BK934, HB⟩ := hcut
    cases kq with
    | zero => exact absurd HA.out (by simp [cottonpadlaw06_ExitsSlower.j0])
    | succ kj7 =>
     have H := HA.out
     clear HA
     simp only [cottonpadlaw06_ExitsSlower.j0] at H
     by_cases c40 : x53_7 = true
     ·subst c40
      have H1 : (some t935) = some r := by rw [if_pos rfl] at H; exact H
      clear H
      have H := H1
      clear H1
      obtain rfl := Option.some.inj H
      go_wp2
      go_ret
      exact ⟨rf_, be2_ HB GE933 GE934⟩
     ·replace c40 := Bool.eq_false_iff.mpr c40
      subst c40
      have H1 : ((cottonpadref06_Twin.f l0_0 l0_1).bind fun bt950 => ((some (([] : List (S48)) : List (S48))).bind fun y956 => (if y956.length + l1.length < 3518437208883 then (cottonpadlaw06_ExitsSlower.l0 kj7 l1 l2 t935 y945 (y956 ++ l1) (bt950.1.length : Int) 0 l0_0 l0_1 bt950.1 bt950.2) else (none)))) = some r := by rw [if_neg (show ¬ (false = true) by decide)] at H; exact H
      clear H
      have H := H1
      clear H1
      replace H := Option.bind_eq_some_iff.mp H
      obtain ⟨⟨t950, t953⟩, A410, H⟩ := H
      replace H : ((some (([] : List (S48)) : List (S48))).bind fun y956 => (if y956.length + l1.length < 3518437208883 then (cottonpadlaw06_ExitsSlower.l0 kj7 l1 l2 t935 y945 (y956 ++ l1) (t950.length : Int) 0 l0_0 l0_1 t950 t953) else (none))) = some r := H
      have A41 := Aside0.mk A410
      clear A410
      obtain ⟨y956, hy956⟩ : ∃ y_ : List (S48), y_ = (([] : List (S48))) := ⟨_, rfl⟩
      replace H : (if y956.length + l1.length < 3518437208883 then (cottonpadlaw06_ExitsSlower.l0 kj7 l1 l2 t935 y945 (y956 ++ l1) (t950.length : Int) 0 l0_0 l0_1 t950 t953) else (none)) = some r := by first | (rw [hy956]; with_reducible exact H) | (have H2_ := (Option.bind_some _ _).symm.trans H; rw [hy956]; with_reducible exact H2_) | (have H2_ := (Option.bind_some _ _).symm.trans H; with_reducible exact H2_) | with_reducible exact H | (rw [hy956]; exact H) | exact H
      have Ny956 := Aside0.mk hy956
      clear hy956
      by_cases c42 : y956.length + l1.length < 3518437208883
      ·rw [if_pos c42] at H
       have LMc42 := Aside0.mk c42
       clear c42
       obtain ⟨y959, hy959⟩ : ∃ y_ : List (S48), y_ = (y956 ++ l1) := ⟨_, rfl⟩
       replace H : (cottonpadlaw06_ExitsSlower.l0 kj7 l1 l2 t935 y945 y959 (t950.length : Int) 0 l0_0 l0_1 t950 t953) = some r := by first | (rw [hy959]; with_reducible exact H) | (have H2_ := (Option.bind_some _ _).symm.trans H; rw [hy959]; with_reducible exact H2_) | (have H2_ := (Option.bind_some _ _).symm.trans H; with_reducible exact H2_) | with_reducible exact H | (rw [hy959]; exact H) | exact H
       have Ny959 := Aside0.mk hy959
       clear hy959
       have H' := Aside0.mk H
       clear H
       have hnb43 := NB933_934.out
       have hnc43 := NB934_933.out
       have hcz44_0 : wc.cell? ⟨gb933, 0, none⟩ = some (.slice A0_0 l0_0.length c0_0) := bc_ BK933 0
       have hcz44_1 : wc.cell? ⟨gb933, 1, none⟩ = some (.slice A0_1 l0_1.length c0_1) := bc_ BK933 1
       have hfz44_0 := blk_frozen BK933.out 0
       have hfz44_1 := blk_frozen BK933.out 1
       go_wp2_with (first | ((with_reducible refine gate_callee (f := 16) rfl ?_); refine goesL_ (some 56) rfl rfl Tryd.func16 (by decide +kernel) rfl #[.agg #[.slice A0_0 l0_0.length c0_0, .slice A0_1 l0_1.length c0_1]] rfl ls_ ?_; (with_reducible refine (cottonpadref06_Twin.calls _ _ l0_0 _ _ l0_1 t950 t953 _ ?side1 ?side2 ?side3 ?side4 A41.out).mono ?_); (case side1 => exact kc_ HR0_0 HB); (case side2 => exact HC0_0.out); (case side3 => exact kc_ HR0_1 HB); (case side4 => exact HC0_1.out); rintro e w45 ⟨v951, v954, rfl, ho0, ho1, hb⟩; refine ⟨_, rfl, ?_⟩; replace HO_10 := rb_ HO_10 hb; have HO952 := Aside0.mk (Kd.R_lower ho0 (below_size (be2_ HB GE933 GE934))); have HO955 := Aside0.mk (Kd.R_lower ho1 (below_size (be2_ HB GE933 GE934))); replace BK933 := bb_ BK933 hb; replace BK934 := bb_ BK934 hb; replace HB := bs2_ HB GE933 GE934 hb; (try clear hb); (try clear hb2); (try clear hk); (try clear hi); (try clear ho0); (try clear ho1)) | ((with_reducible refine gate_dst (N := 57) rfl ?_); refine Kd.R_lit k48 _ 48 ?hg (N := 57) ?hd (xs := ([] : List (S48))) (inner := []) (ok := fun _ => True) (okp := fun _ => True) ?hr ?hp (fun _ hk => hk) trivial (Below.refl _ _) (Nat.le_refl _) (by simp) ?_; (case hd => rfl); (case hg => rfl); (case hr => exact gs_); (case hp => exact (Reps.none _ _)); intro v957 w46 ho47 hb hg_ hnew_; clear hg_ hnew_; (first | rw [← Ny956.out] at ho47 | (simp only [Int.reduceToNat] at ho47; rw [← Ny956.out] at ho47)); replace HO952 := rb_ HO952 hb; replace HO955 := rb_ HO955 hb; have HO958 := Aside0.mk (Kd.R_lower (Kd.R_newB (Kd.R_new' ho47 (Kd.R_lt (ro_ HO_10))) (g := gb934) (o := .cells #[.int .i64 a3_0, .int .i64 a3_1, .int .i64 a3_2, .int .i64 a3_3, .int .i64 a3_4] 48 (0, 0)) (bk_ BK934)) (below_size (be2_ HB GE933 GE934))); replace HO_10 := Aside0.mk (Kd.R_elder' (ro_ HO_10) (Kd.R_base ho47) hb); replace BK933 := bb_ BK933 hb; replace BK934 := bb_ BK934 hb; replace HB := bs2_ HB GE933 GE934 hb; clear hb ho47) | ((with_reducible refine gate_builtin (b := .append) (xs := #[.tmp 57, .tmp 58]) rfl ?_); at_builtin; refine Kd.R_append_rows k48 (w0 := w) w.heap.size rfl (.tmp 57) (.tmp 58) 26 48 (.agg #[(.int .i64 0), (.int .i64 0), (.int .i64 0), (.int .i64 0), (.int .i64 0)]) 40 rfl Tryd.underlying26 info48 rfl (by decide) (by omega) v957 y956 l1 _ _ _ (fun k_ => some k_ ≠ (v946 : Value).ownBlock ∧ k_ ≠ gb934) (fun _ => False) rfl rfl ?aO ?aR (fun _ _ h => h) (fun _ h => h.elim) ?aF ?aB ?aS ?aL ?_; (case aR => exact kc_ HR1 HB); (case aB => exact (be2_ HB GE933 GE934)); (case aF => exact (fun k_ hk => ⟨Kd.fresh' (Kd.R_lt (ro_ HO_10)) k_ hk, Kd.freshB (g := gb934) (o := .cells #[.int .i64 a3_0, .int .i64 a3_1, .int .i64 a3_2, .int .i64 a3_3, .int .i64 a3_4] 48 (0, 0)) (bk_ BK934) k_ hk⟩)); (case aO => exact (by (with_reducible repeat (first | apply Kd.R_alloc | apply Kd.R_drewN | apply Kd.R_drew)); exact Kd.R_mono HO958.out (fun _ hk => ⟨hk.1.2, hk.2⟩))); (case aS => exact (below_size (be2_ HB GE933 GE934))); (case aL => have := LMc42.out; omega); intro v960 w48 ho hb hg hat; rw [← Ny959.out] at ho; replace HO_10 := Aside0.mk (Kd.R_after (ok := (fun k_ => k_ ≠ gb934)) (ro_ HO_10) hg hat); replace BK933 := Aside0.mk (blk_grown (g := gb933) (o := .cells #[.slice A0_0 l0_0.length c0_0, .slice A0_1 l0_1.length c0_1] 25 (0, 0)) (bk_ BK933) hg (Kd.R_ne HO958.out BK933.out (by decide))); replace BK934 := Aside0.mk (blk_grown (g := gb934) (o := .cells #[.int .i64 a3_0, .int .i64 a3_1, .int .i64 a3_2, .int .i64 a3_3, .int .i64 a3_4] 48 (0, 0)) (bk_ BK934) hg (Kd.R_away HO958.out (fun _ hk => hk.2))); replace HO952 := Aside0.mk (Kd.R_over' (ro_ HO952) (Kd.R_typed (ro_ HO958)) (by decide) hg); replace HO955 := Aside0.mk (Kd.R_over' (ro_ HO955) (Kd.R_typed (ro_ HO958)) (by decide) hg); replace HB := Aside0.mk (hb); have HO961 := Aside0.mk (ho); clear HO958; clear ho hb hg hat) | ((with_reducible refine gate_dst (N := 11) rfl ?_); refine box_event ?hg (N := 11) ?hd (cs := #[.slice none 0 0, .slice none 0 0]) (t := 25) ?hr ?_; (case hd => rfl); (case hg => rfl); (case hr => exact gs_); intro gb962 hg w49 hbox hb; replace HO_10 := rb_ HO_10 hb; replace HO952 := rb_ HO952 hb; replace HO955 := rb_ HO955 hb; replace HO961 := rb_ HO961 hb; have BK962 := Aside0.mk (hbox); have GW962 := hl_ hg (be2_ HB GE933 GE934); have GE962 := hl_ hg (be2_ HB GE933 GE934); replace HB := bs2_ HB GE933 GE934 hb; have NB933_962 := Aside0.mk ((by rw [hg]; exact Nat.ne_of_lt (blk_lt (bk_ BK933)) : gb933 ≠ gb962)); have NB962_933 := Aside0.mk ((by rw [hg]; exact Nat.ne_of_gt (blk_lt (bk_ BK933)) : gb962 ≠ gb933)); replace BK933 := bb_ BK933 hb; have NB934_962 := Aside0.mk ((by rw [hg]; exact Nat.ne_of_lt (blk_lt (bk_ BK934)) : gb934 ≠ gb962)); have NB962_934 := Aside0.mk ((by rw [hg]; exact Nat.ne_of_gt (blk_lt (bk_ BK934)) : gb962 ≠ gb934)); replace BK934 := bb_ BK934 hb; clear hb hbox hg; obtain ⟨Ao50, co50, eo50⟩ := Kd.R_slice HO952.out; subst eo50; have hnb51 := NB962_933.out; have hnc51 := NB933_962.out; have hnb52 := NB962_934.out; have hnc52 := NB934_962.out; have hcz53_0 : w49.cell? ⟨gb962, 0, none⟩ = some (.slice none 0 0) := bc_ BK962 0; have hcz53_1 : w49.cell? ⟨gb962, 1, none⟩ = some (.slice none 0 0) := bc_ BK962 1; have hfz53_0 := blk_frozen BK962.out 0; have hfz53_1 := blk_frozen BK962.out 1; obtain ⟨Ao54, co54, eo54⟩ := Kd.R_slice HO955.out; subst eo54))
       go_loopg [63] kj7 (fun kq v63 w' => ∃ (x63_2 : Int) (x963000_2 : List (S62)) (u963000 : Value), v63 = .int .i64 x63_2 ∧ Aside0 (cottonpadlaw06_ExitsSlower.l0 kq l1 l2 t935 y945 y959 (t950.length : Int) x63_2 l0_0 l0_1 x963000_2 t953 = some r) ∧ Aside0 (kq ≤ kj7) ∧ Aside0 (Kd.R k48 48 w' w.heap.size (fun k_ => some k_ ≠ (v960 : Value).ownBlock ∧ k_ ≠ gb934) v946 y945) ∧ Aside0 (Kd.R k48 48 w' w.heap.size (fun k_ => some k_ ≠ (v946 : Value).ownBlock ∧ k_ ≠ gb934) v960 y959) ∧ Aside0 (Kd.R k62 62 w' w.heap.size (fun _ => True) u963000 x963000_2) ∧ Aside0 (Kd.R k81 81 w' w.heap.size (fun _ => True) (.slice Ao54 t953.length co54) t953) ∧ Aside0 (w'.heap[gb933]? = some (.cells #[(.slice A0_0 l0_0.length c0_0), (.slice A0_1 l0_1.length c0_1)] 25 (0, 0))) ∧ Aside0 (w'.heap[gb934]? = some (.cells #[.int .i64 a3_0, .int .i64 a3_1, .int .i64 a3_2, .int .i64 a3_3, .int .i64 a3_4] 48 (0, 0))) ∧ Aside0 (w'.heap[gb962]? = some (.cells #[u963000, (.slice Ao54 t953.length co54)] 25 (0, 0))) ∧ Aside0 (Below w.heap.size w w'))
       case atStart => exact ⟨(0), (t950), (.slice Ao50 t950.length co50), (by first | rfl | (simp; done) | (simp [*]; done)), H', ⟨Nat.le_refl _⟩, ⟨by (with_reducible repeat (first | apply Kd.R_alloc | apply Kd.R_drewN | apply Kd.R_drew)); exact Kd.R_mono (Kd.R_far (p := ⟨gb962, 1, none⟩) (Kd.R_far (p := ⟨gb962, 0, none⟩) (Kd.R_types HO_10.out BK962.out (by decide)) (fun _ hk => hk.2) (.slice Ao50 t950.length co50)) (fun _ hk => hk.2) (.slice Ao54 t953.length co54)) (fun _ hk => ⟨hk.1.2, hk.1.1⟩)⟩, ⟨by (with_reducible repeat (first | apply Kd.R_alloc | apply Kd.R_drewN | apply Kd.R_drew)); exact Kd.R_mono (Kd.R_far (p := ⟨gb962, 1, none⟩) (Kd.R_far (p := ⟨gb962, 0, none⟩) (Kd.R_types HO961.out BK962.out (by decide)) (fun _ hk => hk.2) (.slice Ao50 t950.length co50)) (fun _ hk => hk.2) (.slice Ao54 t953.length co54)) (fun _ hk => ⟨hk.1.1, hk.1.2⟩)⟩, ⟨by (with_reducible repeat (first | apply Kd.R_alloc | apply Kd.R_drewN | apply Kd.R_drew)); exact Kd.R_mono (Kd.R_far (p := ⟨gb962, 1, none⟩) (Kd.R_far (p := ⟨gb962, 0, none⟩) (Kd.R_types HO952.out BK962.out (by decide)) (fun _ hk => hk.2) (.slice Ao50 t950.length co50)) (fun _ hk => hk.2) (.slice Ao54 t953.length co54)) (fun _ hk => trivial)⟩, ⟨by (with_reducible repeat (first | apply Kd.R_alloc | apply Kd.R_drewN | apply Kd.R_drew)); exact Kd.R_mono (Kd.R_far (p := ⟨gb962, 1, none⟩) (Kd.R_far (p := ⟨gb962, 0, none⟩) (Kd.R_types HO955.out BK962.out (by decide)) (fun _ hk => hk.2) (.slice Ao50 t950.length co50)) (fun _ hk => hk.2) (.slice Ao54 t953.length co54)) (fun _ hk => trivial)⟩, ⟨by refine bx_ ?_; refine blk_far ?_ NB933_962.out _; refine bx_ ?_; refine blk_far ?_ NB933_962.out _; refine bx_ ?_; exact BK933.out⟩, ⟨by refine bx_ ?_; refine blk_far ?_ NB934_962.out _; refine bx_ ?_; refine blk_far ?_ NB934_962.out _; refine bx_ ?_; exact BK934.out⟩, ⟨by refine bx_ ?_; refine blk_put (cs := #[.slice Ao50 t950.length co50, .slice none 0 0]) ?_ 1 _ rfl; refine bx_ ?_; refine blk_put (cs := #[.slice none 0 0, .slice none 0 0]) ?_ 0 _ rfl; refine bx_ ?_; exact BK962.out⟩, ⟨be3_ HB GE933 GE934 GE962⟩⟩
       case round =>
        as_aux_lemma =>
         clear H'
         try clear c1
         try clear c2
         try clear p2
         try clear c3
         try clear c4
         try clear c5
         try clear c6
         try clear c7
         try clear c13
         try clear c16
         try clear c22
         try clear c24
         try clear c25
         try clear c30
         try clear c31
         try clear c36
         try clear c37
         try clear c40
         try clear c42
         try clear c43
         try clear c51
         try clear c52
         try clear hcz26_0
         try clear hcz26_1
         try clear hcz28_0
         try clear hcz28_1
         try clear hcz32_0
         try clear hcz32_1
         try clear hcz34_0
         try clear hcz34_1
         try clear hcz38_0
         try clear hcz38_1
         try clear hcz44_0
         try clear hcz44_1
         try clear hcz53_0
         try clear hcz53_1
         try clear hfz26_0
         try clear hfz26_1
         try clear hfz28_0
         try clear hfz28_1
         try clear hfz32_0
         try clear hfz32_1
         try clear hfz34_0
         try clear hfz34_1
         try clear hfz38_0
         try clear hfz38_1
         try clear hfz44_0
         try clear hfz44_1
         try clear hfz53_0
         try clear hfz53_1
         try clear p2
         obtain ⟨x63_2, x963000_2, u963000, rfl, HA, HK2, HO_10, HO_12, HO_963000, HO_963001, BK933, BK934, BK962, HB⟩ := hrel
         cases gk with
         | zero => exact absurd HA.out (by simp [cottonpadlaw06_ExitsSlower.l0])
         | succ k2 =>
          have H := HA.out
          clear HA
          simp only [cottonpadlaw06_ExitsSlower.l0] at H
          by_cases c55 : x63_2 < (t950.length : Int)
          ·rw [if_pos c55] at H
           have c55b0 : decide (x63_2 < (t950.length : Int)) = true := decide_eq_true c55
           clear c55
           by_cases c56 : 0 ≤ x63_2
           ·rw [if_pos c56] at H
            have c56b0 : decide (0 ≤ x63_2) = true := decide_eq_true c56
            clear c56
            by_cases c57 : x63_2 < (x963000_2.length : Int)
            ·rw [if_pos c57] at H
             have c57b0 : decide (x63_2 < (x963000_2.length : Int)) = true := decide_eq_true c57
             clear c57
             replace H := Option.bind_eq_some_iff.mp H
             obtain ⟨t964, A580, H⟩ := H
             replace H : (cottonpadlaw06_ExitsSlower.l0 k2 l1 l2 t935 y945 y959 (t950.length : Int) (wrap64 (x63_2 + 1)) l0_0 l0_1 (x963000_2.set (x63_2 : Int).toNat (⟨(rd_T62 x963000_2 x63_2).f0, mn (wrap64 (((rd_T62 x963000_2 x63_2).f1) + (Int.tmod t964 5))) 60, (⟨(rd_T62 x963000_2 x63_2).f2.f0, (rd_T62 x963000_2 x63_2).f2.f1⟩ : S36), (⟨(rd_T62 x963000_2 x63_2).f3.f0, (rd_T62 x963000_2 x63_2).f3.f1⟩ : S36)⟩ : S62)) t953) = some r := H
             have A58 := Aside0.mk A580
             clear A580
             obtain ⟨ji59, hji59⟩ : ∃ j_ : Int, (mn (wrap64 (((rd_T62 x963000_2 x63_2).f1) + (Int.tmod t964 5))) 60) = j_ := ⟨_, rfl⟩
             replace H : (cottonpadlaw06_ExitsSlower.l0 k2 l1 l2 t935 y945 y959 (t950.length : Int) (wrap64 (x63_2 + 1)) l0_0 l0_1 (x963000_2.set (x63_2 : Int).toNat (⟨(rd_T62 x963000_2 x63_2).f0, ji59, (⟨(rd_T62 x963000_2 x63_2).f2.f0, (rd_T62 x963000_2 x63_2).f2.f1⟩ : S36), (⟨(rd_T62 x963000_2 x63_2).f3.f0, (rd_T62 x963000_2 x63_2).f3.f1⟩ : S36)⟩ : S62)) t953) = some r := by first | (rw [hji59] at H; exact H) | (simp only [hji59] at H ⊢; exact H)
             (try rw [hji59] at A58)
             have hji59_ : (if 60 < (wrap64 (((rd_T62 x963000_2 x63_2).f1) + (Int.tmod t964 5))) then 60 else (wrap64 (((rd_T62 x963000_2 x63_2).f1) + (Int.tmod t964 5)))) = ji59 := hji59
             obtain ⟨y965, hy965⟩ : ∃ y_ : List (S62), y_ = (x963000_2.set (x63_2 : Int).toNat (⟨(rd_T62 x963000_2 x63_2).f0, ji59, (⟨(rd_T62 x963000_2 x63_2).f2.f0, (rd_T62 x963000_2 x63_2).f2.f1⟩ : S36), (⟨(rd_T62 x963000_2 x63_2).f3.f0, (rd_T62 x963000_2 x63_2).f3.f1⟩ : S36)⟩ : S62)) := ⟨_, rfl⟩
             replace H : (cottonpadlaw06_ExitsSlower.l0 k2 l1 l2 t935 y945 y959 (t950.length : Int) (wrap64 (x63_2 + 1)) l0_0 l0_1 y965 t953) = some r := by first | (rw [hy965]; with_reducible exact H) | (have H2_ := (Option.bind_some _ _).symm.trans H; rw [hy965]; with_reducible exact H2_) | (have H2_ := (Option.bind_some _ _).symm.trans H; with_reducible exact H2_) | with_reducible exact H | (rw [hy965]; exact H) | exact H
             have Ny965 := Aside0.mk hy965
             clear hy965
             have H' := Aside0.mk H
             clear H
             try go_wp2
             replace HO_10 := Aside0.mk (Kd.R_drew HO_10.out)
             replace HO_12 := Aside0.mk (Kd.R_drew HO_12.out)
             replace HO_963000 := Aside0.mk (Kd.R_drew HO_963000.out)
             replace HO_963001 := Aside0.mk (Kd.R_drew HO_963001.out)
             replace BK933 := Aside0.mk (blk_drew BK933.out)
             replace BK934 := Aside0.mk (blk_drew BK934.out)
             replace BK962 := Aside0.mk (blk_drew BK962.out)
             replace HB := Aside0.mk (below_drew1 HB.out)
             obtain ⟨Ao62, co62, eo62⟩ := Kd.R_slice HO_963000.out
             (first | subst eo62 | (injection eo62 with f1_ f2_ f3_; have f4_ := f1_.symm; have f5_ := f3_.symm; clear f1_ f2_ f3_; subst f4_; subst f5_))
             have p963 : 0 ≤ (x63_2 : Int) := of_decide_eq_true as_
             have q963 : x63_2 < (x963000_2.length : Int) := of_decide_eq_true as_
             obtain ⟨ad963, e963, hx963_0, hx963_1, hx963_2, hx963_3, hx963_4, hx963_5⟩ := at_T62 (Kd.R_reads' HO_963000.out).2.2 x63_2 p963 q963
             cases e963
             replace p963 := eq_true p963
             replace q963 := eq_true q963
             refine start_ (n := 18) (S := fun w' => w'.cell? ⟨gb962, 0, none⟩ = some (.slice (some ad963) x963000_2.length co62) ∧ w'.cell? ⟨gb962, 1, none⟩ = some (.slice Ao54 t953.length co54) ∧ w'.cell? (ad963.add ((x63_2).toNat * 6)) = some (.int .i64 ((rd_T62 x963000_2 x63_2).f0)) ∧ w'.cell? ⟨(ad963.add ((x63_2).toNat * 6)).block, (ad963.add ((x63_2).toNat * 6)).off + 1, none⟩ = some (.int .i64 ((rd_T62 x963000_2 x63_2).f1)) ∧ w'.cell? ⟨(ad963.add ((x63_2).toNat * 6)).block, (ad963.add ((x63_2).toNat * 6)).off + 2, none⟩ = some (.int .i64 ((rd_T62 x963000_2 x63_2).f2.f0)) ∧ w'.cell? ⟨(ad963.add ((x63_2).toNat * 6)).block, (ad963.add ((x63_2).toNat * 6)).off + 3, none⟩ = some (.int .i64 ((rd_T62 x963000_2 x63_2).f2.f1)) ∧ w'.cell? ⟨(ad963.add ((x63_2).toNat * 6)).block, (ad963.add ((x63_2).toNat * 6)).off + 4, none⟩ = some (.int .i64 ((rd_T62 x963000_2 x63_2).f3.f0)) ∧ w'.cell? ⟨(ad963.add ((x63_2).toNat * 6)).block, (ad963.add ((x63_2).toNat * 6)).off + 5, none⟩ = some (.int .i64 ((rd_T62 x963000_2 x63_2).f3.f1))) (ds := [17]) (bm_ 18 0) (by decide +kernel) rfl rfl ⟨bc_ BK962 0, bc_ BK962 1, hx963_0, hx963_1, hx963_2, hx963_3, hx963_4, hx963_5⟩ (fun hHeld => ?_); refine with_tabW cottonpadlaw06_ExitsSlower.tab9 cottonpadlaw06_ExitsSlower.bits9 (fun HT_ HW_ => ?_)
             generalize wr.drew = w61 at HO_10 HO_12 HO_963000 HO_963001 BK933 BK934 BK962 HB hx963_0 hx963_1 hx963_2 hx963_3 hx963_4 hx963_5 hHeld ⊢
             refine pr2_ 0 66 18 1 HT_ rfl rfl ?_
             refine pr2_ 2 68 18 5 HT_ rfl rfl ?_
             refine pr2_ 3 69 18 13 HT_ rfl rfl ?_
             refine pr2_ 5 71 18 45 HT_ rfl rfl ?_
             refine pr2_ 9 75 18 557 HT_ rfl rfl ?_
             refine pr2_ 10 76 18 1581 HT_ rfl rfl ?_
             refine ta2_ 1 67 18 1583 HT_ HW_ rfl rfl hHeld ?_
             refine ta2_ 4 70 18 1599 HT_ HW_ rfl rfl hHeld ?_
             refine pr2_ 6 72 18 1663 HT_ rfl rfl ?_
             refine pr2_ 7 73 18 1791 HT_ rfl rfl ?_
             refine ta2_ 8 74 18 2047 HT_ HW_ rfl rfl hHeld ?_
             refine one_ (i := 11) (N := some 77) (bm_ 18 4095) rfl rfl (one_of HT_.out (by decide +kernel)) (by decide) (fun K hK => ?_)
             refine goes_ Tryd.func51 (by decide +kernel) rfl #[.slice A2 l2.length c2, .int .i64 x63_2] (by rfl) rfl rfl ls_ ?_
             with_reducible refine (cottonpadlaw06_choose.calls _ _ l2 x63_2 t964 _ ?side1 ?side2 A58.out).mono ?_
             (case side1 => exact kc_ HR2 HB)
             (case side2 => exact HC2.out)
             rintro e w' ⟨rfl, ⟨nd, rfl⟩⟩
             refine ⟨_, rfl, ?_⟩
             have p60 : 0 ≤ (x63_2 : Int) := of_decide_eq_true as_
             have q60 : (x63_2 : Int) < ((x963000_2.length : Int) : Int) := of_decide_eq_true as_
             obtain ⟨go60, co60, eo60, gb60, gl60, cl60, HG60⟩ := Kd.R_form HO_963000.out (by omega)
             (first | cases eo60 | (injection eo60 with ea_ en_ ec_; (first | subst ea_ | (injection ea_ with ea_; subst ea_)); subst ec_; clear en_))
             have GB60 := Aside0.mk gb60
             have GG60 := Aside0.mk HG60
             clear gb60 gl60 HG60
             (first | simp only [add_plain] at hx963_0 | skip)
             (first | simp only [add_plain] at hx963_1 | skip)
             (first | simp only [add_plain] at hx963_2 | skip)
             (first | simp only [add_plain] at hx963_3 | skip)
             (first | simp only [add_plain] at hx963_4 | skip)
             (first | simp only [add_plain] at hx963_5 | skip)
             obtain ⟨ce60, hcl60, hM60, hcc60, hfr60⟩ := Kd.R_elem HO_963000.out z62 (x63_2 : Int) p60 q60
             obtain rfl := k62_openM hM60
             have hx60_0 : World.cell? _ ⟨go60, (x63_2 : Int).toNat * 6, none⟩ = some (.int .i64 ((rd_T62 x963000_2 x63_2).f0)) := hcc60 0 _ rfl
             have hx60_1 : World.cell? _ ⟨go60, (x63_2 : Int).toNat * 6 + 1, none⟩ = some (.int .i64 ((rd_T62 x963000_2 x63_2).f1)) := hcc60 1 _ rfl
             have hx60_2 : World.cell? _ ⟨go60, (x63_2 : Int).toNat * 6 + 2, none⟩ = some (.int .i64 ((rd_T62 x963000_2 x63_2).f2.f0)) := hcc60 2 _ rfl
             have hx60_3 : World.cell? _ ⟨go60, (x63_2 : Int).toNat * 6 + 3, none⟩ = some (.int .i64 ((rd_T62 x963000_2 x63_2).f2.f1)) := hcc60 3 _ rfl
             have hx60_4 : World.cell? _ ⟨go60, (x63_2 : Int).toNat * 6 + 4, none⟩ = some (.int .i64 ((rd_T62 x963000_2 x63_2).f3.f0)) := hcc60 4 _ rfl
             have hx60_5 : World.cell? _ ⟨go60, (x63_2 : Int).toNat * 6 + 5, none⟩ = some (.int .i64 ((rd_T62 x963000_2 x63_2).f3.f1)) := hcc60 5 _ rfl
             have hf60_0 : World.frozen? _ ⟨go60, (x63_2 : Int).toNat * 6, none⟩ = false := hfr60 0
             have hf60_1 : World.frozen? _ ⟨go60, (x63_2 : Int).toNat * 6 + 1, none⟩ = false := hfr60 1
             have hf60_2 : World.frozen? _ ⟨go60, (x63_2 : Int).toNat * 6 + 2, none⟩ = false := hfr60 2
             have hf60_3 : World.frozen? _ ⟨go60, (x63_2 : Int).toNat * 6 + 3, none⟩ = false := hfr60 3
             have hf60_4 : World.frozen? _ ⟨go60, (x63_2 : Int).toNat * 6 + 4, none⟩ = false := hfr60 4
             have hf60_5 : World.frozen? _ ⟨go60, (x63_2 : Int).toNat * 6 + 5, none⟩ = false := hfr60 5
             clear hcl60 hcc60 hfr60 hM60
             replace p60 := eq_true p60
             replace q60 := eq_true q60
             obtain ⟨ce63, hcl63, hM63, hcc63, hfr63⟩ := Kd.R_elem HO_963000.out z62 (x63_2 : Int) (of_decide_eq_true as_) (by have h_ : (x63_2 : Int) < ((x963000_2.length : Int) : Int) := of_decide_eq_true as_; first | exact h_ | (have e_ := (Kd.R_reads' HO_963000.out).1; omega) | simpa using h_)
             obtain rfl := k62_openM hM63
             have HP63 := (Kd.R_seg HO_963000.out (x63_2 : Int) (of_decide_eq_true as_) (by have h_ : (x63_2 : Int) < ((x963000_2.length : Int) : Int) := of_decide_eq_true as_; first | exact h_ | (have e_ := (Kd.R_reads' HO_963000.out).1; omega) | simpa using h_) (seg := [.int .i64 ji59]) (j := 1) hcl63 hcc63 (show 2 ≤ 6 from by decide) (x' := (⟨(rd_T62 x963000_2 x63_2).f0, ji59, (⟨(rd_T62 x963000_2 x63_2).f2.f0, (rd_T62 x963000_2 x63_2).f2.f1⟩ : S36), (⟨(rd_T62 x963000_2 x63_2).f3.f0, (rd_T62 x963000_2 x63_2).f3.f1⟩ : S36)⟩ : S62)) (k62_mkM _ _ _ (⟨(rd_T62 x963000_2 x63_2).f0, ji59, (⟨(rd_T62 x963000_2 x63_2).f2.f0, (rd_T62 x963000_2 x63_2).f2.f1⟩ : S36), (⟨(rd_T62 x963000_2 x63_2).f3.f0, (rd_T62 x963000_2 x63_2).f3.f1⟩ : S36)⟩ : S62) ) (fun _ hk => hk)).1
             rw [← Ny965.out] at HP63
             have HQ63 := Aside0.mk HP63
             clear hcl63 hcc63 hfr63 hM63 HP63
             refine hK.out _ _ ⟨bc_ BK962 0, bc_ BK962 1, hHeld.2.2.1, hHeld.2.2.2.1, hHeld.2.2.2.2.1, hHeld.2.2.2.2.2.1, hHeld.2.2.2.2.2.2.1, hHeld.2.2.2.2.2.2.2⟩ (fun hHeld => ?_)
             clear hK K
             refine norm_ (a' := ?_) ?_ ?_
             rotate_left
             ·show Act.put _ (some 77) _ = _
              simp only [Act.put, List.setIfInBounds_toArray, List.set_cons_zero, List.set_cons_succ, i64_w, i32_w]
              rfl
             refine pr2_ 12 78 18 8191 HT_ rfl rfl ?_
             refine pr2_ 13 79 18 16383 HT_ rfl rfl ?_
             refine pr2_ 14 80 18 32767 HT_ rfl rfl ?_
             refine pr2_ 15 81 18 65535 HT_ rfl rfl ?_
             refine pr2_ 16 82 18 131071 HT_ rfl rfl ?_
             refine last_ (i := 17) (N := none) (bm_ 18 262143) rfl rfl (one_of HT_.out (by decide +kernel)) (by decide) (fun K hK => ?_)
             refine skip_ (w1 := ?_) (by rfl) rfl ?_ ?_
             rotate_left
             ·go_simp
              rfl
             refine hK.out _ _ ?_
             clear hK K
             refine done_ (done_of HT_.out (by decide +kernel)) ?_
             try go_wp2
             go_roundg k2
             case measure => have := HJ7.out; have := HK2.out; omega
             case rel => exact ⟨(wrap64 (x63_2 + 1)), (y965), (.slice (some ⟨go60, 0, none⟩) x963000_2.length co62), (by first | rfl | (simp; done) | (simp [*]; done)), H', ⟨by have := HJ7.out; have := HK2.out; omega⟩, ⟨by (with_reducible repeat (first | apply Kd.R_alloc | apply Kd.R_drewN | apply Kd.R_drew)); exact Kd.R_mono (Kd.R_far (p := ⟨go60, (x63_2 : Int).toNat * 6 + 1, none⟩) (Kd.R_types HO_10.out GG60.out (by decide)) (fun _ hk => hk.2) (.int .i64 ji59)) (fun _ hk => ⟨hk.1.1, hk.1.2⟩)⟩, ⟨by (with_reducible repeat (first | apply Kd.R_alloc | apply Kd.R_drewN | apply Kd.R_drew)); exact Kd.R_mono (Kd.R_far (p := ⟨go60, (x63_2 : Int).toNat * 6 + 1, none⟩) (Kd.R_types HO_12.out GG60.out (by decide)) (fun _ hk => hk.2) (.int .i64 ji59)) (fun _ hk => ⟨hk.1.1, hk.1.2⟩)⟩, ⟨by (with_reducible repeat (first | apply Kd.R_alloc | apply Kd.R_drewN | apply Kd.R_drew)); exact HQ63.out⟩, ⟨by (with_reducible repeat (first | apply Kd.R_alloc | apply Kd.R_drewN | apply Kd.R_drew)); exact Kd.R_mono (Kd.R_far (p := ⟨go60, (x63_2 : Int).toNat * 6 + 1, none⟩) (Kd.R_types HO_963001.out GG60.out (by decide)) (fun _ hk => hk.2) (.int .i64 ji59)) (fun _ hk => trivial)⟩, ⟨by refine bx_ ?_; refine blk_far ?_ (by have h_ := Kd.R_ne HO_963000.out BK933.out (by decide); intro e_; exact h_ (by rw [e_]; rfl)) _; refine bx_ ?_; exact BK933.out⟩, ⟨by refine bx_ ?_; refine blk_far ?_ (by have h_ := Kd.R_ne HO_963000.out BK934.out (by decide); intro e_; exact h_ (by rw [e_]; rfl)) _; refine bx_ ?_; exact BK934.out⟩, ⟨by refine bx_ ?_; refine blk_far ?_ (by have h_ := Kd.R_ne HO_963000.out BK962.out (by decide); intro e_; exact h_ (by rw [e_]; rfl)) _; refine bx_ ?_; exact BK962.out⟩, ⟨by repeat (first | (with_reducible first | exact HB.out | apply below_alloc | apply pw_below_drewN | apply below_drew1 | refine below_set ?_ GB60.out | refine below_set ?_ GE933.out | refine below_set ?_ GE934.out | refine below_set ?_ GE962.out) | exact HB.out)⟩⟩
            ·rw [if_neg c57] at H
             exact absurd H (by simp)
           ·rw [if_neg c56] at H
            exact absurd H (by simp)
          ·rw [if_neg c55] at H
           have c55b0 : decide (x63_2 < (t950.length : Int)) = false := decide_eq_false c55
           clear c55
           have H' := Aside0.mk H
           clear H
           obtain ⟨Ao64, co64, eo64⟩ := Kd.R_slice HO_12.out
           subst eo64
           go_wp2
           go_loopg [86] k2 (fun kq v86 w' => ∃ (x12_3 : List (S48)) (x86_3 : Int) (x935001_3 : Int) (x935002_3 : Int), v86 = .int .i64 x86_3 ∧ Aside0 (cottonpadlaw06_ExitsSlower.l1 kq l1 l2 t935 y945 x12_3 (y959.length : Int) x86_3 l0_0 l0_1 x963000_2 t953 = some r) ∧ Aside0 (kq ≤ k2) ∧ Aside0 (Kd.R k48 48 w' w.heap.size (fun k_ => some k_ ≠ ((.slice Ao64 y959.length co64) : Value).ownBlock ∧ k_ ≠ gb934) v946 y945) ∧ Aside0 (Kd.R k48 48 w' w.heap.size (fun k_ => some k_ ≠ (v946 : Value).ownBlock ∧ k_ ≠ gb934) (.slice Ao64 y959.length co64) x12_3) ∧ Aside0 (Kd.R k62 62 w' w.heap.size (fun _ => True) u963000 x963000_2) ∧ Aside0 (Kd.R k81 81 w' w.heap.size (fun _ => True) (.slice Ao54 t953.length co54) t953) ∧ Aside0 (w'.heap[gb933]? = some (.cells #[(.slice A0_0 l0_0.length c0_0), (.slice A0_1 l0_1.length c0_1)] 25 (0, 0))) ∧ Aside0 (w'.heap[gb934]? = some (.cells #[.int .i64 a3_0, .int .i64 x935001_3, .int .i64 x935002_3, .int .i64 a3_3, .int .i64 a3_4] 48 (0, 0))) ∧ Aside0 (w'.heap[gb962]? = some (.cells #[u963000, (.slice Ao54 t953.length co54)] 25 (0, 0))) ∧ Aside0 (Below w.heap.size w w'))
           case atStart => exact ⟨(y959), (0), (a3_1), (a3_2), (by first | rfl | (simp; done) | (simp [*]; done)), H', ⟨Nat.le_refl _⟩, ⟨by (with_reducible repeat (first | apply Kd.R_alloc | apply Kd.R_drewN | apply Kd.R_drew)); exact HO_10.out⟩, ⟨by (with_reducible repeat (first | apply Kd.R_alloc | apply Kd.R_drewN | apply Kd.R_drew)); exact HO_12.out⟩, ⟨by (with_reducible repeat (first | apply Kd.R_alloc | apply Kd.R_drewN | apply Kd.R_drew)); exact HO_963000.out⟩, ⟨by (with_reducible repeat (first | apply Kd.R_alloc | apply Kd.R_drewN | apply Kd.R_drew)); exact HO_963001.out⟩, ⟨by refine bx_ ?_; exact BK933.out⟩, ⟨by refine bx_ ?_; exact BK934.out⟩, ⟨by refine bx_ ?_; exact BK962.out⟩, ⟨be3_ HB GE933 GE934 GE962⟩⟩
           case round =>
            as_aux_lemma =>
             clear H'
             try clear c1
             try clear c2
             try clear p2
             try clear c3
             try clear c4
             try clear c5
             try clear c6
             try clear p6
             try clear q6
             try clear hx6
             try clear hf6
             try clear c7
             try clear p9
             try clear q9
             try clear hx9
             try clear c13
             try clear c16
             try clear c22
             try clear c24
             try clear c25
             try clear c30
             try clear c31
             try clear c36
             try clear c37
             try clear c40
             try clear c42
             try clear c43
             try clear c51
             try clear c52
             try clear c55
             try clear c55b0
             try clear c56
             try clear c56b0
             try clear c57
             try clear c57b0
             try clear c60
             try clear p60
             try clear q60
             try clear hx60
             try clear hf60
             try clear c63
             try clear p64
             try clear hcz26_0
             try clear hcz26_1
             try clear hcz28_0
             try clear hcz28_1
             try clear hcz32_0
             try clear hcz32_1
             try clear hcz34_0
             try clear hcz34_1
             try clear hcz38_0
             try clear hcz38_1
             try clear hcz44_0
             try clear hcz44_1
             try clear hcz53_0
             try clear hcz53_1
             try clear hfz26_0
             try clear hfz26_1
             try clear hfz28_0
             try clear hfz28_1
             try clear hfz32_0
             try clear hfz32_1
             try clear hfz34_0
             try clear hfz34_1
             try clear hfz38_0
             try clear hfz38_1
             try clear hfz44_0
             try clear hfz44_1
             try clear hfz53_0
             try clear hfz53_1
             try clear hx60_0
             try clear hx60_1
             try clear hx60_2
             try clear hx60_3
             try clear hx60_4
             try clear hx60_5
             try clear hx963_0
             try clear hx963_1
             try clear hx963_2
             try clear hx963_3
             try clear hx963_4
             try clear hx963_5
             try clear p2
             try clear p60
             try clear p963
             try clear q60
             try clear q963
             obtain ⟨x12_3, x86_3, x935001_3, x935002_3, rfl, HA, HK3, HO_10, HO_12, HO_963000, HO_963001, BK933, BK934, BK962, HB⟩ := hrel
             have hl12_3 := (Kd.R_reads' HO_12.out).1
             rw [hl12_3] at HO_12
             (try simp only [hl12_3])
             (try simp only [hl12_3] at BK933)
             (try simp only [hl12_3] at BK934)
             (try simp only [hl12_3] at BK962)
             (try simp only [hl12_3] at HO_10)
             (try simp only [hl12_3] at HO_963000)
             (try simp only [hl12_3] at HO_963001)
             cases gk with
             | zero => exact absurd HA.out (by simp [cottonpadlaw06_ExitsSlower.l1])
             | succ k3 =>
              have H := HA.out
              clear HA
              simp only [cottonpadlaw06_ExitsSlower.l1] at H
              by_cases c65 : x86_3 < (y959.length : Int)
              ·rw [if_pos c65] at H
               have c65b0 : decide (x86_3 < (y959.length : Int)) = true := decide_eq_true c65
               clear c65
               by_cases c66 : 0 ≤ x86_3
               ·rw [if_pos c66] at H
                have c66b0 : decide (0 ≤ x86_3) = true := decide_eq_true c66
                clear c66
                by_cases c67 : x86_3 < (x12_3.length : Int)
                ·rw [if_pos c67] at H
                 have c67b0 : decide (x86_3 < (x12_3.length : Int)) = true := decide_eq_true c67
                 clear c67
                 replace H := Option.bind_eq_some_iff.mp H
                 obtain ⟨t967, A680, H⟩ := H
                 replace H : ((some (x12_3.set (x86_3 : Int).toNat (⟨(rd_T48 x12_3 x86_3).f0, (⟨mx (wrap64 (((rd_T48 x12_3 x86_3).f1.f0) - (Int.tmod t967 200))) 100, (rd_T48 x12_3 x86_3).f1.f1⟩ : S36), (⟨(rd_T48 x12_3 x86_3).f2.f0, (rd_T48 x12_3 x86_3).f2.f1⟩ : S36)⟩ : S48) : List (S48))).bind fun y968 => ((cottonpadlaw06_choose.f l2 (wrap64 (7 + (wrap64 (2 * x86_3))))).bind fun t970 => (cottonpadlaw06_ExitsSlower.l1 k3 l1 l2 t935 y945 (y968.set (x86_3 : Int).toNat (⟨(rd_T48 y968 x86_3).f0, (⟨(rd_T48 y968 x86_3).f1.f0, mx (wrap64 (((rd_T48 y968 x86_3).f1.f1) - (Int.tmod t970 200))) ((rd_T48 y968 x86_3).f1.f0)⟩ : S36), (⟨(rd_T48 y968 x86_3).f2.f0, (rd_T48 y968 x86_3).f2.f1⟩ : S36)⟩ : S48)) (y959.length : Int) (wrap64 (x86_3 + 1)) l0_0 l0_1 x963000_2 t953))) = some r := H
                 have A68 := Aside0.mk A680
                 clear A680
                 obtain ⟨ji69, hji69⟩ : ∃ j_ : Int, (mx (wrap64 (((rd_T48 x12_3 x86_3).f1.f0) - (Int.tmod t967 200))) 100) = j_ := ⟨_, rfl⟩
                 replace H : ((some (x12_3.set (x86_3 : Int).toNat (⟨(rd_T48 x12_3 x86_3).f0, (⟨ji69, (rd_T48 x12_3 x86_3).f1.f1⟩ : S36), (⟨(rd_T48 x12_3 x86_3).f2.f0, (rd_T48 x12_3 x86_3).f2.f1⟩ : S36)⟩ : S48) : List (S48))).bind fun y968 => ((cottonpadlaw06_choose.f l2 (wrap64 (7 + (wrap64 (2 * x86_3))))).bind fun t970 => (cottonpadlaw06_ExitsSlower.l1 k3 l1 l2 t935 y945 (y968.set (x86_3 : Int).toNat (⟨(rd_T48 y968 x86_3).f0, (⟨(rd_T48 y968 x86_3).f1.f0, mx (wrap64 (((rd_T48 y968 x86_3).f1.f1) - (Int.tmod t970 200))) ((rd_T48 y968 x86_3).f1.f0)⟩ : S36), (⟨(rd_T48 y968 x86_3).f2.f0, (rd_T48 y968 x86_3).f2.f1⟩ : S36)⟩ : S48)) (y959.length : Int) (wrap64 (x86_3 + 1)) l0_0 l0_1 x963000_2 t953))) = some r := by first | (rw [hji69] at H; exact H) | (simp only [hji69] at H ⊢; exact H)
                 (try rw [hji69] at A68)
                 have hji69_ : (if (wrap64 (((rd_T48 x12_3 x86_3).f1.f0) - (Int.tmod t967 200))) < 100 then 100 else (wrap64 (((rd_T48 x12_3 x86_3).f1.f0) - (Int.tmod t967 200)))) = ji69 := hji69
                 obtain ⟨y968, hy968⟩ : ∃ y_ : List (S48), y_ = (x12_3.set (x86_3 : Int).toNat (⟨(rd_T48 x12_3 x86_3).f0, (⟨ji69, (rd_T48 x12_3 x86_3).f1.f1⟩ : S36), (⟨(rd_T48 x12_3 x86_3).f2.f0, (rd_T48 x12_3 x86_3).f2.f1⟩ : S36)⟩ : S48)) := ⟨_, rfl⟩
                 replace H : ((cottonpadlaw06_choose.f l2 (wrap64 (7 + (wrap64 (2 * x86_3))))).bind fun t970 => (cottonpadlaw06_ExitsSlower.l1 k3 l1 l2 t935 y945 (y968.set (x86_3 : Int).toNat (⟨(rd_T48 y968 x86_3).f0, (⟨(rd_T48 y968 x86_3).f1.f0, mx (wrap64 (((rd_T48 y968 x86_3).f1.f1) - (Int.tmod t970 200))) ((rd_T48 y968 x86_3).f1.f0)⟩ : S36), (⟨(rd_T48 y968 x86_3).f2.f0, (rd_T48 y968 x86_3).f2.f1⟩ : S36)⟩ : S48)) (y959.length : Int) (wrap64 (x86_3 + 1)) l0_0 l0_1 x963000_2 t953)) = some r := by first | (rw [hy968]; with_reducible exact H) | (have H2_ := (Option.bind_some _ _).symm.trans H; rw [hy968]; with_reducible exact H2_) | (have H2_ := (Option.bind_some _ _).symm.trans H; with_reducible exact H2_) | with_reducible exact H | (rw [hy968]; exact H) | exact H
                 have Ny968 := Aside0.mk hy968
                 clear hy968
                 replace H := Option.bind_eq_some_iff.mp H
                 obtain ⟨t970, A710, H⟩ := H
                 replace H : (cottonpadlaw06_ExitsSlower.l1 k3 l1 l2 t935 y945 (y968.set (x86_3 : Int).toNat (⟨(rd_T48 y968 x86_3).f0, (⟨(rd_T48 y968 x86_3).f1.f0, mx (wrap64 (((rd_T48 y968 x86_3).f1.f1) - (Int.tmod t970 200))) ((rd_T48 y968 x86_3).f1.f0)⟩ : S36), (⟨(rd_T48 y968 x86_3).f2.f0, (rd_T48 y968 x86_3).f2.f1⟩ : S36)⟩ : S48)) (y959.length : Int) (wrap64 (x86_3 + 1)) l0_0 l0_1 x963000_2 t953) = some r := H
                 have A71 := Aside0.mk A710
                 clear A710
                 obtain ⟨ji72, hji72⟩ : ∃ j_ : Int, (mx (wrap64 (((rd_T48 y968 x86_3).f1.f1) - (Int.tmod t970 200))) ((rd_T48 y968 x86_3).f1.f0)) = j_ := ⟨_, rfl⟩
                 replace H : (cottonpadlaw06_ExitsSlower.l1 k3 l1 l2 t935 y945 (y968.set (x86_3 : Int).toNat (⟨(rd_T48 y968 x86_3).f0, (⟨(rd_T48 y968 x86_3).f1.f0, ji72⟩ : S36), (⟨(rd_T48 y968 x86_3).f2.f0, (rd_T48 y968 x86_3).f2.f1⟩ : S36)⟩ : S48)) (y959.length : Int) (wrap64 (x86_3 + 1)) l0_0 l0_1 x963000_2 t953) = some r := by first | (rw [hji72] at H; exact H) | (simp only [hji72] at H ⊢; exact H)
                 (try rw [hji72] at A68)
                 (try rw [hji72] at A71)
                 have hji72_ : (if (wrap64 (((rd_T48 y968 x86_3).f1.f1) - (Int.tmod t970 200))) < ((rd_T48 y968 x86_3).f1.f0) then ((rd_T48 y968 x86_3).f1.f0) else (wrap64 (((rd_T48 y968 x86_3).f1.f1) - (Int.tmod t970 200)))) = ji72 := hji72
                 obtain ⟨y972, hy972⟩ : ∃ y_ : List (S48), y_ = (y968.set (x86_3 : Int).toNat (⟨(rd_T48 y968 x86_3).f0, (⟨(rd_T48 y968 x86_3).f1.f0, ji72⟩ : S36), (⟨(rd_T48 y968 x86_3).f2.f0, (rd_T48 y968 x86_3).f2.f1⟩ : S36)⟩ : S48)) := ⟨_, rfl⟩
                 replace H : (cottonpadlaw06_ExitsSlower.l1 k3 l1 l2 t935 y945 y972 (y959.length : Int) (wrap64 (x86_3 + 1)) l0_0 l0_1 x963000_2 t953) = some r := by first | (rw [hy972]; with_reducible exact H) | (have H2_ := (Option.bind_some _ _).symm.trans H; rw [hy972]; with_reducible exact H2_) | (have H2_ := (Option.bind_some _ _).symm.trans H; with_reducible exact H2_) | with_reducible exact H | (rw [hy972]; exact H) | exact H
                 have Ny972 := Aside0.mk hy972
                 clear hy972
                 have H' := Aside0.mk H
                 clear H
                 try go_wp2
                 replace HO_10 := Aside0.mk (Kd.R_drew HO_10.out)
                 replace HO_12 := Aside0.mk (Kd.R_drew HO_12.out)
                 replace HO_963000 := Aside0.mk (Kd.R_drew HO_963000.out)
                 replace HO_963001 := Aside0.mk (Kd.R_drew HO_963001.out)
                 replace BK933 := Aside0.mk (blk_drew BK933.out)
                 replace BK934 := Aside0.mk (blk_drew BK934.out)
                 replace BK962 := Aside0.mk (blk_drew BK962.out)
                 replace HB := Aside0.mk (below_drew1 HB.out)
                 have p966 : 0 ≤ (x86_3 : Int) := of_decide_eq_true as_
                 have q966 : x86_3 < (x12_3.length : Int) := of_decide_eq_true as_
                 obtain ⟨ad966, e966, hx966_0, hx966_1, hx966_2, hx966_3, hx966_4⟩ := at_T48 (Kd.R_reads' HO_12.out).2.2 x86_3 p966 q966
                 cases e966
                 replace p966 := eq_true p966
                 replace q966 := eq_true q966
                 refine start_ (n := 20) (S := fun w' => w'.cell? (ad966.add ((x86_3).toNat * 5)) = some (.int .i64 ((rd_T48 x12_3 x86_3).f0)) ∧ w'.cell? ⟨(ad966.add ((x86_3).toNat * 5)).block, (ad966.add ((x86_3).toNat * 5)).off + 1, none⟩ = some (.int .i64 ((rd_T48 x12_3 x86_3).f1.f0)) ∧ w'.cell? ⟨(ad966.add ((x86_3).toNat * 5)).block, (ad966.add ((x86_3).toNat * 5)).off + 2, none⟩ = some (.int .i64 ((rd_T48 x12_3 x86_3).f1.f1)) ∧ w'.cell? ⟨(ad966.add ((x86_3).toNat * 5)).block, (ad966.add ((x86_3).toNat * 5)).off + 3, none⟩ = some (.int .i64 ((rd_T48 x12_3 x86_3).f2.f0)) ∧ w'.cell? ⟨(ad966.add ((x86_3).toNat * 5)).block, (ad966.add ((x86_3).toNat * 5)).off + 4, none⟩ = some (.int .i64 ((rd_T48 x12_3 x86_3).f2.f1))) (ds := [19]) (bm_ 20 0) (by decide +kernel) rfl rfl ⟨hx966_0, hx966_1, hx966_2, hx966_3, hx966_4⟩ (fun hHeld => ?_); refine with_tabW cottonpadlaw06_ExitsSlower.tab14 cottonpadlaw06_ExitsSlower.bits14 (fun HT_ HW_ => ?_)
                 generalize wr.drew = w74 at HO_10 HO_12 HO_963000 HO_963001 BK933 BK934 BK962 HB hx966_0 hx966_1 hx966_2 hx966_3 hx966_4 hHeld ⊢
                 refine pr2_ 0 89 20 1 HT_ rfl rfl ?_
                 refine pr2_ 1 90 20 3 HT_ rfl rfl ?_
                 refine pr2_ 2 91 20 7 HT_ rfl rfl ?_
                 refine pr2_ 3 92 20 15 HT_ rfl rfl ?_
                 refine pr2_ 4 93 20 31 HT_ rfl rfl ?_
                 refine pr2_ 5 94 20 63 HT_ rfl rfl ?_
                 refine pr2_ 6 95 20 127 HT_ rfl rfl ?_
                 refine pr2_ 8 97 20 383 HT_ rfl rfl ?_
                 refine pr2_ 9 98 20 895 HT_ rfl rfl ?_
                 refine pr2_ 10 99 20 1919 HT_ rfl rfl ?_
                 refine pr2_ 11 100 20 3967 HT_ rfl rfl ?_
                 refine ta2_ 7 96 20 4095 HT_ HW_ rfl rfl hHeld ?_
                 refine one_ (i := 12) (N := some 101) (bm_ 20 8191) rfl rfl (one_of HT_.out (by decide +kernel)) (by decide) (fun K hK => ?_)
                 refine goes_ Tryd.func51 (by decide +kernel) rfl #[.slice A2 l2.length c2, .int .i64 (wrap64 (6 + (wrap64 (2 * x86_3))))] (by rfl) rfl rfl ls_ ?_
                 with_reducible refine (cottonpadlaw06_choose.calls _ _ l2 (wrap64 (6 + (wrap64 (2 * x86_3)))) t967 _ ?side1 ?side2 A68.out).mono ?_
                 (case side1 => exact kc_ HR2 HB)
                 (case side2 => exact HC2.out)
                 rintro e w' ⟨rfl, ⟨nd, rfl⟩⟩
                 refine ⟨_, rfl, ?_⟩
                 have hq_ : ∀ a, w74.cell? a = (w74.drewN nd).cell? a := fun _ => rfl
                 simp only [hq_] at hHeld hx966_0 hx966_1 hx966_2 hx966_3 hx966_4
                 replace HO_10 := Aside0.mk (Kd.R_drewN HO_10.out nd)
                 replace HO_12 := Aside0.mk (Kd.R_drewN HO_12.out nd)
                 replace HO_963000 := Aside0.mk (Kd.R_drewN HO_963000.out nd)
                 replace HO_963001 := Aside0.mk (Kd.R_drewN HO_963001.out nd)
                 replace BK933 := Aside0.mk (blk_drewN BK933.out nd)
                 replace BK934 := Aside0.mk (blk_drewN BK934.out nd)
                 replace BK962 := Aside0.mk (blk_drewN BK962.out nd)
                 replace HB := Aside0.mk (pw_below_drewN HB.out nd)
                 clear hq_
                 obtain ⟨w74, hw74⟩ : ∃ w_, w_ = w74.drewN nd := ⟨_, rfl⟩
                 rw [← hw74] at hHeld hx966_0 hx966_1 hx966_2 hx966_3 hx966_4 HO_10 HO_12 HO_963000 HO_963001 BK933 BK934 BK962 HB ⊢
                 clear hw74
                 have p70 : 0 ≤ (x86_3 : Int) := of_decide_eq_true as_
                 have q70 : (x86_3 : Int) < ((x12_3.length : Int) : Int) := of_decide_eq_true as_
                 obtain ⟨go70, co70, eo70, gb70, gl70, cl70, HG70⟩ := Kd.R_form HO_12.out (by omega)
                 (first | cases eo70 | (injection eo70 with ea_ en_ ec_; (first | subst ea_ | (injection ea_ with ea_; subst ea_)); subst ec_; clear en_))
                 have GB70 := Aside0.mk gb70
                 have GG70 := Aside0.mk HG70
                 clear gb70 gl70 HG70
                 (first | simp only [add_plain] at hx966_0 | skip)
                 (first | simp only [add_plain] at hx966_1 | skip)
                 (first | simp only [add_plain] at hx966_2 | skip)
                 (first | simp only [add_plain] at hx966_3 | skip)
                 (first | simp only [add_plain] at hx966_4 | skip)
                 obtain ⟨ce70, hcl70, hM70, hcc70, hfr70⟩ := Kd.R_elem HO_12.out z48 (x86_3 : Int) p70 q70
                 obtain rfl := k48_openM hM70
                 have hx70_0 : World.cell? _ ⟨go70, (x86_3 : Int).toNat * 5, none⟩ = some (.int .i64 ((rd_T48 x12_3 x86_3).f0)) := hcc70 0 _ rfl
                 have hx70_1 : World.cell? _ ⟨go70, (x86_3 : Int).toNat * 5 + 1, none⟩ = some (.int .i64 ((rd_T48 x12_3 x86_3).f1.f0)) := hcc70 1 _ rfl
                 have hx70_2 : World.cell? _ ⟨go70, (x86_3 : Int).toNat * 5 + 2, none⟩ = some (.int .i64 ((rd_T48 x12_3 x86_3).f1.f1)) := hcc70 2 _ rfl
                 have hx70_3 : World.cell? _ ⟨go70, (x86_3 : Int).toNat * 5 + 3, none⟩ = some (.int .i64 ((rd_T48 x12_3 x86_3).f2.f0)) := hcc70 3 _ rfl
                 have hx70_4 : World.cell? _ ⟨go70, (x86_3 : Int).toNat * 5 + 4, none⟩ = some (.int .i64 ((rd_T48 x12_3 x86_3).f2.f1)) := hcc70 4 _ rfl
                 have hf70_0 : World.frozen? _ ⟨go70, (x86_3 : Int).toNat * 5, none⟩ = false := hfr70 0
                 have hf70_1 : World.frozen? _ ⟨go70, (x86_3 : Int).toNat * 5 + 1, none⟩ = false := hfr70 1
                 have hf70_2 : World.frozen? _ ⟨go70, (x86_3 : Int).toNat * 5 + 2, none⟩ = false := hfr70 2
                 have hf70_3 : World.frozen? _ ⟨go70, (x86_3 : Int).toNat * 5 + 3, none⟩ = false := hfr70 3
                 have hf70_4 : World.frozen? _ ⟨go70, (x86_3 : Int).toNat * 5 + 4, none⟩ = false := hfr70 4
                 clear hcl70 hcc70 hfr70 hM70
                 replace p70 := eq_true p70
                 replace q70 := eq_true q70
                 obtain ⟨ce75, hcl75, hM75, hcc75, hfr75⟩ := Kd.R_elem HO_12.out z48 (x86_3 : Int) (of_decide_eq_true as_) (by have h_ : (x86_3 : Int) < ((x12_3.length : Int) : Int) := of_decide_eq_true as_; first | exact h_ | (have e_ := (Kd.R_reads' HO_12.out).1; omega) | simpa using h_)
                 obtain rfl := k48_openM hM75
                 have HP75 := (Kd.R_seg HO_12.out (x86_3 : Int) (of_decide_eq_true as_) (by have h_ : (x86_3 : Int) < ((x12_3.length : Int) : Int) := of_decide_eq_true as_; first | exact h_ | (have e_ := (Kd.R_reads' HO_12.out).1; omega) | simpa using h_) (seg := [.int .i64 ji69]) (j := 1) hcl75 hcc75 (show 2 ≤ 5 from by decide) (x' := (⟨(rd_T48 x12_3 x86_3).f0, (⟨ji69, (rd_T48 x12_3 x86_3).f1.f1⟩ : S36), (⟨(rd_T48 x12_3 x86_3).f2.f0, (rd_T48 x12_3 x86_3).f2.f1⟩ : S36)⟩ : S48)) (k48_mkM _ _ _ (⟨(rd_T48 x12_3 x86_3).f0, (⟨ji69, (rd_T48 x12_3 x86_3).f1.f1⟩ : S36), (⟨(rd_T48 x12_3 x86_3).f2.f0, (rd_T48 x12_3 x86_3).f2.f1⟩ : S36)⟩ : S48) ) (fun _ hk => hk)).1
                 rw [← Ny968.out] at HP75
                 have HQ75 := Aside0.mk HP75
                 clear hcl75 hcc75 hfr75 hM75 HP75
                 refine hK.out _ _ ⟨hHeld.1, hHeld.2.1, hHeld.2.2.1, hHeld.2.2.2.1, hHeld.2.2.2.2⟩ (fun hHeld => ?_)
                 clear hK K
                 refine norm_ (a' := ?_) ?_ ?_
                 rotate_left
                 ·show Act.put _ (some 101) _ = _
                  simp only [Act.put, List.setIfInBounds_toArray, List.set_cons_zero, List.set_cons_succ, i64_w, i32_w]
                  rfl
                 refine pr2_ 13 102 20 16383 HT_ rfl rfl ?_
                 refine pr2_ 14 103 20 32767 HT_ rfl rfl ?_
                 refine pr2_ 15 104 20 65535 HT_ rfl rfl ?_
                 refine pr2_ 16 105 20 131071 HT_ rfl rfl ?_
                 refine pr2_ 17 106 20 262143 HT_ rfl rfl ?_
                 refine pr2_ 18 107 20 524287 HT_ rfl rfl ?_
                 refine last_ (i := 19) (N := none) (bm_ 20 1048575) rfl rfl (one_of HT_.out (by decide +kernel)) (by decide) (fun K hK => ?_)
                 refine skip_ (w1 := ?_) (by rfl) rfl ?_ ?_
                 rotate_left
                 ·go_simp
                  rfl
                 refine hK.out _ _ ?_
                 clear hK K
                 refine done_ (done_of HT_.out (by decide +kernel)) ?_
                 try go_wp2
                 have n0_ : Aside0 (Kd.R k48 48 (w74.setCell ⟨go70, (x86_3 : Int).toNat * 5 + 1, none⟩ (.int .i64 ji69)) w.heap.size (fun k_ => some k_ ≠ (.slice (some ⟨go70, 0, none⟩) x12_3.length co64 : Value).ownBlock ∧ k_ ≠ gb934) v946 y945) := ⟨by (with_reducible repeat (first | apply Kd.R_alloc | apply Kd.R_drewN | apply Kd.R_drew)); exact Kd.R_mono (Kd.R_far (p := ⟨go70, (x86_3 : Int).toNat * 5 + 1, none⟩) (Kd.R_mono HO_10.out (fun k_ hk => (⟨hk, fun e_ => hk.1 (by rw [e_]; rfl)⟩ : _ ∧ k_ ≠ go70))) (fun _ hk => hk.2) (.int .i64 ji69)) (fun _ hk => ⟨hk.1.1, hk.1.2⟩)⟩
                 have n1_ : Aside0 (Kd.R k48 48 (w74.setCell ⟨go70, (x86_3 : Int).toNat * 5 + 1, none⟩ (.int .i64 ji69)) w.heap.size (fun k_ => some k_ ≠ (v946 : Value).ownBlock ∧ k_ ≠ gb934) (.slice (some ⟨go70, 0, none⟩) x12_3.length co64) y968) := ⟨by (with_reducible repeat (first | apply Kd.R_alloc | apply Kd.R_drewN | apply Kd.R_drew)); exact HQ75.out⟩
                 have n2_ : Aside0 (Kd.R k62 62 (w74.setCell ⟨go70, (x86_3 : Int).toNat * 5 + 1, none⟩ (.int .i64 ji69)) w.heap.size (fun _ => True) u963000 x963000_2) := ⟨by (with_reducible repeat (first | apply Kd.R_alloc | apply Kd.R_drewN | apply Kd.R_drew)); exact Kd.R_mono (Kd.R_far (p := ⟨go70, (x86_3 : Int).toNat * 5 + 1, none⟩) (Kd.R_types HO_963000.out GG70.out (by decide)) (fun _ hk => hk.2) (.int .i64 ji69)) (fun _ hk => trivial)⟩
                 have n3_ : Aside0 (Kd.R k81 81 (w74.setCell ⟨go70, (x86_3 : Int).toNat * 5 + 1, none⟩ (.int .i64 ji69)) w.heap.size (fun _ => True) (.slice Ao54 t953.length co54) t953) := ⟨by (with_reducible repeat (first | apply Kd.R_alloc | apply Kd.R_drewN | apply Kd.R_drew)); exact Kd.R_mono (Kd.R_far (p := ⟨go70, (x86_3 : Int).toNat * 5 + 1, none⟩) (Kd.R_types HO_963001.out GG70.out (by decide)) (fun _ hk => hk.2) (.int .i64 ji69)) (fun _ hk => trivial)⟩
                 have n4_ : Aside0 ((w74.setCell ⟨go70, (x86_3 : Int).toNat * 5 + 1, none⟩ (.int .i64 ji69)).heap[gb933]? = some (.cells #[.slice A0_0 l0_0.length c0_0, .slice A0_1 l0_1.length c0_1] 25 (0, 0))) := ⟨by refine bx_ ?_; refine blk_far ?_ (by have h_ := Kd.R_ne HO_12.out BK933.out (by decide); intro e_; exact h_ (by rw [e_]; rfl)) _; refine bx_ ?_; exact BK933.out⟩
                 have n5_ : Aside0 ((w74.setCell ⟨go70, (x86_3 : Int).toNat * 5 + 1, none⟩ (.int .i64 ji69)).heap[gb934]? = some (.cells #[.int .i64 a3_0, .int .i64 x935001_3, .int .i64 x935002_3, .int .i64 a3_3, .int .i64 a3_4] 48 (0, 0))) := ⟨by refine bx_ ?_; refine blk_far ?_ (by have h_ := Kd.R_away HO_12.out (fun _ hk => hk.2); intro e_; exact h_ (by rw [e_]; rfl)) _; refine bx_ ?_; exact BK934.out⟩
                 have n6_ : Aside0 ((w74.setCell ⟨go70, (x86_3 : Int).toNat * 5 + 1, none⟩ (.int .i64 ji69)).heap[gb962]? = some (.cells #[u963000, .slice Ao54 t953.length co54] 25 (0, 0))) := ⟨by refine bx_ ?_; refine blk_far ?_ (by have h_ := Kd.R_ne HO_12.out BK962.out (by decide); intro e_; exact h_ (by rw [e_]; rfl)) _; refine bx_ ?_; exact BK962.out⟩
                 have n7_ : Aside0 (Below w.heap.size w (w74.setCell ⟨go70, (x86_3 : Int).toNat * 5 + 1, none⟩ (.int .i64 ji69))) := ⟨by repeat (first | (with_reducible first | exact HB.out | apply below_alloc | apply pw_below_drewN | apply below_drew1 | refine below_set ?_ GB70.out | refine below_set ?_ GE933.out | refine below_set ?_ GE934.out | refine below_set ?_ GE962.out) | exact HB.out)⟩
                 (try clear HO_10)
                 (try clear HO_12)
                 (try clear HO_963000)
                 (try clear HO_963001)
                 (try clear BK933)
                 (try clear BK934)
                 (try clear BK962)
                 (try clear HB)
                 generalize (w74.setCell ⟨go70, (x86_3 : Int).toNat * 5 + 1, none⟩ (.int .i64 ji69)) = w76 at n0_ n1_ n2_ n3_ n4_ n5_ n6_ n7_ ⊢
                 have HO_10 := n0_
                 have HO_12 := n1_
                 have HO_963000 := n2_
                 have HO_963001 := n3_
                 have BK933 := n4_
                 have BK934 := n5_
                 have BK962 := n6_
                 have HB := n7_
                 clear n0_ n1_ n2_ n3_ n4_ n5_ n6_ n7_
                 (try (rw [drewN_self w76]; generalize hq_ : World.drewN w76 _ = w76; replace HO_10 : Aside0 (Kd.R k48 48 w76 w.heap.size (fun k_ => some k_ ≠ (.slice (some ⟨go70, 0, none⟩) x12_3.length co64 : Value).ownBlock ∧ k_ ≠ gb934) v946 y945) := ⟨by rw [← hq_]; exact (ro_ HO_10)⟩; replace HO_12 : Aside0 (Kd.R k48 48 w76 w.heap.size (fun k_ => some k_ ≠ (v946 : Value).ownBlock ∧ k_ ≠ gb934) (.slice (some ⟨go70, 0, none⟩) x12_3.length co64) y968) := ⟨by rw [← hq_]; exact (ro_ HO_12)⟩; replace HO_963000 : Aside0 (Kd.R k62 62 w76 w.heap.size (fun _ => True) u963000 x963000_2) := ⟨by rw [← hq_]; exact (ro_ HO_963000)⟩; replace HO_963001 : Aside0 (Kd.R k81 81 w76 w.heap.size (fun _ => True) (.slice Ao54 t953.length co54) t953) := ⟨by rw [← hq_]; exact (ro_ HO_963001)⟩; replace BK933 : Aside0 (w76.heap[gb933]? = some (.cells #[.slice A0_0 l0_0.length c0_0, .slice A0_1 l0_1.length c0_1] 25 (0, 0))) := ⟨by rw [← hq_]; exact (bk_ BK933)⟩; replace BK934 : Aside0 (w76.heap[gb934]? = some (.cells #[.int .i64 a3_0, .int .i64 x935001_3, .int .i64 x935002_3, .int .i64 a3_3, .int .i64 a3_4] 48 (0, 0))) := ⟨by rw [← hq_]; exact (bk_ BK934)⟩; replace BK962 : Aside0 (w76.heap[gb962]? = some (.cells #[u963000, .slice Ao54 t953.length co54] 25 (0, 0))) := ⟨by rw [← hq_]; exact (bk_ BK962)⟩; replace HB : Aside0 (Below w.heap.size w w76) := ⟨by rw [← hq_]; exact (be3_ HB GE933 GE934 GE962)⟩; clear hq_))
                 replace HO_10 := Aside0.mk (Kd.R_drew HO_10.out)
                 replace HO_12 := Aside0.mk (Kd.R_drew HO_12.out)
                 replace HO_963000 := Aside0.mk (Kd.R_drew HO_963000.out)
                 replace HO_963001 := Aside0.mk (Kd.R_drew HO_963001.out)
                 replace BK933 := Aside0.mk (blk_drew BK933.out)
                 replace BK934 := Aside0.mk (blk_drew BK934.out)
                 replace BK962 := Aside0.mk (blk_drew BK962.out)
                 replace HB := Aside0.mk (below_drew1 HB.out)
                 have p969 : 0 ≤ (x86_3 : Int) := of_decide_eq_true as_
                 have q969 : x86_3 < (y968.length : Int) := (by have h_ : (x86_3 : Int) < ((x12_3.length : Int) : Int) := of_decide_eq_true as_; first | (have e_ := (Kd.R_reads' HO_12.out).1; omega) | simpa only [Ny968.out, List.length_set] using h_)
                 have ql969 : ((x86_3 : Int) < ((x12_3.length : Int) : Int)) = True := eq_true (of_decide_eq_true as_)
                 obtain ⟨ad969, e969, hx969_0, hx969_1, hx969_2, hx969_3, hx969_4⟩ := at_T48 (Kd.R_reads' HO_12.out).2.2 x86_3 p969 q969
                 obtain rfl : (⟨go70, 0, none⟩ : Addr) = ad969 := (by injection e969)
                 (first | simp only [add_plain] at hx969_0 | simp only [add_at] at hx969_0 | simp only [Addr.add, Nat.zero_add] at hx969_0 | skip)
                 (first | simp only [add_plain] at hx969_1 | simp only [add_at] at hx969_1 | simp only [Addr.add, Nat.zero_add] at hx969_1 | skip)
                 (first | simp only [add_plain] at hx969_2 | simp only [add_at] at hx969_2 | simp only [Addr.add, Nat.zero_add] at hx969_2 | skip)
                 (first | simp only [add_plain] at hx969_3 | simp only [add_at] at hx969_3 | simp only [Addr.add, Nat.zero_add] at hx969_3 | skip)
                 (first | simp only [add_plain] at hx969_4 | simp only [add_at] at hx969_4 | simp only [Addr.add, Nat.zero_add] at hx969_4 | skip)
                 replace p969 := eq_true p969
                 replace q969 := eq_true q969
                 have p971 : 0 ≤ (x86_3 : Int) := of_decide_eq_true as_
                 have q971 : x86_3 < (y968.length : Int) := (by have h_ : (x86_3 : Int) < ((x12_3.length : Int) : Int) := of_decide_eq_true as_; first | (have e_ := (Kd.R_reads' HO_12.out).1; omega) | simpa only [Ny968.out, List.length_set] using h_)
                 have ql971 : ((x86_3 : Int) < ((x12_3.length : Int) : Int)) = True := eq_true (of_decide_eq_true as_)
                 obtain ⟨ad971, e971, hx971_0, hx971_1, hx971_2, hx971_3, hx971_4⟩ := at_T48 (Kd.R_reads' HO_12.out).2.2 x86_3 p971 q971
                 obtain rfl : (⟨go70, 0, none⟩ : Addr) = ad971 := (by injection e971)
                 (first | simp only [add_plain] at hx971_0 | simp only [add_at] at hx971_0 | simp only [Addr.add, Nat.zero_add] at hx971_0 | skip)
                 (first | simp only [add_plain] at hx971_1 | simp only [add_at] at hx971_1 | simp only [Addr.add, Nat.zero_add] at hx971_1 | skip)
                 (first | simp only [add_plain] at hx971_2 | simp only [add_at] at hx971_2 | simp only [Addr.add, Nat.zero_add] at hx971_2 | skip)
                 (first | simp only [add_plain] at hx971_3 | simp only [add_at] at hx971_3 | simp only [Addr.add, Nat.zero_add] at hx971_3 | skip)
                 (first | simp only [add_plain] at hx971_4 | simp only [add_at] at hx971_4 | simp only [Addr.add, Nat.zero_add] at hx971_4 | skip)
                 replace p971 := eq_true p971
                 replace q971 := eq_true q971
                 refine start_ (n := 26) (S := fun w' => w'.cell? ⟨go70, (x86_3).toNat * 5, none⟩ = some (.int .i64 ((rd_T48 y968 x86_3).f0)) ∧ w'.cell? ⟨go70, (x86_3).toNat * 5 + 1, none⟩ = some (.int .i64 ((rd_T48 y968 x86_3).f1.f0)) ∧ w'.cell? ⟨go70, (x86_3).toNat * 5 + 2, none⟩ = some (.int .i64 ((rd_T48 y968 x86_3).f1.f1)) ∧ w'.cell? ⟨go70, (x86_3).toNat * 5 + 3, none⟩ = some (.int .i64 ((rd_T48 y968 x86_3).f2.f0)) ∧ w'.cell? ⟨go70, (x86_3).toNat * 5 + 4, none⟩ = some (.int .i64 ((rd_T48 y968 x86_3).f2.f1)) ∧ w'.cell? ⟨go70, (x86_3).toNat * 5, none⟩ = some (.int .i64 ((rd_T48 y968 x86_3).f0)) ∧ w'.cell? ⟨go70, (x86_3).toNat * 5 + 1, none⟩ = some (.int .i64 ((rd_T48 y968 x86_3).f1.f0)) ∧ w'.cell? ⟨go70, (x86_3).toNat * 5 + 2, none⟩ = some (.int .i64 ((rd_T48 y968 x86_3).f1.f1)) ∧ w'.cell? ⟨go70, (x86_3).toNat * 5 + 3, none⟩ = some (.int .i64 ((rd_T48 y968 x86_3).f2.f0)) ∧ w'.cell? ⟨go70, (x86_3).toNat * 5 + 4, none⟩ = some (.int .i64 ((rd_T48 y968 x86_3).f2.f1))) (ds := [25]) (bm_ 26 0) (by decide +kernel) rfl rfl ⟨hx969_0, hx969_1, hx969_2, hx969_3, hx969_4, hx971_0, hx971_1, hx971_2, hx971_3, hx971_4⟩ (fun hHeld => ?_); refine with_tabW cottonpadlaw06_ExitsSlower.tab15 cottonpadlaw06_ExitsSlower.bits15 (fun HT_ HW_ => ?_)
                 generalize w76.drew = w77 at HO_10 HO_12 HO_963000 HO_963001 BK933 BK934 BK962 HB HQ75 hx969_0 hx969_1 hx969_2 hx969_3 hx969_4 hx971_0 hx971_1 hx971_2 hx971_3 hx971_4 hHeld ⊢
                 refine pr2_ 0 108 26 1 HT_ rfl rfl ?_
                 refine pr2_ 1 109 26 3 HT_ rfl rfl ?_
                 refine pr2_ 2 110 26 7 HT_ rfl rfl ?_
                 refine pr2_ 3 111 26 15 HT_ rfl rfl ?_
                 refine pr2_ 4 112 26 31 HT_ rfl rfl ?_
                 refine pr2_ 5 113 26 63 HT_ rfl rfl ?_
                 refine pr2_ 6 114 26 127 HT_ rfl rfl ?_
                 refine pr2_ 8 116 26 383 HT_ rfl rfl ?_
                 refine pr2_ 9 117 26 895 HT_ rfl rfl ?_
                 refine pr2_ 10 118 26 1919 HT_ rfl rfl ?_
                 refine pr2_ 11 119 26 3967 HT_ rfl rfl ?_
                 refine pr2_ 15 123 26 36735 HT_ rfl rfl ?_
                 refine pr2_ 16 124 26 102271 HT_ rfl rfl ?_
                 refine pr2_ 17 125 26 233343 HT_ rfl rfl ?_
                 refine pr2_ 18 126 26 495487 HT_ rfl rfl ?_
                 refine pr2_ 19 127 26 1019775 HT_ rfl rfl ?_
                 refine ta2_ 7 115 26 1019903 HT_ HW_ rfl rfl hHeld ?_
                 refine ta2_ 20 128 26 2068479 HT_ HW_ rfl rfl hHeld ?_
                 refine one_ (i := 12) (N := some 120) (bm_ 26 2072575) rfl rfl (one_of HT_.out (by decide +kernel)) (by decide) (fun K hK => ?_)
                 refine goes_ Tryd.func51 (by decide +kernel) rfl #[.slice A2 l2.length c2, .int .i64 (wrap64 (7 + (wrap64 (2 * x86_3))))] (by rfl) rfl rfl ls_ ?_
                 with_reducible refine (cottonpadlaw06_choose.calls _ _ l2 (wrap64 (7 + (wrap64 (2 * x86_3)))) t970 _ ?side1 ?side2 A71.out).mono ?_
                 (case side1 => exact kc_ HR2 HB)
                 (case side2 => exact HC2.out)
                 rintro e w' ⟨rfl, ⟨nd, rfl⟩⟩
                 refine ⟨_, rfl, ?_⟩
                 have p73 : 0 ≤ (x86_3 : Int) := of_decide_eq_true as_
                 have q73 : (x86_3 : Int) < ((x12_3.length : Int) : Int) := of_decide_eq_true as_
                 obtain ⟨ce73, hcl73, hM73, hcc73, hfr73⟩ := Kd.R_elem HO_12.out z48 (x86_3 : Int) p73 q73
                 obtain rfl := k48_openM hM73
                 have hx73_0 : World.cell? _ ⟨go70, (x86_3 : Int).toNat * 5, none⟩ = some (.int .i64 ((rd_T48 y968 x86_3).f0)) := hcc73 0 _ rfl
                 have hx73_1 : World.cell? _ ⟨go70, (x86_3 : Int).toNat * 5 + 1, none⟩ = some (.int .i64 ((rd_T48 y968 x86_3).f1.f0)) := hcc73 1 _ rfl
                 have hx73_2 : World.cell? _ ⟨go70, (x86_3 : Int).toNat * 5 + 2, none⟩ = some (.int .i64 ((rd_T48 y968 x86_3).f1.f1)) := hcc73 2 _ rfl
                 have hx73_3 : World.cell? _ ⟨go70, (x86_3 : Int).toNat * 5 + 3, none⟩ = some (.int .i64 ((rd_T48 y968 x86_3).f2.f0)) := hcc73 3 _ rfl
                 have hx73_4 : World.cell? _ ⟨go70, (x86_3 : Int).toNat * 5 + 4, none⟩ = some (.int .i64 ((rd_T48 y968 x86_3).f2.f1)) := hcc73 4 _ rfl
                 have hf73_0 : World.frozen? _ ⟨go70, (x86_3 : Int).toNat * 5, none⟩ = false := hfr73 0
                 have hf73_1 : World.frozen? _ ⟨go70, (x86_3 : Int).toNat * 5 + 1, none⟩ = false := hfr73 1
                 have hf73_2 : World.frozen? _ ⟨go70, (x86_3 : Int).toNat * 5 + 2, none⟩ = false := hfr73 2
                 have hf73_3 : World.frozen? _ ⟨go70, (x86_3 : Int).toNat * 5 + 3, none⟩ = false := hfr73 3
                 have hf73_4 : World.frozen? _ ⟨go70, (x86_3 : Int).toNat * 5 + 4, none⟩ = false := hfr73 4
                 clear hcl73 hcc73 hfr73 hM73
                 obtain ⟨g79, co79, eo79, gb79, gl79, cl79, GG79⟩ := Kd.R_form HO_12.out (by have e_ := (Kd.R_reads' HO_12.out).1; omega)
                 have e79 : go70 = g79 := by injection eo79 with ea_; injection ea_ with eb_; injection eb_
                 rw [← e79] at GG79
                 clear e79 eo79 gb79 gl79
                 replace p73 := eq_true p73
                 replace q73 := eq_true q73
                 obtain ⟨ce78, hcl78, hM78, hcc78, hfr78⟩ := Kd.R_elem HO_12.out z48 (x86_3 : Int) (of_decide_eq_true as_) (by have h_ : (x86_3 : Int) < ((x12_3.length : Int) : Int) := of_decide_eq_true as_; first | exact h_ | (have e_ := (Kd.R_reads' HO_12.out).1; omega) | simpa using h_)
                 obtain rfl := k48_openM hM78
                 have HP78 := (Kd.R_seg HO_12.out (x86_3 : Int) (of_decide_eq_true as_) (by have h_ : (x86_3 : Int) < ((x12_3.length : Int) : Int) := of_decide_eq_true as_; first | exact h_ | (have e_ := (Kd.R_reads' HO_12.out).1; omega) | simpa using h_) (seg := [.int .i64 ji72]) (j := 2) hcl78 hcc78 (show 3 ≤ 5 from by decide) (x' := (⟨(rd_T48 y968 x86_3).f0, (⟨(rd_T48 y968 x86_3).f1.f0, ji72⟩ : S36), (⟨(rd_T48 y968 x86_3).f2.f0, (rd_T48 y968 x86_3).f2.f1⟩ : S36)⟩ : S48)) (k48_mkM _ _ _ (⟨(rd_T48 y968 x86_3).f0, (⟨(rd_T48 y968 x86_3).f1.f0, ji72⟩ : S36), (⟨(rd_T48 y968 x86_3).f2.f0, (rd_T48 y968 x86_3).f2.f1⟩ : S36)⟩ : S48) ) (fun _ hk => hk)).1
                 rw [← Ny972.out] at HP78
                 have HQ78 := Aside0.mk HP78
                 clear hcl78 hcc78 hfr78 hM78 HP78
                 refine hK.out _ _ ⟨hHeld.1, hHeld.2.1, hHeld.2.2.1, hHeld.2.2.2.1, hHeld.2.2.2.2.1, hHeld.2.2.2.2.2.1, hHeld.2.2.2.2.2.2.1, hHeld.2.2.2.2.2.2.2.1, hHeld.2.2.2.2.2.2.2.2.1, hHeld.2.2.2.2.2.2.2.2.2⟩ (fun hHeld => ?_)
                 clear hK K
                 refine norm_ (a' := ?_) ?_ ?_
                 rotate_left
                 ·show Act.put _ (some 120) _ = _
                  simp only [Act.put, List.setIfInBounds_toArray, List.set_cons_zero, List.set_cons_succ, i64_w, i32_w]
                  rfl
                 refine pr2_ 13 121 26 2080767 HT_ rfl rfl ?_
                 refine pr2_ 14 122 26 2097151 HT_ rfl rfl ?_
                 refine pr2_ 21 129 26 4194303 HT_ rfl rfl ?_
                 refine pr2_ 22 130 26 8388607 HT_ rfl rfl ?_
                 refine pr2_ 23 131 26 16777215 HT_ rfl rfl ?_
                 refine pr2_ 24 132 26 33554431 HT_ rfl rfl ?_
                 refine last_ (i := 25) (N := none) (bm_ 26 67108863) rfl rfl (one_of HT_.out (by decide +kernel)) (by decide) (fun K hK => ?_)
                 refine skip_ (w1 := ?_) (by rfl) rfl ?_ ?_
                 rotate_left
                 ·go_simp
                  rfl
                 refine hK.out _ _ ?_
                 clear hK K
                 refine done_ (done_of HT_.out (by decide +kernel)) ?_
                 try go_wp2
                 (try simp only [← hl12_3])
                 go_roundg k3
                 case measure => have := HJ7.out; have := HK2.out; have := HK3.out; omega
                 case rel => exact ⟨(y972), (wrap64 (x86_3 + 1)), (x935001_3), (x935002_3), (by first | rfl | (simp; done) | (simp [*]; done)), H', ⟨by have := HJ7.out; have := HK2.out; have := HK3.out; omega⟩, ⟨by (try simp only [hl12_3]); (with_reducible repeat (first | apply Kd.R_alloc | apply Kd.R_drewN | apply Kd.R_drew)); exact Kd.R_mono (Kd.R_far (p := ⟨go70, (x86_3 : Int).toNat * 5 + 2, none⟩) (Kd.R_mono HO_10.out (fun k_ hk => (⟨hk, fun e_ => hk.1 (by rw [e_]; rfl)⟩ : _ ∧ k_ ≠ go70))) (fun _ hk => hk.2) (.int .i64 ji72)) (fun _ hk => ⟨hk.1.1, hk.1.2⟩)⟩, ⟨by (try simp only [hl12_3]); (with_reducible repeat (first | apply Kd.R_alloc | apply Kd.R_drewN | apply Kd.R_drew)); exact HQ78.out⟩, ⟨by (try simp only [hl12_3]); (with_reducible repeat (first | apply Kd.R_alloc | apply Kd.R_drewN | apply Kd.R_drew)); exact Kd.R_mono (Kd.R_far (p := ⟨go70, (x86_3 : Int).toNat * 5 + 2, none⟩) (Kd.R_types HO_963000.out GG79 (by decide)) (fun _ hk => hk.2) (.int .i64 ji72)) (fun _ hk => trivial)⟩, ⟨by (try simp only [hl12_3]); (with_reducible repeat (first | apply Kd.R_alloc | apply Kd.R_drewN | apply Kd.R_drew)); exact Kd.R_mono (Kd.R_far (p := ⟨go70, (x86_3 : Int).toNat * 5 + 2, none⟩) (Kd.R_types HO_963001.out GG79 (by decide)) (fun _ hk => hk.2) (.int .i64 ji72)) (fun _ hk => trivial)⟩, ⟨by (try simp only [hl12_3]); refine bx_ ?_; refine blk_far ?_ (by have h_ := Kd.R_ne HO_12.out BK933.out (by decide); intro e_; exact h_ (by rw [e_]; rfl)) _; refine bx_ ?_; exact BK933.out⟩, ⟨by (try simp only [hl12_3]); refine bx_ ?_; refine blk_far ?_ (by have h_ := Kd.R_away HO_12.out (fun _ hk => hk.2); intro e_; exact h_ (by rw [e_]; rfl)) _; refine bx_ ?_; exact BK934.out⟩, ⟨by (try simp only [hl12_3]); refine bx_ ?_; refine blk_far ?_ (by have h_ := Kd.R_ne HO_12.out BK962.out (by decide); intro e_; exact h_ (by rw [e_]; rfl)) _; refine bx_ ?_; exact BK962.out⟩, ⟨by repeat (first | (with_reducible first | exact HB.out | apply below_alloc | apply pw_below_drewN | apply below_drew1 | refine below_set ?_ GB70.out | refine below_set ?_ GE933.out | refine below_set ?_ GE934.out | refine below_set ?_ GE962.out) | exact HB.out)⟩⟩
                ·rw [if_neg c67] at H
                 exact absurd H (by simp)
               ·rw [if_neg c66] at H
                exact absurd H (by simp)
              ·rw [if_neg c65] at H
               have c65b0 : decide (x86_3 < (y959.length : Int)) = false := decide_eq_false c65
               (try have c65b0z : decide (x86_3 < (x12_3.length : Int)) = false := by rw [← hl12_3]; exact c65b0)
               clear c65
               replace H := Option.bind_eq_some_iff.mp H
               obtain ⟨⟨t973, t974, t975⟩, A790, H⟩ := H
               replace H : ((exits_Out.f x963000_2 t953 x12_3).bind fun bt977 => ((exits_Out.f l0_0 l0_1 y945).bind fun bt981 => ((exits_Safe.f l0_0 l0_1 l1).bind fun bt985 => ((exits_Safe.f x963000_2 t953 x12_3).bind fun bt989 => ((exits_Safe.f l0_0 l0_1 y945).bind fun bt993 => (if t935 = true then (if t975 = 0 then (if bt977.2.2 = 0 then (if bt981.2.2 = 0 then (if bt985.2.2.2 = 0 then (if bt989.2.2.2 = 0 then (if bt993.2.2.2 = 0 then (if bt977.1 ≥ t973 then (if bt977.2.1 ≥ t974 then (if bt981.1 ≥ t973 then (if bt981.2.1 ≥ t974 then (if bt989.1 ≤ bt985.1 then (some (decide (bt993.1 ≤ bt985.1))) else (some false)) else (some false)) else (some false)) else (some false)) else (some false)) else (some false)) else (some false)) else (some false)) else (some false)) else (some false)) else (some false)) else (some false))))))) = some r := H
               have A79 := Aside0.mk A790
               clear A790
               replace H := Option.bind_eq_some_iff.mp H
               obtain ⟨⟨t977, t978, t979⟩, A800, H⟩ := H
               replace H : ((exits_Out.f l0_0 l0_1 y945).bind fun bt981 => ((exits_Safe.f l0_0 l0_1 l1).bind fun bt985 => ((exits_Safe.f x963000_2 t953 x12_3).bind fun bt989 => ((exits_Safe.f l0_0 l0_1 y945).bind fun bt993 => (if t935 = true then (if t975 = 0 then (if t979 = 0 then (if bt981.2.2 = 0 then (if bt985.2.2.2 = 0 then (if bt989.2.2.2 = 0 then (if bt993.2.2.2 = 0 then (if t977 ≥ t973 then (if t978 ≥ t974 then (if bt981.1 ≥ t973 then (if bt981.2.1 ≥ t974 then (if bt989.1 ≤ bt985.1 then (some (decide (bt993.1 ≤ bt985.1))) else (some false)) else (some false)) else (some false)) else (some false)) else (some false)) else (some false)) else (some false)) else (some false)) else (some false)) else (some false)) else (some false)) else (some false)))))) = some r := H
               have A80 := Aside0.mk A800
               clear A800
               replace H := Option.bind_eq_some_iff.mp H
               obtain ⟨⟨t981, t982, t983⟩, A810, H⟩ := H
               replace H : ((exits_Safe.f l0_0 l0_1 l1).bind fun bt985 => ((exits_Safe.f x963000_2 t953 x12_3).bind fun bt989 => ((exits_Safe.f l0_0 l0_1 y945).bind fun bt993 => (if t935 = true then (if t975 = 0 then (if t979 = 0 then (if t983 = 0 then (if bt985.2.2.2 = 0 then (if bt989.2.2.2 = 0 then (if bt993.2.2.2 = 0 then (if t977 ≥ t973 then (if t978 ≥ t974 then (if t981 ≥ t973 then (if t982 ≥ t974 then (if bt989.1 ≤ bt985.1 then (some (decide (bt993.1 ≤ bt985.1))) else (some false)) else (some false)) else (some false)) else (some false)) else (some false)) else (some false)) else (some false)) else (some false)) else (some false)) else (some false)) else (some false)) else (some false))))) = some r := H
               have A81 := Aside0.mk A810
               clear A810
               replace H := Option.bind_eq_some_iff.mp H
               obtain ⟨⟨t985, t986, t987, t988⟩, A820, H⟩ := H
               replace H : ((exits_Safe.f x963000_2 t953 x12_3).bind fun bt989 => ((exits_Safe.f l0_0 l0_1 y945).bind fun bt993 => (if t935 = true then (if t975 = 0 then (if t979 = 0 then (if t983 = 0 then (if t988 = 0 then (if bt989.2.2.2 = 0 then (if bt993.2.2.2 = 0 then (if t977 ≥ t973 then (if t978 ≥ t974 then (if t981 ≥ t973 then (if t982 ≥ t974 then (if bt989.1 ≤ t985 then (some (decide (bt993.1 ≤ t985))) else (some false)) else (some false)) else (some false)) else (some false)) else (some false)) else (some false)) else (some false)) else (some false)) else (some false)) else (some false)) else (some false)) else (some false)))) = some r := H
               have A82 := Aside0.mk A820
               clear A820
               replace H := Option.bind_eq_some_iff.mp H
               obtain ⟨⟨t989, t990, t991, t992⟩, A830, H⟩ := H
               replace H : ((exits_Safe.f l0_0 l0_1 y945).bind fun bt993 => (if t935 = true then (if t975 = 0 then (if t979 = 0 then (if t983 = 0 then (if t988 = 0 then (if t992 = 0 then (if bt993.2.2.2 = 0 then (if t977 ≥ t973 then (if t978 ≥ t974 then (if t981 ≥ t973 then (if t982 ≥ t974 then (if t989 ≤ t985 then (some (decide (bt993.1 ≤ t985))) else (some false)) else (some false)) else (some false)) else (some false)) else (some false)) else (some false)) else (some false)) else (some false)) else (some false)) else (some false)) else (some false)) else (some false))) = some r := H
               have A83 := Aside0.mk A830
               clear A830
               replace H := Option.bind_eq_some_iff.mp H
               obtain ⟨⟨t993, t994, t995, t996⟩, A840, H⟩ := H
               replace H : (if t935 = true then (if t975 = 0 then (if t979 = 0 then (if t983 = 0 then (if t988 = 0 then (if t992 = 0 then (if t996 = 0 then (if t977 ≥ t973 then (if t978 ≥ t974 then (if t981 ≥ t973 then (if t982 ≥ t974 then (if t989 ≤ t985 then (some (decide (t993 ≤ t985))) else (some false)) else (some false)) else (some false)) else (some false)) else (some false)) else (some false)) else (some false)) else (some false)) else (some false)) else (some false)) else (some false)) else (some false)) = some r := H
               have A84 := Aside0.mk A840
               clear A840
               by_cases c85 : t935 = true
               ·subst c85
                have H1 : (if t975 = 0 then (if t979 = 0 then (if t983 = 0 then (if t988 = 0 then (if t992 = 0 then (if t996 = 0 then (if t977 ≥ t973 then (if t978 ≥ t974 then (if t981 ≥ t973 then (if t982 ≥ t974 then (if t989 ≤ t985 then (some (decide (t993 ≤ t985))) else (some false)) else (some false)) else (some false)) else (some false)) else (some false)) else (some false)) else (some false)) else (some false)) else (some false)) else (some false)) else (some false)) = some r := by rw [if_pos rfl] at H; exact H
                clear H
                have H := H1
                clear H1
                by_cases c86 : t975 = 0
                ·rw [if_pos c86] at H
                 have c86b0 : (t975 == 0) = true := beq_iff_eq.mpr c86
                 have c86b1 : (t975 != 0) = false := bne_eq_false_iff_eq.mpr c86
                 clear c86
                 by_cases c87 : t979 = 0
                 ·rw [if_pos c87] at H
                  have c87b0 : (t979 == 0) = true := beq_iff_eq.mpr c87
                  have c87b1 : (t979 != 0) = false := bne_eq_false_iff_eq.mpr c87
                  clear c87
                  by_cases c88 : t983 = 0
                  ·rw [if_pos c88] at H
                   have c88b0 : (t983 == 0) = true := beq_iff_eq.mpr c88
                   have c88b1 : (t983 != 0) = false := bne_eq_false_iff_eq.mpr c88
                   clear c88
                   by_cases c89 : t988 = 0
                   ·rw [if_pos c89] at H
                    have c89b0 : (t988 == 0) = true := beq_iff_eq.mpr c89
                    have c89b1 : (t988 != 0) = false := bne_eq_false_iff_eq.mpr c89
                    clear c89
                    by_cases c90 : t992 = 0
                    ·rw [if_pos c90] at H
                     have c90b0 : (t992 == 0) = true := beq_iff_eq.mpr c90
                     have c90b1 : (t992 != 0) = false := bne_eq_false_iff_eq.mpr c90
                     clear c90
                     by_cases c91 : t996 = 0
                     ·rw [if_pos c91] at H
                      have c91b0 : (t996 == 0) = true := beq_iff_eq.mpr c91
                      have c91b1 : (t996 != 0) = false := bne_eq_false_iff_eq.mpr c91
                      clear c91
                      by_cases c92 : t977 ≥ t973
                      ·rw [if_pos c92] at H
                       have c92b0 : decide (t973 ≤ t977) = true := decide_eq_true c92
                       clear c92
                       by_cases c93 : t978 ≥ t974
                       ·rw [if_pos c93] at H
                        have c93b0 : decide (t974 ≤ t978) = true := decide_eq_true c93
                        clear c93
                        by_cases c94 : t981 ≥ t973
                        ·rw [if_pos c94] at H
                         have c94b0 : decide (t973 ≤ t981) = true := decide_eq_true c94
                         clear c94
                         by_cases c95 : t982 ≥ t974
                         ·rw [if_pos c95] at H
                          have c95b0 : decide (t974 ≤ t982) = true := decide_eq_true c95
                          clear c95
                          by_cases c96 : t989 ≤ t985
                          ·rw [if_pos c96] at H
                           have c96b0 : decide (t989 ≤ t985) = true := decide_eq_true c96
                           clear c96
                           obtain rfl := Option.some.inj H
                           have hnb97 := NB933_934.out
                           have hnc97 := NB934_933.out
                           have hnb98 := NB933_962.out
                           have hnc98 := NB962_933.out
                           have hcz99_0 : wr.cell? ⟨gb933, 0, none⟩ = some (.slice A0_0 l0_0.length c0_0) := bc_ BK933 0
                           have hcz99_1 : wr.cell? ⟨gb933, 1, none⟩ = some (.slice A0_1 l0_1.length c0_1) := bc_ BK933 1
                           have hfz99_0 := blk_frozen BK933.out 0
                           have hfz99_1 := blk_frozen BK933.out 1
                           go_wp2_with (first | ((with_reducible refine gate_callee (f := 19) rfl ?_); refine goesL_ (some 137) rfl rfl Tryd.func19 (by decide +kernel) rfl #[.agg #[.slice A0_0 l0_0.length c0_0, .slice A0_1 l0_1.length c0_1], .slice A1 l1.length c1] rfl ls_ ?_; (with_reducible refine (exits_Out.calls _ _ l0_0 _ _ l0_1 _ _ l1 t973 t974 t975 _ ?side7 ?side1 ?side2 ?side3 ?side4 ?side5 ?side6 A79.out).mono ?_); (case side1 => exact kc_ HR0_0 HB); (case side2 => exact HC0_0.out); (case side3 => exact kc_ HR0_1 HB); (case side4 => exact HC0_1.out); (case side5 => exact kc_ HR1 HB); (case side6 => exact HC1.out); (case side7 => exact GlobsE.below HG.out.1 (be3_ HB GE933 GE934 GE962)); rintro e w100 ⟨rfl, hb⟩; refine ⟨_, rfl, ?_⟩; replace HO_10 := rb_ HO_10 hb; replace HO_12 := rb_ HO_12 hb; replace HO_963000 := rb_ HO_963000 hb; replace HO_963001 := rb_ HO_963001 hb; replace BK933 := bb_ BK933 hb; replace BK934 := bb_ BK934 hb; replace BK962 := bb_ BK962 hb; replace HB := bs3_ HB GE933 GE934 GE962 hb; (try clear hb); (try clear hb2); (try clear hk); (try clear hi)) | ((with_reducible refine gate_dst (N := 15) rfl ?_); refine box_event ?hg (N := 15) ?hd (cs := #[.int .i64 0, .int .i64 0]) (t := 36) ?hr ?_; (case hd => rfl); (case hg => rfl); (case hr => exact gs_); intro gb976 hg w101 hbox hb; replace HO_10 := rb_ HO_10 hb; replace HO_12 := rb_ HO_12 hb; replace HO_963000 := rb_ HO_963000 hb; replace HO_963001 := rb_ HO_963001 hb; have BK976 := Aside0.mk (hbox); have GW976 := hl_ hg (be3_ HB GE933 GE934 GE962); have GE976 := hl_ hg (be3_ HB GE933 GE934 GE962); replace HB := bs3_ HB GE933 GE934 GE962 hb; have NB933_976 := Aside0.mk ((by rw [hg]; exact Nat.ne_of_lt (blk_lt (bk_ BK933)) : gb933 ≠ gb976)); have NB976_933 := Aside0.mk ((by rw [hg]; exact Nat.ne_of_gt (blk_lt (bk_ BK933)) : gb976 ≠ gb933)); replace BK933 := bb_ BK933 hb; have NB934_976 := Aside0.mk ((by rw [hg]; exact Nat.ne_of_lt (blk_lt (bk_ BK934)) : gb934 ≠ gb976)); have NB976_934 := Aside0.mk ((by rw [hg]; exact Nat.ne_of_gt (blk_lt (bk_ BK934)) : gb976 ≠ gb934)); replace BK934 := bb_ BK934 hb; have NB962_976 := Aside0.mk ((by rw [hg]; exact Nat.ne_of_lt (blk_lt (bk_ BK962)) : gb962 ≠ gb976)); have NB976_962 := Aside0.mk ((by rw [hg]; exact Nat.ne_of_gt (blk_lt (bk_ BK962)) : gb976 ≠ gb962)); replace BK962 := bb_ BK962 hb; clear hb hbox hg; have hnb102 := NB976_933.out; have hnc102 := NB933_976.out; have hnb103 := NB976_934.out; have hnc103 := NB934_976.out; have hnb104 := NB976_962.out; have hnc104 := NB962_976.out; have hcz105_0 : w101.cell? ⟨gb976, 0, none⟩ = some (.int .i64 0) := bc_ BK976 0; have hcz105_1 : w101.cell? ⟨gb976, 1, none⟩ = some (.int .i64 0) := bc_ BK976 1; have hfz105_0 := blk_frozen BK976.out 0; have hfz105_1 := blk_frozen BK976.out 1; have hnb106 := NB962_934.out; have hnc106 := NB934_962.out; have hcz107_0 : w101.cell? ⟨gb962, 0, none⟩ = some (u963000) := bc_ BK962 0; have hcz107_1 : w101.cell? ⟨gb962, 1, none⟩ = some (.slice Ao54 t953.length co54) := bc_ BK962 1; have hfz107_0 := blk_frozen BK962.out 0; have hfz107_1 := blk_frozen BK962.out 1; obtain ⟨Ao108, co108, eo108⟩ := Kd.R_slice HO_963000.out; subst eo108) | ((with_reducible refine gate_callee (f := 19) rfl ?_); refine goesL_ (some 143) rfl rfl Tryd.func19 (by decide +kernel) rfl #[.agg #[.slice Ao108 x963000_2.length co108, .slice Ao54 t953.length co54], .slice Ao64 x12_3.length co64] rfl ls_ ?_; (with_reducible refine (exits_Out.calls _ _ x963000_2 _ _ t953 _ _ x12_3 t977 t978 t979 _ ?side7 ?side1 ?side2 ?side3 ?side4 ?side5 ?side6 A80.out).mono ?_); (case side1 => refine (Kd.R_reads' (e := 62) (base := w.heap.size) (ok := fun k_ => True) (n := x963000_2.length) (c := co108) ?_).2.2; exact (by (with_reducible repeat (first | apply Kd.R_alloc | apply Kd.R_drewN | apply Kd.R_drew)); exact (Kd.R_mono (Kd.R_far (p := ⟨gb976, 1, none⟩) (Kd.R_far (p := ⟨gb976, 0, none⟩) (Kd.R_types HO_963000.out BK976.out (by decide)) (fun _ hk => hk.2) (.int .i64 t973)) (fun _ hk => hk.2) (.int .i64 t974)) (fun _ h_ => h_.1)))); (case side2 => exact (Kd.R_reads' HO_963000.out).2.1); (case side3 => refine (Kd.R_reads' (e := 81) (base := w.heap.size) (ok := fun k_ => True) (n := t953.length) (c := co54) ?_).2.2; exact (by (with_reducible repeat (first | apply Kd.R_alloc | apply Kd.R_drewN | apply Kd.R_drew)); exact (Kd.R_mono (Kd.R_far (p := ⟨gb976, 1, none⟩) (Kd.R_far (p := ⟨gb976, 0, none⟩) (Kd.R_types HO_963001.out BK976.out (by decide)) (fun _ hk => hk.2) (.int .i64 t973)) (fun _ hk => hk.2) (.int .i64 t974)) (fun _ h_ => h_.1)))); (case side4 => exact (Kd.R_reads' HO_963001.out).2.1); (case side5 => refine (Kd.R_reads' (e := 48) (base := w.heap.size) (ok := fun k_ => (some k_ ≠ (v946 : Value).ownBlock ∧ k_ ≠ gb934)) (n := x12_3.length) (c := co64) ?_).2.2; exact (by (with_reducible repeat (first | apply Kd.R_alloc | apply Kd.R_drewN | apply Kd.R_drew)); exact (Kd.R_mono (Kd.R_far (p := ⟨gb976, 1, none⟩) (Kd.R_far (p := ⟨gb976, 0, none⟩) (Kd.R_types HO_12.out BK976.out (by decide)) (fun _ hk => hk.2) (.int .i64 t973)) (fun _ hk => hk.2) (.int .i64 t974)) (fun _ h_ => h_.1)))); (case side6 => exact (Kd.R_reads' HO_12.out).2.1); (case side7 => exact GlobsE.below HG.out.1 (by repeat (first | (with_reducible first | exact HB.out | apply below_alloc | apply pw_below_drewN | apply below_drew1 | refine below_set ?_ GE933.out | refine below_set ?_ GE934.out | refine below_set ?_ GE962.out | refine below_set ?_ GE976.out) | exact HB.out))); rintro e w109 ⟨rfl, hb⟩; refine ⟨_, rfl, ?_⟩; replace HO_10 := Aside0.mk (Kd.R_below (by (with_reducible repeat (first | apply Kd.R_alloc | apply Kd.R_drewN | apply Kd.R_drew)); exact (Kd.R_mono (Kd.R_far (p := ⟨gb976, 1, none⟩) (Kd.R_far (p := ⟨gb976, 0, none⟩) (Kd.R_types HO_10.out BK976.out (by decide)) (fun _ hk => hk.2) (.int .i64 t973)) (fun _ hk => hk.2) (.int .i64 t974)) (fun _ h_ => h_.1))) hb); replace HO_12 := Aside0.mk (Kd.R_below (by (with_reducible repeat (first | apply Kd.R_alloc | apply Kd.R_drewN | apply Kd.R_drew)); exact (Kd.R_mono (Kd.R_far (p := ⟨gb976, 1, none⟩) (Kd.R_far (p := ⟨gb976, 0, none⟩) (Kd.R_types HO_12.out BK976.out (by decide)) (fun _ hk => hk.2) (.int .i64 t973)) (fun _ hk => hk.2) (.int .i64 t974)) (fun _ h_ => h_.1))) hb); replace HO_963000 := Aside0.mk (Kd.R_below (by (with_reducible repeat (first | apply Kd.R_alloc | apply Kd.R_drewN | apply Kd.R_drew)); exact (Kd.R_mono (Kd.R_far (p := ⟨gb976, 1, none⟩) (Kd.R_far (p := ⟨gb976, 0, none⟩) (Kd.R_types HO_963000.out BK976.out (by decide)) (fun _ hk => hk.2) (.int .i64 t973)) (fun _ hk => hk.2) (.int .i64 t974)) (fun _ h_ => h_.1))) hb); replace HO_963001 := Aside0.mk (Kd.R_below (by (with_reducible repeat (first | apply Kd.R_alloc | apply Kd.R_drewN | apply Kd.R_drew)); exact (Kd.R_mono (Kd.R_far (p := ⟨gb976, 1, none⟩) (Kd.R_far (p := ⟨gb976, 0, none⟩) (Kd.R_types HO_963001.out BK976.out (by decide)) (fun _ hk => hk.2) (.int .i64 t973)) (fun _ hk => hk.2) (.int .i64 t974)) (fun _ h_ => h_.1))) hb); replace BK933 := Aside0.mk (blk_below (g := gb933) (o := .cells #[.slice A0_0 l0_0.length c0_0, .slice A0_1 l0_1.length c0_1] 25 (0, 0)) (by refine bx_ ?_; refine blk_far ?_ NB933_976.out _; refine bx_ ?_; refine blk_far ?_ NB933_976.out _; refine bx_ ?_; exact BK933.out) hb); replace BK934 := Aside0.mk (blk_below (g := gb934) (o := .cells #[.int .i64 a3_0, .int .i64 x935001_3, .int .i64 x935002_3, .int .i64 a3_3, .int .i64 a3_4] 48 (0, 0)) (by refine bx_ ?_; refine blk_far ?_ NB934_976.out _; refine bx_ ?_; refine blk_far ?_ NB934_976.out _; refine bx_ ?_; exact BK934.out) hb); replace BK962 := Aside0.mk (blk_below (g := gb962) (o := .cells #[.slice Ao108 x963000_2.length co108, .slice Ao54 t953.length co54] 25 (0, 0)) (by refine bx_ ?_; refine blk_far ?_ NB962_976.out _; refine bx_ ?_; refine blk_far ?_ NB962_976.out _; refine bx_ ?_; exact BK962.out) hb); replace BK976 := Aside0.mk (blk_below (g := gb976) (o := .cells #[.int .i64 t973, .int .i64 t974] 36 (0, 0)) (by refine bx_ ?_; refine blk_put (cs := #[.int .i64 t973, .int .i64 0]) ?_ 1 _ rfl; refine bx_ ?_; refine blk_put (cs := #[.int .i64 0, .int .i64 0]) ?_ 0 _ rfl; refine bx_ ?_; exact BK976.out) hb); replace HB := Aside0.mk (below_step (by repeat (first | (with_reducible first | exact HB.out | apply below_alloc | apply pw_below_drewN | apply below_drew1 | refine below_set ?_ GE933.out | refine below_set ?_ GE934.out | refine below_set ?_ GE962.out | refine below_set ?_ GE976.out) | exact HB.out)) hb); (try clear hb); (try clear hb2); (try clear hk); (try clear hi)) | ((with_reducible refine gate_dst (N := 17) rfl ?_); refine box_event ?hg (N := 17) ?hd (cs := #[.int .i64 0, .int .i64 0]) (t := 36) ?hr ?_; (case hd => rfl); (case hg => rfl); (case hr => exact gs_); intro gb980 hg w110 hbox hb; replace HO_10 := rb_ HO_10 hb; replace HO_12 := rb_ HO_12 hb; replace HO_963000 := rb_ HO_963000 hb; replace HO_963001 := rb_ HO_963001 hb; have BK980 := Aside0.mk (hbox); have GW980 := Aside0.mk ((by rw [hg]; exact (below_size (by repeat (first | (with_reducible first | exact HB.out | apply below_alloc | apply pw_below_drewN | apply below_drew1 | refine below_set ?_ GE933.out | refine below_set ?_ GE934.out | refine below_set ?_ GE962.out | refine below_set ?_ GE976.out) | exact HB.out))) : w.heap.size ≤ gb980)); have GE980 := Aside0.mk ((by rw [hg]; exact (below_size (by repeat (first | (with_reducible first | exact HB.out | apply below_alloc | apply pw_below_drewN | apply below_drew1 | refine below_set ?_ GE933.out | refine below_set ?_ GE934.out | refine below_set ?_ GE962.out | refine below_set ?_ GE976.out) | exact HB.out))) : w.heap.size ≤ gb980)); replace HB := Aside0.mk (below_step (by repeat (first | (with_reducible first | exact HB.out | apply below_alloc | apply pw_below_drewN | apply below_drew1 | refine below_set ?_ GE933.out | refine below_set ?_ GE934.out | refine below_set ?_ GE962.out | refine below_set ?_ GE976.out) | exact HB.out)) hb); have NB933_980 := Aside0.mk ((by rw [hg]; exact Nat.ne_of_lt (blk_lt (bk_ BK933)) : gb933 ≠ gb980)); have NB980_933 := Aside0.mk ((by rw [hg]; exact Nat.ne_of_gt (blk_lt (bk_ BK933)) : gb980 ≠ gb933)); replace BK933 := bb_ BK933 hb; have NB934_980 := Aside0.mk ((by rw [hg]; exact Nat.ne_of_lt (blk_lt (bk_ BK934)) : gb934 ≠ gb980)); have NB980_934 := Aside0.mk ((by rw [hg]; exact Nat.ne_of_gt (blk_lt (bk_ BK934)) : gb980 ≠ gb934)); replace BK934 := bb_ BK934 hb; have NB962_980 := Aside0.mk ((by rw [hg]; exact Nat.ne_of_lt (blk_lt (bk_ BK962)) : gb962 ≠ gb980)); have NB980_962 := Aside0.mk ((by rw [hg]; exact Nat.ne_of_gt (blk_lt (bk_ BK962)) : gb980 ≠ gb962)); replace BK962 := bb_ BK962 hb; have NB976_980 := Aside0.mk ((by rw [hg]; exact Nat.ne_of_lt (blk_lt (bk_ BK976)) : gb976 ≠ gb980)); have NB980_976 := Aside0.mk ((by rw [hg]; exact Nat.ne_of_gt (blk_lt (bk_ BK976)) : gb980 ≠ gb976)); replace BK976 := bb_ BK976 hb; clear hb hbox hg; have hnb111 := NB980_933.out; have hnc111 := NB933_980.out; have hnb112 := NB980_934.out; have hnc112 := NB934_980.out; have hnb113 := NB980_962.out; have hnc113 := NB962_980.out; have hnb114 := NB980_976.out; have hnc114 := NB976_980.out; have hcz115_0 : w110.cell? ⟨gb980, 0, none⟩ = some (.int .i64 0) := bc_ BK980 0; have hcz115_1 : w110.cell? ⟨gb980, 1, none⟩ = some (.int .i64 0) := bc_ BK980 1; have hfz115_0 := blk_frozen BK980.out 0; have hfz115_1 := blk_frozen BK980.out 1; have hcz116_0 : w110.cell? ⟨gb933, 0, none⟩ = some (.slice A0_0 l0_0.length c0_0) := bc_ BK933 0; have hcz116_1 : w110.cell? ⟨gb933, 1, none⟩ = some (.slice A0_1 l0_1.length c0_1) := bc_ BK933 1; have hfz116_0 := blk_frozen BK933.out 0; have hfz116_1 := blk_frozen BK933.out 1; obtain ⟨Ao117, co117, eo117⟩ := Kd.R_slice HO_10.out; subst eo117) | ((with_reducible refine gate_callee (f := 19) rfl ?_); refine goesL_ (some 149) rfl rfl Tryd.func19 (by decide +kernel) rfl #[.agg #[.slice A0_0 l0_0.length c0_0, .slice A0_1 l0_1.length c0_1], .slice Ao117 y945.length co117] rfl ls_ ?_; (with_reducible refine (exits_Out.calls _ _ l0_0 _ _ l0_1 _ _ y945 t981 t982 t983 _ ?side7 ?side1 ?side2 ?side3 ?side4 ?side5 ?side6 A81.out).mono ?_); (case side1 => exact Kd.C_below HR0_0.out (by repeat (first | (with_reducible first | exact HB.out | apply below_alloc | apply pw_below_drewN | apply below_drew1 | refine below_set ?_ GE933.out | refine below_set ?_ GE934.out | refine below_set ?_ GE962.out | refine below_set ?_ GE976.out | refine below_set ?_ GE980.out) | exact HB.out))); (case side2 => exact HC0_0.out); (case side3 => exact Kd.C_below HR0_1.out (by repeat (first | (with_reducible first | exact HB.out | apply below_alloc | apply pw_below_drewN | apply below_drew1 | refine below_set ?_ GE933.out | refine below_set ?_ GE934.out | refine below_set ?_ GE962.out | refine below_set ?_ GE976.out | refine below_set ?_ GE980.out) | exact HB.out))); (case side4 => exact HC0_1.out); (case side5 => refine (Kd.R_reads' (e := 48) (base := w.heap.size) (ok := fun k_ => (some k_ ≠ (.slice Ao64 x12_3.length co64 : Value).ownBlock ∧ k_ ≠ gb934)) (n := y945.length) (c := co117) ?_).2.2; exact (by (with_reducible repeat (first | apply Kd.R_alloc | apply Kd.R_drewN | apply Kd.R_drew)); exact (Kd.R_mono (Kd.R_far (p := ⟨gb980, 1, none⟩) (Kd.R_far (p := ⟨gb980, 0, none⟩) (Kd.R_types HO_10.out BK980.out (by decide)) (fun _ hk => hk.2) (.int .i64 t977)) (fun _ hk => hk.2) (.int .i64 t978)) (fun _ h_ => h_.1)))); (case side6 => exact (Kd.R_reads' HO_10.out).2.1); (case side7 => exact GlobsE.below HG.out.1 (by repeat (first | (with_reducible first | exact HB.out | apply below_alloc | apply pw_below_drewN | apply below_drew1 | refine below_set ?_ GE933.out | refine below_set ?_ GE934.out | refine below_set ?_ GE962.out | refine below_set ?_ GE976.out | refine below_set ?_ GE980.out) | exact HB.out))); rintro e w118 ⟨rfl, hb⟩; refine ⟨_, rfl, ?_⟩; replace HO_10 := Aside0.mk (Kd.R_below (by (with_reducible repeat (first | apply Kd.R_alloc | apply Kd.R_drewN | apply Kd.R_drew)); exact (Kd.R_mono (Kd.R_far (p := ⟨gb980, 1, none⟩) (Kd.R_far (p := ⟨gb980, 0, none⟩) (Kd.R_types HO_10.out BK980.out (by decide)) (fun _ hk => hk.2) (.int .i64 t977)) (fun _ hk => hk.2) (.int .i64 t978)) (fun _ h_ => h_.1))) hb); replace HO_12 := Aside0.mk (Kd.R_below (by (with_reducible repeat (first | apply Kd.R_alloc | apply Kd.R_drewN | apply Kd.R_drew)); exact (Kd.R_mono (Kd.R_far (p := ⟨gb980, 1, none⟩) (Kd.R_far (p := ⟨gb980, 0, none⟩) (Kd.R_types HO_12.out BK980.out (by decide)) (fun _ hk => hk.2) (.int .i64 t977)) (fun _ hk => hk.2) (.int .i64 t978)) (fun _ h_ => h_.1))) hb); replace HO_963000 := Aside0.mk (Kd.R_below (by (with_reducible repeat (first | apply Kd.R_alloc | apply Kd.R_drewN | apply Kd.R_drew)); exact (Kd.R_mono (Kd.R_far (p := ⟨gb980, 1, none⟩) (Kd.R_far (p := ⟨gb980, 0, none⟩) (Kd.R_types HO_963000.out BK980.out (by decide)) (fun _ hk => hk.2) (.int .i64 t977)) (fun _ hk => hk.2) (.int .i64 t978)) (fun _ h_ => h_.1))) hb); replace HO_963001 := Aside0.mk (Kd.R_below (by (with_reducible repeat (first | apply Kd.R_alloc | apply Kd.R_drewN | apply Kd.R_drew)); exact (Kd.R_mono (Kd.R_far (p := ⟨gb980, 1, none⟩) (Kd.R_far (p := ⟨gb980, 0, none⟩) (Kd.R_types HO_963001.out BK980.out (by decide)) (fun _ hk => hk.2) (.int .i64 t977)) (fun _ hk => hk.2) (.int .i64 t978)) (fun _ h_ => h_.1))) hb); replace BK933 := Aside0.mk (blk_below (g := gb933) (o := .cells #[.slice A0_0 l0_0.length c0_0, .slice A0_1 l0_1.length c0_1] 25 (0, 0)) (by refine bx_ ?_; refine blk_far ?_ NB933_980.out _; refine bx_ ?_; refine blk_far ?_ NB933_980.out _; refine bx_ ?_; exact BK933.out) hb); replace BK934 := Aside0.mk (blk_below (g := gb934) (o := .cells #[.int .i64 a3_0, .int .i64 x935001_3, .int .i64 x935002_3, .int .i64 a3_3, .int .i64 a3_4] 48 (0, 0)) (by refine bx_ ?_; refine blk_far ?_ NB934_980.out _; refine bx_ ?_; refine blk_far ?_ NB934_980.out _; refine bx_ ?_; exact BK934.out) hb); replace BK962 := Aside0.mk (blk_below (g := gb962) (o := .cells #[.slice Ao108 x963000_2.length co108, .slice Ao54 t953.length co54] 25 (0, 0)) (by refine bx_ ?_; refine blk_far ?_ NB962_980.out _; refine bx_ ?_; refine blk_far ?_ NB962_980.out _; refine bx_ ?_; exact BK962.out) hb); replace BK976 := Aside0.mk (blk_below (g := gb976) (o := .cells #[.int .i64 t973, .int .i64 t974] 36 (0, 0)) (by refine bx_ ?_; refine blk_far ?_ NB976_980.out _; refine bx_ ?_; refine blk_far ?_ NB976_980.out _; refine bx_ ?_; exact BK976.out) hb); replace BK980 := Aside0.mk (blk_below (g := gb980) (o := .cells #[.int .i64 t977, .int .i64 t978] 36 (0, 0)) (by refine bx_ ?_; refine blk_put (cs := #[.int .i64 t977, .int .i64 0]) ?_ 1 _ rfl; refine bx_ ?_; refine blk_put (cs := #[.int .i64 0, .int .i64 0]) ?_ 0 _ rfl; refine bx_ ?_; exact BK980.out) hb); replace HB := Aside0.mk (below_step (by repeat (first | (with_reducible first | exact HB.out | apply below_alloc | apply pw_below_drewN | apply below_drew1 | refine below_set ?_ GE933.out | refine below_set ?_ GE934.out | refine below_set ?_ GE962.out | refine below_set ?_ GE976.out | refine below_set ?_ GE980.out) | exact HB.out)) hb); (try clear hb); (try clear hb2); (try clear hk); (try clear hi)) | ((with_reducible refine gate_dst (N := 19) rfl ?_); refine box_event ?hg (N := 19) ?hd (cs := #[.int .i64 0, .int .i64 0]) (t := 36) ?hr ?_; (case hd => rfl); (case hg => rfl); (case hr => exact gs_); intro gb984 hg w119 hbox hb; replace HO_10 := rb_ HO_10 hb; replace HO_12 := rb_ HO_12 hb; replace HO_963000 := rb_ HO_963000 hb; replace HO_963001 := rb_ HO_963001 hb; have BK984 := Aside0.mk (hbox); have GW984 := Aside0.mk ((by rw [hg]; exact (below_size (by repeat (first | (with_reducible first | exact HB.out | apply below_alloc | apply pw_below_drewN | apply below_drew1 | refine below_set ?_ GE933.out | refine below_set ?_ GE934.out | refine below_set ?_ GE962.out | refine below_set ?_ GE976.out | refine below_set ?_ GE980.out) | exact HB.out))) : w.heap.size ≤ gb984)); have GE984 := Aside0.mk ((by rw [hg]; exact (below_size (by repeat (first | (with_reducible first | exact HB.out | apply below_alloc | apply pw_below_drewN | apply below_drew1 | refine below_set ?_ GE933.out | refine below_set ?_ GE934.out | refine below_set ?_ GE962.out | refine below_set ?_ GE976.out | refine below_set ?_ GE980.out) | exact HB.out))) : w.heap.size ≤ gb984)); replace HB := Aside0.mk (below_step (by repeat (first | (with_reducible first | exact HB.out | apply below_alloc | apply pw_below_drewN | apply below_drew1 | refine below_set ?_ GE933.out | refine below_set ?_ GE934.out | refine below_set ?_ GE962.out | refine below_set ?_ GE976.out | refine below_set ?_ GE980.out) | exact HB.out)) hb); have NB933_984 := Aside0.mk ((by rw [hg]; exact Nat.ne_of_lt (blk_lt (bk_ BK933)) : gb933 ≠ gb984)); have NB984_933 := Aside0.mk ((by rw [hg]; exact Nat.ne_of_gt (blk_lt (bk_ BK933)) : gb984 ≠ gb933)); replace BK933 := bb_ BK933 hb; have NB934_984 := Aside0.mk ((by rw [hg]; exact Nat.ne_of_lt (blk_lt (bk_ BK934)) : gb934 ≠ gb984)); have NB984_934 := Aside0.mk ((by rw [hg]; exact Nat.ne_of_gt (blk_lt (bk_ BK934)) : gb984 ≠ gb934)); replace BK934 := bb_ BK934 hb; have NB962_984 := Aside0.mk ((by rw [hg]; exact Nat.ne_of_lt (blk_lt (bk_ BK962)) : gb962 ≠ gb984)); have NB984_962 := Aside0.mk ((by rw [hg]; exact Nat.ne_of_gt (blk_lt (bk_ BK962)) : gb984 ≠ gb962)); replace BK962 := bb_ BK962 hb; have NB976_984 := Aside0.mk ((by rw [hg]; exact Nat.ne_of_lt (blk_lt (bk_ BK976)) : gb976 ≠ gb984)); have NB984_976 := Aside0.mk ((by rw [hg]; exact Nat.ne_of_gt (blk_lt (bk_ BK976)) : gb984 ≠ gb976)); replace BK976 := bb_ BK976 hb; have NB980_984 := Aside0.mk ((by rw [hg]; exact Nat.ne_of_lt (blk_lt (bk_ BK980)) : gb980 ≠ gb984)); have NB984_980 := Aside0.mk ((by rw [hg]; exact Nat.ne_of_gt (blk_lt (bk_ BK980)) : gb984 ≠ gb980)); replace BK980 := bb_ BK980 hb; clear hb hbox hg; have hnb120 := NB984_933.out; have hnc120 := NB933_984.out; have hnb121 := NB984_934.out; have hnc121 := NB934_984.out; have hnb122 := NB984_962.out; have hnc122 := NB962_984.out; have hnb123 := NB984_976.out; have hnc123 := NB976_984.out; have hnb124 := NB984_980.out; have hnc124 := NB980_984.out; have hcz125_0 : w119.cell? ⟨gb984, 0, none⟩ = some (.int .i64 0) := bc_ BK984 0; have hcz125_1 : w119.cell? ⟨gb984, 1, none⟩ = some (.int .i64 0) := bc_ BK984 1; have hfz125_0 := blk_frozen BK984.out 0; have hfz125_1 := blk_frozen BK984.out 1; have hcz126_0 : w119.cell? ⟨gb933, 0, none⟩ = some (.slice A0_0 l0_0.length c0_0) := bc_ BK933 0; have hcz126_1 : w119.cell? ⟨gb933, 1, none⟩ = some (.slice A0_1 l0_1.length c0_1) := bc_ BK933 1; have hfz126_0 := blk_frozen BK933.out 0; have hfz126_1 := blk_frozen BK933.out 1) | ((with_reducible refine gate_callee (f := 26) rfl ?_); refine goesL_ (some 155) rfl rfl Tryd.func26 (by decide +kernel) rfl #[.agg #[.slice A0_0 l0_0.length c0_0, .slice A0_1 l0_1.length c0_1], .slice A1 l1.length c1] rfl ls_ ?_; (with_reducible refine (exits_Safe.calls _ _ l0_0 _ _ l0_1 _ _ l1 t985 t986 t987 t988 _ ?side7 ?side1 ?side2 ?side3 ?side4 ?side5 ?side6 A82.out).mono ?_); (case side1 => exact Kd.C_below HR0_0.out (by repeat (first | (with_reducible first | exact HB.out | apply below_alloc | apply pw_below_drewN | apply below_drew1 | refine below_set ?_ GE933.out | refine below_set ?_ GE934.out | refine below_set ?_ GE962.out | refine below_set ?_ GE976.out | refine below_set ?_ GE980.out | refine below_set ?_ GE984.out) | exact HB.out))); (case side2 => exact HC0_0.out); (case side3 => exact Kd.C_below HR0_1.out (by repeat (first | (with_reducible first | exact HB.out | apply below_alloc | apply pw_below_drewN | apply below_drew1 | refine below_set ?_ GE933.out | refine below_set ?_ GE934.out | refine below_set ?_ GE962.out | refine below_set ?_ GE976.out | refine below_set ?_ GE980.out | refine below_set ?_ GE984.out) | exact HB.out))); (case side4 => exact HC0_1.out); (case side5 => exact Kd.C_below HR1.out (by repeat (first | (with_reducible first | exact HB.out | apply below_alloc | apply pw_below_drewN | apply below_drew1 | refine below_set ?_ GE933.out | refine below_set ?_ GE934.out | refine below_set ?_ GE962.out | refine below_set ?_ GE976.out | refine below_set ?_ GE980.out | refine below_set ?_ GE984.out) | exact HB.out))); (case side6 => exact HC1.out); (case side7 => exact Globs.below HG.out (by repeat (first | (with_reducible first | exact HB.out | apply below_alloc | apply pw_below_drewN | apply below_drew1 | refine below_set ?_ GE933.out | refine below_set ?_ GE934.out | refine below_set ?_ GE962.out | refine below_set ?_ GE976.out | refine below_set ?_ GE980.out | refine below_set ?_ GE984.out) | exact HB.out))); rintro e w127 ⟨rfl, hb⟩; refine ⟨_, rfl, ?_⟩; replace HO_10 := Aside0.mk (Kd.R_below (by (with_reducible repeat (first | apply Kd.R_alloc | apply Kd.R_drewN | apply Kd.R_drew)); exact (Kd.R_mono (Kd.R_far (p := ⟨gb984, 1, none⟩) (Kd.R_far (p := ⟨gb984, 0, none⟩) (Kd.R_types HO_10.out BK984.out (by decide)) (fun _ hk => hk.2) (.int .i64 t981)) (fun _ hk => hk.2) (.int .i64 t982)) (fun _ h_ => h_.1))) hb); replace HO_12 := Aside0.mk (Kd.R_below (by (with_reducible repeat (first | apply Kd.R_alloc | apply Kd.R_drewN | apply Kd.R_drew)); exact (Kd.R_mono (Kd.R_far (p := ⟨gb984, 1, none⟩) (Kd.R_far (p := ⟨gb984, 0, none⟩) (Kd.R_types HO_12.out BK984.out (by decide)) (fun _ hk => hk.2) (.int .i64 t981)) (fun _ hk => hk.2) (.int .i64 t982)) (fun _ h_ => h_.1))) hb); replace HO_963000 := Aside0.mk (Kd.R_below (by (with_reducible repeat (first | apply Kd.R_alloc | apply Kd.R_drewN | apply Kd.R_drew)); exact (Kd.R_mono (Kd.R_far (p := ⟨gb984, 1, none⟩) (Kd.R_far (p := ⟨gb984, 0, none⟩) (Kd.R_types HO_963000.out BK984.out (by decide)) (fun _ hk => hk.2) (.int .i64 t981)) (fun _ hk => hk.2) (.int .i64 t982)) (fun _ h_ => h_.1))) hb); replace HO_963001 := Aside0.mk (Kd.R_below (by (with_reducible repeat (first | apply Kd.R_alloc | apply Kd.R_drewN | apply Kd.R_drew)); exact (Kd.R_mono (Kd.R_far (p := ⟨gb984, 1, none⟩) (Kd.R_far (p := ⟨gb984, 0, none⟩) (Kd.R_types HO_963001.out BK984.out (by decide)) (fun _ hk => hk.2) (.int .i64 t981)) (fun _ hk => hk.2) (.int .i64 t982)) (fun _ h_ => h_.1))) hb); replace BK933 := Aside0.mk (blk_below (g := gb933) (o := .cells #[.slice A0_0 l0_0.length c0_0, .slice A0_1 l0_1.length c0_1] 25 (0, 0)) (by refine bx_ ?_; refine blk_far ?_ NB933_984.out _; refine bx_ ?_; refine blk_far ?_ NB933_984.out _; refine bx_ ?_; exact BK933.out) hb); replace BK934 := Aside0.mk (blk_below (g := gb934) (o := .cells #[.int .i64 a3_0, .int .i64 x935001_3, .int .i64 x935002_3, .int .i64 a3_3, .int .i64 a3_4] 48 (0, 0)) (by refine bx_ ?_; refine blk_far ?_ NB934_984.out _; refine bx_ ?_; refine blk_far ?_ NB934_984.out _; refine bx_ ?_; exact BK934.out) hb); replace BK962 := Aside0.mk (blk_below (g := gb962) (o := .cells #[.slice Ao108 x963000_2.length co108, .slice Ao54 t953.length co54] 25 (0, 0)) (by refine bx_ ?_; refine blk_far ?_ NB962_984.out _; refine bx_ ?_; refine blk_far ?_ NB962_984.out _; refine bx_ ?_; exact BK962.out) hb); replace BK976 := Aside0.mk (blk_below (g := gb976) (o := .cells #[.int .i64 t973, .int .i64 t974] 36 (0, 0)) (by refine bx_ ?_; refine blk_far ?_ NB976_984.out _; refine bx_ ?_; refine blk_far ?_ NB976_984.out _; refine bx_ ?_; exact BK976.out) hb); replace BK980 := Aside0.mk (blk_below (g := gb980) (o := .cells #[.int .i64 t977, .int .i64 t978] 36 (0, 0)) (by refine bx_ ?_; refine blk_far ?_ NB980_984.out _; refine bx_ ?_; refine blk_far ?_ NB980_984.out _; refine bx_ ?_; exact BK980.out) hb); replace BK984 := Aside0.mk (blk_below (g := gb984) (o := .cells #[.int .i64 t981, .int .i64 t982] 36 (0, 0)) (by refine bx_ ?_; refine blk_put (cs := #[.int .i64 t981, .int .i64 0]) ?_ 1 _ rfl; refine bx_ ?_; refine blk_put (cs := #[.int .i64 0, .int .i64 0]) ?_ 0 _ rfl; refine bx_ ?_; exact BK984.out) hb); replace HB := Aside0.mk (below_step (by repeat (first | (with_reducible first | exact HB.out | apply below_alloc | apply pw_below_drewN | apply below_drew1 | refine below_set ?_ GE933.out | refine below_set ?_ GE934.out | refine below_set ?_ GE962.out | refine below_set ?_ GE976.out | refine below_set ?_ GE980.out | refine below_set ?_ GE984.out) | exact HB.out)) hb); (try clear hb); (try clear hb2); (try clear hk); (try clear hi); have hcz128_0 : w127.cell? ⟨gb962, 0, none⟩ = some (.slice Ao108 x963000_2.length co108) := bc_ BK962 0; have hcz128_1 : w127.cell? ⟨gb962, 1, none⟩ = some (.slice Ao54 t953.length co54) := bc_ BK962 1; have hfz128_0 := blk_frozen BK962.out 0; have hfz128_1 := blk_frozen BK962.out 1) | ((with_reducible refine gate_callee (f := 26) rfl ?_); refine goesL_ (some 163) rfl rfl Tryd.func26 (by decide +kernel) rfl #[.agg #[.slice Ao108 x963000_2.length co108, .slice Ao54 t953.length co54], .slice Ao64 x12_3.length co64] rfl ls_ ?_; (with_reducible refine (exits_Safe.calls _ _ x963000_2 _ _ t953 _ _ x12_3 t989 t990 t991 t992 _ ?side7 ?side1 ?side2 ?side3 ?side4 ?side5 ?side6 A83.out).mono ?_); (case side1 => exact kd_ (Kd.R_reads' HO_963000.out).2.2); (case side2 => exact (Kd.R_reads' HO_963000.out).2.1); (case side3 => exact kd_ (Kd.R_reads' HO_963001.out).2.2); (case side4 => exact (Kd.R_reads' HO_963001.out).2.1); (case side5 => exact kd_ (Kd.R_reads' HO_12.out).2.2); (case side6 => exact (Kd.R_reads' HO_12.out).2.1); (case side7 => exact Globs.below HG.out (by repeat (first | (with_reducible first | exact HB.out | apply below_alloc | apply pw_below_drewN | apply below_drew1 | refine below_set ?_ GE933.out | refine below_set ?_ GE934.out | refine below_set ?_ GE962.out | refine below_set ?_ GE976.out | refine below_set ?_ GE980.out | refine below_set ?_ GE984.out) | exact HB.out))); rintro e w129 ⟨rfl, hb⟩; refine ⟨_, rfl, ?_⟩; replace HO_10 := rb_ HO_10 hb; replace HO_12 := rb_ HO_12 hb; replace HO_963000 := rb_ HO_963000 hb; replace HO_963001 := rb_ HO_963001 hb; replace BK933 := bb_ BK933 hb; replace BK934 := bb_ BK934 hb; replace BK962 := bb_ BK962 hb; replace BK976 := bb_ BK976 hb; replace BK980 := bb_ BK980 hb; replace BK984 := bb_ BK984 hb; replace HB := Aside0.mk (below_step (by repeat (first | (with_reducible first | exact HB.out | apply below_alloc | apply pw_below_drewN | apply below_drew1 | refine below_set ?_ GE933.out | refine below_set ?_ GE934.out | refine below_set ?_ GE962.out | refine below_set ?_ GE976.out | refine below_set ?_ GE980.out | refine below_set ?_ GE984.out) | exact HB.out)) hb); (try clear hb); (try clear hb2); (try clear hk); (try clear hi); have hcz130_0 : w129.cell? ⟨gb933, 0, none⟩ = some (.slice A0_0 l0_0.length c0_0) := bc_ BK933 0; have hcz130_1 : w129.cell? ⟨gb933, 1, none⟩ = some (.slice A0_1 l0_1.length c0_1) := bc_ BK933 1; have hfz130_0 := blk_frozen BK933.out 0; have hfz130_1 := blk_frozen BK933.out 1) | ((with_reducible refine gate_callee (f := 26) rfl ?_); refine goesL_ (some 171) rfl rfl Tryd.func26 (by decide +kernel) rfl #[.agg #[.slice A0_0 l0_0.length c0_0, .slice A0_1 l0_1.length c0_1], .slice Ao117 y945.length co117] rfl ls_ ?_; (with_reducible refine (exits_Safe.calls _ _ l0_0 _ _ l0_1 _ _ y945 t993 t994 t995 t996 _ ?side7 ?side1 ?side2 ?side3 ?side4 ?side5 ?side6 A84.out).mono ?_); (case side1 => exact kc_ HR0_0 HB); (case side2 => exact HC0_0.out); (case side3 => exact kc_ HR0_1 HB); (case side4 => exact HC0_1.out); (case side5 => exact kd_ (Kd.R_reads' HO_10.out).2.2); (case side6 => exact (Kd.R_reads' HO_10.out).2.1); (case side7 => exact Globs.below HG.out (by repeat (first | (with_reducible first | exact HB.out | apply below_alloc | apply pw_below_drewN | apply below_drew1 | refine below_set ?_ GE933.out | refine below_set ?_ GE934.out | refine below_set ?_ GE962.out | refine below_set ?_ GE976.out | refine below_set ?_ GE980.out | refine below_set ?_ GE984.out) | exact HB.out))); rintro e w131 ⟨rfl, hb⟩; refine ⟨_, rfl, ?_⟩; replace HO_10 := rb_ HO_10 hb; replace HO_12 := rb_ HO_12 hb; replace HO_963000 := rb_ HO_963000 hb; replace HO_963001 := rb_ HO_963001 hb; replace BK933 := bb_ BK933 hb; replace BK934 := bb_ BK934 hb; replace BK962 := bb_ BK962 hb; replace BK976 := bb_ BK976 hb; replace BK980 := bb_ BK980 hb; replace BK984 := bb_ BK984 hb; replace HB := Aside0.mk (below_step (by repeat (first | (with_reducible first | exact HB.out | apply below_alloc | apply pw_below_drewN | apply below_drew1 | refine below_set ?_ GE933.out | refine below_set ?_ GE934.out | refine below_set ?_ GE962.out | refine below_set ?_ GE976.out | refine below_set ?_ GE980.out | refine below_set ?_ GE984.out) | exact HB.out)) hb); (try clear hb); (try clear hb2); (try clear hk); (try clear hi); have hcz132_0 : w131.cell? ⟨gb980, 0, none⟩ = some (.int .i64 t977) := bc_ BK980 0; have hcz132_1 : w131.cell? ⟨gb980, 1, none⟩ = some (.int .i64 t978) := bc_ BK980 1; have hfz132_0 := blk_frozen BK980.out 0; have hfz132_1 := blk_frozen BK980.out 1; have hcz133_0 : w131.cell? ⟨gb976, 0, none⟩ = some (.int .i64 t973) := bc_ BK976 0; have hcz133_1 : w131.cell? ⟨gb976, 1, none⟩ = some (.int .i64 t974) := bc_ BK976 1; have hfz133_0 := blk_frozen BK976.out 0; have hfz133_1 := blk_frozen BK976.out 1; have hcz134_0 : w131.cell? ⟨gb984, 0, none⟩ = some (.int .i64 t981) := bc_ BK984 0; have hcz134_1 : w131.cell? ⟨gb984, 1, none⟩ = some (.int .i64 t982) := bc_ BK984 1; have hfz134_0 := blk_frozen BK984.out 0; have hfz134_1 := blk_frozen BK984.out 1))
                           go_ret
                           exact ⟨rf_, by repeat (first | (with_reducible first | exact HB.out | apply below_alloc | apply pw_below_drewN | apply below_drew1 | refine below_set ?_ GE933.out | refine below_set ?_ GE934.out | refine below_set ?_ GE962.out | refine below_set ?_ GE976.out | refine below_set ?_ GE980.out | refine below_set ?_ GE984.out) | exact HB.out)⟩
                          ·rw [if_neg c96] at H
                           have c96b0 : decide (t989 ≤ t985) = false := decide_eq_false c96
                           clear c96
                           exact absurd (H.trans (congrArg some HRT.out)) (by simp)
                         ·rw [if_neg c95] at H
                          have c95b0 : decide (t974 ≤ t982) = false := decide_eq_false c95
                          clear c95
                          exact absurd (H.trans (congrArg some HRT.out)) (by simp)
                        ·rw [if_neg c94] at H
                         have c94b0 : decide (t973 ≤ t981) = false := decide_eq_false c94
                         clear c94
                         exact absurd (H.trans (congrArg some HRT.out)) (by simp)
                       ·rw [if_neg c93] at H
                        have c93b0 : decide (t974 ≤ t978) = false := decide_eq_false c93
                        clear c93
                        exact absurd (H.trans (congrArg some HRT.out)) (by simp)
                      ·rw [if_neg c92] at H
                       have c92b0 : decide (t973 ≤ t977) = false := decide_eq_false c92
                       clear c92
                       exact absurd (H.trans (congrArg some HRT.out)) (by simp)
                     ·rw [if_neg c91] at H
                      have c91b0 : (t996 == 0) = false := beq_eq_false_iff_ne.mpr c91
                      have c91b1 : (t996 != 0) = true := bne_iff_ne.mpr c91
                      exact absurd (H.trans (congrArg some HRT.out)) (by simp)
                    ·rw [if_neg c90] at H
                     have c90b0 : (t992 == 0) = false := beq_eq_false_iff_ne.mpr c90
                     have c90b1 : (t992 != 0) = true := bne_iff_ne.mpr c90
                     exact absurd (H.trans (congrArg some HRT.out)) (by simp)
                   ·rw [if_neg c89] at H
                    have c89b0 : (t988 == 0) = false := beq_eq_false_iff_ne.mpr c89
                    have c89b1 : (t988 != 0) = true := bne_iff_ne.mpr c89
                    exact absurd (H.trans (congrArg some HRT.out)) (by simp)
                  ·rw [if_neg c88] at H
                   have c88b0 : (t983 == 0) = false := beq_eq_false_iff_ne.mpr c88
                   have c88b1 : (t983 != 0) = true := bne_iff_ne.mpr c88
                   exact absurd (H.trans (congrArg some HRT.out)) (by simp)
                 ·rw [if_neg c87] at H
                  have c87b0 : (t979 == 0) = false := beq_eq_false_iff_ne.mpr c87
                  have c87b1 : (t979 != 0) = true := bne_iff_ne.mpr c87
                  exact absurd (H.trans (congrArg some HRT.out)) (by simp)
                ·rw [if_neg c86] at H
                 have c86b0 : (t975 == 0) = false := beq_eq_false_iff_ne.mpr c86
                 have c86b1 : (t975 != 0) = true := bne_iff_ne.mpr c86
                 exact absurd (H.trans (congrArg some HRT.out)) (by simp)
               ·replace c85 := Bool.eq_false_iff.mpr c85
                subst c85
                have H1 : (some false) = some r := by rw [if_neg (show ¬ (false = true) by decide)] at H; exact H
                clear H
                have H := H1
                clear H1
                exact absurd (H.trans (congrArg some HRT.out)) (by simp)
      ·rw [if_neg c42] at H
       exact absurd H (by simp)
  ·rw [if_neg c7] at H
   exact absurd H (by simp)
 ·rw [if_neg c6] at H
  exact absurd H (by simp)

end Go.Proofs.YtdeaccbolnlgpaaDoor.X
