import Derived.Test.YtdeaccbolnlgpaaDoorXS2
import Derived.Test.YtdeaccbolnlgpaaDoorXV2
import Derived.Test.YtdeaccbolnlgpaaDoorX0
import Derived.Test.YtdeaccbolnlgpaaDoorXE1
import Derived.Test.YtdeaccbolnlgpaaDoorXN23
import Derived.Test.YtdeaccbolnlgpaaDoorXNA
import Derived.Test.YtdeaccbolnlgpaaDoorXAlive
import Derived.Test.YtdeaccbolnlgpaaDoorXG
import Derived.Test.YtdeaccbolnlgpaaDoorXHL
import Derived.Test.YtdeaccbolnlgpaaDoorXHO
import Derived.Test.YtdeaccbolnlgpaaDoorXHS
namespace Go.Proofs.YtdeaccbolnlgpaaDoor.X
open Go.RowKit Go.Proofs.YtdeaccbolnlgpaaDoorW.PrintWords Go.Proofs.YtdeaccbolnlgpaaDoorW.PrintLast Go.Proofs.YtdeaccbolnlgpaaDoorW.PrintMore
attribute [local go_sem] max2_int min2_int max_two min_two max_three min_three max_four min_four   -- for this text's walks alone
set_option linter.unusedVariables false
set_option linter.unusedSimpArgs false

attribute [local go_sem high] eqA36
/-! ### cottonpadlaw06_ExitsLostB: function 11 -/
mutual
def cottonpadlaw06_ExitsLostB.j0 : Nat → List (S48) → Int → Bool → Bool → List (S62) → List (S81) → Option (Bool)
 | 0, _, _, _, _, _, _ => none
 | k + 1, x1, x2, x7, x41, x809000, x809001 => if x41 = true then (some x7) else (if (x1.length : Int) > 0 then (if (x1.length : Int) = 0 then (none) else ((some (([] : List (S48)) : List (S48))).bind fun y811 => (if 0 ≤ (Int.tmod (wrap64 (x2)) (x1.length : Int)) then (if (Int.tmod (wrap64 (x2)) (x1.length : Int)) ≤ (x1.length : Int) then ((some (x1.drop ((Int.tmod (wrap64 (x2)) (x1.length : Int)) : Int).toNat : List (S48))).bind fun y814 => (if y811.length + y814.length < 3518437208883 then ((some (y811 ++ y814 : List (S48))).bind fun y818 => ((some (x1.take ((Int.tmod (wrap64 (x2)) (x1.length : Int)) : Int).toNat : List (S48))).bind fun y821 => (if y818.length + y821.length < 3518437208883 then (if 0 ≤ (x809000.length : Int) then (if ((x809000.length : Int) : Int).toNat ≤ 35184372088832 then (cottonpadlaw06_ExitsLostB.l0 k x1 x7 (y818 ++ y821) (List.replicate ((x809000.length : Int) : Int).toNat 0) x1 (x1.length : Int) 0 x809000 x809001) else (none)) else (none)) else (none)))) else (none))) else (none)) else (none)))) else (some false))
def cottonpadlaw06_ExitsLostB.l0 : Nat → List (S48) → Bool → List (S48) → List Int → List (S48) → Int → Int → List (S62) → List (S81) → Option (Bool)
 | 0, _, _, _, _, _, _, _, _, _ => none
 | k + 1, x1, x7, x8, x10, x65, x66, x67, x809000, x809001 => if x67 < x66 then (if 0 ≤ x67 then (if x67 < (x65.length : Int) then (if 0 ≤ ((rd_T48 x65 x67).f0) then (if ((rd_T48 x65 x67).f0) < (x809001.length : Int) then (if 0 ≤ ((rd_T81 x809001 ((rd_T48 x65 x67).f0)).f0) then (if ((rd_T81 x809001 ((rd_T48 x65 x67).f0)).f0) < (x10.length : Int) then (cottonpadlaw06_ExitsLostB.l0 k x1 x7 x8 (x10.set (((rd_T81 x809001 ((rd_T48 x65 x67).f0)).f0) : Int).toNat (wrap64 ((rd x10 ((rd_T81 x809001 ((rd_T48 x65 x67).f0)).f0)) + 1))) x65 x66 (wrap64 (x67 + 1)) x809000 x809001) else (none)) else (none)) else (none)) else (none)) else (none)) else (none)) else (cottonpadlaw06_ExitsLostB.l1 k x1 x7 x8 x10 0 x809000 (x809000.length : Int) 0 x809000 x809001)
def cottonpadlaw06_ExitsLostB.l1 : Nat → List (S48) → Bool → List (S48) → List Int → Int → List (S62) → Int → Int → List (S62) → List (S81) → Option (Bool)
 | 0, _, _, _, _, _, _, _, _, _, _ => none
 | k + 1, x1, x7, x8, x10, x13, x85, x86, x87, x809000, x809001 => if x87 < x86 then (if 0 ≤ x87 then (if x87 < (x85.length : Int) then ((exits_Leaves.f x809000 x809001 x1 x87).bind fun bt838 => ((exits_Leaves.f x809000 x809001 x8 x87).bind fun bt842 => (if bt838.2 = 0 then (if bt842.2 = 0 then ((cottonpadref06_SameSpans.f k bt838.1 bt842.1).bind fun t846 => (if t846 = true then (if x87 < (x10.length : Int) then (cottonpadlaw06_ExitsLostB.j3 k x1 x7 x8 x10 x13 bt838.1 x85 x86 x87 ((bt838.1.length : Int) != (rd x10 x87)) x809000 x809001 ((rd_T62 x85 x87).f0) ((rd_T62 x85 x87).f1) ((rd_T62 x85 x87).f2.f0) ((rd_T62 x85 x87).f2.f1) ((rd_T62 x85 x87).f3.f0) ((rd_T62 x85 x87).f3.f1)) else (none)) else (cottonpadlaw06_ExitsLostB.j3 k x1 x7 x8 x10 x13 bt838.1 x85 x86 x87 true x809000 x809001 ((rd_T62 x85 x87).f0) ((rd_T62 x85 x87).f1) ((rd_T62 x85 x87).f2.f0) ((rd_T62 x85 x87).f2.f1) ((rd_T62 x85 x87).f3.f0) ((rd_T62 x85 x87).f3.f1)))) else (cottonpadlaw06_ExitsLostB.j3 k x1 x7 x8 x10 x13 bt838.1 x85 x86 x87 true x809000 x809001 ((rd_T62 x85 x87).f0) ((rd_T62 x85 x87).f1) ((rd_T62 x85 x87).f2.f0) ((rd_T62 x85 x87).f2.f1) ((rd_T62 x85 x87).f3.f0) ((rd_T62 x85 x87).f3.f1))) else (cottonpadlaw06_ExitsLostB.j3 k x1 x7 x8 x10 x13 bt838.1 x85 x86 x87 true x809000 x809001 ((rd_T62 x85 x87).f0) ((rd_T62 x85 x87).f1) ((rd_T62 x85 x87).f2.f0) ((rd_T62 x85 x87).f2.f1) ((rd_T62 x85 x87).f3.f0) ((rd_T62 x85 x87).f3.f1))))) else (none)) else (none)) else ((exits_Out.f x809000 x809001 x1).bind fun bt854 => ((exits_Out.f x809000 x809001 x8).bind fun bt858 => ((exits_Safe.f x809000 x809001 x1).bind fun bt862 => ((exits_Safe.f x809000 x809001 x8).bind fun bt866 => (if x7 = true then (if x13 = (x1.length : Int) then (if bt854.2.2 = 0 then (if bt858.2.2 = 0 then (if (bt854.1 == bt858.1 && (bt854.2.1 == bt858.2.1)) = true then (if bt862.2.2.2 = 0 then (if bt866.2.2.2 = 0 then (if bt862.1 = bt866.1 then (if bt862.2.1 = bt866.2.1 then (some (bt862.2.2.1 == bt866.2.2.1)) else (some false)) else (some false)) else (some false)) else (some false)) else (some false)) else (some false)) else (some false)) else (some false)) else (some false))))))
def cottonpadlaw06_ExitsLostB.j3 : Nat → List (S48) → Bool → List (S48) → List Int → Int → List (S36) → List (S62) → Int → Int → Bool → List (S62) → List (S81) → Int → Int → Int → Int → Int → Int → Option (Bool)
 | 0, _, _, _, _, _, _, _, _, _, _, _, _, _, _, _, _, _, _ => none
 | k + 1, x1, x7, x8, x10, x13, x16, x85, x86, x87, x126, x809000, x809001, x838000, x838001, x838002, x838003, x838004, x838005 => if x126 = true then (some false) else (cottonpadlaw06_ExitsLostB.l2 k x1 x7 x8 x10 x13 x16 x85 x86 x87 (x16.length : Int) 0 x809000 x809001 x838000 x838001 x838002 x838003 x838004 x838005)
def cottonpadlaw06_ExitsLostB.l2 : Nat → List (S48) → Bool → List (S48) → List Int → Int → List (S36) → List (S62) → Int → Int → Int → Int → List (S62) → List (S81) → Int → Int → Int → Int → Int → Int → Option (Bool)
 | 0, _, _, _, _, _, _, _, _, _, _, _, _, _, _, _, _, _, _, _ => none
 | k + 1, x1, x7, x8, x10, x13, x16, x85, x86, x87, x128, x129, x809000, x809001, x838000, x838001, x838002, x838003, x838004, x838005 => if x129 < x128 then (if x129 > 0 then (if 0 ≤ x129 then (if x129 < (x16.length : Int) then (if 0 ≤ (wrap64 (x129 - 1)) then (if (wrap64 (x129 - 1)) < (x16.length : Int) then (if ((rd_T36 x16 x129).f0) < (wrap64 (((rd_T36 x16 (wrap64 (x129 - 1))).f0) + x838001)) then (some false) else (if ((rd_T36 x16 x129).f1) < (wrap64 (((rd_T36 x16 (wrap64 (x129 - 1))).f1) + x838001)) then (some false) else (cottonpadlaw06_ExitsLostB.l2 k x1 x7 x8 x10 x13 x16 x85 x86 x87 x128 (wrap64 (x129 + 1)) x809000 x809001 x838000 x838001 x838002 x838003 x838004 x838005))) else (none)) else (none)) else (none)) else (none)) else (cottonpadlaw06_ExitsLostB.l2 k x1 x7 x8 x10 x13 x16 x85 x86 x87 x128 (wrap64 (x129 + 1)) x809000 x809001 x838000 x838001 x838002 x838003 x838004 x838005)) else (if x838000 = (-1) then (cottonpadlaw06_ExitsLostB.l1 k x1 x7 x8 x10 (wrap64 (x13 + (x16.length : Int))) x85 x86 (wrap64 (x87 + 1)) x809000 x809001) else (if 0 ≤ x838000 then (if x838000 < (x10.length : Int) then (cottonpadlaw06_ExitsLostB.l1 k x1 x7 x8 (x10.set (x838000 : Int).toNat (wrap64 ((rd x10 x838000) + (x16.length : Int)))) x13 x85 x86 (wrap64 (x87 + 1)) x809000 x809001) else (none)) else (none)))
end
def cottonpadlaw06_ExitsLostB.f (k : Nat) (l0_0 : List (S62)) (l0_1 : List (S81)) (l1 : List (S48)) (a2 : Int) : Option (Bool) := (cottonpadlaw06_alive_t.f).bind fun t809 => ((cottonpadlaw06_ready.f k l0_0 l0_1 l1).bind fun t810 => (if t810 = true then (cottonpadlaw06_ExitsLostB.j0 k l1 a2 t809 (!t809) l0_0 l0_1) else (cottonpadlaw06_ExitsLostB.j0 k l1 a2 t809 true l0_0 l0_1)))
theorem cottonpadlaw06_ExitsLostB.mono_l : ∀ k, (∀ y0 y1 y2 y3 y4 y5, LeO (cottonpadlaw06_ExitsLostB.j0 k y0 y1 y2 y3 y4 y5) (cottonpadlaw06_ExitsLostB.j0 (k + 1) y0 y1 y2 y3 y4 y5)) ∧ (∀ y0 y1 y2 y3 y4 y5 y6 y7 y8, LeO (cottonpadlaw06_ExitsLostB.l0 k y0 y1 y2 y3 y4 y5 y6 y7 y8) (cottonpadlaw06_ExitsLostB.l0 (k + 1) y0 y1 y2 y3 y4 y5 y6 y7 y8)) ∧ (∀ y0 y1 y2 y3 y4 y5 y6 y7 y8 y9, LeO (cottonpadlaw06_ExitsLostB.l1 k y0 y1 y2 y3 y4 y5 y6 y7 y8 y9) (cottonpadlaw06_ExitsLostB.l1 (k + 1) y0 y1 y2 y3 y4 y5 y6 y7 y8 y9)) ∧ (∀ y0 y1 y2 y3 y4 y5 y6 y7 y8 y9 y10 y11 y12 y13 y14 y15 y16 y17, LeO (cottonpadlaw06_ExitsLostB.j3 k y0 y1 y2 y3 y4 y5 y6 y7 y8 y9 y10 y11 y12 y13 y14 y15 y16 y17) (cottonpadlaw06_ExitsLostB.j3 (k + 1) y0 y1 y2 y3 y4 y5 y6 y7 y8 y9 y10 y11 y12 y13 y14 y15 y16 y17)) ∧ (∀ y0 y1 y2 y3 y4 y5 y6 y7 y8 y9 y10 y11 y12 y13 y14 y15 y16 y17 y18, LeO (cottonpadlaw06_ExitsLostB.l2 k y0 y1 y2 y3 y4 y5 y6 y7 y8 y9 y10 y11 y12 y13 y14 y15 y16 y17 y18) (cottonpadlaw06_ExitsLostB.l2 (k + 1) y0 y1 y2 y3 y4 y5 y6 y7 y8 y9 y10 y11 y12 y13 y14 y15 y16 y17 y18))
 | 0 => ⟨fun _ _ _ _ _ _ r h => by simp [cottonpadlaw06_ExitsLostB.j0] at h, fun _ _ _ _ _ _ _ _ _ r h => by simp [cottonpadlaw06_ExitsLostB.l0] at h, fun _ _ _ _ _ _ _ _ _ _ r h => by simp [cottonpadlaw06_ExitsLostB.l1] at h, fun _ _ _ _ _ _ _ _ _ _ _ _ _ _ _ _ _ _ r h => by simp [cottonpadlaw06_ExitsLostB.j3] at h, fun _ _ _ _ _ _ _ _ _ _ _ _ _ _ _ _ _ _ _ r h => by simp [cottonpadlaw06_ExitsLostB.l2] at h⟩
 | k + 1 => by
  obtain ⟨ih0, ih1, ih2, ih3, ih4⟩ := cottonpadlaw06_ExitsLostB.mono_l k
  refine ⟨?_, ?_, ?_, ?_, ?_⟩
  ·intro y0 y1 y2 y3 y4 y5
   unfold cottonpadlaw06_ExitsLostB.j0
   repeat' (with_reducible first | exact ih0 .. | exact ih1 .. | exact ih2 .. | exact ih3 .. | exact ih4 .. | exact cottonpadlaw06_ready.mono .. | exact cottonpadref06_SameSpans.mono .. | exact LeO.refl .. | exact LeO.none .. | refine LeO.ite ?_ ?_ | refine LeO.bind ?_ (fun _ => ?_))
  ·intro y0 y1 y2 y3 y4 y5 y6 y7 y8
   unfold cottonpadlaw06_ExitsLostB.l0
   repeat' (with_reducible first | exact ih0 .. | exact ih1 .. | exact ih2 .. | exact ih3 .. | exact ih4 .. | exact cottonpadlaw06_ready.mono .. | exact cottonpadref06_SameSpans.mono .. | exact LeO.refl .. | exact LeO.none .. | refine LeO.ite ?_ ?_ | refine LeO.bind ?_ (fun _ => ?_))
  ·intro y0 y1 y2 y3 y4 y5 y6 y7 y8 y9
   unfold cottonpadlaw06_ExitsLostB.l1
   repeat' (with_reducible first | exact ih0 .. | exact ih1 .. | exact ih2 .. | exact ih3 .. | exact ih4 .. | exact cottonpadlaw06_ready.mono .. | exact cottonpadref06_SameSpans.mono .. | exact LeO.refl .. | exact LeO.none .. | refine LeO.ite ?_ ?_ | refine LeO.bind ?_ (fun _ => ?_))
  ·intro y0 y1 y2 y3 y4 y5 y6 y7 y8 y9 y10 y11 y12 y13 y14 y15 y16 y17
   unfold cottonpadlaw06_ExitsLostB.j3
   repeat' (with_reducible first | exact ih0 .. | exact ih1 .. | exact ih2 .. | exact ih3 .. | exact ih4 .. | exact cottonpadlaw06_ready.mono .. | exact cottonpadref06_SameSpans.mono .. | exact LeO.refl .. | exact LeO.none .. | refine LeO.ite ?_ ?_ | refine LeO.bind ?_ (fun _ => ?_))
  ·intro y0 y1 y2 y3 y4 y5 y6 y7 y8 y9 y10 y11 y12 y13 y14 y15 y16 y17 y18
   unfold cottonpadlaw06_ExitsLostB.l2
   repeat' (with_reducible first | exact ih0 .. | exact ih1 .. | exact ih2 .. | exact ih3 .. | exact ih4 .. | exact cottonpadlaw06_ready.mono .. | exact cottonpadref06_SameSpans.mono .. | exact LeO.refl .. | exact LeO.none .. | refine LeO.ite ?_ ?_ | refine LeO.bind ?_ (fun _ => ?_))
theorem cottonpadlaw06_ExitsLostB.mono : ∀ a0 a1 a2 a3 k, LeO (cottonpadlaw06_ExitsLostB.f k a0 a1 a2 a3) (cottonpadlaw06_ExitsLostB.f (k + 1) a0 a1 a2 a3) := by
 intro a0 a1 a2 a3 k
 obtain ⟨ih0, ih1, ih2, ih3, ih4⟩ := cottonpadlaw06_ExitsLostB.mono_l k
 unfold cottonpadlaw06_ExitsLostB.f
 repeat' (with_reducible first | exact ih0 .. | exact ih1 .. | exact ih2 .. | exact ih3 .. | exact ih4 .. | exact cottonpadlaw06_ready.mono .. | exact cottonpadref06_SameSpans.mono .. | exact LeO.refl .. | exact LeO.none .. | refine LeO.ite ?_ ?_ | refine LeO.bind ?_ (fun _ => ?_))
def cottonpadlaw06_ExitsLostB.T7 : Bool × List (List Nat × List Nat) := (true, [([], []), ([], []), ([], []), ([1, 2], [1, 2]), ([0, 3], [0, 3]), ([], []), ([], []), ([5, 6], [5, 6]), ([4, 7, 4], [4, 7]), ([8, 8, 0, 1, 2, 3, 4, 5, 6, 7, 8], [8])])
def cottonpadlaw06_ExitsLostB.B7 : List Nat := [0, 0, 0, 6, 15, 0, 0, 96, 255, 511]
theorem cottonpadlaw06_ExitsLostB.tab7 : rtab .any (opsOf Tryd.f11 7) = cottonpadlaw06_ExitsLostB.T7 := by kernel_rfl
theorem cottonpadlaw06_ExitsLostB.bits7 : waitsOk cottonpadlaw06_ExitsLostB.T7.2 cottonpadlaw06_ExitsLostB.B7 = true := by kernel_rfl
def cottonpadlaw06_ExitsLostB.T25 : Bool × List (List Nat × List Nat) := (true, [([], []), ([0], [0]), ([1], [1]), ([2], [2]), ([2], [2]), ([3, 4, 2], [2, 3, 4]), ([5, 2], [2, 5]), ([6, 2], [2, 6]), ([2], [2]), ([2], [2]), ([9, 2], [2, 9]), ([8, 10, 2], [2, 8, 10]), ([11, 2], [2, 11]), ([12, 2], [2, 12]), ([2], [2]), ([14, 2], [2, 14]), ([13, 15, 2], [2, 13, 15]), ([7, 16, 2], [2, 7, 16]), ([17, 2, 2], [2, 17]), ([18], [18]), ([18], [18]), ([19, 20, 18], [18, 19, 20]), ([21, 18], [18, 21]), ([22, 18], [18, 22]), ([18], [18]), ([18], [18]), ([25, 18], [18, 25]), ([24, 26, 18], [18, 24, 26]), ([27, 18], [18, 27]), ([28, 18], [18, 28]), ([18], [18]), ([30, 18], [18, 30]), ([29, 31, 18], [18, 29, 31]), ([23, 32, 18], [18, 23, 32]), ([18, 33, 2], [2, 18, 33]), ([2, 34], [2, 34])])
def cottonpadlaw06_ExitsLostB.B25 : List Nat := [0, 1, 3, 7, 7, 31, 63, 127, 7, 7, 519, 1799, 3847, 7943, 7, 16391, 65287, 131071, 262143, 524287, 524287, 2097151, 4194303, 8388607, 524287, 524287, 34078719, 117964799, 252182527, 520617983, 524287, 1074266111, 4278714367, 8589934591, 17179869183, 34359738367]
theorem cottonpadlaw06_ExitsLostB.tab25 : rtab .any (opsOf Tryd.f11 25) = cottonpadlaw06_ExitsLostB.T25 := by kernel_rfl
theorem cottonpadlaw06_ExitsLostB.bits25 : waitsOk cottonpadlaw06_ExitsLostB.T25.2 cottonpadlaw06_ExitsLostB.B25 = true := by kernel_rfl
set_option maxHeartbeats 8000000 in
set_option maxRecDepth 100000 in
theorem cottonpadlaw06_ExitsLostB.calls (k : Nat) (A0_0 : Option Addr) (c0_0 : Nat) (l0_0 : List (S62)) (A0_1 : Option Addr) (c0_1 : Nat) (l0_1 : List (S81)) (A1 : Option Addr) (c1 : Nat) (l1 : List (S48)) (a2 : Int) (r : Bool) (w : World) (hG : Globs w) (hrt : r = true) (hr0_0 : Kd.C k62 w A0_0 l0_0.length l0_0) (hc0_0 : l0_0.length ≤ c0_0) (hr0_1 : Kd.C k81 w A0_1 l0_1.length l0_1) (hc0_1 : l0_1.length ≤ c0_1) (hr1 : Kd.C k48 w A1 l1.length l1) (hc1 : l1.length ≤ c1) (h : cottonpadlaw06_ExitsLostB.f k l0_0 l0_1 l1 a2 = some r) :
  Calls Tryd.prog 11 #[.agg #[.slice A0_0 l0_0.length c0_0, .slice A0_1 l0_1.length c0_1], .slice A1 l1.length c1, .int .u8 a2] w fun e w' => e = .returned (.bool r) ∧ Below w.heap.size w w' := by
 have hu25 := Tryd.underlying25
 have hu48 := Tryd.underlying48
 have hu62 := Tryd.underlying62
 have hu36 := Tryd.underlying36
 have HR0_0 := Aside0.mk hr0_0
 have HC0_0 := Aside0.mk hc0_0
 clear hr0_0 hc0_0
 have HR0_1 := Aside0.mk hr0_1
 have HC0_1 := Aside0.mk hc0_1
 clear hr0_1 hc0_1
 have HR1 := Aside0.mk hr1
 have HC1 := Aside0.mk hc1
 clear hr1 hc1
 have HB := Aside0.mk (Below.refl w.heap.size w)
 have HG := Aside0.mk hG
 clear hG
 have HRT := Aside0.mk hrt
 clear hrt
 have H : ((cottonpadlaw06_alive_t.f).bind fun t809 => ((cottonpadlaw06_ready.f k l0_0 l0_1 l1).bind fun t810 => (if t810 = true then (cottonpadlaw06_ExitsLostB.j0 k l1 a2 t809 (!t809) l0_0 l0_1) else (cottonpadlaw06_ExitsLostB.j0 k l1 a2 t809 true l0_0 l0_1)))) = some r := h
 clear h
 replace H := Option.bind_eq_some_iff.mp H
 obtain ⟨t809, A40, H⟩ := H
 replace H : ((cottonpadlaw06_ready.f k l0_0 l0_1 l1).bind fun t810 => (if t810 = true then (cottonpadlaw06_ExitsLostB.j0 k l1 a2 t809 (!t809) l0_0 l0_1) else (cottonpadlaw06_ExitsLostB.j0 k l1 a2 t809 true l0_0 l0_1))) = some r := H
 have A4 := Aside0.mk A40
 clear A40
 have HC5 := Aside0.mk H
 clear H
 go_enter Tryd.func11, Tryd.ntmps11
 go_upto_region 2 with (first | ((with_reducible refine gate_dst (N := 3) rfl ?_); (try (refine gate_guard (by rfl) ?_; dsimp only)); refine box_event ?hg (N := 3) ?hd (cs := #[.slice A0_0 l0_0.length c0_0, .slice A0_1 l0_1.length c0_1]) (t := 25) ?hr ?_; (case hd => rfl); (case hg => rfl); (case hr => exact gs_); intro gb808 hg w6 hbox hb; have BK808 := Aside0.mk (hbox); have GW808 := hl_ hg (be_ HB); have GE808 := hl_ hg (be_ HB); replace HB := bs_ HB hb; clear hb hbox hg) | ((with_reducible refine gate_callee (f := 30) rfl ?_); refine goesL_ (some 33) rfl rfl Tryd.func30 (by decide +kernel) rfl #[] rfl ls_ ?_; (with_reducible refine (cottonpadlaw06_alive_t.calls  t809 _ ?side1 A4.out).mono ?_); (case side1 => exact Globs.below HG.out (be1_ HB GE808)); rintro e w7 ⟨rfl, hb⟩; refine ⟨_, rfl, ?_⟩; replace BK808 := bb_ BK808 hb; replace HB := bs1_ HB GE808 hb; (try clear hb); (try clear hb2); (try clear hk); (try clear hi)))
 (try simp only [Act.put, List.setIfInBounds_toArray, List.set_cons_zero, List.set_cons_succ])
 go_cut [41] (fun v41 wc => ∃ (kq : Nat) (x41_4 : Bool), v41 = .bool x41_4 ∧ Aside0 (cottonpadlaw06_ExitsLostB.j0 kq l1 a2 t809 x41_4 l0_0 l0_1 = some r) ∧ Aside0 (kq ≤ k) ∧ Aside0 (wc.heap[gb808]? = some (.cells #[(.slice A0_0 l0_0.length c0_0), (.slice A0_1 l0_1.length c0_1)] 25 (0, 0))) ∧ Aside0 (Below w.heap.size w wc))
 case first =>
  have H := HC5.out
  clear HC5
  replace H := Option.bind_eq_some_iff.mp H
  obtain ⟨t810, A80, H⟩ := H
  replace H : (if t810 = true then (cottonpadlaw06_ExitsLostB.j0 k l1 a2 t809 (!t809) l0_0 l0_1) else (cottonpadlaw06_ExitsLostB.j0 k l1 a2 t809 true l0_0 l0_1)) = some r := H
  have A8 := Aside0.mk A80
  clear A80
  by_cases c9 : t810 = true
  ·subst c9
   have H1 : (cottonpadlaw06_ExitsLostB.j0 k l1 a2 t809 (!t809) l0_0 l0_1) = some r := by rw [if_pos rfl] at H; exact H
   clear H
   have H := H1
   clear H1
   have H' := Aside0.mk H
   clear H
   have hcz10_0 : w7.cell? ⟨gb808, 0, none⟩ = some (.slice A0_0 l0_0.length c0_0) := bc_ BK808 0
   have hcz10_1 : w7.cell? ⟨gb808, 1, none⟩ = some (.slice A0_1 l0_1.length c0_1) := bc_ BK808 1
   have hfz10_0 := blk_frozen BK808.out 0
   have hfz10_1 := blk_frozen BK808.out 1
   go_wp2_with (first | ((with_reducible refine gate_callee (f := 36) rfl ?_); refine goesL_ (some 36) rfl rfl Tryd.func36 (by decide +kernel) rfl #[.agg #[.slice A0_0 l0_0.length c0_0, .slice A0_1 l0_1.length c0_1], .slice A1 l1.length c1] rfl ls_ ?_; (with_reducible refine (cottonpadlaw06_ready.calls k _ _ l0_0 _ _ l0_1 _ _ l1 true _ ?side1 ?side2 ?side3 ?side4 ?side5 ?side6 A8.out).mono ?_); (case side1 => exact kc_ HR0_0 HB); (case side2 => exact HC0_0.out); (case side3 => exact kc_ HR0_1 HB); (case side4 => exact HC0_1.out); (case side5 => exact kc_ HR1 HB); (case side6 => exact HC1.out); rintro e w11 ⟨rfl, hb⟩; refine ⟨_, rfl, ?_⟩; replace BK808 := bb_ BK808 hb; replace HB := bs1_ HB GE808 hb; (try clear hb); (try clear hb2); (try clear hk); (try clear hi)))
   go_meet
   case rel => exact ⟨_, (!t809), (by first | rfl | (simp; done) | (simp [*]; done)), H', ⟨by first | omega | exact Nat.le_refl _⟩, ⟨by refine bx_ ?_; exact BK808.out⟩, ⟨be1_ HB GE808⟩⟩
  ·replace c9 := Bool.eq_false_iff.mpr c9
   subst c9
   have H1 : (cottonpadlaw06_ExitsLostB.j0 k l1 a2 t809 true l0_0 l0_1) = some r := by rw [if_neg (show ¬ (false = true) by decide)] at H; exact H
   clear H
   have H := H1
   clear H1
   have H' := Aside0.mk H
   clear H
   have hcz12_0 : w7.cell? ⟨gb808, 0, none⟩ = some (.slice A0_0 l0_0.length c0_0) := bc_ BK808 0
   have hcz12_1 : w7.cell? ⟨gb808, 1, none⟩ = some (.slice A0_1 l0_1.length c0_1) := bc_ BK808 1
   have hfz12_0 := blk_frozen BK808.out 0
   have hfz12_1 := blk_frozen BK808.out 1
   go_wp2_with (first | ((with_reducible refine gate_callee (f := 36) rfl ?_); refine goesL_ (some 36) rfl rfl Tryd.func36 (by decide +kernel) rfl #[.agg #[.slice A0_0 l0_0.length c0_0, .slice A0_1 l0_1.length c0_1], .slice A1 l1.length c1] rfl ls_ ?_; (with_reducible refine (cottonpadlaw06_ready.calls k _ _ l0_0 _ _ l0_1 _ _ l1 false _ ?side1 ?side2 ?side3 ?side4 ?side5 ?side6 A8.out).mono ?_); (case side1 => exact kc_ HR0_0 HB); (case side2 => exact HC0_0.out); (case side3 => exact kc_ HR0_1 HB); (case side4 => exact HC0_1.out); (case side5 => exact kc_ HR1 HB); (case side6 => exact HC1.out); rintro e w13 ⟨rfl, hb⟩; refine ⟨_, rfl, ?_⟩; replace BK808 := bb_ BK808 hb; replace HB := bs1_ HB GE808 hb; (try clear hb); (try clear hb2); (try clear hk); (try clear hi)))
   go_meet
   case rel => exact ⟨_, (true), (by first | rfl | (simp; done) | (simp [*]; done)), H', ⟨by first | omega | exact Nat.le_refl _⟩, ⟨by refine bx_ ?_; exact BK808.out⟩, ⟨be1_ HB GE808⟩⟩
 case rest =>
  clear HC5
  try clear c1
  try clear p2
  try clear c3
  try clear c9
  try clear c11
  try clear hcz10_0
  try clear hcz10_1
  try clear hcz12_0
  try clear hcz12_1
  try clear hfz10_0
  try clear hfz10_1
  try clear hfz12_0
  try clear hfz12_1
  obtain ⟨kq, x41_4, rfl, HA, HJ4, BK808, HB⟩ := hcut
  cases kq with
  | zero => exact absurd HA.out (by simp [cottonpadlaw06_ExitsLostB.j0])
  | succ kj4 =>
   have H := HA.out
   clear HA
   simp only [cottonpadlaw06_ExitsLostB.j0] at H
   by_cases c14 : x41_4 = true
   ·subst c14
    have H1 : (some t809) = some r := by rw [if_pos rfl] at H; exact H
    clear H
    have H := H1
    clear H1
    obtain rfl := Option.some.inj H
    go_wp2
    go_ret
    exact ⟨rf_, be1_ HB GE808⟩
   ·replace c14 := Bool.eq_false_iff.mpr c14
    subst c14
    have H1 : (if (l1.length : Int) > 0 then (if (l1.length : Int) = 0 then (none) else ((some (([] : List (S48)) : List (S48))).bind fun y811 => (if 0 ≤ (Int.tmod (wrap64 (a2)) (l1.length : Int)) then (if (Int.tmod (wrap64 (a2)) (l1.length : Int)) ≤ (l1.length : Int) then ((some (l1.drop ((Int.tmod (wrap64 (a2)) (l1.length : Int)) : Int).toNat : List (S48))).bind fun y814 => (if y811.length + y814.length < 3518437208883 then ((some (y811 ++ y814 : List (S48))).bind fun y818 => ((some (l1.take ((Int.tmod (wrap64 (a2)) (l1.length : Int)) : Int).toNat : List (S48))).bind fun y821 => (if y818.length + y821.length < 3518437208883 then (if 0 ≤ (l0_0.length : Int) then (if ((l0_0.length : Int) : Int).toNat ≤ 35184372088832 then (cottonpadlaw06_ExitsLostB.l0 kj4 l1 t809 (y818 ++ y821) (List.replicate ((l0_0.length : Int) : Int).toNat 0) l1 (l1.length : Int) 0 l0_0 l0_1) else (none)) else (none)) else (none)))) else (none))) else (none)) else (none)))) else (some false)) = some r := by rw [if_neg (show ¬ (false = true) by decide)] at H; exact H
    clear H
    have H := H1
    clear H1
    by_cases c15 : (l1.length : Int) > 0
    ·rw [if_pos c15] at H
     have c15b0 : decide (0 < (l1.length : Int)) = true := decide_eq_true c15
     have c15b1 : decide (0 < l1.length) = true := decide_eq_true (by omega)
     clear c15
     by_cases c16 : (l1.length : Int) = 0
     ·rw [if_pos c16] at H
      exact absurd H (by simp)
     ·rw [if_neg c16] at H
      have c16b0 : ((l1.length : Int) == 0) = false := beq_eq_false_iff_ne.mpr c16
      have c16b1 : ((l1.length : Int) != 0) = true := bne_iff_ne.mpr c16
      have c16b2 : ¬ (l1 = []) := fun h_ => c16 (by rw [h_]; rfl)
      obtain ⟨y811, hy811⟩ : ∃ y_ : List (S48), y_ = (([] : List (S48))) := ⟨_, rfl⟩
      replace H : (if 0 ≤ (Int.tmod (wrap64 (a2)) (l1.length : Int)) then (if (Int.tmod (wrap64 (a2)) (l1.length : Int)) ≤ (l1.length : Int) then ((some (l1.drop ((Int.tmod (wrap64 (a2)) (l1.length : Int)) : Int).toNat : List (S48))).bind fun y814 => (if y811.length + y814.length < 3518437208883 then ((some (y811 ++ y814 : List (S48))).bind fun y818 => ((some (l1.take ((Int.tmod (wrap64 (a2)) (l1.length : Int)) : Int).toNat : List (S48))).bind fun y821 => (if y818.length + y821.length < 3518437208883 then (if 0 ≤ (l0_0.length : Int) then (if ((l0_0.length : Int) : Int).toNat ≤ 35184372088832 then (cottonpadlaw06_ExitsLostB.l0 kj4 l1 t809 (y818 ++ y821) (List.replicate ((l0_0.length : Int) : Int).toNat 0) l1 (l1.length : Int) 0 l0_0 l0_1) else (none)) else (none)) else (none)))) else (none))) else (none)) else (none)) = some r := by first | (rw [hy811]; with_reducible exact H) | (have H2_ := (Option.bind_some _ _).symm.trans H; rw [hy811]; with_reducible exact H2_) | (have H2_ := (Option.bind_some _ _).symm.trans H; with_reducible exact H2_) | with_reducible exact H | (rw [hy811]; exact H) | exact H
      have Ny811 := Aside0.mk hy811
      clear hy811
      obtain ⟨ji17, hji17⟩ : ∃ j_ : Int, (Int.tmod (wrap64 (a2)) (l1.length : Int)) = j_ := ⟨_, rfl⟩
      replace H : (if 0 ≤ (ji17) then (if (ji17) ≤ (l1.length : Int) then ((some (l1.drop ((ji17) : Int).toNat : List (S48))).bind fun y814 => (if y811.length + y814.length < 3518437208883 then ((some (y811 ++ y814 : List (S48))).bind fun y818 => ((some (l1.take ((ji17) : Int).toNat : List (S48))).bind fun y821 => (if y818.length + y821.length < 3518437208883 then (if 0 ≤ (l0_0.length : Int) then (if ((l0_0.length : Int) : Int).toNat ≤ 35184372088832 then (cottonpadlaw06_ExitsLostB.l0 kj4 l1 t809 (y818 ++ y821) (List.replicate ((l0_0.length : Int) : Int).toNat 0) l1 (l1.length : Int) 0 l0_0 l0_1) else (none)) else (none)) else (none)))) else (none))) else (none)) else (none)) = some r := by first | (rw [hji17] at H; exact H) | (simp only [hji17] at H ⊢; exact H)
      by_cases c18 : 0 ≤ (ji17)
      ·rw [if_pos c18] at H
       have c18b0 := eq_true c18
       have c18b1 : decide (0 ≤ (ji17)) = true := decide_eq_true c18
       clear c18
       by_cases c19 : (ji17) ≤ (l1.length : Int)
       ·rw [if_pos c19] at H
        have c19b0 := eq_true c19
        have c19b1 : decide ((ji17) ≤ (l1.length : Int)) = true := decide_eq_true c19
        clear c19
        obtain ⟨y814, hy814⟩ : ∃ y_ : List (S48), y_ = (l1.drop ((ji17) : Int).toNat) := ⟨_, rfl⟩
        replace H : (if y811.length + y814.length < 3518437208883 then ((some (y811 ++ y814 : List (S48))).bind fun y818 => ((some (l1.take ((ji17) : Int).toNat : List (S48))).bind fun y821 => (if y818.length + y821.length < 3518437208883 then (if 0 ≤ (l0_0.length : Int) then (if ((l0_0.length : Int) : Int).toNat ≤ 35184372088832 then (cottonpadlaw06_ExitsLostB.l0 kj4 l1 t809 (y818 ++ y821) (List.replicate ((l0_0.length : Int) : Int).toNat 0) l1 (l1.length : Int) 0 l0_0 l0_1) else (none)) else (none)) else (none)))) else (none)) = some r := by first | (rw [hy814]; with_reducible exact H) | (have H2_ := (Option.bind_some _ _).symm.trans H; rw [hy814]; with_reducible exact H2_) | (have H2_ := (Option.bind_some _ _).symm.trans H; with_reducible exact H2_) | with_reducible exact H | (rw [hy814]; exact H) | exact H
        have Ny814 := Aside0.mk hy814
        clear hy814
        by_cases c20 : y811.length + y814.length < 3518437208883
        ·rw [if_pos c20] at H
         have LMc20 := Aside0.mk c20
         clear c20
         obtain ⟨y818, hy818⟩ : ∃ y_ : List (S48), y_ = (y811 ++ y814) := ⟨_, rfl⟩
         replace H : ((some (l1.take ((ji17) : Int).toNat : List (S48))).bind fun y821 => (if y818.length + y821.length < 3518437208883 then (if 0 ≤ (l0_0.length : Int) then (if ((l0_0.length : Int) : Int).toNat ≤ 35184372088832 then (cottonpadlaw06_ExitsLostB.l0 kj4 l1 t809 (y818 ++ y821) (List.replicate ((l0_0.length : Int) : Int).toNat 0) l1 (l1.length : Int) 0 l0_0 l0_1) else (none)) else (none)) else (none))) = some r := by first | (rw [hy818]; with_reducible exact H) | (have H2_ := (Option.bind_some _ _).symm.trans H; rw [hy818]; with_reducible exact H2_) | (have H2_ := (Option.bind_some _ _).symm.trans H; with_reducible exact H2_) | with_reducible exact H | (rw [hy818]; exact H) | exact H
         have Ny818 := Aside0.mk hy818
         clear hy818
         have c21b0 := eq_true (of_decide_eq_true as_ : 0 ≤ (ji17))
         have c22b0 := eq_true (of_decide_eq_true as_ : (ji17) ≤ (l1.length : Int))
         obtain ⟨y821, hy821⟩ : ∃ y_ : List (S48), y_ = (l1.take ((ji17) : Int).toNat) := ⟨_, rfl⟩
         replace H : (if y818.length + y821.length < 3518437208883 then (if 0 ≤ (l0_0.length : Int) then (if ((l0_0.length : Int) : Int).toNat ≤ 35184372088832 then (cottonpadlaw06_ExitsLostB.l0 kj4 l1 t809 (y818 ++ y821) (List.replicate ((l0_0.length : Int) : Int).toNat 0) l1 (l1.length : Int) 0 l0_0 l0_1) else (none)) else (none)) else (none)) = some r := by first | (rw [hy821]; with_reducible exact H) | (have H2_ := (Option.bind_some _ _).symm.trans H; rw [hy821]; with_reducible exact H2_) | (have H2_ := (Option.bind_some _ _).symm.trans H; with_reducible exact H2_) | with_reducible exact H | (rw [hy821]; exact H) | exact H
         have Ny821 := Aside0.mk hy821
         clear hy821
         by_cases c23 : y818.length + y821.length < 3518437208883
         ·rw [if_pos c23] at H
          have LMc23 := Aside0.mk c23
          clear c23
          obtain ⟨y825, hy825⟩ : ∃ y_ : List (S48), y_ = (y818 ++ y821) := ⟨_, rfl⟩
          replace H : (if 0 ≤ (l0_0.length : Int) then (if ((l0_0.length : Int) : Int).toNat ≤ 35184372088832 then (cottonpadlaw06_ExitsLostB.l0 kj4 l1 t809 y825 (List.replicate ((l0_0.length : Int) : Int).toNat 0) l1 (l1.length : Int) 0 l0_0 l0_1) else (none)) else (none)) = some r := by first | (rw [hy825]; with_reducible exact H) | (have H2_ := (Option.bind_some _ _).symm.trans H; rw [hy825]; with_reducible exact H2_) | (have H2_ := (Option.bind_some _ _).symm.trans H; with_reducible exact H2_) | with_reducible exact H | (rw [hy825]; exact H) | exact H
          have Ny825 := Aside0.mk hy825
          clear hy825
          by_cases c24 : 0 ≤ (l0_0.length : Int)
          ·rw [if_pos c24] at H
           have c24b0 := eq_true c24
           have c24b1 : decide (0 ≤ (l0_0.length : Int)) = true := decide_eq_true c24
           clear c24
           by_cases c25 : ((l0_0.length : Int) : Int).toNat ≤ 35184372088832
           ·rw [if_pos c25] at H
            have c25b0 := eq_true c25
            have c25b1 : decide (((l0_0.length : Int) : Int).toNat ≤ 35184372088832) = true := decide_eq_true c25
            clear c25
            obtain ⟨y828, hy828⟩ : ∃ y_ : List Int, y_ = (List.replicate ((l0_0.length : Int) : Int).toNat 0) := ⟨_, rfl⟩
            replace H : (cottonpadlaw06_ExitsLostB.l0 kj4 l1 t809 y825 y828 l1 (l1.length : Int) 0 l0_0 l0_1) = some r := by first | (rw [hy828]; with_reducible exact H) | (have H2_ := (Option.bind_some _ _).symm.trans H; rw [hy828]; with_reducible exact H2_) | (have H2_ := (Option.bind_some _ _).symm.trans H; with_reducible exact H2_) | with_reducible exact H | (rw [hy828]; exact H) | exact H
            have Ny828 := Aside0.mk hy828
            clear hy828
            have H' := Aside0.mk H
            clear H
            try go_wp2
            replace BK808 := Aside0.mk (blk_drew BK808.out)
            replace HB := Aside0.mk (below_drew1 HB.out)
            have q27 : ((ji17) : Int) ≤ ((l1.length : Int) : Int) := of_decide_eq_true as_
            obtain ⟨i027, hi027, _, hsz27, _⟩ := info_parts info48
            have hroom27 : l1.length ≤ c1 := HC1.out
            have hC27 : Kd.C k48 _ A1 l1.length l1 := HR1.out
            have q027 : (0 : Int) ≤ ((ji17) : Int) := of_decide_eq_true as_
            have hcut27 := cut_from (P := Tryd.prog) 26 48 .i64 Tryd.underlying26 hi027 5 hsz27 A1 l1.length c1 (ji17) q027 q27
            have hr27 := Kd.C_drop (m := ((ji17) : Int).toNat) (c := c1) hC27 (by omega) hroom27
            obtain ⟨A27, hA27⟩ : ∃ Ax_, Ax_ = (if c1 = ((ji17) : Int).toNat then A1 else (A1 : Option Addr).map (·.add (((ji17) : Int).toNat * 5))) := ⟨_, rfl⟩
            obtain ⟨c27, hc27⟩ : ∃ cx_, cx_ = c1 - ((ji17) : Int).toNat := ⟨_, rfl⟩
            have hy27 : y814.length = l1.length - ((ji17) : Int).toNat := (by rw [Ny814.out, List.length_drop] <;> omega)
            rw [show (l1).drop ((ji17) : Int).toNat = y814 from Ny814.out.symm] at hr27
            replace hr27 : Kd.C k48 _ A27 y814.length y814 := (by rw [hA27]; exact hr27)
            rw [← hy27, ← hA27, ← hc27] at hcut27
            have HR817 := Aside0.mk hr27
            have HC817 := Aside0.mk (show y814.length ≤ c27 from by rw [hy27, hc27]; exact Nat.sub_le_sub_right hroom27 _)
            clear hr27 hC27 hroom27 hi027 hsz27 hc27
            have KY27 := Aside0.mk hy27
            have KA27 := Aside0.mk hA27
            clear hy27 hA27
            replace q27 := eq_true q27
            have q28 : ((ji17) : Int) ≤ ((l1.length : Int) : Int) := of_decide_eq_true as_
            obtain ⟨i028, hi028, _, hsz28, _⟩ := info_parts info48
            have hroom28 : l1.length ≤ c1 := HC1.out
            have hC28 : Kd.C k48 _ A1 l1.length l1 := HR1.out
            have hcut28 := cut_to (P := Tryd.prog) 26 48 .i64 Tryd.underlying26 hi028 A1 l1.length c1 (ji17) (of_decide_eq_true as_) q28 hroom28
            have hr28 := Kd.C_take (m := ((ji17) : Int).toNat) hC28 (by omega)
            have hy28 : y821.length = ((ji17) : Int).toNat := (by rw [Ny821.out, List.length_take]; omega)
            rw [← Ny821.out] at hr28
            rw [← hy28] at hcut28
            have HR824 := Aside0.mk hr28
            have HC824 := Aside0.mk (show y821.length ≤ c1 from by omega)
            clear hr28 hC28 hroom28 hi028 hsz28
            have KY28 := Aside0.mk hy28
            clear hy28
            replace q28 := eq_true q28
            refine start_ (n := 10) (S := fun w' => True) (ds := []) (bm_ 10 0) (by decide +kernel) rfl rfl trivial (fun hHeld => ?_); refine with_tabW cottonpadlaw06_ExitsLostB.tab7 cottonpadlaw06_ExitsLostB.bits7 (fun HT_ HW_ => ?_)
            generalize wc.drew = w26 at BK808 HB HR817 HR824 hHeld ⊢
            refine pr2_ 1 53 10 2 HT_ rfl rfl ?_
            refine pr2_ 2 54 10 6 HT_ rfl rfl ?_
            refine pr2_ 3 55 10 14 HT_ rfl rfl ?_
            refine pr2_ 5 57 10 46 HT_ rfl rfl ?_
            refine pr2_ 6 58 10 110 HT_ rfl rfl ?_
            refine pr2_ 7 59 10 238 HT_ rfl rfl ?_
            refine one_ (i := 0) (N := some 52) (bm_ 10 239) rfl rfl (one_of HT_.out (by decide +kernel)) (by decide) (fun K hK => ?_)
            refine Kd.R_lit_step k48 _ 48 ?hg (N := 52) ?hd (xs := ([] : List (S48))) (inner := []) (ok := fun _ => True) (okp := fun _ => True) ?hr ?hp (fun _ hk => hk) trivial (Below.refl _ _) (Nat.le_refl _) (by simp) ?_; (case hd => rfl); (case hg => rfl); (case hr => exact gs_); (case hp => exact (Reps.none _ _))
            intro v812 w29 ho30 hb hg_ hnew_
            clear hg_ hnew_
            (first | rw [← Ny811.out] at ho30 | (simp only [Int.reduceToNat] at ho30; rw [← Ny811.out] at ho30))
            have HO813 := Aside0.mk (Kd.R_lower ho30 (below_size (be1_ HB GE808)))
            replace BK808 := bb_ BK808 hb
            replace HB := bs1_ HB GE808 hb
            clear hb ho30
            refine hK.out _ _ trivial (fun hHeld => ?_)
            clear hK K
            refine norm_ (a' := ?_) ?_ ?_
            rotate_left
            ·show Act.put _ (some 52) _ = _
             simp only [Act.put, List.setIfInBounds_toArray, List.set_cons_zero, List.set_cons_succ, i64_w, i32_w]
             rfl
            refine one_ (i := 4) (N := some 56) (bm_ 10 255) rfl rfl (one_of HT_.out (by decide +kernel)) (by decide) (fun K hK => ?_)
            refine Kd.R_append_rows_step k48 (w0 := w) w.heap.size (by rfl) (.tmp 52) (.tmp 55) 26 48 (.agg #[(.int .i64 0), (.int .i64 0), (.int .i64 0), (.int .i64 0), (.int .i64 0)]) 40 rfl Tryd.underlying26 info48 rfl (by decide) (by omega) v812 y811 y814 _ _ _ (fun _ => True) (fun _ => False) rfl rfl ?aO ?aR (fun _ _ h => h) (fun _ h => h.elim) ?aF ?aB ?aS ?aL ?_
            (case aR => exact kc_ HR817 HB)
            (case aB => exact (be1_ HB GE808))
            (case aF => exact (fun _ _ => trivial))
            (case aO => exact (ro_ HO813))
            (case aS => exact (below_size (be1_ HB GE808)))
            (case aL => have := LMc20.out; omega)
            intro v819 w31 ho hb hg hat
            rw [← Ny818.out] at ho
            replace BK808 := Aside0.mk (blk_grown (g := gb808) (o := .cells #[.slice A0_0 l0_0.length c0_0, .slice A0_1 l0_1.length c0_1] 25 (0, 0)) (bk_ BK808) hg (Kd.R_ne HO813.out BK808.out (by decide)))
            replace HB := Aside0.mk (hb)
            have HO820 := Aside0.mk (ho)
            clear HO813
            clear ho hb hg hat
            refine hK.out _ _ trivial (fun hHeld => ?_)
            clear hK K
            refine norm_ (a' := ?_) ?_ ?_
            rotate_left
            ·show Act.put _ (some 56) _ = _
             simp only [Act.put, List.setIfInBounds_toArray, List.set_cons_zero, List.set_cons_succ, i64_w, i32_w]
             rfl
            refine one_ (i := 8) (N := some 60) (bm_ 10 511) rfl rfl (one_of HT_.out (by decide +kernel)) (by decide) (fun K hK => ?_)
            refine Kd.R_append_rows_step k48 (w0 := w) w.heap.size (by rfl) (.tmp 56) (.tmp 59) 26 48 (.agg #[(.int .i64 0), (.int .i64 0), (.int .i64 0), (.int .i64 0), (.int .i64 0)]) 40 rfl Tryd.underlying26 info48 rfl (by decide) (by omega) v819 y818 y821 _ _ _ (fun _ => True) (fun _ => False) rfl rfl ?aO ?aR (fun _ _ h => h) (fun _ h => h.elim) ?aF ?aB ?aS ?aL ?_
            (case aR => exact kc_ HR824 HB)
            (case aB => exact (be1_ HB GE808))
            (case aF => exact (fun _ _ => trivial))
            (case aO => exact (ro_ HO820))
            (case aS => exact (below_size (be1_ HB GE808)))
            (case aL => have := LMc23.out; omega)
            intro v826 w32 ho hb hg hat
            rw [← Ny825.out] at ho
            replace BK808 := Aside0.mk (blk_grown (g := gb808) (o := .cells #[.slice A0_0 l0_0.length c0_0, .slice A0_1 l0_1.length c0_1] 25 (0, 0)) (bk_ BK808) hg (Kd.R_ne HO820.out BK808.out (by decide)))
            replace HB := Aside0.mk (hb)
            have HO827 := Aside0.mk (ho)
            clear HO820
            clear ho hb hg hat
            refine hK.out _ _ trivial (fun hHeld => ?_)
            clear hK K
            refine norm_ (a' := ?_) ?_ ?_
            rotate_left
            ·show Act.put _ (some 60) _ = _
             simp only [Act.put, List.setIfInBounds_toArray, List.set_cons_zero, List.set_cons_succ, i64_w, i32_w]
             rfl
            refine pr2_ 9 8 10 1023 HT_ rfl rfl ?_
            refine done_ (done_of HT_.out (by decide +kernel)) ?_
            have hcz33_0 : w32.cell? ⟨gb808, 0, none⟩ = some (.slice A0_0 l0_0.length c0_0) := bc_ BK808 0
            have hcz33_1 : w32.cell? ⟨gb808, 1, none⟩ = some (.slice A0_1 l0_1.length c0_1) := bc_ BK808 1
            have hfz33_0 := blk_frozen BK808.out 0
            have hfz33_1 := blk_frozen BK808.out 1
            try go_wp2_with (first | ((with_reducible refine gate_dst (N := 64) rfl ?_); (try (refine gate_guard (by rfl) ?_; dsimp only)); refine Kd.R_make (Kd.int .i64) _ 3 rfl (N := 64) rfl 67 _ _ rfl (l0_0.length : Int) rfl rfl Tryd.underlying67 (.int .i64 0) 8 info3 rfl (by decide) (by omega) 0 (ok := fun _ => True) (okp := fun _ => True) rfl (fun _ hk => hk) trivial (of_decide_eq_true as_) (Nat.le_trans (Nat.mul_le_mul_right _ (of_decide_eq_true as_ : (l0_0.length : Int).toNat ≤ 35184372088832)) (by omega)) (Below.refl _ _) (Nat.le_refl _) ?_; intro v829 w34 ho35 hb hg_ hnew_; clear hg_ hnew_; (first | rw [← Ny828.out] at ho35 | (simp only [Int.reduceToNat] at ho35; rw [← Ny828.out] at ho35)); replace HO827 := rb_ HO827 hb; have HO830 := Aside0.mk (Kd.R_lower ho35 (below_size (be1_ HB GE808))); replace BK808 := bb_ BK808 hb; replace HB := bs1_ HB GE808 hb; clear hb ho35))
            go_loopg [67] kj4 (fun kq v67 w' => ∃ (x10_2 : List Int) (x67_2 : Int), v67 = .int .i64 x67_2 ∧ Aside0 (cottonpadlaw06_ExitsLostB.l0 kq l1 t809 y825 x10_2 l1 (l1.length : Int) x67_2 l0_0 l0_1 = some r) ∧ Aside0 (kq ≤ kj4) ∧ Aside0 (Kd.R k48 48 w' w.heap.size (fun _ => True) v826 y825) ∧ Aside0 (Kd.R (Kd.int .i64) 3 w' w.heap.size (fun _ => True) v829 x10_2) ∧ Aside0 (w'.heap[gb808]? = some (.cells #[(.slice A0_0 l0_0.length c0_0), (.slice A0_1 l0_1.length c0_1)] 25 (0, 0))) ∧ Aside0 (Below w.heap.size w w'))
            case atStart => exact ⟨(y828), (0), (by first | rfl | (simp; done) | (simp [*]; done)), H', ⟨Nat.le_refl _⟩, ⟨by (with_reducible repeat (first | apply Kd.R_alloc | apply Kd.R_drewN | apply Kd.R_drew)); exact HO827.out⟩, ⟨by (with_reducible repeat (first | apply Kd.R_alloc | apply Kd.R_drewN | apply Kd.R_drew)); exact HO830.out⟩, ⟨by refine bx_ ?_; exact BK808.out⟩, ⟨be1_ HB GE808⟩⟩
            case round =>
              clear H'
              try clear c1
              try clear c2
              try clear p2
              try clear q2
              try clear c3
              try clear p6
              try clear c9
              try clear c11
              try clear c14
              try clear c15
              try clear c15b0
              try clear c15b1
              try clear c16
              try clear c16b0
              try clear c16b1
              try clear c16b2
              try clear c18
              try clear c18b0
              try clear c18b1
              try clear c19
              try clear c19b0
              try clear c19b1
              try clear c20
              try clear c21
              try clear c21b0
              try clear c22
              try clear c22b0
              try clear c23
              try clear c24
              try clear c24b0
              try clear c24b1
              try clear c25
              try clear c25b0
              try clear c25b1
              try clear c27
              try clear q27
              try clear q28
              try clear c30
              try clear hcz10_0
              try clear hcz10_1
              try clear hcz12_0
              try clear hcz12_1
              try clear hcz33_0
              try clear hcz33_1
              try clear hfz10_0
              try clear hfz10_1
              try clear hfz12_0
              try clear hfz12_1
              try clear hfz33_0
              try clear hfz33_1
              try clear p2
              try clear q027
              try clear q27
              try clear q28
              obtain ⟨x10_2, x67_2, rfl, HA, HK2, HO_8, HO_10, BK808, HB⟩ := hrel
              cases gk with
              | zero => exact absurd HA.out (by simp [cottonpadlaw06_ExitsLostB.l0])
              | succ k2 =>
               have H := HA.out
               clear HA
               simp only [cottonpadlaw06_ExitsLostB.l0] at H
               by_cases c36 : x67_2 < (l1.length : Int)
               ·rw [if_pos c36] at H
                have c36b0 : decide (x67_2 < (l1.length : Int)) = true := decide_eq_true c36
                clear c36
                by_cases c37 : 0 ≤ x67_2
                ·rw [if_pos c37] at H
                 have c37b0 : decide (0 ≤ x67_2) = true := decide_eq_true c37
                 clear c37
                 by_cases c38 : x67_2 < (l1.length : Int)
                 ·rw [if_pos c38] at H
                  have c38b0 : decide (x67_2 < (l1.length : Int)) = true := decide_eq_true c38
                  clear c38
                  by_cases c39 : 0 ≤ ((rd_T48 l1 x67_2).f0)
                  ·rw [if_pos c39] at H
                   have c39b0 : decide (0 ≤ ((rd_T48 l1 x67_2).f0)) = true := decide_eq_true c39
                   clear c39
                   by_cases c40 : ((rd_T48 l1 x67_2).f0) < (l0_1.length : Int)
                   ·rw [if_pos c40] at H
                    have c40b0 : decide (((rd_T48 l1 x67_2).f0) < (l0_1.length : Int)) = true := decide_eq_true c40
                    clear c40
                    by_cases c41 : 0 ≤ ((rd_T81 l0_1 ((rd_T48 l1 x67_2).f0)).f0)
                    ·rw [if_pos c41] at H
                     have c41b0 : decide (0 ≤ ((rd_T81 l0_1 ((rd_T48 l1 x67_2).f0)).f0)) = true := decide_eq_true c41
                     clear c41
                     by_cases c42 : ((rd_T81 l0_1 ((rd_T48 l1 x67_2).f0)).f0) < (x10_2.length : Int)
                     ·rw [if_pos c42] at H
                      have c42b0 : decide (((rd_T81 l0_1 ((rd_T48 l1 x67_2).f0)).f0) < (x10_2.length : Int)) = true := decide_eq_true c42
                      clear c42
                      obtain ⟨y835, hy835⟩ : ∃ y_ : List Int, y_ = (x10_2.set (((rd_T81 l0_1 ((rd_T48 l1 x67_2).f0)).f0) : Int).toNat (wrap64 ((rd x10_2 ((rd_T81 l0_1 ((rd_T48 l1 x67_2).f0)).f0)) + 1))) := ⟨_, rfl⟩
                      replace H : (cottonpadlaw06_ExitsLostB.l0 k2 l1 t809 y825 y835 l1 (l1.length : Int) (wrap64 (x67_2 + 1)) l0_0 l0_1) = some r := by first | (rw [hy835]; with_reducible exact H) | (have H2_ := (Option.bind_some _ _).symm.trans H; rw [hy835]; with_reducible exact H2_) | (have H2_ := (Option.bind_some _ _).symm.trans H; with_reducible exact H2_) | with_reducible exact H | (rw [hy835]; exact H) | exact H
                      have Ny835 := Aside0.mk hy835
                      clear hy835
                      have H' := Aside0.mk H
                      clear H
                      have p831 : 0 ≤ (x67_2 : Int) := of_decide_eq_true as_
                      have q831 : x67_2 < (l1.length : Int) := of_decide_eq_true as_
                      obtain ⟨ad831, e831, hx831_0, hx831_1, hx831_2, hx831_3, hx831_4⟩ := at_T48 HR1.out x67_2 p831 q831
                      cases e831
                      try replace hx831_0 := ce_ HB hx831_0
                      try replace hx831_1 := ce_ HB hx831_1
                      try replace hx831_2 := ce_ HB hx831_2
                      try replace hx831_3 := ce_ HB hx831_3
                      try replace hx831_4 := ce_ HB hx831_4
                      replace p831 := eq_true p831
                      replace q831 := eq_true q831
                      go_wp2_with (first | ((with_reducible refine gate_dst (N := 12) rfl ?_); (try (refine gate_guard (by rfl) ?_; dsimp only)); refine box_event ?hg (N := 12) ?hd (cs := #[.int .i64 0, .int .i64 0, .int .i64 0, .int .i64 0, .int .i64 0]) (t := 48) ?hr ?_; (case hd => rfl); (case hg => rfl); (case hr => exact gs_); intro gb832 hg w44 hbox hb; replace HO_8 := Aside0.mk (Kd.R_below (Kd.R_elderB (ro_ HO_8) gb832 (Nat.le_of_eq hg.symm)) hb); replace HO_10 := rb_ HO_10 hb; have BK832 := Aside0.mk (hbox); have GW832 := hl_ hg (be1_ HB GE808); have GE832 := hl_ hg (be1_ HB GE808); replace HB := bs1_ HB GE808 hb; have NB808_832 := Aside0.mk ((by rw [hg]; exact Nat.ne_of_lt (blk_lt (bk_ BK808)) : gb808 ≠ gb832)); have NB832_808 := Aside0.mk ((by rw [hg]; exact Nat.ne_of_gt (blk_lt (bk_ BK808)) : gb832 ≠ gb808)); replace BK808 := bb_ BK808 hb; clear hb hbox hg; have hnb45 := NB832_808.out; have hnc45 := NB808_832.out; have hcz46_0 : w44.cell? ⟨gb832, 0, none⟩ = some (.int .i64 0) := bc_ BK832 0; have hcz46_1 : w44.cell? ⟨gb832, 1, none⟩ = some (.int .i64 0) := bc_ BK832 1; have hcz46_2 : w44.cell? ⟨gb832, 2, none⟩ = some (.int .i64 0) := bc_ BK832 2; have hcz46_3 : w44.cell? ⟨gb832, 3, none⟩ = some (.int .i64 0) := bc_ BK832 3; have hcz46_4 : w44.cell? ⟨gb832, 4, none⟩ = some (.int .i64 0) := bc_ BK832 4; have hfz46_0 := blk_frozen BK832.out 0; have hfz46_1 := blk_frozen BK832.out 1; have hfz46_2 := blk_frozen BK832.out 2; have hfz46_3 := blk_frozen BK832.out 3; have hfz46_4 := blk_frozen BK832.out 4) | ((with_reducible refine gate_store (t := 48) (p := 12) rfl ?_); refine store_event (t := 48) (p := 12) (v := ?vo_w47) (w1 := (((((w44.setCell ⟨gb832, 0, none⟩ (.int .i64 ((rd_T48 l1 x67_2).f0))).setCell ⟨gb832, 1, none⟩ (.int .i64 ((rd_T48 l1 x67_2).f1.f0))).setCell ⟨gb832, 2, none⟩ (.int .i64 ((rd_T48 l1 x67_2).f1.f1))).setCell ⟨gb832, 3, none⟩ (.int .i64 ((rd_T48 l1 x67_2).f2.f0))).setCell ⟨gb832, 4, none⟩ (.int .i64 ((rd_T48 l1 x67_2).f2.f1)))) ?hg ?ho ?hn ?hr ?_; (case ho => rfl); (case hg => rfl); (case hn => rfl); (case hr => exact gs_); intro w47 hw; replace HO_8 : Aside0 (Kd.R k48 48 w47 w.heap.size (fun k_ => k_ ≠ gb832) v826 y825) := ⟨(by rw [hw]; exact (by refine rx_ ?_; exact Kd.R_mono (Kd.R_far (p := ⟨gb832, 4, none⟩) (Kd.R_far (p := ⟨gb832, 3, none⟩) (Kd.R_far (p := ⟨gb832, 2, none⟩) (Kd.R_far (p := ⟨gb832, 1, none⟩) (Kd.R_far (p := ⟨gb832, 0, none⟩) (Kd.R_mono HO_8.out (fun k_ hk => (⟨hk, hk.2⟩ : _ ∧ k_ ≠ gb832))) (fun _ hk => hk.2) (.int .i64 ((rd_T48 l1 x67_2).f0))) (fun _ hk => hk.2) (.int .i64 ((rd_T48 l1 x67_2).f1.f0))) (fun _ hk => hk.2) (.int .i64 ((rd_T48 l1 x67_2).f1.f1))) (fun _ hk => hk.2) (.int .i64 ((rd_T48 l1 x67_2).f2.f0))) (fun _ hk => hk.2) (.int .i64 ((rd_T48 l1 x67_2).f2.f1))) (fun _ hk => hk.1.2)))⟩; replace HO_10 : Aside0 (Kd.R (Kd.int .i64) 3 w47 w.heap.size (fun _ => True) v829 x10_2) := ⟨(by rw [hw]; exact (by refine rx_ ?_; exact Kd.R_mono (Kd.R_far (p := ⟨gb832, 4, none⟩) (Kd.R_far (p := ⟨gb832, 3, none⟩) (Kd.R_far (p := ⟨gb832, 2, none⟩) (Kd.R_far (p := ⟨gb832, 1, none⟩) (Kd.R_far (p := ⟨gb832, 0, none⟩) (Kd.R_types HO_10.out BK832.out (by decide)) (fun _ hk => hk.2) (.int .i64 ((rd_T48 l1 x67_2).f0))) (fun _ hk => hk.2) (.int .i64 ((rd_T48 l1 x67_2).f1.f0))) (fun _ hk => hk.2) (.int .i64 ((rd_T48 l1 x67_2).f1.f1))) (fun _ hk => hk.2) (.int .i64 ((rd_T48 l1 x67_2).f2.f0))) (fun _ hk => hk.2) (.int .i64 ((rd_T48 l1 x67_2).f2.f1))) (fun _ hk => trivial)))⟩; replace BK808 : Aside0 (w47.heap[gb808]? = some (.cells #[.slice A0_0 l0_0.length c0_0, .slice A0_1 l0_1.length c0_1] 25 (0, 0))) := ⟨(by rw [hw]; exact (by refine bx_ ?_; refine blk_far ?_ NB808_832.out _; refine bx_ ?_; refine blk_far ?_ NB808_832.out _; refine bx_ ?_; refine blk_far ?_ NB808_832.out _; refine bx_ ?_; refine blk_far ?_ NB808_832.out _; refine bx_ ?_; refine blk_far ?_ NB808_832.out _; refine bx_ ?_; exact BK808.out))⟩; replace BK832 : Aside0 (w47.heap[gb832]? = some (.cells #[.int .i64 ((rd_T48 l1 x67_2).f0), .int .i64 ((rd_T48 l1 x67_2).f1.f0), .int .i64 ((rd_T48 l1 x67_2).f1.f1), .int .i64 ((rd_T48 l1 x67_2).f2.f0), .int .i64 ((rd_T48 l1 x67_2).f2.f1)] 48 (0, 0))) := ⟨(by rw [hw]; exact (by refine bx_ ?_; refine blk_put (cs := #[.int .i64 ((rd_T48 l1 x67_2).f0), .int .i64 ((rd_T48 l1 x67_2).f1.f0), .int .i64 ((rd_T48 l1 x67_2).f1.f1), .int .i64 ((rd_T48 l1 x67_2).f2.f0), .int .i64 0]) ?_ 4 _ rfl; refine bx_ ?_; refine blk_put (cs := #[.int .i64 ((rd_T48 l1 x67_2).f0), .int .i64 ((rd_T48 l1 x67_2).f1.f0), .int .i64 ((rd_T48 l1 x67_2).f1.f1), .int .i64 0, .int .i64 0]) ?_ 3 _ rfl; refine bx_ ?_; refine blk_put (cs := #[.int .i64 ((rd_T48 l1 x67_2).f0), .int .i64 ((rd_T48 l1 x67_2).f1.f0), .int .i64 0, .int .i64 0, .int .i64 0]) ?_ 2 _ rfl; refine bx_ ?_; refine blk_put (cs := #[.int .i64 ((rd_T48 l1 x67_2).f0), .int .i64 0, .int .i64 0, .int .i64 0, .int .i64 0]) ?_ 1 _ rfl; refine bx_ ?_; refine blk_put (cs := #[.int .i64 0, .int .i64 0, .int .i64 0, .int .i64 0, .int .i64 0]) ?_ 0 _ rfl; refine bx_ ?_; exact BK832.out))⟩; replace HB : Aside0 (Below w.heap.size w w47) := ⟨(by rw [hw]; exact (be2_ HB GE808 GE832))⟩; clear hw; have hcz48_0 : w47.cell? ⟨gb808, 0, none⟩ = some (.slice A0_0 l0_0.length c0_0) := bc_ BK808 0; have hcz48_1 : w47.cell? ⟨gb808, 1, none⟩ = some (.slice A0_1 l0_1.length c0_1) := bc_ BK808 1; have hfz48_0 := blk_frozen BK808.out 0; have hfz48_1 := blk_frozen BK808.out 1; have hcz49_0 : w47.cell? ⟨gb832, 0, none⟩ = some (.int .i64 ((rd_T48 l1 x67_2).f0)) := bc_ BK832 0; have hcz49_1 : w47.cell? ⟨gb832, 1, none⟩ = some (.int .i64 ((rd_T48 l1 x67_2).f1.f0)) := bc_ BK832 1; have hcz49_2 : w47.cell? ⟨gb832, 2, none⟩ = some (.int .i64 ((rd_T48 l1 x67_2).f1.f1)) := bc_ BK832 2; have hcz49_3 : w47.cell? ⟨gb832, 3, none⟩ = some (.int .i64 ((rd_T48 l1 x67_2).f2.f0)) := bc_ BK832 3; have hcz49_4 : w47.cell? ⟨gb832, 4, none⟩ = some (.int .i64 ((rd_T48 l1 x67_2).f2.f1)) := bc_ BK832 4; have hfz49_0 := blk_frozen BK832.out 0; have hfz49_1 := blk_frozen BK832.out 1; have hfz49_2 := blk_frozen BK832.out 2; have hfz49_3 := blk_frozen BK832.out 3; have hfz49_4 := blk_frozen BK832.out 4; have p833 : 0 ≤ (((rd_T48 l1 x67_2).f0) : Int) := of_decide_eq_true as_; have q833 : ((rd_T48 l1 x67_2).f0) < (l0_1.length : Int) := of_decide_eq_true as_; obtain ⟨ad833, e833, hx833_0, hx833_1, hx833_2, hx833_3⟩ := at_T81 HR0_1.out ((rd_T48 l1 x67_2).f0) p833 q833; cases e833; try replace hx833_0 := ce_ HB hx833_0; try replace hx833_1 := ce_ HB hx833_1; try replace hx833_2 := ce_ HB hx833_2; try replace hx833_3 := ce_ HB hx833_3; replace p833 := eq_true p833; replace q833 := eq_true q833; obtain ⟨Ao50, co50, eo50⟩ := Kd.R_slice HO_10.out; subst eo50; have p834 : 0 ≤ (((rd_T81 l0_1 ((rd_T48 l1 x67_2).f0)).f0) : Int) := of_decide_eq_true as_; have q834 : ((rd_T81 l0_1 ((rd_T48 l1 x67_2).f0)).f0) < (x10_2.length : Int) := of_decide_eq_true as_; obtain ⟨ad834, e834, hx834_0⟩ := Kd.at_int (Kd.R_reads' HO_10.out).2.2 ((rd_T81 l0_1 ((rd_T48 l1 x67_2).f0)).f0) p834 q834; cases e834; replace p834 := eq_true p834; replace q834 := eq_true q834; have p43 : 0 ≤ (((rd_T81 l0_1 ((rd_T48 l1 x67_2).f0)).f0) : Int) := of_decide_eq_true as_; have q43 : (((rd_T81 l0_1 ((rd_T48 l1 x67_2).f0)).f0) : Int) < ((x10_2.length : Int) : Int) := of_decide_eq_true as_; obtain ⟨go43, co43, eo43, gb43, gl43, cl43, HG43⟩ := Kd.R_form HO_10.out (by omega); (first | cases eo43 | (injection eo43 with ea_ en_ ec_; (first | subst ea_ | (injection ea_ with ea_; subst ea_)); subst ec_; clear en_)); have GB43 := Aside0.mk gb43; have GG43 := Aside0.mk HG43; clear gb43 gl43 HG43; (first | simp only [add_plain] at hx834_0 | skip); obtain ⟨hx43_0, hf43_0⟩ := Kd.R_celln 0 HO_10.out (((rd_T81 l0_1 ((rd_T48 l1 x67_2).f0)).f0) : Int) p43 q43; replace p43 := eq_true p43; replace q43 := eq_true q43; obtain ⟨hy51_, hz51_⟩ := Kd.R_celln 0 HO_10.out (((rd_T81 l0_1 ((rd_T48 l1 x67_2).f0)).f0) : Int) (of_decide_eq_true as_) (of_decide_eq_true as_); have HP51 := Kd.R_putg HO_10.out (((rd_T81 l0_1 ((rd_T48 l1 x67_2).f0)).f0) : Int) (wrap64 ((rd x10_2 ((rd_T81 l0_1 ((rd_T48 l1 x67_2).f0)).f0)) + 1))) | ((with_reducible refine gate_store (t := 3) (p := 82) rfl ?_); refine store_event (t := 3) (p := 82) (v := ?vo_w52) (w1 := (w47.setCell ⟨go43, (((rd_T81 l0_1 ((rd_T48 l1 x67_2).f0)).f0) : Int).toNat, none⟩ (.int .i64 (wrap64 ((rd x10_2 ((rd_T81 l0_1 ((rd_T48 l1 x67_2).f0)).f0)) + 1))))) ?hg ?ho ?hn ?hr ?_; (case ho => rfl); (case hg => rfl); (case hn => rfl); (case hr => exact gs_); intro w52 hw; have hg : w47.grownBy w52 (some go43) := (by rw [hw]; exact HP51.2); have hp_ : Kd.R (Kd.int .i64) 3 w52 w.heap.size (fun _ => True) (.slice (some ⟨go43, 0, none⟩) x10_2.length co50) y835 := (by rw [hw, Ny835.out]; exact HP51.1); clear HP51; replace HO_8 := Aside0.mk (Kd.R_over' (v := (.slice (some ⟨go43, 0, none⟩) x10_2.length co50)) (ro_ HO_8) (Kd.R_typed HO_10.out) (by decide) hg); replace BK808 := Aside0.mk (blk_grown (g := gb808) (o := .cells #[.slice A0_0 l0_0.length c0_0, .slice (some ad833) l0_1.length c0_1] 25 (0, 0)) (bk_ BK808) hg (Kd.R_ne HO_10.out BK808.out (by decide))); replace BK832 := Aside0.mk (blk_grown (g := gb832) (o := .cells #[.int .i64 ((rd_T48 l1 x67_2).f0), .int .i64 ((rd_T48 l1 x67_2).f1.f0), .int .i64 ((rd_T48 l1 x67_2).f1.f1), .int .i64 ((rd_T48 l1 x67_2).f2.f0), .int .i64 ((rd_T48 l1 x67_2).f2.f1)] 48 (0, 0)) (bk_ BK832) hg (Kd.R_ne HO_10.out BK832.out (by decide))); replace HO_10 := Aside0.mk (hp_); replace HB := Aside0.mk ((by rw [hw]; exact below_set (HB.out) GB43.out : Below w.heap.size w w52)); clear hg hw hp_))
                      go_roundg k2
                      case measure => have := HJ4.out; have := HK2.out; omega
                      case rel => exact ⟨(y835), (wrap64 (x67_2 + 1)), (by first | rfl | (simp; done) | (simp [*]; done)), H', ⟨by have := HJ4.out; have := HK2.out; omega⟩, ⟨by (with_reducible repeat (first | apply Kd.R_alloc | apply Kd.R_drewN | apply Kd.R_drew)); exact Kd.R_mono HO_8.out (fun _ hk => trivial)⟩, ⟨by (with_reducible repeat (first | apply Kd.R_alloc | apply Kd.R_drewN | apply Kd.R_drew)); exact HO_10.out⟩, ⟨by refine bx_ ?_; exact BK808.out⟩, ⟨be2_ HB GE808 GE832⟩⟩
                     ·rw [if_neg c42] at H
                      exact absurd H (by simp)
                    ·rw [if_neg c41] at H
                     exact absurd H (by simp)
                   ·rw [if_neg c40] at H
                    exact absurd H (by simp)
                  ·rw [if_neg c39] at H
                   exact absurd H (by simp)
                 ·rw [if_neg c38] at H
                  exact absurd H (by simp)
                ·rw [if_neg c37] at H
                 exact absurd H (by simp)
               ·rw [if_neg c36] at H
                have c36b0 : decide (x67_2 < (l1.length : Int)) = false := decide_eq_false c36
                clear c36
                have H' := Aside0.mk H
                clear H
                have hcz53_0 : wr.cell? ⟨gb808, 0, none⟩ = some (.slice A0_0 l0_0.length c0_0) := bc_ BK808 0
                have hcz53_1 : wr.cell? ⟨gb808, 1, none⟩ = some (.slice A0_1 l0_1.length c0_1) := bc_ BK808 1
                have hfz53_0 := blk_frozen BK808.out 0
                have hfz53_1 := blk_frozen BK808.out 1
                go_wp2
                go_loopg [13, 87] k2 (fun kq v13 v87 w' => ∃ (x10_3 : List Int) (x13_3 : Int) (x87_3 : Int), v13 = .int .i64 x13_3 ∧ v87 = .int .i64 x87_3 ∧ Aside0 (cottonpadlaw06_ExitsLostB.l1 kq l1 t809 y825 x10_3 x13_3 l0_0 (l0_0.length : Int) x87_3 l0_0 l0_1 = some r) ∧ Aside0 (kq ≤ k2) ∧ Aside0 (Kd.R k48 48 w' w.heap.size (fun _ => True) v826 y825) ∧ Aside0 (Kd.R (Kd.int .i64) 3 w' w.heap.size (fun _ => True) v829 x10_3) ∧ Aside0 (w'.heap[gb808]? = some (.cells #[(.slice A0_0 l0_0.length c0_0), (.slice A0_1 l0_1.length c0_1)] 25 (0, 0))) ∧ Aside0 (Below w.heap.size w w'))
                case atStart => exact ⟨(x10_2), (0), (0), (by first | rfl | (simp; done) | (simp [*]; done)), (by first | rfl | (simp; done) | (simp [*]; done)), H', ⟨Nat.le_refl _⟩, ⟨by (with_reducible repeat (first | apply Kd.R_alloc | apply Kd.R_drewN | apply Kd.R_drew)); exact HO_8.out⟩, ⟨by (with_reducible repeat (first | apply Kd.R_alloc | apply Kd.R_drewN | apply Kd.R_drew)); exact HO_10.out⟩, ⟨by refine bx_ ?_; exact BK808.out⟩, ⟨be1_ HB GE808⟩⟩
                case round =>
                  clear H'
                  try clear c1
                  try clear c2
                  try clear p2
                  try clear q2
                  try clear c3
                  try clear c4
                  try clear p4
                  try clear q4
                  try clear hx4
                  try clear hf4
                  try clear p6
                  try clear p8
                  try clear q8
                  try clear hx8
                  try clear c9
                  try clear c11
                  try clear c14
                  try clear c15
                  try clear c15b0
                  try clear c15b1
                  try clear c16
                  try clear c16b0
                  try clear c16b1
                  try clear c16b2
                  try clear c18
                  try clear c18b0
                  try clear c18b1
                  try clear c19
                  try clear c19b0
                  try clear c19b1
                  try clear c20
                  try clear c21
                  try clear c21b0
                  try clear c22
                  try clear c22b0
                  try clear c23
                  try clear c24
                  try clear c24b0
                  try clear c24b1
                  try clear c25
                  try clear c25b0
                  try clear c25b1
                  try clear c27
                  try clear q27
                  try clear q28
                  try clear c30
                  try clear c36
                  try clear c36b0
                  try clear c37
                  try clear c37b0
                  try clear c38
                  try clear c38b0
                  try clear c39
                  try clear c39b0
                  try clear c40
                  try clear c40b0
                  try clear c41
                  try clear c41b0
                  try clear c42
                  try clear c42b0
                  try clear p43
                  try clear q43
                  try clear hx43
                  try clear hf43
                  try clear c45
                  try clear hcz10_0
                  try clear hcz10_1
                  try clear hcz12_0
                  try clear hcz12_1
                  try clear hcz33_0
                  try clear hcz33_1
                  try clear hcz46_0
                  try clear hcz46_1
                  try clear hcz46_2
                  try clear hcz46_3
                  try clear hcz46_4
                  try clear hcz48_0
                  try clear hcz48_1
                  try clear hcz49_0
                  try clear hcz49_1
                  try clear hcz49_2
                  try clear hcz49_3
                  try clear hcz49_4
                  try clear hcz53_0
                  try clear hcz53_1
                  try clear hfz10_0
                  try clear hfz10_1
                  try clear hfz12_0
                  try clear hfz12_1
                  try clear hfz33_0
                  try clear hfz33_1
                  try clear hfz46_0
                  try clear hfz46_1
                  try clear hfz46_2
                  try clear hfz46_3
                  try clear hfz46_4
                  try clear hfz48_0
                  try clear hfz48_1
                  try clear hfz49_0
                  try clear hfz49_1
                  try clear hfz49_2
                  try clear hfz49_3
                  try clear hfz49_4
                  try clear hfz53_0
                  try clear hfz53_1
                  try clear hx43_0
                  try clear hx831_0
                  try clear hx831_1
                  try clear hx831_2
                  try clear hx831_3
                  try clear hx831_4
                  try clear hx833_0
                  try clear hx833_1
                  try clear hx833_2
                  try clear hx833_3
                  try clear hx834_0
                  try clear p2
                  try clear p43
                  try clear p6
                  try clear p831
                  try clear p833
                  try clear p834
                  try clear q027
                  try clear q2
                  try clear q27
                  try clear q28
                  try clear q43
                  try clear q831
                  try clear q833
                  try clear q834
                  obtain ⟨x10_3, x13_3, x87_3, rfl, rfl, HA, HK3, HO_8, HO_10, BK808, HB⟩ := hrel
                  cases gk with
                  | zero => exact absurd HA.out (by simp [cottonpadlaw06_ExitsLostB.l1])
                  | succ k3 =>
                   have H := HA.out
                   clear HA
                   simp only [cottonpadlaw06_ExitsLostB.l1] at H
                   by_cases c54 : x87_3 < (l0_0.length : Int)
                   ·rw [if_pos c54] at H
                    have c54b0 : decide (x87_3 < (l0_0.length : Int)) = true := decide_eq_true c54
                    clear c54
                    by_cases c55 : 0 ≤ x87_3
                    ·rw [if_pos c55] at H
                     have c55b0 : decide (0 ≤ x87_3) = true := decide_eq_true c55
                     clear c55
                     by_cases c56 : x87_3 < (l0_0.length : Int)
                     ·rw [if_pos c56] at H
                      have c56b0 : decide (x87_3 < (l0_0.length : Int)) = true := decide_eq_true c56
                      clear c56
                      replace H := Option.bind_eq_some_iff.mp H
                      obtain ⟨⟨t838, t841⟩, A570, H⟩ := H
                      replace H : ((exits_Leaves.f l0_0 l0_1 y825 x87_3).bind fun bt842 => (if t841 = 0 then (if bt842.2 = 0 then ((cottonpadref06_SameSpans.f k3 t838 bt842.1).bind fun t846 => (if t846 = true then (if x87_3 < (x10_3.length : Int) then (cottonpadlaw06_ExitsLostB.j3 k3 l1 t809 y825 x10_3 x13_3 t838 l0_0 (l0_0.length : Int) x87_3 ((t838.length : Int) != (rd x10_3 x87_3)) l0_0 l0_1 ((rd_T62 l0_0 x87_3).f0) ((rd_T62 l0_0 x87_3).f1) ((rd_T62 l0_0 x87_3).f2.f0) ((rd_T62 l0_0 x87_3).f2.f1) ((rd_T62 l0_0 x87_3).f3.f0) ((rd_T62 l0_0 x87_3).f3.f1)) else (none)) else (cottonpadlaw06_ExitsLostB.j3 k3 l1 t809 y825 x10_3 x13_3 t838 l0_0 (l0_0.length : Int) x87_3 true l0_0 l0_1 ((rd_T62 l0_0 x87_3).f0) ((rd_T62 l0_0 x87_3).f1) ((rd_T62 l0_0 x87_3).f2.f0) ((rd_T62 l0_0 x87_3).f2.f1) ((rd_T62 l0_0 x87_3).f3.f0) ((rd_T62 l0_0 x87_3).f3.f1)))) else (cottonpadlaw06_ExitsLostB.j3 k3 l1 t809 y825 x10_3 x13_3 t838 l0_0 (l0_0.length : Int) x87_3 true l0_0 l0_1 ((rd_T62 l0_0 x87_3).f0) ((rd_T62 l0_0 x87_3).f1) ((rd_T62 l0_0 x87_3).f2.f0) ((rd_T62 l0_0 x87_3).f2.f1) ((rd_T62 l0_0 x87_3).f3.f0) ((rd_T62 l0_0 x87_3).f3.f1))) else (cottonpadlaw06_ExitsLostB.j3 k3 l1 t809 y825 x10_3 x13_3 t838 l0_0 (l0_0.length : Int) x87_3 true l0_0 l0_1 ((rd_T62 l0_0 x87_3).f0) ((rd_T62 l0_0 x87_3).f1) ((rd_T62 l0_0 x87_3).f2.f0) ((rd_T62 l0_0 x87_3).f2.f1) ((rd_T62 l0_0 x87_3).f3.f0) ((rd_T62 l0_0 x87_3).f3.f1)))) = some r := H
                      have A57 := Aside0.mk A570
                      clear A570
                      replace H := Option.bind_eq_some_iff.mp H
                      obtain ⟨⟨t842, t845⟩, A580, H⟩ := H
                      replace H : (if t841 = 0 then (if t845 = 0 then ((cottonpadref06_SameSpans.f k3 t838 t842).bind fun t846 => (if t846 = true then (if x87_3 < (x10_3.length : Int) then (cottonpadlaw06_ExitsLostB.j3 k3 l1 t809 y825 x10_3 x13_3 t838 l0_0 (l0_0.length : Int) x87_3 ((t838.length : Int) != (rd x10_3 x87_3)) l0_0 l0_1 ((rd_T62 l0_0 x87_3).f0) ((rd_T62 l0_0 x87_3).f1) ((rd_T62 l0_0 x87_3).f2.f0) ((rd_T62 l0_0 x87_3).f2.f1) ((rd_T62 l0_0 x87_3).f3.f0) ((rd_T62 l0_0 x87_3).f3.f1)) else (none)) else (cottonpadlaw06_ExitsLostB.j3 k3 l1 t809 y825 x10_3 x13_3 t838 l0_0 (l0_0.length : Int) x87_3 true l0_0 l0_1 ((rd_T62 l0_0 x87_3).f0) ((rd_T62 l0_0 x87_3).f1) ((rd_T62 l0_0 x87_3).f2.f0) ((rd_T62 l0_0 x87_3).f2.f1) ((rd_T62 l0_0 x87_3).f3.f0) ((rd_T62 l0_0 x87_3).f3.f1)))) else (cottonpadlaw06_ExitsLostB.j3 k3 l1 t809 y825 x10_3 x13_3 t838 l0_0 (l0_0.length : Int) x87_3 true l0_0 l0_1 ((rd_T62 l0_0 x87_3).f0) ((rd_T62 l0_0 x87_3).f1) ((rd_T62 l0_0 x87_3).f2.f0) ((rd_T62 l0_0 x87_3).f2.f1) ((rd_T62 l0_0 x87_3).f3.f0) ((rd_T62 l0_0 x87_3).f3.f1))) else (cottonpadlaw06_ExitsLostB.j3 k3 l1 t809 y825 x10_3 x13_3 t838 l0_0 (l0_0.length : Int) x87_3 true l0_0 l0_1 ((rd_T62 l0_0 x87_3).f0) ((rd_T62 l0_0 x87_3).f1) ((rd_T62 l0_0 x87_3).f2.f0) ((rd_T62 l0_0 x87_3).f2.f1) ((rd_T62 l0_0 x87_3).f3.f0) ((rd_T62 l0_0 x87_3).f3.f1))) = some r := H
                      have A58 := Aside0.mk A580
                      clear A580
                      have HC59 := Aside0.mk H
                      clear H
                      have p836 : 0 ≤ (x87_3 : Int) := of_decide_eq_true as_
                      have q836 : x87_3 < (l0_0.length : Int) := of_decide_eq_true as_
                      obtain ⟨ad836, e836, hx836_0, hx836_1, hx836_2, hx836_3, hx836_4, hx836_5⟩ := at_T62 HR0_0.out x87_3 p836 q836
                      cases e836
                      try replace hx836_0 := ce_ HB hx836_0
                      try replace hx836_1 := ce_ HB hx836_1
                      try replace hx836_2 := ce_ HB hx836_2
                      try replace hx836_3 := ce_ HB hx836_3
                      try replace hx836_4 := ce_ HB hx836_4
                      try replace hx836_5 := ce_ HB hx836_5
                      replace p836 := eq_true p836
                      replace q836 := eq_true q836
                      go_upto_region 20 with (first | ((with_reducible refine gate_dst (N := 15) rfl ?_); (try (refine gate_guard (by rfl) ?_; dsimp only)); refine box_event ?hg (N := 15) ?hd (cs := #[.int .i64 0, .int .i64 0, .int .i64 0, .int .i64 0, .int .i64 0, .int .i64 0]) (t := 62) ?hr ?_; (case hd => rfl); (case hg => rfl); (case hr => exact gs_); intro gb837 hg w60 hbox hb; replace HO_8 := rb_ HO_8 hb; replace HO_10 := rb_ HO_10 hb; have BK837 := Aside0.mk (hbox); have GW837 := hl_ hg (be1_ HB GE808); have GE837 := hl_ hg (be1_ HB GE808); replace HB := bs1_ HB GE808 hb; have NB808_837 := Aside0.mk ((by rw [hg]; exact Nat.ne_of_lt (blk_lt (bk_ BK808)) : gb808 ≠ gb837)); have NB837_808 := Aside0.mk ((by rw [hg]; exact Nat.ne_of_gt (blk_lt (bk_ BK808)) : gb837 ≠ gb808)); replace BK808 := bb_ BK808 hb; clear hb hbox hg; have hnb61 := NB837_808.out; have hnc61 := NB808_837.out; have hcz62_0 : w60.cell? ⟨gb837, 0, none⟩ = some (.int .i64 0) := bc_ BK837 0; have hcz62_1 : w60.cell? ⟨gb837, 1, none⟩ = some (.int .i64 0) := bc_ BK837 1; have hcz62_2 : w60.cell? ⟨gb837, 2, none⟩ = some (.int .i64 0) := bc_ BK837 2; have hcz62_3 : w60.cell? ⟨gb837, 3, none⟩ = some (.int .i64 0) := bc_ BK837 3; have hcz62_4 : w60.cell? ⟨gb837, 4, none⟩ = some (.int .i64 0) := bc_ BK837 4; have hcz62_5 : w60.cell? ⟨gb837, 5, none⟩ = some (.int .i64 0) := bc_ BK837 5; have hfz62_0 := blk_frozen BK837.out 0; have hfz62_1 := blk_frozen BK837.out 1; have hfz62_2 := blk_frozen BK837.out 2; have hfz62_3 := blk_frozen BK837.out 3; have hfz62_4 := blk_frozen BK837.out 4; have hfz62_5 := blk_frozen BK837.out 5; have hcz63_0 : w60.cell? ⟨gb808, 0, none⟩ = some (.slice (some ad836) l0_0.length c0_0) := bc_ BK808 0; have hcz63_1 : w60.cell? ⟨gb808, 1, none⟩ = some (.slice A0_1 l0_1.length c0_1) := bc_ BK808 1; have hfz63_0 := blk_frozen BK808.out 0; have hfz63_1 := blk_frozen BK808.out 1) | ((with_reducible refine gate_callee (f := 17) rfl ?_); refine goesL_ (some 96) rfl rfl Tryd.func17 (by decide +kernel) rfl #[.agg #[.slice (some ad836) l0_0.length c0_0, .slice A0_1 l0_1.length c0_1], .slice A1 l1.length c1, .int .i64 x87_3] rfl ls_ ?_; (with_reducible refine (exits_Leaves.calls _ _ l0_0 _ _ l0_1 _ _ l1 x87_3 t838 t841 _ ?side7 ?side1 ?side2 ?side3 ?side4 ?side5 ?side6 A57.out).mono ?_); (case side1 => exact Kd.C_below HR0_0.out (be2_ HB GE808 GE837)); (case side2 => exact HC0_0.out); (case side3 => exact Kd.C_below HR0_1.out (be2_ HB GE808 GE837)); (case side4 => exact HC0_1.out); (case side5 => exact Kd.C_below HR1.out (be2_ HB GE808 GE837)); (case side6 => exact HC1.out); (case side7 => exact GlobsE.below HG.out.1 (be2_ HB GE808 GE837)); rintro e w64 ⟨v839, rfl, ho0, hb⟩; refine ⟨_, rfl, ?_⟩; replace HO_8 := Aside0.mk (Kd.R_below (by (with_reducible repeat (first | apply Kd.R_alloc | apply Kd.R_drewN | apply Kd.R_drew)); exact (Kd.R_mono (Kd.R_far (p := ⟨gb837, 5, none⟩) (Kd.R_far (p := ⟨gb837, 4, none⟩) (Kd.R_far (p := ⟨gb837, 3, none⟩) (Kd.R_far (p := ⟨gb837, 2, none⟩) (Kd.R_far (p := ⟨gb837, 1, none⟩) (Kd.R_far (p := ⟨gb837, 0, none⟩) (Kd.R_types HO_8.out BK837.out (by decide)) (fun _ hk => hk.2) (.int .i64 ((rd_T62 l0_0 x87_3).f0))) (fun _ hk => hk.2) (.int .i64 ((rd_T62 l0_0 x87_3).f1))) (fun _ hk => hk.2) (.int .i64 ((rd_T62 l0_0 x87_3).f2.f0))) (fun _ hk => hk.2) (.int .i64 ((rd_T62 l0_0 x87_3).f2.f1))) (fun _ hk => hk.2) (.int .i64 ((rd_T62 l0_0 x87_3).f3.f0))) (fun _ hk => hk.2) (.int .i64 ((rd_T62 l0_0 x87_3).f3.f1))) (fun _ h_ => h_.1))) hb); replace HO_10 := Aside0.mk (Kd.R_below (by (with_reducible repeat (first | apply Kd.R_alloc | apply Kd.R_drewN | apply Kd.R_drew)); exact (Kd.R_mono (Kd.R_far (p := ⟨gb837, 5, none⟩) (Kd.R_far (p := ⟨gb837, 4, none⟩) (Kd.R_far (p := ⟨gb837, 3, none⟩) (Kd.R_far (p := ⟨gb837, 2, none⟩) (Kd.R_far (p := ⟨gb837, 1, none⟩) (Kd.R_far (p := ⟨gb837, 0, none⟩) (Kd.R_types HO_10.out BK837.out (by decide)) (fun _ hk => hk.2) (.int .i64 ((rd_T62 l0_0 x87_3).f0))) (fun _ hk => hk.2) (.int .i64 ((rd_T62 l0_0 x87_3).f1))) (fun _ hk => hk.2) (.int .i64 ((rd_T62 l0_0 x87_3).f2.f0))) (fun _ hk => hk.2) (.int .i64 ((rd_T62 l0_0 x87_3).f2.f1))) (fun _ hk => hk.2) (.int .i64 ((rd_T62 l0_0 x87_3).f3.f0))) (fun _ hk => hk.2) (.int .i64 ((rd_T62 l0_0 x87_3).f3.f1))) (fun _ h_ => h_.1))) hb); have HO840 := Aside0.mk (Kd.R_lower ho0 (below_size (be2_ HB GE808 GE837))); replace BK808 := Aside0.mk (blk_below (g := gb808) (o := .cells #[.slice (some ad836) l0_0.length c0_0, .slice A0_1 l0_1.length c0_1] 25 (0, 0)) (by refine bx_ ?_; refine blk_far ?_ NB808_837.out _; refine bx_ ?_; refine blk_far ?_ NB808_837.out _; refine bx_ ?_; refine blk_far ?_ NB808_837.out _; refine bx_ ?_; refine blk_far ?_ NB808_837.out _; refine bx_ ?_; refine blk_far ?_ NB808_837.out _; refine bx_ ?_; refine blk_far ?_ NB808_837.out _; refine bx_ ?_; exact BK808.out) hb); replace BK837 := Aside0.mk (blk_below (g := gb837) (o := .cells #[.int .i64 ((rd_T62 l0_0 x87_3).f0), .int .i64 ((rd_T62 l0_0 x87_3).f1), .int .i64 ((rd_T62 l0_0 x87_3).f2.f0), .int .i64 ((rd_T62 l0_0 x87_3).f2.f1), .int .i64 ((rd_T62 l0_0 x87_3).f3.f0), .int .i64 ((rd_T62 l0_0 x87_3).f3.f1)] 62 (0, 0)) (by refine bx_ ?_; refine blk_put (cs := #[.int .i64 ((rd_T62 l0_0 x87_3).f0), .int .i64 ((rd_T62 l0_0 x87_3).f1), .int .i64 ((rd_T62 l0_0 x87_3).f2.f0), .int .i64 ((rd_T62 l0_0 x87_3).f2.f1), .int .i64 ((rd_T62 l0_0 x87_3).f3.f0), .int .i64 0]) ?_ 5 _ rfl; refine bx_ ?_; refine blk_put (cs := #[.int .i64 ((rd_T62 l0_0 x87_3).f0), .int .i64 ((rd_T62 l0_0 x87_3).f1), .int .i64 ((rd_T62 l0_0 x87_3).f2.f0), .int .i64 ((rd_T62 l0_0 x87_3).f2.f1), .int .i64 0, .int .i64 0]) ?_ 4 _ rfl; refine bx_ ?_; refine blk_put (cs := #[.int .i64 ((rd_T62 l0_0 x87_3).f0), .int .i64 ((rd_T62 l0_0 x87_3).f1), .int .i64 ((rd_T62 l0_0 x87_3).f2.f0), .int .i64 0, .int .i64 0, .int .i64 0]) ?_ 3 _ rfl; refine bx_ ?_; refine blk_put (cs := #[.int .i64 ((rd_T62 l0_0 x87_3).f0), .int .i64 ((rd_T62 l0_0 x87_3).f1), .int .i64 0, .int .i64 0, .int .i64 0, .int .i64 0]) ?_ 2 _ rfl; refine bx_ ?_; refine blk_put (cs := #[.int .i64 ((rd_T62 l0_0 x87_3).f0), .int .i64 0, .int .i64 0, .int .i64 0, .int .i64 0, .int .i64 0]) ?_ 1 _ rfl; refine bx_ ?_; refine blk_put (cs := #[.int .i64 0, .int .i64 0, .int .i64 0, .int .i64 0, .int .i64 0, .int .i64 0]) ?_ 0 _ rfl; refine bx_ ?_; exact BK837.out) hb); replace HB := bs2_ HB GE808 GE837 hb; (try clear hb); (try clear hb2); (try clear hk); (try clear hi); (try clear ho0); have hcz65_0 : w64.cell? ⟨gb808, 0, none⟩ = some (.slice (some ad836) l0_0.length c0_0) := bc_ BK808 0; have hcz65_1 : w64.cell? ⟨gb808, 1, none⟩ = some (.slice A0_1 l0_1.length c0_1) := bc_ BK808 1; have hfz65_0 := blk_frozen BK808.out 0; have hfz65_1 := blk_frozen BK808.out 1; obtain ⟨Ao66, co66, eo66⟩ := Kd.R_slice HO_8.out; subst eo66) | ((with_reducible refine gate_callee (f := 17) rfl ?_); refine goesL_ (some 103) rfl rfl Tryd.func17 (by decide +kernel) rfl #[.agg #[.slice (some ad836) l0_0.length c0_0, .slice A0_1 l0_1.length c0_1], .slice Ao66 y825.length co66, .int .i64 x87_3] rfl ls_ ?_; (with_reducible refine (exits_Leaves.calls _ _ l0_0 _ _ l0_1 _ _ y825 x87_3 t842 t845 _ ?side7 ?side1 ?side2 ?side3 ?side4 ?side5 ?side6 A58.out).mono ?_); (case side1 => exact kc_ HR0_0 HB); (case side2 => exact HC0_0.out); (case side3 => exact kc_ HR0_1 HB); (case side4 => exact HC0_1.out); (case side5 => exact kd_ (Kd.R_reads' HO_8.out).2.2); (case side6 => exact (Kd.R_reads' HO_8.out).2.1); (case side7 => exact GlobsE.below HG.out.1 (be2_ HB GE808 GE837)); rintro e w67 ⟨v843, rfl, ho0, hb⟩; refine ⟨_, rfl, ?_⟩; replace HO_8 := rb_ HO_8 hb; replace HO_10 := rb_ HO_10 hb; have HO844 := Aside0.mk (Kd.R_lower (Kd.R_new' ho0 (Kd.R_lt (ro_ HO840))) (below_size (be2_ HB GE808 GE837))); replace HO840 := Aside0.mk (Kd.R_elder' (ro_ HO840) (Kd.R_base ho0) hb); replace BK808 := bb_ BK808 hb; replace BK837 := bb_ BK837 hb; replace HB := bs2_ HB GE808 GE837 hb; (try clear hb); (try clear hb2); (try clear hk); (try clear hi); (try clear ho0)))
                      (try simp only [Act.put, List.setIfInBounds_toArray, List.set_cons_zero, List.set_cons_succ])
                      go_cut [126] (fun v126 wc => ∃ (kq : Nat) (x126_58 : Bool), v126 = .bool x126_58 ∧ Aside0 (cottonpadlaw06_ExitsLostB.j3 kq l1 t809 y825 x10_3 x13_3 t838 l0_0 (l0_0.length : Int) x87_3 x126_58 l0_0 l0_1 ((rd_T62 l0_0 x87_3).f0) ((rd_T62 l0_0 x87_3).f1) ((rd_T62 l0_0 x87_3).f2.f0) ((rd_T62 l0_0 x87_3).f2.f1) ((rd_T62 l0_0 x87_3).f3.f0) ((rd_T62 l0_0 x87_3).f3.f1) = some r) ∧ Aside0 (kq ≤ k3) ∧ Aside0 (Kd.R k48 48 wc w.heap.size (fun _ => True) (.slice Ao66 y825.length co66) y825) ∧ Aside0 (Kd.R (Kd.int .i64) 3 wc w.heap.size (fun _ => True) v829 x10_3) ∧ Aside0 (Kd.R k36 36 wc w.heap.size (fun _ => True) v839 t838) ∧ Aside0 (wc.heap[gb808]? = some (.cells #[(.slice (some ad836) l0_0.length c0_0), (.slice A0_1 l0_1.length c0_1)] 25 (0, 0))) ∧ Aside0 (wc.heap[gb837]? = some (.cells #[.int .i64 ((rd_T62 l0_0 x87_3).f0), .int .i64 ((rd_T62 l0_0 x87_3).f1), .int .i64 ((rd_T62 l0_0 x87_3).f2.f0), .int .i64 ((rd_T62 l0_0 x87_3).f2.f1), .int .i64 ((rd_T62 l0_0 x87_3).f3.f0), .int .i64 ((rd_T62 l0_0 x87_3).f3.f1)] 62 (0, 0))) ∧ Aside0 (Below w.heap.size w wc))
                      case first =>
                        have H := HC59.out
                        clear HC59
                        by_cases c68 : t841 = 0
                        ·rw [if_pos c68] at H
                         have c68b0 : (t841 == 0) = true := beq_iff_eq.mpr c68
                         have c68b1 : (t841 != 0) = false := bne_eq_false_iff_eq.mpr c68
                         clear c68
                         (first | rw [c68b0] | (simp only [i64_w, i32_w]; rw [c68b0]) | skip)
                         by_cases c69 : t845 = 0
                         ·rw [if_pos c69] at H
                          have c69b0 : (t845 == 0) = true := beq_iff_eq.mpr c69
                          have c69b1 : (t845 != 0) = false := bne_eq_false_iff_eq.mpr c69
                          clear c69
                          replace H := Option.bind_eq_some_iff.mp H
                          obtain ⟨t846, A700, H⟩ := H
                          replace H : (if t846 = true then (if x87_3 < (x10_3.length : Int) then (cottonpadlaw06_ExitsLostB.j3 k3 l1 t809 y825 x10_3 x13_3 t838 l0_0 (l0_0.length : Int) x87_3 ((t838.length : Int) != (rd x10_3 x87_3)) l0_0 l0_1 ((rd_T62 l0_0 x87_3).f0) ((rd_T62 l0_0 x87_3).f1) ((rd_T62 l0_0 x87_3).f2.f0) ((rd_T62 l0_0 x87_3).f2.f1) ((rd_T62 l0_0 x87_3).f3.f0) ((rd_T62 l0_0 x87_3).f3.f1)) else (none)) else (cottonpadlaw06_ExitsLostB.j3 k3 l1 t809 y825 x10_3 x13_3 t838 l0_0 (l0_0.length : Int) x87_3 true l0_0 l0_1 ((rd_T62 l0_0 x87_3).f0) ((rd_T62 l0_0 x87_3).f1) ((rd_T62 l0_0 x87_3).f2.f0) ((rd_T62 l0_0 x87_3).f2.f1) ((rd_T62 l0_0 x87_3).f3.f0) ((rd_T62 l0_0 x87_3).f3.f1))) = some r := H
                          have A70 := Aside0.mk A700
                          clear A700
                          by_cases c71 : t846 = true
                          ·subst c71
                           have H1 : (if x87_3 < (x10_3.length : Int) then (cottonpadlaw06_ExitsLostB.j3 k3 l1 t809 y825 x10_3 x13_3 t838 l0_0 (l0_0.length : Int) x87_3 ((t838.length : Int) != (rd x10_3 x87_3)) l0_0 l0_1 ((rd_T62 l0_0 x87_3).f0) ((rd_T62 l0_0 x87_3).f1) ((rd_T62 l0_0 x87_3).f2.f0) ((rd_T62 l0_0 x87_3).f2.f1) ((rd_T62 l0_0 x87_3).f3.f0) ((rd_T62 l0_0 x87_3).f3.f1)) else (none)) = some r := by rw [if_pos rfl] at H; exact H
                           clear H
                           have H := H1
                           clear H1
                           by_cases c72 : x87_3 < (x10_3.length : Int)
                           ·rw [if_pos c72] at H
                            have c72b0 : decide (x87_3 < (x10_3.length : Int)) = true := decide_eq_true c72
                            clear c72
                            have H' := Aside0.mk H
                            clear H
                            obtain ⟨Ao73, co73, eo73⟩ := Kd.R_slice HO840.out
                            subst eo73
                            obtain ⟨Ao74, co74, eo74⟩ := Kd.R_slice HO844.out
                            subst eo74
                            go_wp2_with (first | (go_at_call 23; (with_reducible refine (cottonpadref06_SameSpans.calls k3 _ _ t838 _ _ t842 true _ ?side1 ?side2 ?side3 ?side4 A70.out).mono ?_); (case side1 => exact kd_ (Kd.R_reads' HO840.out).2.2); (case side2 => exact (Kd.R_reads' HO840.out).2.1); (case side3 => exact kd_ (Kd.R_reads' HO844.out).2.2); (case side4 => exact (Kd.R_reads' HO844.out).2.1); rintro e w' ⟨rfl, ⟨nd, rfl⟩⟩; obtain ⟨Ao75, co75, eo75⟩ := Kd.R_slice HO_10.out; subst eo75; have p847 : 0 ≤ (x87_3 : Int) := of_decide_eq_true as_; have q847 : x87_3 < (x10_3.length : Int) := of_decide_eq_true as_; obtain ⟨ad847, e847, hx847_0⟩ := Kd.at_int (Kd.R_reads' HO_10.out).2.2 x87_3 p847 q847; cases e847; replace p847 := eq_true p847; replace q847 := eq_true q847))
                            go_meet
                            case rel => exact ⟨_, (((t838.length : Int) != (rd x10_3 x87_3))), (by first | rfl | (simp; done) | (simp [*]; done)), H', ⟨by have := HJ4.out; have := HK2.out; have := HK3.out; first | omega | exact Nat.le_refl _⟩, ⟨by (with_reducible repeat (first | apply Kd.R_alloc | apply Kd.R_drewN | apply Kd.R_drew)); exact HO_8.out⟩, ⟨by (with_reducible repeat (first | apply Kd.R_alloc | apply Kd.R_drewN | apply Kd.R_drew)); exact HO_10.out⟩, ⟨by (with_reducible repeat (first | apply Kd.R_alloc | apply Kd.R_drewN | apply Kd.R_drew)); exact Kd.R_mono HO840.out (fun _ hk => trivial)⟩, ⟨by refine bx_ ?_; exact BK808.out⟩, ⟨by refine bx_ ?_; exact BK837.out⟩, ⟨be2_ HB GE808 GE837⟩⟩
                           ·rw [if_neg c72] at H
                            exact absurd H (by simp)
                          ·replace c71 := Bool.eq_false_iff.mpr c71
                           subst c71
                           have H1 : (cottonpadlaw06_ExitsLostB.j3 k3 l1 t809 y825 x10_3 x13_3 t838 l0_0 (l0_0.length : Int) x87_3 true l0_0 l0_1 ((rd_T62 l0_0 x87_3).f0) ((rd_T62 l0_0 x87_3).f1) ((rd_T62 l0_0 x87_3).f2.f0) ((rd_T62 l0_0 x87_3).f2.f1) ((rd_T62 l0_0 x87_3).f3.f0) ((rd_T62 l0_0 x87_3).f3.f1)) = some r := by rw [if_neg (show ¬ (false = true) by decide)] at H; exact H
                           clear H
                           have H := H1
                           clear H1
                           exact absurd H (by rw [HRT.out]; cases k3 <;> simp [cottonpadlaw06_ExitsLostB.j3])
                         ·rw [if_neg c69] at H
                          have c69b0 : (t845 == 0) = false := beq_eq_false_iff_ne.mpr c69
                          have c69b1 : (t845 != 0) = true := bne_iff_ne.mpr c69
                          exact absurd H (by rw [HRT.out]; cases k3 <;> simp [cottonpadlaw06_ExitsLostB.j3])
                        ·rw [if_neg c68] at H
                         have c68b0 : (t841 == 0) = false := beq_eq_false_iff_ne.mpr c68
                         have c68b1 : (t841 != 0) = true := bne_iff_ne.mpr c68
                         (first | rw [c68b0] | (simp only [i64_w, i32_w]; rw [c68b0]) | skip)
                         exact absurd H (by rw [HRT.out]; cases k3 <;> simp [cottonpadlaw06_ExitsLostB.j3])
                      case rest =>
                        clear HC59
                        try clear c1
                        try clear c2
                        try clear p2
                        try clear q2
                        try clear c3
                        try clear c4
                        try clear p4
                        try clear q4
                        try clear hx4
                        try clear hf4
                        try clear c5
                        try clear c6
                        try clear p6
                        try clear c7
                        try clear p8
                        try clear q8
                        try clear hx8
                        try clear c9
                        try clear c11
                        try clear c14
                        try clear c15
                        try clear c15b0
                        try clear c15b1
                        try clear c16
                        try clear c16b0
                        try clear c16b1
                        try clear c16b2
                        try clear c17
                        try clear c18
                        try clear c18b0
                        try clear c18b1
                        try clear c19
                        try clear c19b0
                        try clear c19b1
                        try clear c20
                        try clear c21
                        try clear c21b0
                        try clear c22
                        try clear c22b0
                        try clear c23
                        try clear c24
                        try clear c24b0
                        try clear c24b1
                        try clear c25
                        try clear c25b0
                        try clear c25b1
                        try clear c27
                        try clear q27
                        try clear q28
                        try clear c30
                        try clear c36
                        try clear c36b0
                        try clear c37
                        try clear c37b0
                        try clear c38
                        try clear c38b0
                        try clear c39
                        try clear c39b0
                        try clear c40
                        try clear c40b0
                        try clear c41
                        try clear c41b0
                        try clear c42
                        try clear c42b0
                        try clear p43
                        try clear q43
                        try clear hx43
                        try clear hf43
                        try clear c45
                        try clear c54
                        try clear c54b0
                        try clear c55
                        try clear c55b0
                        try clear c56
                        try clear c56b0
                        try clear c61
                        try clear p64
                        try clear c68
                        try clear c68b0
                        try clear c68b1
                        try clear c69
                        try clear c69b0
                        try clear c69b1
                        try clear c71
                        try clear c72
                        try clear c72b0
                        try clear hcz10_0
                        try clear hcz10_1
                        try clear hcz12_0
                        try clear hcz12_1
                        try clear hcz33_0
                        try clear hcz33_1
                        try clear hcz46_0
                        try clear hcz46_1
                        try clear hcz46_2
                        try clear hcz46_3
                        try clear hcz46_4
                        try clear hcz48_0
                        try clear hcz48_1
                        try clear hcz49_0
                        try clear hcz49_1
                        try clear hcz49_2
                        try clear hcz49_3
                        try clear hcz49_4
                        try clear hcz53_0
                        try clear hcz53_1
                        try clear hcz62_0
                        try clear hcz62_1
                        try clear hcz62_2
                        try clear hcz62_3
                        try clear hcz62_4
                        try clear hcz62_5
                        try clear hcz63_0
                        try clear hcz63_1
                        try clear hcz65_0
                        try clear hcz65_1
                        try clear hfz10_0
                        try clear hfz10_1
                        try clear hfz12_0
                        try clear hfz12_1
                        try clear hfz33_0
                        try clear hfz33_1
                        try clear hfz46_0
                        try clear hfz46_1
                        try clear hfz46_2
                        try clear hfz46_3
                        try clear hfz46_4
                        try clear hfz48_0
                        try clear hfz48_1
                        try clear hfz49_0
                        try clear hfz49_1
                        try clear hfz49_2
                        try clear hfz49_3
                        try clear hfz49_4
                        try clear hfz53_0
                        try clear hfz53_1
                        try clear hfz62_0
                        try clear hfz62_1
                        try clear hfz62_2
                        try clear hfz62_3
                        try clear hfz62_4
                        try clear hfz62_5
                        try clear hfz63_0
                        try clear hfz63_1
                        try clear hfz65_0
                        try clear hfz65_1
                        try clear hx43_0
                        try clear hx831_0
                        try clear hx831_1
                        try clear hx831_2
                        try clear hx831_3
                        try clear hx831_4
                        try clear hx833_0
                        try clear hx833_1
                        try clear hx833_2
                        try clear hx833_3
                        try clear hx834_0
                        try clear hx836_0
                        try clear hx836_1
                        try clear hx836_2
                        try clear hx836_3
                        try clear hx836_4
                        try clear hx836_5
                        try clear hx847_0
                        try clear p2
                        try clear p4
                        try clear p43
                        try clear p6
                        try clear p8
                        try clear p831
                        try clear p833
                        try clear p834
                        try clear p836
                        try clear p847
                        try clear q027
                        try clear q2
                        try clear q27
                        try clear q28
                        try clear q4
                        try clear q43
                        try clear q8
                        try clear q831
                        try clear q833
                        try clear q834
                        try clear q836
                        try clear q847
                        obtain ⟨kq, x126_58, rfl, HA, HJ58, HO_8, HO_10, HO_16, BK808, BK837, HB⟩ := hcut
                        cases kq with
                        | zero => exact absurd HA.out (by simp [cottonpadlaw06_ExitsLostB.j3])
                        | succ kj58 =>
                         have H := HA.out
                         clear HA
                         simp only [cottonpadlaw06_ExitsLostB.j3] at H
                         by_cases c76 : x126_58 = true
                         ·subst c76
                          have H1 : (some false) = some r := by rw [if_pos rfl] at H; exact H
                          clear H
                          have H := H1
                          clear H1
                          exact absurd (H.trans (congrArg some HRT.out)) (by simp)
                         ·replace c76 := Bool.eq_false_iff.mpr c76
                          subst c76
                          have H1 : (cottonpadlaw06_ExitsLostB.l2 kj58 l1 t809 y825 x10_3 x13_3 t838 l0_0 (l0_0.length : Int) x87_3 (t838.length : Int) 0 l0_0 l0_1 ((rd_T62 l0_0 x87_3).f0) ((rd_T62 l0_0 x87_3).f1) ((rd_T62 l0_0 x87_3).f2.f0) ((rd_T62 l0_0 x87_3).f2.f1) ((rd_T62 l0_0 x87_3).f3.f0) ((rd_T62 l0_0 x87_3).f3.f1)) = some r := by rw [if_neg (show ¬ (false = true) by decide)] at H; exact H
                          clear H
                          have H := H1
                          clear H1
                          have H' := Aside0.mk H
                          clear H
                          obtain ⟨Ao77, co77, eo77⟩ := Kd.R_slice HO_16.out
                          subst eo77
                          go_wp2
                          go_loopg [129] kj58 (fun kq v129 w' => ∃ (x129_5 : Int), v129 = .int .i64 x129_5 ∧ Aside0 (cottonpadlaw06_ExitsLostB.l2 kq l1 t809 y825 x10_3 x13_3 t838 l0_0 (l0_0.length : Int) x87_3 (t838.length : Int) x129_5 l0_0 l0_1 ((rd_T62 l0_0 x87_3).f0) ((rd_T62 l0_0 x87_3).f1) ((rd_T62 l0_0 x87_3).f2.f0) ((rd_T62 l0_0 x87_3).f2.f1) ((rd_T62 l0_0 x87_3).f3.f0) ((rd_T62 l0_0 x87_3).f3.f1) = some r) ∧ Aside0 (kq ≤ kj58) ∧ Aside0 (Kd.R k48 48 w' w.heap.size (fun _ => True) (.slice Ao66 y825.length co66) y825) ∧ Aside0 (Kd.R (Kd.int .i64) 3 w' w.heap.size (fun _ => True) v829 x10_3) ∧ Aside0 (Kd.R k36 36 w' w.heap.size (fun _ => True) (.slice Ao77 t838.length co77) t838) ∧ Aside0 (w'.heap[gb808]? = some (.cells #[(.slice (some ad836) l0_0.length c0_0), (.slice A0_1 l0_1.length c0_1)] 25 (0, 0))) ∧ Aside0 (w'.heap[gb837]? = some (.cells #[.int .i64 ((rd_T62 l0_0 x87_3).f0), .int .i64 ((rd_T62 l0_0 x87_3).f1), .int .i64 ((rd_T62 l0_0 x87_3).f2.f0), .int .i64 ((rd_T62 l0_0 x87_3).f2.f1), .int .i64 ((rd_T62 l0_0 x87_3).f3.f0), .int .i64 ((rd_T62 l0_0 x87_3).f3.f1)] 62 (0, 0))) ∧ Aside0 (Below w.heap.size w w'))
                          case atStart => exact ⟨(0), (by first | rfl | (simp; done) | (simp [*]; done)), H', ⟨Nat.le_refl _⟩, ⟨by (with_reducible repeat (first | apply Kd.R_alloc | apply Kd.R_drewN | apply Kd.R_drew)); exact HO_8.out⟩, ⟨by (with_reducible repeat (first | apply Kd.R_alloc | apply Kd.R_drewN | apply Kd.R_drew)); exact HO_10.out⟩, ⟨by (with_reducible repeat (first | apply Kd.R_alloc | apply Kd.R_drewN | apply Kd.R_drew)); exact HO_16.out⟩, ⟨by refine bx_ ?_; exact BK808.out⟩, ⟨by refine bx_ ?_; exact BK837.out⟩, ⟨be2_ HB GE808 GE837⟩⟩
                          case round =>
                            clear H'
                            try clear c1
                            try clear c2
                            try clear p2
                            try clear q2
                            try clear c3
                            try clear c4
                            try clear p4
                            try clear q4
                            try clear hx4
                            try clear hf4
                            try clear c5
                            try clear c6
                            try clear p6
                            try clear c7
                            try clear p8
                            try clear q8
                            try clear hx8
                            try clear c9
                            try clear c11
                            try clear c14
                            try clear c15
                            try clear c15b0
                            try clear c15b1
                            try clear c16
                            try clear c16b0
                            try clear c16b1
                            try clear c16b2
                            try clear c17
                            try clear c18
                            try clear c18b0
                            try clear c18b1
                            try clear c19
                            try clear c19b0
                            try clear c19b1
                            try clear c20
                            try clear c21
                            try clear c21b0
                            try clear c22
                            try clear c22b0
                            try clear c23
                            try clear c24
                            try clear c24b0
                            try clear c24b1
                            try clear c25
                            try clear c25b0
                            try clear c25b1
                            try clear c27
                            try clear q27
                            try clear q28
                            try clear c30
                            try clear c36
                            try clear c36b0
                            try clear c37
                            try clear c37b0
                            try clear c38
                            try clear c38b0
                            try clear c39
                            try clear c39b0
                            try clear c40
                            try clear c40b0
                            try clear c41
                            try clear c41b0
                            try clear c42
                            try clear c42b0
                            try clear p43
                            try clear q43
                            try clear hx43
                            try clear hf43
                            try clear c45
                            try clear c54
                            try clear c54b0
                            try clear c55
                            try clear c55b0
                            try clear c56
                            try clear c56b0
                            try clear c61
                            try clear p64
                            try clear c68
                            try clear c68b0
                            try clear c68b1
                            try clear c69
                            try clear c69b0
                            try clear c69b1
                            try clear c71
                            try clear c72
                            try clear c72b0
                            try clear c76
                            try clear hcz10_0
                            try clear hcz10_1
                            try clear hcz12_0
                            try clear hcz12_1
                            try clear hcz33_0
                            try clear hcz33_1
                            try clear hcz46_0
                            try clear hcz46_1
                            try clear hcz46_2
                            try clear hcz46_3
                            try clear hcz46_4
                            try clear hcz48_0
                            try clear hcz48_1
                            try clear hcz49_0
                            try clear hcz49_1
                            try clear hcz49_2
                            try clear hcz49_3
                            try clear hcz49_4
                            try clear hcz53_0
                            try clear hcz53_1
                            try clear hcz62_0
                            try clear hcz62_1
                            try clear hcz62_2
                            try clear hcz62_3
                            try clear hcz62_4
                            try clear hcz62_5
                            try clear hcz63_0
                            try clear hcz63_1
                            try clear hcz65_0
                            try clear hcz65_1
                            try clear hfz10_0
                            try clear hfz10_1
                            try clear hfz12_0
                            try clear hfz12_1
                            try clear hfz33_0
                            try clear hfz33_1
                            try clear hfz46_0
                            try clear hfz46_1
                            try clear hfz46_2
                            try clear hfz46_3
                            try clear hfz46_4
                            try clear hfz48_0
                            try clear hfz48_1
                            try clear hfz49_0
                            try clear hfz49_1
                            try clear hfz49_2
                            try clear hfz49_3
                            try clear hfz49_4
                            try clear hfz53_0
                            try clear hfz53_1
                            try clear hfz62_0
                            try clear hfz62_1
                            try clear hfz62_2
                            try clear hfz62_3
                            try clear hfz62_4
                            try clear hfz62_5
                            try clear hfz63_0
                            try clear hfz63_1
                            try clear hfz65_0
                            try clear hfz65_1
                            try clear hx43_0
                            try clear hx831_0
                            try clear hx831_1
                            try clear hx831_2
                            try clear hx831_3
                            try clear hx831_4
                            try clear hx833_0
                            try clear hx833_1
                            try clear hx833_2
                            try clear hx833_3
                            try clear hx834_0
                            try clear hx836_0
                            try clear hx836_1
                            try clear hx836_2
                            try clear hx836_3
                            try clear hx836_4
                            try clear hx836_5
                            try clear hx847_0
                            try clear p2
                            try clear p4
                            try clear p43
                            try clear p6
                            try clear p64
                            try clear p8
                            try clear p831
                            try clear p833
                            try clear p834
                            try clear p836
                            try clear p847
                            try clear q027
                            try clear q2
                            try clear q27
                            try clear q28
                            try clear q4
                            try clear q43
                            try clear q8
                            try clear q831
                            try clear q833
                            try clear q834
                            try clear q836
                            try clear q847
                            obtain ⟨x129_5, rfl, HA, HK5, HO_8, HO_10, HO_16, BK808, BK837, HB⟩ := hrel
                            cases gk with
                            | zero => exact absurd HA.out (by simp [cottonpadlaw06_ExitsLostB.l2])
                            | succ k5 =>
                             have H := HA.out
                             clear HA
                             simp only [cottonpadlaw06_ExitsLostB.l2] at H
                             by_cases c78 : x129_5 < (t838.length : Int)
                             ·rw [if_pos c78] at H
                              have c78b0 : decide (x129_5 < (t838.length : Int)) = true := decide_eq_true c78
                              clear c78
                              by_cases c79 : x129_5 > 0
                              ·rw [if_pos c79] at H
                               have c79b0 : decide (0 < x129_5) = true := decide_eq_true c79
                               clear c79
                               by_cases c80 : 0 ≤ x129_5
                               ·rw [if_pos c80] at H
                                have c80b0 : decide (0 ≤ x129_5) = true := decide_eq_true c80
                                clear c80
                                by_cases c81 : x129_5 < (t838.length : Int)
                                ·rw [if_pos c81] at H
                                 have c81b0 : decide (x129_5 < (t838.length : Int)) = true := decide_eq_true c81
                                 clear c81
                                 obtain ⟨ji82, hji82⟩ : ∃ j_ : Int, (wrap64 (x129_5 - 1)) = j_ := ⟨_, rfl⟩
                                 replace H : (if 0 ≤ (ji82) then (if (ji82) < (t838.length : Int) then (if ((rd_T36 t838 x129_5).f0) < (wrap64 (((rd_T36 t838 (ji82)).f0) + ((rd_T62 l0_0 x87_3).f1))) then (some false) else (if ((rd_T36 t838 x129_5).f1) < (wrap64 (((rd_T36 t838 (ji82)).f1) + ((rd_T62 l0_0 x87_3).f1))) then (some false) else (cottonpadlaw06_ExitsLostB.l2 k5 l1 t809 y825 x10_3 x13_3 t838 l0_0 (l0_0.length : Int) x87_3 (t838.length : Int) (wrap64 (x129_5 + 1)) l0_0 l0_1 ((rd_T62 l0_0 x87_3).f0) ((rd_T62 l0_0 x87_3).f1) ((rd_T62 l0_0 x87_3).f2.f0) ((rd_T62 l0_0 x87_3).f2.f1) ((rd_T62 l0_0 x87_3).f3.f0) ((rd_T62 l0_0 x87_3).f3.f1)))) else (none)) else (none)) = some r := by first | (rw [hji82] at H; exact H) | (simp only [hji82] at H ⊢; exact H)
                                 have hji82w : (IntKind.i64.wrap (x129_5 - 1)) = ji82 := (i64_w _).trans hji82
                                 by_cases c83 : 0 ≤ (ji82)
                                 ·rw [if_pos c83] at H
                                  have c83b0 : decide (0 ≤ (ji82)) = true := decide_eq_true c83
                                  clear c83
                                  by_cases c84 : (ji82) < (t838.length : Int)
                                  ·rw [if_pos c84] at H
                                   have c84b0 : decide ((ji82) < (t838.length : Int)) = true := decide_eq_true c84
                                   clear c84
                                   by_cases c85 : ((rd_T36 t838 x129_5).f0) < (wrap64 (((rd_T36 t838 (ji82)).f0) + ((rd_T62 l0_0 x87_3).f1)))
                                   ·rw [if_pos c85] at H
                                    have c85b0 : decide (((rd_T36 t838 x129_5).f0) < (wrap64 (((rd_T36 t838 (ji82)).f0) + ((rd_T62 l0_0 x87_3).f1)))) = true := decide_eq_true c85
                                    clear c85
                                    exact absurd (H.trans (congrArg some HRT.out)) (by simp)
                                   ·rw [if_neg c85] at H
                                    have c85b0 : decide (((rd_T36 t838 x129_5).f0) < (wrap64 (((rd_T36 t838 (ji82)).f0) + ((rd_T62 l0_0 x87_3).f1)))) = false := decide_eq_false c85
                                    clear c85
                                    by_cases c86 : ((rd_T36 t838 x129_5).f1) < (wrap64 (((rd_T36 t838 (ji82)).f1) + ((rd_T62 l0_0 x87_3).f1)))
                                    ·rw [if_pos c86] at H
                                     have c86b0 : decide (((rd_T36 t838 x129_5).f1) < (wrap64 (((rd_T36 t838 (ji82)).f1) + ((rd_T62 l0_0 x87_3).f1)))) = true := decide_eq_true c86
                                     clear c86
                                     exact absurd (H.trans (congrArg some HRT.out)) (by simp)
                                    ·rw [if_neg c86] at H
                                     have c86b0 : decide (((rd_T36 t838 x129_5).f1) < (wrap64 (((rd_T36 t838 (ji82)).f1) + ((rd_T62 l0_0 x87_3).f1)))) = false := decide_eq_false c86
                                     clear c86
                                     have H' := Aside0.mk H
                                     clear H
                                     try go_wp2
                                     replace HO_8 := Aside0.mk (Kd.R_drew HO_8.out)
                                     replace HO_10 := Aside0.mk (Kd.R_drew HO_10.out)
                                     replace HO_16 := Aside0.mk (Kd.R_drew HO_16.out)
                                     replace BK808 := Aside0.mk (blk_drew BK808.out)
                                     replace BK837 := Aside0.mk (blk_drew BK837.out)
                                     replace HB := Aside0.mk (below_drew1 HB.out)
                                     have p848 : 0 ≤ (x129_5 : Int) := of_decide_eq_true as_
                                     have q848 : x129_5 < (t838.length : Int) := of_decide_eq_true as_
                                     obtain ⟨ad848, e848, hx848_0, hx848_1⟩ := at_T36 (Kd.R_reads' HO_16.out).2.2 x129_5 p848 q848
                                     cases e848
                                     replace p848 := eq_true p848
                                     replace q848 := eq_true q848
                                     have p849 : 0 ≤ ((ji82) : Int) := of_decide_eq_true as_
                                     have q849 : (ji82) < (t838.length : Int) := of_decide_eq_true as_
                                     obtain ⟨ad849, e849, hx849_0, hx849_1⟩ := at_T36 (Kd.R_reads' HO_16.out).2.2 (ji82) p849 q849
                                     obtain rfl : ad848 = ad849 := (by injection e849)
                                     replace p849 := eq_true p849
                                     replace q849 := eq_true q849
                                     have p850 : 0 ≤ (x129_5 : Int) := of_decide_eq_true as_
                                     have q850 : x129_5 < (t838.length : Int) := of_decide_eq_true as_
                                     obtain ⟨ad850, e850, hx850_0, hx850_1⟩ := at_T36 (Kd.R_reads' HO_16.out).2.2 x129_5 p850 q850
                                     obtain rfl : ad848 = ad850 := (by injection e850)
                                     replace p850 := eq_true p850
                                     replace q850 := eq_true q850
                                     have p851 : 0 ≤ ((ji82) : Int) := of_decide_eq_true as_
                                     have q851 : (ji82) < (t838.length : Int) := of_decide_eq_true as_
                                     obtain ⟨ad851, e851, hx851_0, hx851_1⟩ := at_T36 (Kd.R_reads' HO_16.out).2.2 (ji82) p851 q851
                                     obtain rfl : ad848 = ad851 := (by injection e851)
                                     replace p851 := eq_true p851
                                     replace q851 := eq_true q851
                                     refine start_ (n := 36) (S := fun w' => w'.cell? ⟨gb837, 0, none⟩ = some (.int .i64 ((rd_T62 l0_0 x87_3).f0)) ∧ w'.cell? ⟨gb837, 1, none⟩ = some (.int .i64 ((rd_T62 l0_0 x87_3).f1)) ∧ w'.cell? ⟨gb837, 2, none⟩ = some (.int .i64 ((rd_T62 l0_0 x87_3).f2.f0)) ∧ w'.cell? ⟨gb837, 3, none⟩ = some (.int .i64 ((rd_T62 l0_0 x87_3).f2.f1)) ∧ w'.cell? ⟨gb837, 4, none⟩ = some (.int .i64 ((rd_T62 l0_0 x87_3).f3.f0)) ∧ w'.cell? ⟨gb837, 5, none⟩ = some (.int .i64 ((rd_T62 l0_0 x87_3).f3.f1)) ∧ w'.cell? (ad848.add ((x129_5).toNat * 2)) = some (.int .i64 ((rd_T36 t838 x129_5).f0)) ∧ w'.cell? ⟨(ad848.add ((x129_5).toNat * 2)).block, (ad848.add ((x129_5).toNat * 2)).off + 1, none⟩ = some (.int .i64 ((rd_T36 t838 x129_5).f1)) ∧ w'.cell? (ad848.add (((ji82)).toNat * 2)) = some (.int .i64 ((rd_T36 t838 (ji82)).f0)) ∧ w'.cell? ⟨(ad848.add (((ji82)).toNat * 2)).block, (ad848.add (((ji82)).toNat * 2)).off + 1, none⟩ = some (.int .i64 ((rd_T36 t838 (ji82)).f1)) ∧ w'.cell? (ad848.add ((x129_5).toNat * 2)) = some (.int .i64 ((rd_T36 t838 x129_5).f0)) ∧ w'.cell? ⟨(ad848.add ((x129_5).toNat * 2)).block, (ad848.add ((x129_5).toNat * 2)).off + 1, none⟩ = some (.int .i64 ((rd_T36 t838 x129_5).f1)) ∧ w'.cell? (ad848.add (((ji82)).toNat * 2)) = some (.int .i64 ((rd_T36 t838 (ji82)).f0)) ∧ w'.cell? ⟨(ad848.add (((ji82)).toNat * 2)).block, (ad848.add (((ji82)).toNat * 2)).off + 1, none⟩ = some (.int .i64 ((rd_T36 t838 (ji82)).f1))) (ds := []) (bm_ 36 0) (by decide +kernel) rfl rfl ⟨bc_ BK837 0, bc_ BK837 1, bc_ BK837 2, bc_ BK837 3, bc_ BK837 4, bc_ BK837 5, hx848_0, hx848_1, hx849_0, hx849_1, hx850_0, hx850_1, hx851_0, hx851_1⟩ (fun hHeld => ?_); refine with_tabW cottonpadlaw06_ExitsLostB.tab25 cottonpadlaw06_ExitsLostB.bits25 (fun HT_ HW_ => ?_)
                                     generalize wr.drew = w87 at HO_8 HO_10 HO_16 BK808 BK837 HB hx848_0 hx848_1 hx849_0 hx849_1 hx850_0 hx850_1 hx851_0 hx851_1 hHeld ⊢
                                     refine pr2_ 0 132 36 1 HT_ rfl rfl ?_
                                     refine pr2_ 1 133 36 3 HT_ rfl rfl ?_
                                     refine pr2_ 2 134 36 7 HT_ rfl rfl ?_
                                     refine pr2_ 3 135 36 15 HT_ rfl rfl ?_
                                     refine pr2_ 4 136 36 31 HT_ rfl rfl ?_
                                     refine pr2_ 5 137 36 63 HT_ rfl rfl ?_
                                     refine pr2_ 6 138 36 127 HT_ rfl rfl ?_
                                     refine pr2_ 8 140 36 383 HT_ rfl rfl ?_
                                     refine pr2_ 9 141 36 895 HT_ rfl rfl ?_
                                     refine pr2_ 10 142 36 1919 HT_ rfl rfl ?_
                                     refine pr2_ 11 143 36 3967 HT_ rfl rfl ?_
                                     refine pr2_ 12 144 36 8063 HT_ rfl rfl ?_
                                     refine pr2_ 14 146 36 24447 HT_ rfl rfl ?_
                                     refine ta2_ 7 139 36 24575 HT_ HW_ rfl rfl hHeld ?_
                                     refine ta2_ 13 145 36 32767 HT_ HW_ rfl rfl hHeld ?_
                                     refine ta2_ 15 147 36 65535 HT_ HW_ rfl rfl hHeld ?_
                                     refine pr2_ 16 148 36 131071 HT_ rfl rfl ?_
                                     refine pr2_ 17 149 36 262143 HT_ rfl rfl ?_
                                     refine pr2_ 18 150 36 524287 HT_ rfl rfl ?_
                                     refine pr2_ 19 151 36 1048575 HT_ rfl rfl ?_
                                     refine pr2_ 20 152 36 2097151 HT_ rfl rfl ?_
                                     refine pr2_ 21 153 36 4194303 HT_ rfl rfl ?_
                                     refine pr2_ 22 154 36 8388607 HT_ rfl rfl ?_
                                     refine pr2_ 24 156 36 25165823 HT_ rfl rfl ?_
                                     refine pr2_ 25 157 36 58720255 HT_ rfl rfl ?_
                                     refine pr2_ 26 158 36 125829119 HT_ rfl rfl ?_
                                     refine pr2_ 27 159 36 260046847 HT_ rfl rfl ?_
                                     refine pr2_ 28 160 36 528482303 HT_ rfl rfl ?_
                                     refine pr2_ 30 162 36 1602224127 HT_ rfl rfl ?_
                                     refine ta2_ 23 155 36 1610612735 HT_ HW_ rfl rfl hHeld ?_
                                     refine ta2_ 29 161 36 2147483647 HT_ HW_ rfl rfl hHeld ?_
                                     refine ta2_ 31 163 36 4294967295 HT_ HW_ rfl rfl hHeld ?_
                                     refine pr2_ 32 164 36 8589934591 HT_ rfl rfl ?_
                                     refine pr2_ 33 165 36 17179869183 HT_ rfl rfl ?_
                                     refine pr2_ 34 166 36 34359738367 HT_ rfl rfl ?_
                                     refine pr2_ 35 167 36 68719476735 HT_ rfl rfl ?_
                                     refine done_ (done_of HT_.out (by decide +kernel)) ?_
                                     try go_wp2
                                     go_roundg k5
                                     case measure => have := HJ4.out; have := HK2.out; have := HK3.out; have := HJ58.out; have := HK5.out; omega
                                     case rel => exact ⟨(wrap64 (x129_5 + 1)), (by first | rfl | (simp; done) | (simp [*]; done)), H', ⟨by have := HJ4.out; have := HK2.out; have := HK3.out; have := HJ58.out; have := HK5.out; omega⟩, ⟨by (with_reducible repeat (first | apply Kd.R_alloc | apply Kd.R_drewN | apply Kd.R_drew)); exact HO_8.out⟩, ⟨by (with_reducible repeat (first | apply Kd.R_alloc | apply Kd.R_drewN | apply Kd.R_drew)); exact HO_10.out⟩, ⟨by (with_reducible repeat (first | apply Kd.R_alloc | apply Kd.R_drewN | apply Kd.R_drew)); exact HO_16.out⟩, ⟨by refine bx_ ?_; exact BK808.out⟩, ⟨by refine bx_ ?_; exact BK837.out⟩, ⟨be2_ HB GE808 GE837⟩⟩
                                  ·rw [if_neg c84] at H
                                   exact absurd H (by simp)
                                 ·rw [if_neg c83] at H
                                  exact absurd H (by simp)
                                ·rw [if_neg c81] at H
                                 exact absurd H (by simp)
                               ·rw [if_neg c80] at H
                                exact absurd H (by simp)
                              ·rw [if_neg c79] at H
                               have c79b0 : decide (0 < x129_5) = false := decide_eq_false c79
                               clear c79
                               have H' := Aside0.mk H
                               clear H
                               try go_wp2
                               replace HO_8 := Aside0.mk (Kd.R_drew HO_8.out)
                               replace HO_10 := Aside0.mk (Kd.R_drew HO_10.out)
                               replace HO_16 := Aside0.mk (Kd.R_drew HO_16.out)
                               replace BK808 := Aside0.mk (blk_drew BK808.out)
                               replace BK837 := Aside0.mk (blk_drew BK837.out)
                               replace HB := Aside0.mk (below_drew1 HB.out)
                               refine start_ (n := 36) (S := fun w' => True) (ds := []) (bm_ 36 0) (by decide +kernel) rfl rfl trivial (fun hHeld => ?_); refine with_tabW cottonpadlaw06_ExitsLostB.tab25 cottonpadlaw06_ExitsLostB.bits25 (fun HT_ HW_ => ?_)
                               generalize wr.drew = w88 at HO_8 HO_10 HO_16 BK808 BK837 HB hHeld ⊢
                               refine pr2_ 0 132 36 1 HT_ rfl rfl ?_
                               refine pr2_ 1 133 36 3 HT_ rfl rfl ?_
                               refine pr2_ 2 134 36 7 HT_ rfl rfl ?_
                               refine pn2_ 3 135 36 15 HT_ rfl rfl ?_
                               refine pn2_ 4 136 36 31 HT_ rfl rfl ?_
                               refine pn2_ 5 137 36 63 HT_ rfl rfl ?_
                               refine pn2_ 6 138 36 127 HT_ rfl rfl ?_
                               refine pn2_ 7 139 36 255 HT_ rfl rfl ?_
                               refine pn2_ 8 140 36 511 HT_ rfl rfl ?_
                               refine pn2_ 9 141 36 1023 HT_ rfl rfl ?_
                               refine pn2_ 10 142 36 2047 HT_ rfl rfl ?_
                               refine pn2_ 11 143 36 4095 HT_ rfl rfl ?_
                               refine pn2_ 12 144 36 8191 HT_ rfl rfl ?_
                               refine pn2_ 13 145 36 16383 HT_ rfl rfl ?_
                               refine pn2_ 14 146 36 32767 HT_ rfl rfl ?_
                               refine pn2_ 15 147 36 65535 HT_ rfl rfl ?_
                               refine pn2_ 16 148 36 131071 HT_ rfl rfl ?_
                               refine pn2_ 17 149 36 262143 HT_ rfl rfl ?_
                               refine pn2_ 18 150 36 524287 HT_ rfl rfl ?_
                               refine pn2_ 19 151 36 1048575 HT_ rfl rfl ?_
                               refine pn2_ 20 152 36 2097151 HT_ rfl rfl ?_
                               refine pn2_ 21 153 36 4194303 HT_ rfl rfl ?_
                               refine pn2_ 22 154 36 8388607 HT_ rfl rfl ?_
                               refine pn2_ 23 155 36 16777215 HT_ rfl rfl ?_
                               refine pn2_ 24 156 36 33554431 HT_ rfl rfl ?_
                               refine pn2_ 25 157 36 67108863 HT_ rfl rfl ?_
                               refine pn2_ 26 158 36 134217727 HT_ rfl rfl ?_
                               refine pn2_ 27 159 36 268435455 HT_ rfl rfl ?_
                               refine pn2_ 28 160 36 536870911 HT_ rfl rfl ?_
                               refine pn2_ 29 161 36 1073741823 HT_ rfl rfl ?_
                               refine pn2_ 30 162 36 2147483647 HT_ rfl rfl ?_
                               refine pn2_ 31 163 36 4294967295 HT_ rfl rfl ?_
                               refine pn2_ 32 164 36 8589934591 HT_ rfl rfl ?_
                               refine pn2_ 33 165 36 17179869183 HT_ rfl rfl ?_
                               refine pn2_ 34 166 36 34359738367 HT_ rfl rfl ?_
                               refine pr2_ 35 167 36 68719476735 HT_ rfl rfl ?_
                               refine done_ (done_of HT_.out (by decide +kernel)) ?_
                               try go_wp2
                               go_roundg k5
                               case measure => have := HJ4.out; have := HK2.out; have := HK3.out; have := HJ58.out; have := HK5.out; omega
                               case rel => exact ⟨(wrap64 (x129_5 + 1)), (by first | rfl | (simp; done) | (simp [*]; done)), H', ⟨by have := HJ4.out; have := HK2.out; have := HK3.out; have := HJ58.out; have := HK5.out; omega⟩, ⟨by (with_reducible repeat (first | apply Kd.R_alloc | apply Kd.R_drewN | apply Kd.R_drew)); exact HO_8.out⟩, ⟨by (with_reducible repeat (first | apply Kd.R_alloc | apply Kd.R_drewN | apply Kd.R_drew)); exact HO_10.out⟩, ⟨by (with_reducible repeat (first | apply Kd.R_alloc | apply Kd.R_drewN | apply Kd.R_drew)); exact HO_16.out⟩, ⟨by refine bx_ ?_; exact BK808.out⟩, ⟨by refine bx_ ?_; exact BK837.out⟩, ⟨be2_ HB GE808 GE837⟩⟩
                             ·rw [if_neg c78] at H
                              have c78b0 : decide (x129_5 < (t838.length : Int)) = false := decide_eq_false c78
                              clear c78
                              by_cases c89 : ((rd_T62 l0_0 x87_3).f0) = (-1)
                              ·rw [if_pos c89] at H
                               have c89b0 : (((rd_T62 l0_0 x87_3).f0) == (-1)) = true := beq_iff_eq.mpr c89
                               have c89b1 : (((rd_T62 l0_0 x87_3).f0) != (-1)) = false := bne_eq_false_iff_eq.mpr c89
                               clear c89
                               have H' := Aside0.mk H
                               clear H
                               have hnb90 := NB837_808.out
                               have hnc90 := NB808_837.out
                               have hcz91_0 : wr.cell? ⟨gb837, 0, none⟩ = some (.int .i64 ((rd_T62 l0_0 x87_3).f0)) := bc_ BK837 0
                               have hcz91_1 : wr.cell? ⟨gb837, 1, none⟩ = some (.int .i64 ((rd_T62 l0_0 x87_3).f1)) := bc_ BK837 1
                               have hcz91_2 : wr.cell? ⟨gb837, 2, none⟩ = some (.int .i64 ((rd_T62 l0_0 x87_3).f2.f0)) := bc_ BK837 2
                               have hcz91_3 : wr.cell? ⟨gb837, 3, none⟩ = some (.int .i64 ((rd_T62 l0_0 x87_3).f2.f1)) := bc_ BK837 3
                               have hcz91_4 : wr.cell? ⟨gb837, 4, none⟩ = some (.int .i64 ((rd_T62 l0_0 x87_3).f3.f0)) := bc_ BK837 4
                               have hcz91_5 : wr.cell? ⟨gb837, 5, none⟩ = some (.int .i64 ((rd_T62 l0_0 x87_3).f3.f1)) := bc_ BK837 5
                               have hfz91_0 := blk_frozen BK837.out 0
                               have hfz91_1 := blk_frozen BK837.out 1
                               have hfz91_2 := blk_frozen BK837.out 2
                               have hfz91_3 := blk_frozen BK837.out 3
                               have hfz91_4 := blk_frozen BK837.out 4
                               have hfz91_5 := blk_frozen BK837.out 5
                               go_wp2
                               go_roundg k5
                               case measure => have := HJ4.out; have := HK2.out; have := HK3.out; have := HJ58.out; have := HK5.out; omega
                               case rel => exact ⟨(x10_3), (wrap64 (x13_3 + (t838.length : Int))), (wrap64 (x87_3 + 1)), (by first | rfl | (simp; done) | (simp [*]; done)), (by first | rfl | (simp; done) | (simp [*]; done)), H', ⟨by have := HJ4.out; have := HK2.out; have := HK3.out; have := HJ58.out; have := HK5.out; omega⟩, ⟨by (with_reducible repeat (first | apply Kd.R_alloc | apply Kd.R_drewN | apply Kd.R_drew)); exact HO_8.out⟩, ⟨by (with_reducible repeat (first | apply Kd.R_alloc | apply Kd.R_drewN | apply Kd.R_drew)); exact HO_10.out⟩, ⟨by refine bx_ ?_; exact BK808.out⟩, ⟨be2_ HB GE808 GE837⟩⟩
                              ·rw [if_neg c89] at H
                               have c89b0 : (((rd_T62 l0_0 x87_3).f0) == (-1)) = false := beq_eq_false_iff_ne.mpr c89
                               have c89b1 : (((rd_T62 l0_0 x87_3).f0) != (-1)) = true := bne_iff_ne.mpr c89
                               by_cases c92 : 0 ≤ ((rd_T62 l0_0 x87_3).f0)
                               ·rw [if_pos c92] at H
                                have c92b0 : decide (0 ≤ ((rd_T62 l0_0 x87_3).f0)) = true := decide_eq_true c92
                                clear c92
                                by_cases c93 : ((rd_T62 l0_0 x87_3).f0) < (x10_3.length : Int)
                                ·rw [if_pos c93] at H
                                 have c93b0 : decide (((rd_T62 l0_0 x87_3).f0) < (x10_3.length : Int)) = true := decide_eq_true c93
                                 clear c93
                                 obtain ⟨y853, hy853⟩ : ∃ y_ : List Int, y_ = (x10_3.set (((rd_T62 l0_0 x87_3).f0) : Int).toNat (wrap64 ((rd x10_3 ((rd_T62 l0_0 x87_3).f0)) + (t838.length : Int)))) := ⟨_, rfl⟩
                                 replace H : (cottonpadlaw06_ExitsLostB.l1 k5 l1 t809 y825 y853 x13_3 l0_0 (l0_0.length : Int) (wrap64 (x87_3 + 1)) l0_0 l0_1) = some r := by first | (rw [hy853]; with_reducible exact H) | (have H2_ := (Option.bind_some _ _).symm.trans H; rw [hy853]; with_reducible exact H2_) | (have H2_ := (Option.bind_some _ _).symm.trans H; with_reducible exact H2_) | with_reducible exact H | (rw [hy853]; exact H) | exact H
                                 have Ny853 := Aside0.mk hy853
                                 clear hy853
                                 have H' := Aside0.mk H
                                 clear H
                                 have hnb95 := NB837_808.out
                                 have hnc95 := NB808_837.out
                                 have hcz96_0 : wr.cell? ⟨gb837, 0, none⟩ = some (.int .i64 ((rd_T62 l0_0 x87_3).f0)) := bc_ BK837 0
                                 have hcz96_1 : wr.cell? ⟨gb837, 1, none⟩ = some (.int .i64 ((rd_T62 l0_0 x87_3).f1)) := bc_ BK837 1
                                 have hcz96_2 : wr.cell? ⟨gb837, 2, none⟩ = some (.int .i64 ((rd_T62 l0_0 x87_3).f2.f0)) := bc_ BK837 2
                                 have hcz96_3 : wr.cell? ⟨gb837, 3, none⟩ = some (.int .i64 ((rd_T62 l0_0 x87_3).f2.f1)) := bc_ BK837 3
                                 have hcz96_4 : wr.cell? ⟨gb837, 4, none⟩ = some (.int .i64 ((rd_T62 l0_0 x87_3).f3.f0)) := bc_ BK837 4
                                 have hcz96_5 : wr.cell? ⟨gb837, 5, none⟩ = some (.int .i64 ((rd_T62 l0_0 x87_3).f3.f1)) := bc_ BK837 5
                                 have hfz96_0 := blk_frozen BK837.out 0
                                 have hfz96_1 := blk_frozen BK837.out 1
                                 have hfz96_2 := blk_frozen BK837.out 2
                                 have hfz96_3 := blk_frozen BK837.out 3
                                 have hfz96_4 := blk_frozen BK837.out 4
                                 have hfz96_5 := blk_frozen BK837.out 5
                                 obtain ⟨Ao97, co97, eo97⟩ := Kd.R_slice HO_10.out
                                 subst eo97
                                 have p852 : 0 ≤ (((rd_T62 l0_0 x87_3).f0) : Int) := of_decide_eq_true as_
                                 have q852 : ((rd_T62 l0_0 x87_3).f0) < (x10_3.length : Int) := of_decide_eq_true as_
                                 obtain ⟨ad852, e852, hx852_0⟩ := Kd.at_int (Kd.R_reads' HO_10.out).2.2 ((rd_T62 l0_0 x87_3).f0) p852 q852
                                 cases e852
                                 replace p852 := eq_true p852
                                 replace q852 := eq_true q852
                                 have p94 : 0 ≤ (((rd_T62 l0_0 x87_3).f0) : Int) := of_decide_eq_true as_
                                 have q94 : (((rd_T62 l0_0 x87_3).f0) : Int) < ((x10_3.length : Int) : Int) := of_decide_eq_true as_
                                 obtain ⟨go94, co94, eo94, gb94, gl94, cl94, HG94⟩ := Kd.R_form HO_10.out (by omega)
                                 (first | cases eo94 | (injection eo94 with ea_ en_ ec_; (first | subst ea_ | (injection ea_ with ea_; subst ea_)); subst ec_; clear en_))
                                 have GB94 := Aside0.mk gb94
                                 have GG94 := Aside0.mk HG94
                                 clear gb94 gl94 HG94
                                 (first | simp only [add_plain] at hx852_0 | skip)
                                 obtain ⟨hx94_0, hf94_0⟩ := Kd.R_celln 0 HO_10.out (((rd_T62 l0_0 x87_3).f0) : Int) p94 q94
                                 replace p94 := eq_true p94
                                 replace q94 := eq_true q94
                                 have HP98 := Kd.R_putg HO_10.out (((rd_T62 l0_0 x87_3).f0) : Int) (wrap64 ((rd x10_3 ((rd_T62 l0_0 x87_3).f0)) + (t838.length : Int)))
                                 go_wp2_with (first | ((with_reducible refine gate_store (t := 3) (p := 184) rfl ?_); refine store_event (t := 3) (p := 184) (v := ?vo_w99) (w1 := (wr.setCell ⟨go94, (((rd_T62 l0_0 x87_3).f0) : Int).toNat, none⟩ (.int .i64 (wrap64 ((rd x10_3 ((rd_T62 l0_0 x87_3).f0)) + (t838.length : Int)))))) ?hg ?ho ?hn ?hr ?_; (case ho => rfl); (case hg => rfl); (case hn => rfl); (case hr => exact gs_); intro w99 hw; have hg : wr.grownBy w99 (some go94) := (by rw [hw]; exact HP98.2); have hp_ : Kd.R (Kd.int .i64) 3 w99 w.heap.size (fun _ => True) (.slice (some ⟨go94, 0, none⟩) x10_3.length co97) y853 := (by rw [hw, Ny853.out]; exact HP98.1); clear HP98; replace HO_8 := Aside0.mk (Kd.R_over' (v := (.slice (some ⟨go94, 0, none⟩) x10_3.length co97)) (ro_ HO_8) (Kd.R_typed HO_10.out) (by decide) hg); replace HO_16 := Aside0.mk (Kd.R_over' (v := (.slice (some ⟨go94, 0, none⟩) x10_3.length co97)) (ro_ HO_16) (Kd.R_typed HO_10.out) (by decide) hg); replace BK808 := Aside0.mk (blk_grown (g := gb808) (o := .cells #[.slice (some ad836) l0_0.length c0_0, .slice A0_1 l0_1.length c0_1] 25 (0, 0)) (bk_ BK808) hg (Kd.R_ne HO_10.out BK808.out (by decide))); replace BK837 := Aside0.mk (blk_grown (g := gb837) (o := .cells #[.int .i64 ((rd_T62 l0_0 x87_3).f0), .int .i64 ((rd_T62 l0_0 x87_3).f1), .int .i64 ((rd_T62 l0_0 x87_3).f2.f0), .int .i64 ((rd_T62 l0_0 x87_3).f2.f1), .int .i64 ((rd_T62 l0_0 x87_3).f3.f0), .int .i64 ((rd_T62 l0_0 x87_3).f3.f1)] 62 (0, 0)) (bk_ BK837) hg (Kd.R_ne HO_10.out BK837.out (by decide))); replace HO_10 := Aside0.mk (hp_); replace HB := Aside0.mk ((by rw [hw]; exact below_set (HB.out) GB94.out : Below w.heap.size w w99)); clear hg hw hp_))
                                 go_roundg k5
                                 case measure => have := HJ4.out; have := HK2.out; have := HK3.out; have := HJ58.out; have := HK5.out; omega
                                 case rel => exact ⟨(y853), (x13_3), (wrap64 (x87_3 + 1)), (by first | rfl | (simp; done) | (simp [*]; done)), (by first | rfl | (simp; done) | (simp [*]; done)), H', ⟨by have := HJ4.out; have := HK2.out; have := HK3.out; have := HJ58.out; have := HK5.out; omega⟩, ⟨by (with_reducible repeat (first | apply Kd.R_alloc | apply Kd.R_drewN | apply Kd.R_drew)); exact HO_8.out⟩, ⟨by (with_reducible repeat (first | apply Kd.R_alloc | apply Kd.R_drewN | apply Kd.R_drew)); exact HO_10.out⟩, ⟨by refine bx_ ?_; exact BK808.out⟩, ⟨be2_ HB GE808 GE837⟩⟩
                                ·rw [if_neg c93] at H
                                 exact absurd H (by simp)
                               ·rw [if_neg c92] at H
                                exact absurd H (by simp)
                     ·rw [if_neg c56] at H
                      exact absurd H (by simp)
                    ·rw [if_neg c55] at H
                     exact absurd H (by simp)
                   ·rw [if_neg c54] at H
                    have c54b0 : decide (x87_3 < (l0_0.length : Int)) = false := decide_eq_false c54
                    clear c54
                    replace H := Option.bind_eq_some_iff.mp H
                    obtain ⟨⟨t854, t855, t856⟩, A1000, H⟩ := H
                    replace H : ((exits_Out.f l0_0 l0_1 y825).bind fun bt858 => ((exits_Safe.f l0_0 l0_1 l1).bind fun bt862 => ((exits_Safe.f l0_0 l0_1 y825).bind fun bt866 => (if t809 = true then (if x13_3 = (l1.length : Int) then (if t856 = 0 then (if bt858.2.2 = 0 then (if (t854 == bt858.1 && (t855 == bt858.2.1)) = true then (if bt862.2.2.2 = 0 then (if bt866.2.2.2 = 0 then (if bt862.1 = bt866.1 then (if bt862.2.1 = bt866.2.1 then (some (bt862.2.2.1 == bt866.2.2.1)) else (some false)) else (some false)) else (some false)) else (some false)) else (some false)) else (some false)) else (some false)) else (some false)) else (some false))))) = some r := H
                    have A100 := Aside0.mk A1000
                    clear A1000
                    replace H := Option.bind_eq_some_iff.mp H
                    obtain ⟨⟨t858, t859, t860⟩, A1010, H⟩ := H
                    replace H : ((exits_Safe.f l0_0 l0_1 l1).bind fun bt862 => ((exits_Safe.f l0_0 l0_1 y825).bind fun bt866 => (if t809 = true then (if x13_3 = (l1.length : Int) then (if t856 = 0 then (if t860 = 0 then (if (t854 == t858 && (t855 == t859)) = true then (if bt862.2.2.2 = 0 then (if bt866.2.2.2 = 0 then (if bt862.1 = bt866.1 then (if bt862.2.1 = bt866.2.1 then (some (bt862.2.2.1 == bt866.2.2.1)) else (some false)) else (some false)) else (some false)) else (some false)) else (some false)) else (some false)) else (some false)) else (some false)) else (some false)))) = some r := H
                    have A101 := Aside0.mk A1010
                    clear A1010
                    replace H := Option.bind_eq_some_iff.mp H
                    obtain ⟨⟨t862, t863, t864, t865⟩, A1020, H⟩ := H
                    replace H : ((exits_Safe.f l0_0 l0_1 y825).bind fun bt866 => (if t809 = true then (if x13_3 = (l1.length : Int) then (if t856 = 0 then (if t860 = 0 then (if (t854 == t858 && (t855 == t859)) = true then (if t865 = 0 then (if bt866.2.2.2 = 0 then (if t862 = bt866.1 then (if t863 = bt866.2.1 then (some (t864 == bt866.2.2.1)) else (some false)) else (some false)) else (some false)) else (some false)) else (some false)) else (some false)) else (some false)) else (some false)) else (some false))) = some r := H
                    have A102 := Aside0.mk A1020
                    clear A1020
                    replace H := Option.bind_eq_some_iff.mp H
                    obtain ⟨⟨t866, t867, t868, t869⟩, A1030, H⟩ := H
                    replace H : (if t809 = true then (if x13_3 = (l1.length : Int) then (if t856 = 0 then (if t860 = 0 then (if (t854 == t858 && (t855 == t859)) = true then (if t865 = 0 then (if t869 = 0 then (if t862 = t866 then (if t863 = t867 then (some (t864 == t868)) else (some false)) else (some false)) else (some false)) else (some false)) else (some false)) else (some false)) else (some false)) else (some false)) else (some false)) = some r := H
                    have A103 := Aside0.mk A1030
                    clear A1030
                    by_cases c104 : t809 = true
                    ·subst c104
                     have H1 : (if x13_3 = (l1.length : Int) then (if t856 = 0 then (if t860 = 0 then (if (t854 == t858 && (t855 == t859)) = true then (if t865 = 0 then (if t869 = 0 then (if t862 = t866 then (if t863 = t867 then (some (t864 == t868)) else (some false)) else (some false)) else (some false)) else (some false)) else (some false)) else (some false)) else (some false)) else (some false)) = some r := by rw [if_pos rfl] at H; exact H
                     clear H
                     have H := H1
                     clear H1
                     by_cases c105 : x13_3 = (l1.length : Int)
                     ·rw [if_pos c105] at H
                      have c105b0 : (x13_3 == (l1.length : Int)) = true := beq_iff_eq.mpr c105
                      have c105b1 : (x13_3 != (l1.length : Int)) = false := bne_eq_false_iff_eq.mpr c105
                      clear c105
                      by_cases c106 : t856 = 0
                      ·rw [if_pos c106] at H
                       have c106b0 : (t856 == 0) = true := beq_iff_eq.mpr c106
                       have c106b1 : (t856 != 0) = false := bne_eq_false_iff_eq.mpr c106
                       clear c106
                       by_cases c107 : t860 = 0
                       ·rw [if_pos c107] at H
                        have c107b0 : (t860 == 0) = true := beq_iff_eq.mpr c107
                        have c107b1 : (t860 != 0) = false := bne_eq_false_iff_eq.mpr c107
                        clear c107
                        by_cases c108 : (t854 == t858 && (t855 == t859)) = true
                        ·rw [if_pos c108] at H
                         have c108b0 : (t854 == t858 && (t855 == t859)) = true := c108
                         (try (have c108b1 : decide (t854 = t858 && (t855 == t859)) = true := by simpa using c108))
                         (try (have c108b2 : (t854 == t858 && (t855 == t859)) = true := by simpa using c108))
                         clear c108
                         by_cases c109 : t865 = 0
                         ·rw [if_pos c109] at H
                          have c109b0 : (t865 == 0) = true := beq_iff_eq.mpr c109
                          have c109b1 : (t865 != 0) = false := bne_eq_false_iff_eq.mpr c109
                          clear c109
                          by_cases c110 : t869 = 0
                          ·rw [if_pos c110] at H
                           have c110b0 : (t869 == 0) = true := beq_iff_eq.mpr c110
                           have c110b1 : (t869 != 0) = false := bne_eq_false_iff_eq.mpr c110
                           clear c110
                           by_cases c111 : t862 = t866
                           ·rw [if_pos c111] at H
                            have c111b0 : (t862 == t866) = true := beq_iff_eq.mpr c111
                            have c111b1 : (t862 != t866) = false := bne_eq_false_iff_eq.mpr c111
                            clear c111
                            by_cases c112 : t863 = t867
                            ·rw [if_pos c112] at H
                             have c112b0 : (t863 == t867) = true := beq_iff_eq.mpr c112
                             have c112b1 : (t863 != t867) = false := bne_eq_false_iff_eq.mpr c112
                             clear c112
                             obtain rfl := Option.some.inj H
                             have hcz113_0 : wr.cell? ⟨gb808, 0, none⟩ = some (.slice A0_0 l0_0.length c0_0) := bc_ BK808 0
                             have hcz113_1 : wr.cell? ⟨gb808, 1, none⟩ = some (.slice A0_1 l0_1.length c0_1) := bc_ BK808 1
                             have hfz113_0 := blk_frozen BK808.out 0
                             have hfz113_1 := blk_frozen BK808.out 1
                             go_wp2_with (first | ((with_reducible refine gate_callee (f := 19) rfl ?_); refine goesL_ (some 189) rfl rfl Tryd.func19 (by decide +kernel) rfl #[.agg #[.slice A0_0 l0_0.length c0_0, .slice A0_1 l0_1.length c0_1], .slice A1 l1.length c1] rfl ls_ ?_; (with_reducible refine (exits_Out.calls _ _ l0_0 _ _ l0_1 _ _ l1 t854 t855 t856 _ ?side7 ?side1 ?side2 ?side3 ?side4 ?side5 ?side6 A100.out).mono ?_); (case side1 => exact kc_ HR0_0 HB); (case side2 => exact HC0_0.out); (case side3 => exact kc_ HR0_1 HB); (case side4 => exact HC0_1.out); (case side5 => exact kc_ HR1 HB); (case side6 => exact HC1.out); (case side7 => exact GlobsE.below HG.out.1 (be1_ HB GE808)); rintro e w114 ⟨rfl, hb⟩; refine ⟨_, rfl, ?_⟩; replace HO_8 := rb_ HO_8 hb; replace HO_10 := rb_ HO_10 hb; replace BK808 := bb_ BK808 hb; replace HB := bs1_ HB GE808 hb; (try clear hb); (try clear hb2); (try clear hk); (try clear hi)) | ((with_reducible refine gate_dst (N := 21) rfl ?_); (try (refine gate_guard (by rfl) ?_; dsimp only)); refine box_event ?hg (N := 21) ?hd (cs := #[.int .i64 0, .int .i64 0]) (t := 36) ?hr ?_; (case hd => rfl); (case hg => rfl); (case hr => exact gs_); intro gb857 hg w115 hbox hb; replace HO_8 := rb_ HO_8 hb; replace HO_10 := rb_ HO_10 hb; have BK857 := Aside0.mk (hbox); have GW857 := hl_ hg (be1_ HB GE808); have GE857 := hl_ hg (be1_ HB GE808); replace HB := bs1_ HB GE808 hb; have NB808_857 := Aside0.mk ((by rw [hg]; exact Nat.ne_of_lt (blk_lt (bk_ BK808)) : gb808 ≠ gb857)); have NB857_808 := Aside0.mk ((by rw [hg]; exact Nat.ne_of_gt (blk_lt (bk_ BK808)) : gb857 ≠ gb808)); replace BK808 := bb_ BK808 hb; clear hb hbox hg; have hnb116 := NB857_808.out; have hnc116 := NB808_857.out; have hcz117_0 : w115.cell? ⟨gb857, 0, none⟩ = some (.int .i64 0) := bc_ BK857 0; have hcz117_1 : w115.cell? ⟨gb857, 1, none⟩ = some (.int .i64 0) := bc_ BK857 1; have hfz117_0 := blk_frozen BK857.out 0; have hfz117_1 := blk_frozen BK857.out 1; have hcz118_0 : w115.cell? ⟨gb808, 0, none⟩ = some (.slice A0_0 l0_0.length c0_0) := bc_ BK808 0; have hcz118_1 : w115.cell? ⟨gb808, 1, none⟩ = some (.slice A0_1 l0_1.length c0_1) := bc_ BK808 1; have hfz118_0 := blk_frozen BK808.out 0; have hfz118_1 := blk_frozen BK808.out 1; obtain ⟨Ao119, co119, eo119⟩ := Kd.R_slice HO_8.out; subst eo119) | ((with_reducible refine gate_callee (f := 19) rfl ?_); refine goesL_ (some 195) rfl rfl Tryd.func19 (by decide +kernel) rfl #[.agg #[.slice A0_0 l0_0.length c0_0, .slice A0_1 l0_1.length c0_1], .slice Ao119 y825.length co119] rfl ls_ ?_; (with_reducible refine (exits_Out.calls _ _ l0_0 _ _ l0_1 _ _ y825 t858 t859 t860 _ ?side7 ?side1 ?side2 ?side3 ?side4 ?side5 ?side6 A101.out).mono ?_); (case side1 => exact Kd.C_below HR0_0.out (be2_ HB GE808 GE857)); (case side2 => exact HC0_0.out); (case side3 => exact Kd.C_below HR0_1.out (be2_ HB GE808 GE857)); (case side4 => exact HC0_1.out); (case side5 => refine (Kd.R_reads' (e := 48) (base := w.heap.size) (ok := fun k_ => True) (n := y825.length) (c := co119) ?_).2.2; exact (by (with_reducible repeat (first | apply Kd.R_alloc | apply Kd.R_drewN | apply Kd.R_drew)); exact (Kd.R_mono (Kd.R_far (p := ⟨gb857, 1, none⟩) (Kd.R_far (p := ⟨gb857, 0, none⟩) (Kd.R_types HO_8.out BK857.out (by decide)) (fun _ hk => hk.2) (.int .i64 t854)) (fun _ hk => hk.2) (.int .i64 t855)) (fun _ h_ => h_.1)))); (case side6 => exact (Kd.R_reads' HO_8.out).2.1); (case side7 => exact GlobsE.below HG.out.1 (be2_ HB GE808 GE857)); rintro e w120 ⟨rfl, hb⟩; refine ⟨_, rfl, ?_⟩; replace HO_8 := Aside0.mk (Kd.R_below (by (with_reducible repeat (first | apply Kd.R_alloc | apply Kd.R_drewN | apply Kd.R_drew)); exact (Kd.R_mono (Kd.R_far (p := ⟨gb857, 1, none⟩) (Kd.R_far (p := ⟨gb857, 0, none⟩) (Kd.R_types HO_8.out BK857.out (by decide)) (fun _ hk => hk.2) (.int .i64 t854)) (fun _ hk => hk.2) (.int .i64 t855)) (fun _ h_ => h_.1))) hb); replace HO_10 := Aside0.mk (Kd.R_below (by (with_reducible repeat (first | apply Kd.R_alloc | apply Kd.R_drewN | apply Kd.R_drew)); exact (Kd.R_mono (Kd.R_far (p := ⟨gb857, 1, none⟩) (Kd.R_far (p := ⟨gb857, 0, none⟩) (Kd.R_types HO_10.out BK857.out (by decide)) (fun _ hk => hk.2) (.int .i64 t854)) (fun _ hk => hk.2) (.int .i64 t855)) (fun _ h_ => h_.1))) hb); replace BK808 := Aside0.mk (blk_below (g := gb808) (o := .cells #[.slice A0_0 l0_0.length c0_0, .slice A0_1 l0_1.length c0_1] 25 (0, 0)) (by refine bx_ ?_; refine blk_far ?_ NB808_857.out _; refine bx_ ?_; refine blk_far ?_ NB808_857.out _; refine bx_ ?_; exact BK808.out) hb); replace BK857 := Aside0.mk (blk_below (g := gb857) (o := .cells #[.int .i64 t854, .int .i64 t855] 36 (0, 0)) (by refine bx_ ?_; refine blk_put (cs := #[.int .i64 t854, .int .i64 0]) ?_ 1 _ rfl; refine bx_ ?_; refine blk_put (cs := #[.int .i64 0, .int .i64 0]) ?_ 0 _ rfl; refine bx_ ?_; exact BK857.out) hb); replace HB := bs2_ HB GE808 GE857 hb; (try clear hb); (try clear hb2); (try clear hk); (try clear hi)) | ((with_reducible refine gate_dst (N := 23) rfl ?_); (try (refine gate_guard (by rfl) ?_; dsimp only)); refine box_event ?hg (N := 23) ?hd (cs := #[.int .i64 0, .int .i64 0]) (t := 36) ?hr ?_; (case hd => rfl); (case hg => rfl); (case hr => exact gs_); intro gb861 hg w121 hbox hb; replace HO_8 := rb_ HO_8 hb; replace HO_10 := rb_ HO_10 hb; have BK861 := Aside0.mk (hbox); have GW861 := hl_ hg (be2_ HB GE808 GE857); have GE861 := hl_ hg (be2_ HB GE808 GE857); replace HB := bs2_ HB GE808 GE857 hb; have NB808_861 := Aside0.mk ((by rw [hg]; exact Nat.ne_of_lt (blk_lt (bk_ BK808)) : gb808 ≠ gb861)); have NB861_808 := Aside0.mk ((by rw [hg]; exact Nat.ne_of_gt (blk_lt (bk_ BK808)) : gb861 ≠ gb808)); replace BK808 := bb_ BK808 hb; have NB857_861 := Aside0.mk ((by rw [hg]; exact Nat.ne_of_lt (blk_lt (bk_ BK857)) : gb857 ≠ gb861)); have NB861_857 := Aside0.mk ((by rw [hg]; exact Nat.ne_of_gt (blk_lt (bk_ BK857)) : gb861 ≠ gb857)); replace BK857 := bb_ BK857 hb; clear hb hbox hg; have hnb122 := NB861_808.out; have hnc122 := NB808_861.out; have hnb123 := NB861_857.out; have hnc123 := NB857_861.out; have hcz124_0 : w121.cell? ⟨gb861, 0, none⟩ = some (.int .i64 0) := bc_ BK861 0; have hcz124_1 : w121.cell? ⟨gb861, 1, none⟩ = some (.int .i64 0) := bc_ BK861 1; have hfz124_0 := blk_frozen BK861.out 0; have hfz124_1 := blk_frozen BK861.out 1; have hcz125_0 : w121.cell? ⟨gb808, 0, none⟩ = some (.slice A0_0 l0_0.length c0_0) := bc_ BK808 0; have hcz125_1 : w121.cell? ⟨gb808, 1, none⟩ = some (.slice A0_1 l0_1.length c0_1) := bc_ BK808 1; have hfz125_0 := blk_frozen BK808.out 0; have hfz125_1 := blk_frozen BK808.out 1) | ((with_reducible refine gate_callee (f := 26) rfl ?_); refine goesL_ (some 201) rfl rfl Tryd.func26 (by decide +kernel) rfl #[.agg #[.slice A0_0 l0_0.length c0_0, .slice A0_1 l0_1.length c0_1], .slice A1 l1.length c1] rfl ls_ ?_; (with_reducible refine (exits_Safe.calls _ _ l0_0 _ _ l0_1 _ _ l1 t862 t863 t864 t865 _ ?side7 ?side1 ?side2 ?side3 ?side4 ?side5 ?side6 A102.out).mono ?_); (case side1 => exact Kd.C_below HR0_0.out (be3_ HB GE808 GE857 GE861)); (case side2 => exact HC0_0.out); (case side3 => exact Kd.C_below HR0_1.out (be3_ HB GE808 GE857 GE861)); (case side4 => exact HC0_1.out); (case side5 => exact Kd.C_below HR1.out (be3_ HB GE808 GE857 GE861)); (case side6 => exact HC1.out); (case side7 => exact Globs.below HG.out (be3_ HB GE808 GE857 GE861)); rintro e w126 ⟨rfl, hb⟩; refine ⟨_, rfl, ?_⟩; replace HO_8 := Aside0.mk (Kd.R_below (by (with_reducible repeat (first | apply Kd.R_alloc | apply Kd.R_drewN | apply Kd.R_drew)); exact (Kd.R_mono (Kd.R_far (p := ⟨gb861, 1, none⟩) (Kd.R_far (p := ⟨gb861, 0, none⟩) (Kd.R_types HO_8.out BK861.out (by decide)) (fun _ hk => hk.2) (.int .i64 t858)) (fun _ hk => hk.2) (.int .i64 t859)) (fun _ h_ => h_.1))) hb); replace HO_10 := Aside0.mk (Kd.R_below (by (with_reducible repeat (first | apply Kd.R_alloc | apply Kd.R_drewN | apply Kd.R_drew)); exact (Kd.R_mono (Kd.R_far (p := ⟨gb861, 1, none⟩) (Kd.R_far (p := ⟨gb861, 0, none⟩) (Kd.R_types HO_10.out BK861.out (by decide)) (fun _ hk => hk.2) (.int .i64 t858)) (fun _ hk => hk.2) (.int .i64 t859)) (fun _ h_ => h_.1))) hb); replace BK808 := Aside0.mk (blk_below (g := gb808) (o := .cells #[.slice A0_0 l0_0.length c0_0, .slice A0_1 l0_1.length c0_1] 25 (0, 0)) (by refine bx_ ?_; refine blk_far ?_ NB808_861.out _; refine bx_ ?_; refine blk_far ?_ NB808_861.out _; refine bx_ ?_; exact BK808.out) hb); replace BK857 := Aside0.mk (blk_below (g := gb857) (o := .cells #[.int .i64 t854, .int .i64 t855] 36 (0, 0)) (by refine bx_ ?_; refine blk_far ?_ NB857_861.out _; refine bx_ ?_; refine blk_far ?_ NB857_861.out _; refine bx_ ?_; exact BK857.out) hb); replace BK861 := Aside0.mk (blk_below (g := gb861) (o := .cells #[.int .i64 t858, .int .i64 t859] 36 (0, 0)) (by refine bx_ ?_; refine blk_put (cs := #[.int .i64 t858, .int .i64 0]) ?_ 1 _ rfl; refine bx_ ?_; refine blk_put (cs := #[.int .i64 0, .int .i64 0]) ?_ 0 _ rfl; refine bx_ ?_; exact BK861.out) hb); replace HB := bs3_ HB GE808 GE857 GE861 hb; (try clear hb); (try clear hb2); (try clear hk); (try clear hi); have hcz127_0 : w126.cell? ⟨gb808, 0, none⟩ = some (.slice A0_0 l0_0.length c0_0) := bc_ BK808 0; have hcz127_1 : w126.cell? ⟨gb808, 1, none⟩ = some (.slice A0_1 l0_1.length c0_1) := bc_ BK808 1; have hfz127_0 := blk_frozen BK808.out 0; have hfz127_1 := blk_frozen BK808.out 1) | ((with_reducible refine gate_callee (f := 26) rfl ?_); refine goesL_ (some 209) rfl rfl Tryd.func26 (by decide +kernel) rfl #[.agg #[.slice A0_0 l0_0.length c0_0, .slice A0_1 l0_1.length c0_1], .slice Ao119 y825.length co119] rfl ls_ ?_; (with_reducible refine (exits_Safe.calls _ _ l0_0 _ _ l0_1 _ _ y825 t866 t867 t868 t869 _ ?side7 ?side1 ?side2 ?side3 ?side4 ?side5 ?side6 A103.out).mono ?_); (case side1 => exact kc_ HR0_0 HB); (case side2 => exact HC0_0.out); (case side3 => exact kc_ HR0_1 HB); (case side4 => exact HC0_1.out); (case side5 => exact kd_ (Kd.R_reads' HO_8.out).2.2); (case side6 => exact (Kd.R_reads' HO_8.out).2.1); (case side7 => exact Globs.below HG.out (be3_ HB GE808 GE857 GE861)); rintro e w128 ⟨rfl, hb⟩; refine ⟨_, rfl, ?_⟩; replace HO_8 := rb_ HO_8 hb; replace HO_10 := rb_ HO_10 hb; replace BK808 := bb_ BK808 hb; replace BK857 := bb_ BK857 hb; replace BK861 := bb_ BK861 hb; replace HB := bs3_ HB GE808 GE857 GE861 hb; (try clear hb); (try clear hb2); (try clear hk); (try clear hi); have hcz129_0 : w128.cell? ⟨gb857, 0, none⟩ = some (.int .i64 t854) := bc_ BK857 0; have hcz129_1 : w128.cell? ⟨gb857, 1, none⟩ = some (.int .i64 t855) := bc_ BK857 1; have hfz129_0 := blk_frozen BK857.out 0; have hfz129_1 := blk_frozen BK857.out 1; have hcz130_0 : w128.cell? ⟨gb861, 0, none⟩ = some (.int .i64 t858) := bc_ BK861 0; have hcz130_1 : w128.cell? ⟨gb861, 1, none⟩ = some (.int .i64 t859) := bc_ BK861 1; have hfz130_0 := blk_frozen BK861.out 0; have hfz130_1 := blk_frozen BK861.out 1))
                             go_ret
                             exact ⟨by first | rfl | (simp [errW_none, errW_some] <;> rfl) | (simp only [← hji17]; first | rfl | (simp [errW_none, errW_some] <;> rfl)) | (simp [*, errW_none, errW_some] <;> rfl), be3_ HB GE808 GE857 GE861⟩
                            ·rw [if_neg c112] at H
                             have c112b0 : (t863 == t867) = false := beq_eq_false_iff_ne.mpr c112
                             have c112b1 : (t863 != t867) = true := bne_iff_ne.mpr c112
                             exact absurd (H.trans (congrArg some HRT.out)) (by simp)
                           ·rw [if_neg c111] at H
                            have c111b0 : (t862 == t866) = false := beq_eq_false_iff_ne.mpr c111
                            have c111b1 : (t862 != t866) = true := bne_iff_ne.mpr c111
                            exact absurd (H.trans (congrArg some HRT.out)) (by simp)
                          ·rw [if_neg c110] at H
                           have c110b0 : (t869 == 0) = false := beq_eq_false_iff_ne.mpr c110
                           have c110b1 : (t869 != 0) = true := bne_iff_ne.mpr c110
                           exact absurd (H.trans (congrArg some HRT.out)) (by simp)
                         ·rw [if_neg c109] at H
                          have c109b0 : (t865 == 0) = false := beq_eq_false_iff_ne.mpr c109
                          have c109b1 : (t865 != 0) = true := bne_iff_ne.mpr c109
                          exact absurd (H.trans (congrArg some HRT.out)) (by simp)
                        ·rw [if_neg c108] at H
                         have c108b0 : (t854 == t858 && (t855 == t859)) = false := by simpa using c108
                         (try (have c108b1 : decide (t854 = t858 && (t855 == t859)) = false := by simpa using c108))
                         (try (have c108b2 : (t854 == t858 && (t855 == t859)) = false := by simpa using c108))
                         (try (have c108b3 : ¬ (t854 = t858 && (t855 == t859)) := by simpa using c108))
                         clear c108
                         exact absurd (H.trans (congrArg some HRT.out)) (by simp)
                       ·rw [if_neg c107] at H
                        have c107b0 : (t860 == 0) = false := beq_eq_false_iff_ne.mpr c107
                        have c107b1 : (t860 != 0) = true := bne_iff_ne.mpr c107
                        exact absurd (H.trans (congrArg some HRT.out)) (by simp)
                      ·rw [if_neg c106] at H
                       have c106b0 : (t856 == 0) = false := beq_eq_false_iff_ne.mpr c106
                       have c106b1 : (t856 != 0) = true := bne_iff_ne.mpr c106
                       exact absurd (H.trans (congrArg some HRT.out)) (by simp)
                     ·rw [if_neg c105] at H
                      have c105b0 : (x13_3 == (l1.length : Int)) = false := beq_eq_false_iff_ne.mpr c105
                      have c105b1 : (x13_3 != (l1.length : Int)) = true := bne_iff_ne.mpr c105
                      exact absurd (H.trans (congrArg some HRT.out)) (by simp)
                    ·replace c104 := Bool.eq_false_iff.mpr c104
                     subst c104
                     have H1 : (some false) = some r := by rw [if_neg (show ¬ (false = true) by decide)] at H; exact H
                     clear H
                     have H := H1
                     clear H1
                     exact absurd (H.trans (congrArg some HRT.out)) (by simp)
           ·rw [if_neg c25] at H
            exact absurd H (by simp)
          ·rw [if_neg c24] at H
           exact absurd H (by simp)
         ·rw [if_neg c23] at H
          exact absurd H (by simp)
        ·rw [if_neg c20] at H
         exact absurd H (by simp)
       ·rw [if_neg c19] at H
        exact absurd H (by simp)
      ·rw [if_neg c18] at H
       exact absurd H (by simp)
    ·rw [if_neg c15] at H
     have c15b0 : decide (0 < (l1.length : Int)) = false := decide_eq_false c15
     have c15b1 : decide (0 < l1.length) = false := decide_eq_false (by omega)
     clear c15
     exact absurd (H.trans (congrArg some HRT.out)) (by simp)

end Go.Proofs.YtdeaccbolnlgpaaDoor.X
