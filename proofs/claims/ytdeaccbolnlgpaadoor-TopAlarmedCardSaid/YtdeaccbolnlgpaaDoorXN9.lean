import Derived.Test.YtdeaccbolnlgpaaDoorXF9
import Derived.Test.YtdeaccbolnlgpaaDoorXS2
import Derived.Test.YtdeaccbolnlgpaaDoorX0
import Derived.Test.YtdeaccbolnlgpaaDoorXE1
import Derived.Test.YtdeaccbolnlgpaaDoorXNA
import Derived.Test.YtdeaccbolnlgpaaDoorXN48
import Derived.Test.YtdeaccbolnlgpaaDoorXN46
import Derived.Test.YtdeaccbolnlgpaaDoorXN49
import Derived.Test.YtdeaccbolnlgpaaDoorXA9
import Derived.Test.YtdeaccbolnlgpaaDoorXG
import Derived.Test.YtdeaccbolnlgpaaDoorXHO
import Derived.Test.YtdeaccbolnlgpaaDoorXHS
namespace Go.Proofs.YtdeaccbolnlgpaaDoor.X
open Go.RowKit Go.Proofs.YtdeaccbolnlgpaaDoorW.PrintWords Go.Proofs.YtdeaccbolnlgpaaDoorW.PrintLast Go.Proofs.YtdeaccbolnlgpaaDoorW.PrintMore
attribute [local go_sem] max2_int min2_int max_two min_two max_three min_three max_four min_four   -- for this text's walks alone
set_option linter.unusedVariables false
set_option linter.unusedSimpArgs false

attribute [local go_sem high] eqA36
/-! ### cottonpadtop_TopAlarmed: function 9 -/
mutual
def cottonpadtop_TopAlarmed.j0 : Nat → List (S48) → List Int → List Int → Bool → Bool → List (S62) → List (S81) → Int → Int → Int → Int → Int → Int → Int → Int → Option (Bool)
 | 0, _, _, _, _, _, _, _, _, _, _, _, _, _, _, _ => none
 | k + 1, x1, x3, x4, x11, x83, x1164000, x1164001, x1166000, x1166001, x1166002, x1166003, x1166004, x1166005, x1166006, x1166007 => if x83 = true then (some x11) else ((spray_Bursts.f x1166000 x1166001 x1166002 x1166003 x1166004 x1166005 x1166006 x1166007 x3).bind fun bt1171 => (if bt1171.2.2 = 0 then (if bt1171.2.1 > 0 then (if bt1171.1 < 1 then (cottonpadtop_TopAlarmed.j1 k x1 x3 x4 x11 bt1171.1 bt1171.2.1 true x1164000 x1164001 x1166000 x1166001 x1166002 x1166003 x1166004 x1166005 x1166006 x1166007) else (cottonpadtop_TopAlarmed.j1 k x1 x3 x4 x11 bt1171.1 bt1171.2.1 (decide (bt1171.1 > bt1171.2.1)) x1164000 x1164001 x1166000 x1166001 x1166002 x1166003 x1166004 x1166005 x1166006 x1166007)) else (cottonpadtop_TopAlarmed.j1 k x1 x3 x4 x11 bt1171.1 bt1171.2.1 false x1164000 x1164001 x1166000 x1166001 x1166002 x1166003 x1166004 x1166005 x1166006 x1166007)) else (cottonpadtop_TopAlarmed.j1 k x1 x3 x4 x11 bt1171.1 bt1171.2.1 true x1164000 x1164001 x1166000 x1166001 x1166002 x1166003 x1166004 x1166005 x1166006 x1166007)))
def cottonpadtop_TopAlarmed.j1 : Nat → List (S48) → List Int → List Int → Bool → Int → Int → Bool → List (S62) → List (S81) → Int → Int → Int → Int → Int → Int → Int → Int → Option (Bool)
 | 0, _, _, _, _, _, _, _, _, _, _, _, _, _, _, _, _, _ => none
 | k + 1, x1, x3, x4, x11, x12, x13, x106, x1164000, x1164001, x1166000, x1166001, x1166002, x1166003, x1166004, x1166005, x1166006, x1166007 => if x106 = true then (some false) else (if x13 = 0 then (some x11) else ((cottonpadtop_topafter.f k x12 x13 x1 x1164000 x1164001).bind fun bt1174 => (if bt1174.2 = true then ((exits_Out.f x1164000 x1164001 x1).bind fun bt1178 => ((exits_Out.f x1164000 x1164001 bt1174.1).bind fun bt1182 => ((exits_Safe.f x1164000 x1164001 x1).bind fun bt1186 => ((exits_Safe.f x1164000 x1164001 bt1174.1).bind fun bt1190 => (if bt1178.2.2 = 0 then (if bt1182.2.2 = 0 then (if bt1186.2.2.2 = 0 then (if bt1190.2.2.2 = 0 then (if (!(bt1182.1 == (wrap64 (bt1178.1 + (wrap64 (60 * x12))))) || (!(bt1182.2.1 == (wrap64 (bt1178.2.1 + (wrap64 (60 * x13))))))) = true then (cottonpadtop_TopAlarmed.j2 k x1 x3 x4 x11 x12 x13 bt1190.1 true x1164000 x1164001 x1164000 x1164001 x1166000 x1166001 x1166002 x1166003 x1166004 x1166005 x1166006 x1166007 bt1182.1 bt1182.2.1) else (cottonpadtop_TopAlarmed.j2 k x1 x3 x4 x11 x12 x13 bt1190.1 (decide (bt1190.1 > bt1186.1)) x1164000 x1164001 x1164000 x1164001 x1166000 x1166001 x1166002 x1166003 x1166004 x1166005 x1166006 x1166007 bt1182.1 bt1182.2.1)) else (cottonpadtop_TopAlarmed.j2 k x1 x3 x4 x11 x12 x13 bt1190.1 true x1164000 x1164001 x1164000 x1164001 x1166000 x1166001 x1166002 x1166003 x1166004 x1166005 x1166006 x1166007 bt1182.1 bt1182.2.1)) else (cottonpadtop_TopAlarmed.j2 k x1 x3 x4 x11 x12 x13 bt1190.1 true x1164000 x1164001 x1164000 x1164001 x1166000 x1166001 x1166002 x1166003 x1166004 x1166005 x1166006 x1166007 bt1182.1 bt1182.2.1)) else (cottonpadtop_TopAlarmed.j2 k x1 x3 x4 x11 x12 x13 bt1190.1 true x1164000 x1164001 x1164000 x1164001 x1166000 x1166001 x1166002 x1166003 x1166004 x1166005 x1166006 x1166007 bt1182.1 bt1182.2.1)) else (cottonpadtop_TopAlarmed.j2 k x1 x3 x4 x11 x12 x13 bt1190.1 true x1164000 x1164001 x1164000 x1164001 x1166000 x1166001 x1166002 x1166003 x1166004 x1166005 x1166006 x1166007 bt1182.1 bt1182.2.1)))))) else (some x11))))
def cottonpadtop_TopAlarmed.j2 : Nat → List (S48) → List Int → List Int → Bool → Int → Int → Int → Bool → List (S62) → List (S81) → List (S62) → List (S81) → Int → Int → Int → Int → Int → Int → Int → Int → Int → Int → Option (Bool)
 | 0, _, _, _, _, _, _, _, _, _, _, _, _, _, _, _, _, _, _, _, _, _, _ => none
 | k + 1, x1, x3, x4, x11, x12, x13, x26, x182, x301, x303, x1164000, x1164001, x1166000, x1166001, x1166002, x1166003, x1166004, x1166005, x1166006, x1166007, x1186000, x1186001 => if x182 = true then (some false) else ((cottonpadtop_topHotter.f k x3 x4).bind fun t1194 => ((spray_Bursts.f x1166000 x1166001 x1166002 x1166003 x1166004 x1166005 x1166006 x1166007 t1194).bind fun bt1197 => (if bt1197.2.2 = 0 then (if bt1197.1 < 1 then (cottonpadtop_TopAlarmed.j3 k x1 x11 x26 bt1197.1 bt1197.2.1 true x301 x303 x1164000 x1164001 x1186000 x1186001) else (if bt1197.1 > x12 then (cottonpadtop_TopAlarmed.j3 k x1 x11 x26 bt1197.1 bt1197.2.1 true x301 x303 x1164000 x1164001 x1186000 x1186001) else (if bt1197.2.1 < 1 then (cottonpadtop_TopAlarmed.j3 k x1 x11 x26 bt1197.1 bt1197.2.1 true x301 x303 x1164000 x1164001 x1186000 x1186001) else (cottonpadtop_TopAlarmed.j3 k x1 x11 x26 bt1197.1 bt1197.2.1 (decide (bt1197.2.1 > x13)) x301 x303 x1164000 x1164001 x1186000 x1186001)))) else (cottonpadtop_TopAlarmed.j3 k x1 x11 x26 bt1197.1 bt1197.2.1 true x301 x303 x1164000 x1164001 x1186000 x1186001))))
def cottonpadtop_TopAlarmed.j3 : Nat → List (S48) → Bool → Int → Int → Int → Bool → List (S62) → List (S81) → List (S62) → List (S81) → Int → Int → Option (Bool)
 | 0, _, _, _, _, _, _, _, _, _, _, _, _ => none
 | k + 1, x1, x11, x26, x30, x31, x211, x301, x303, x1164000, x1164001, x1186000, x1186001 => if x211 = true then (some false) else ((cottonpadtop_topafter.f k x30 x31 x1 x301 x303).bind fun bt1200 => (if bt1200.2 = true then ((exits_Out.f x1164000 x1164001 bt1200.1).bind fun bt1204 => ((exits_Safe.f x1164000 x1164001 bt1200.1).bind fun bt1208 => (if x11 = true then (if bt1204.2.2 = 0 then (if bt1208.2.2.2 = 0 then (if bt1204.1 ≤ x1186000 then (if bt1204.2.1 ≤ x1186001 then (some (decide (bt1208.1 ≥ x26))) else (some false)) else (some false)) else (some false)) else (some false)) else (some false)))) else (some false)))
end
def cottonpadtop_TopAlarmed.f (k : Nat) (l0_0 : List (S62)) (l0_1 : List (S81)) (l1 : List (S48)) (a2_0 : Int) (a2_1 : Int) (a2_2 : Int) (a2_3 : Int) (a2_4 : Int) (a2_5 : Int) (a2_6 : Int) (a2_7 : Int) (l3 : List Int) (l4 : List Int) : Option (Bool) := (cottonpadtop_alive06_t.f).bind fun t1166 => ((cottonpadref06_Great.f l0_0 l0_1 l1).bind fun t1167 => (if t1167 = true then (cottonpadtop_TopAlarmed.j0 k l1 l3 l4 t1166 true l0_0 l0_1 a2_0 a2_1 a2_2 a2_3 a2_4 a2_5 a2_6 a2_7) else ((cottonpadref06_Check.f k l0_0 l0_1 l1).bind fun t1168 => (if t1168 = 0 then (if (l1.length : Int) = 0 then (cottonpadtop_TopAlarmed.j0 k l1 l3 l4 t1166 true l0_0 l0_1 a2_0 a2_1 a2_2 a2_3 a2_4 a2_5 a2_6 a2_7) else (if a2_1 < 1 then (cottonpadtop_TopAlarmed.j0 k l1 l3 l4 t1166 true l0_0 l0_1 a2_0 a2_1 a2_2 a2_3 a2_4 a2_5 a2_6 a2_7) else (if a2_1 > 12 then (cottonpadtop_TopAlarmed.j0 k l1 l3 l4 t1166 true l0_0 l0_1 a2_0 a2_1 a2_2 a2_3 a2_4 a2_5 a2_6 a2_7) else ((cottonpadref05_Bulb.f a2_0 a2_1 a2_2 a2_3 a2_4 a2_5 a2_6 a2_7).bind fun t1169 => (if t1169 = true then (if (l3.length : Int) > 60 then (cottonpadtop_TopAlarmed.j0 k l1 l3 l4 t1166 true l0_0 l0_1 a2_0 a2_1 a2_2 a2_3 a2_4 a2_5 a2_6 a2_7) else ((cottonpadref05_Heat.f k l3).bind fun t1170 => (if t1170 = true then (cottonpadtop_TopAlarmed.j0 k l1 l3 l4 t1166 (!t1166) l0_0 l0_1 a2_0 a2_1 a2_2 a2_3 a2_4 a2_5 a2_6 a2_7) else (cottonpadtop_TopAlarmed.j0 k l1 l3 l4 t1166 true l0_0 l0_1 a2_0 a2_1 a2_2 a2_3 a2_4 a2_5 a2_6 a2_7)))) else (cottonpadtop_TopAlarmed.j0 k l1 l3 l4 t1166 true l0_0 l0_1 a2_0 a2_1 a2_2 a2_3 a2_4 a2_5 a2_6 a2_7)))))) else (cottonpadtop_TopAlarmed.j0 k l1 l3 l4 t1166 true l0_0 l0_1 a2_0 a2_1 a2_2 a2_3 a2_4 a2_5 a2_6 a2_7)))))
theorem cottonpadtop_TopAlarmed.mono_l : ∀ k, (∀ y0 y1 y2 y3 y4 y5 y6 y7 y8 y9 y10 y11 y12 y13 y14, LeO (cottonpadtop_TopAlarmed.j0 k y0 y1 y2 y3 y4 y5 y6 y7 y8 y9 y10 y11 y12 y13 y14) (cottonpadtop_TopAlarmed.j0 (k + 1) y0 y1 y2 y3 y4 y5 y6 y7 y8 y9 y10 y11 y12 y13 y14)) ∧ (∀ y0 y1 y2 y3 y4 y5 y6 y7 y8 y9 y10 y11 y12 y13 y14 y15 y16, LeO (cottonpadtop_TopAlarmed.j1 k y0 y1 y2 y3 y4 y5 y6 y7 y8 y9 y10 y11 y12 y13 y14 y15 y16) (cottonpadtop_TopAlarmed.j1 (k + 1) y0 y1 y2 y3 y4 y5 y6 y7 y8 y9 y10 y11 y12 y13 y14 y15 y16)) ∧ (∀ y0 y1 y2 y3 y4 y5 y6 y7 y8 y9 y10 y11 y12 y13 y14 y15 y16 y17 y18 y19 y20 y21, LeO (cottonpadtop_TopAlarmed.j2 k y0 y1 y2 y3 y4 y5 y6 y7 y8 y9 y10 y11 y12 y13 y14 y15 y16 y17 y18 y19 y20 y21) (cottonpadtop_TopAlarmed.j2 (k + 1) y0 y1 y2 y3 y4 y5 y6 y7 y8 y9 y10 y11 y12 y13 y14 y15 y16 y17 y18 y19 y20 y21)) ∧ (∀ y0 y1 y2 y3 y4 y5 y6 y7 y8 y9 y10 y11, LeO (cottonpadtop_TopAlarmed.j3 k y0 y1 y2 y3 y4 y5 y6 y7 y8 y9 y10 y11) (cottonpadtop_TopAlarmed.j3 (k + 1) y0 y1 y2 y3 y4 y5 y6 y7 y8 y9 y10 y11))
 | 0 => ⟨fun _ _ _ _ _ _ _ _ _ _ _ _ _ _ _ r h => by simp [cottonpadtop_TopAlarmed.j0] at h, fun _ _ _ _ _ _ _ _ _ _ _ _ _ _ _ _ _ r h => by simp [cottonpadtop_TopAlarmed.j1] at h, fun _ _ _ _ _ _ _ _ _ _ _ _ _ _ _ _ _ _ _ _ _ _ r h => by simp [cottonpadtop_TopAlarmed.j2] at h, fun _ _ _ _ _ _ _ _ _ _ _ _ r h => by simp [cottonpadtop_TopAlarmed.j3] at h⟩
 | k + 1 => by
  obtain ⟨ih0, ih1, ih2, ih3⟩ := cottonpadtop_TopAlarmed.mono_l k
  refine ⟨?_, ?_, ?_, ?_⟩
  ·intro y0 y1 y2 y3 y4 y5 y6 y7 y8 y9 y10 y11 y12 y13 y14
   unfold cottonpadtop_TopAlarmed.j0
   repeat' (with_reducible first | exact ih0 .. | exact ih1 .. | exact ih2 .. | exact ih3 .. | exact cottonpadref05_Heat.mono .. | exact cottonpadref06_Check.mono .. | exact cottonpadtop_topHotter.mono .. | exact cottonpadtop_topafter.mono .. | exact LeO.refl .. | exact LeO.none .. | refine LeO.ite ?_ ?_ | refine LeO.bind ?_ (fun _ => ?_))
  ·intro y0 y1 y2 y3 y4 y5 y6 y7 y8 y9 y10 y11 y12 y13 y14 y15 y16
   unfold cottonpadtop_TopAlarmed.j1
   repeat' (with_reducible first | exact ih0 .. | exact ih1 .. | exact ih2 .. | exact ih3 .. | exact cottonpadref05_Heat.mono .. | exact cottonpadref06_Check.mono .. | exact cottonpadtop_topHotter.mono .. | exact cottonpadtop_topafter.mono .. | exact LeO.refl .. | exact LeO.none .. | refine LeO.ite ?_ ?_ | refine LeO.bind ?_ (fun _ => ?_))
  ·intro y0 y1 y2 y3 y4 y5 y6 y7 y8 y9 y10 y11 y12 y13 y14 y15 y16 y17 y18 y19 y20 y21
   unfold cottonpadtop_TopAlarmed.j2
   repeat' (with_reducible first | exact ih0 .. | exact ih1 .. | exact ih2 .. | exact ih3 .. | exact cottonpadref05_Heat.mono .. | exact cottonpadref06_Check.mono .. | exact cottonpadtop_topHotter.mono .. | exact cottonpadtop_topafter.mono .. | exact LeO.refl .. | exact LeO.none .. | refine LeO.ite ?_ ?_ | refine LeO.bind ?_ (fun _ => ?_))
  ·intro y0 y1 y2 y3 y4 y5 y6 y7 y8 y9 y10 y11
   unfold cottonpadtop_TopAlarmed.j3
   repeat' (with_reducible first | exact ih0 .. | exact ih1 .. | exact ih2 .. | exact ih3 .. | exact cottonpadref05_Heat.mono .. | exact cottonpadref06_Check.mono .. | exact cottonpadtop_topHotter.mono .. | exact cottonpadtop_topafter.mono .. | exact LeO.refl .. | exact LeO.none .. | refine LeO.ite ?_ ?_ | refine LeO.bind ?_ (fun _ => ?_))
theorem cottonpadtop_TopAlarmed.mono : ∀ a0 a1 a2 a3 a4 a5 a6 a7 a8 a9 a10 a11 a12 k, LeO (cottonpadtop_TopAlarmed.f k a0 a1 a2 a3 a4 a5 a6 a7 a8 a9 a10 a11 a12) (cottonpadtop_TopAlarmed.f (k + 1) a0 a1 a2 a3 a4 a5 a6 a7 a8 a9 a10 a11 a12) := by
 intro a0 a1 a2 a3 a4 a5 a6 a7 a8 a9 a10 a11 a12 k
 obtain ⟨ih0, ih1, ih2, ih3⟩ := cottonpadtop_TopAlarmed.mono_l k
 unfold cottonpadtop_TopAlarmed.f
 repeat' (with_reducible first | exact ih0 .. | exact ih1 .. | exact ih2 .. | exact ih3 .. | exact cottonpadref05_Heat.mono .. | exact cottonpadref06_Check.mono .. | exact cottonpadtop_topHotter.mono .. | exact cottonpadtop_topafter.mono .. | exact LeO.refl .. | exact LeO.none .. | refine LeO.ite ?_ ?_ | refine LeO.bind ?_ (fun _ => ?_))
def cottonpadtop_TopAlarmed.T19 : Bool × List (List Nat × List Nat) := (true, [([], []), ([], []), ([], []), ([1, 2], [1, 2]), ([0, 3, 3], [0, 3]), ([4], [4]), ([5], [5]), ([5], [5]), ([5], [5]), ([6, 4, 0, 1, 2, 3, 4, 5, 6], [6]), ([7, 9, 0, 1, 2, 3, 4, 5, 6, 7, 9], [7]), ([8, 10, 0, 1, 2, 3, 4, 5, 6, 7, 8, 9, 10], [8])])
def cottonpadtop_TopAlarmed.B19 : List Nat := [0, 0, 0, 6, 15, 31, 63, 63, 63, 127, 767, 2047]
theorem cottonpadtop_TopAlarmed.tab19 : rtab .any (opsOf Tryd.f9 19) = cottonpadtop_TopAlarmed.T19 := by kernel_rfl
theorem cottonpadtop_TopAlarmed.bits19 : waitsOk cottonpadtop_TopAlarmed.T19.2 cottonpadtop_TopAlarmed.B19 = true := by kernel_rfl
set_option maxHeartbeats 8000000 in
set_option maxRecDepth 100000 in
theorem cottonpadtop_TopAlarmed.calls (k : Nat) (A0_0 : Option Addr) (c0_0 : Nat) (l0_0 : List (S62)) (A0_1 : Option Addr) (c0_1 : Nat) (l0_1 : List (S81)) (A1 : Option Addr) (c1 : Nat) (l1 : List (S48)) (a2_0 : Int) (a2_1 : Int) (a2_2 : Int) (a2_3 : Int) (a2_4 : Int) (a2_5 : Int) (a2_6 : Int) (a2_7 : Int) (A3 : Option Addr) (c3 : Nat) (l3 : List Int) (A4 : Option Addr) (c4 : Nat) (l4 : List Int) (r : Bool) (w : World) (hG : Globs w) (hrt : r = true) (hr0_0 : Kd.C k62 w A0_0 l0_0.length l0_0) (hc0_0 : l0_0.length ≤ c0_0) (hr0_1 : Kd.C k81 w A0_1 l0_1.length l0_1) (hc0_1 : l0_1.length ≤ c0_1) (hr1 : Kd.C k48 w A1 l1.length l1) (hc1 : l1.length ≤ c1) (hr3 : Kd.C (Kd.int .i64) w A3 l3.length l3) (hc3 : l3.length ≤ c3) (hr4 : Kd.C (Kd.int .u16) w A4 l4.length l4) (hc4 : l4.length ≤ c4) (h : cottonpadtop_TopAlarmed.f k l0_0 l0_1 l1 a2_0 a2_1 a2_2 a2_3 a2_4 a2_5 a2_6 a2_7 l3 l4 = some r) :
  Calls Tryd.prog 9 #[.agg #[.slice A0_0 l0_0.length c0_0, .slice A0_1 l0_1.length c0_1], .slice A1 l1.length c1, .agg #[.int .i64 a2_0, .int .i64 a2_1, .int .i64 a2_2, .int .i64 a2_3, .int .i64 a2_4, .int .i64 a2_5, .int .i64 a2_6, .int .i64 a2_7], .slice A3 l3.length c3, .slice A4 l4.length c4] w fun e w' => e = .returned (.bool r) ∧ Below w.heap.size w w' := by
 have hu25 := Tryd.underlying25
 have hu90 := Tryd.underlying90
 have hu36 := Tryd.underlying36
 have HR0_0 := Aside0.mk hr0_0
 have HC0_0 := Aside0.mk hc0_0
 clear hr0_0 hc0_0
 have HR0_1 := Aside0.mk hr0_1
 have HC0_1 := Aside0.mk hc0_1
 clear hr0_1 hc0_1
 have HR1 := Aside0.mk hr1
 have HC1 := Aside0.mk hc1
 clear hr1 hc1
 have HR3 := Aside0.mk hr3
 have HC3 := Aside0.mk hc3
 clear hr3 hc3
 have HR4 := Aside0.mk hr4
 have HC4 := Aside0.mk hc4
 clear hr4 hc4
 have hu26 := Tryd.underlying26
 have HB := Aside0.mk (Below.refl w.heap.size w)
 have HG := Aside0.mk hG
 clear hG
 have HRT := Aside0.mk hrt
 clear hrt
 have H : ((cottonpadtop_alive06_t.f).bind fun t1166 => ((cottonpadref06_Great.f l0_0 l0_1 l1).bind fun t1167 => (if t1167 = true then (cottonpadtop_TopAlarmed.j0 k l1 l3 l4 t1166 true l0_0 l0_1 a2_0 a2_1 a2_2 a2_3 a2_4 a2_5 a2_6 a2_7) else ((cottonpadref06_Check.f k l0_0 l0_1 l1).bind fun t1168 => (if t1168 = 0 then (if (l1.length : Int) = 0 then (cottonpadtop_TopAlarmed.j0 k l1 l3 l4 t1166 true l0_0 l0_1 a2_0 a2_1 a2_2 a2_3 a2_4 a2_5 a2_6 a2_7) else (if a2_1 < 1 then (cottonpadtop_TopAlarmed.j0 k l1 l3 l4 t1166 true l0_0 l0_1 a2_0 a2_1 a2_2 a2_3 a2_4 a2_5 a2_6 a2_7) else (if a2_1 > 12 then (cottonpadtop_TopAlarmed.j0 k l1 l3 l4 t1166 true l0_0 l0_1 a2_0 a2_1 a2_2 a2_3 a2_4 a2_5 a2_6 a2_7) else ((cottonpadref05_Bulb.f a2_0 a2_1 a2_2 a2_3 a2_4 a2_5 a2_6 a2_7).bind fun t1169 => (if t1169 = true then (if (l3.length : Int) > 60 then (cottonpadtop_TopAlarmed.j0 k l1 l3 l4 t1166 true l0_0 l0_1 a2_0 a2_1 a2_2 a2_3 a2_4 a2_5 a2_6 a2_7) else ((cottonpadref05_Heat.f k l3).bind fun t1170 => (if t1170 = true then (cottonpadtop_TopAlarmed.j0 k l1 l3 l4 t1166 (!t1166) l0_0 l0_1 a2_0 a2_1 a2_2 a2_3 a2_4 a2_5 a2_6 a2_7) else (cottonpadtop_TopAlarmed.j0 k l1 l3 l4 t1166 true l0_0 l0_1 a2_0 a2_1 a2_2 a2_3 a2_4 a2_5 a2_6 a2_7)))) else (cottonpadtop_TopAlarmed.j0 k l1 l3 l4 t1166 true l0_0 l0_1 a2_0 a2_1 a2_2 a2_3 a2_4 a2_5 a2_6 a2_7)))))) else (cottonpadtop_TopAlarmed.j0 k l1 l3 l4 t1166 true l0_0 l0_1 a2_0 a2_1 a2_2 a2_3 a2_4 a2_5 a2_6 a2_7)))))) = some r := h
 clear h
 replace H := Option.bind_eq_some_iff.mp H
 obtain ⟨t1166, A60, H⟩ := H
 replace H : ((cottonpadref06_Great.f l0_0 l0_1 l1).bind fun t1167 => (if t1167 = true then (cottonpadtop_TopAlarmed.j0 k l1 l3 l4 t1166 true l0_0 l0_1 a2_0 a2_1 a2_2 a2_3 a2_4 a2_5 a2_6 a2_7) else ((cottonpadref06_Check.f k l0_0 l0_1 l1).bind fun t1168 => (if t1168 = 0 then (if (l1.length : Int) = 0 then (cottonpadtop_TopAlarmed.j0 k l1 l3 l4 t1166 true l0_0 l0_1 a2_0 a2_1 a2_2 a2_3 a2_4 a2_5 a2_6 a2_7) else (if a2_1 < 1 then (cottonpadtop_TopAlarmed.j0 k l1 l3 l4 t1166 true l0_0 l0_1 a2_0 a2_1 a2_2 a2_3 a2_4 a2_5 a2_6 a2_7) else (if a2_1 > 12 then (cottonpadtop_TopAlarmed.j0 k l1 l3 l4 t1166 true l0_0 l0_1 a2_0 a2_1 a2_2 a2_3 a2_4 a2_5 a2_6 a2_7) else ((cottonpadref05_Bulb.f a2_0 a2_1 a2_2 a2_3 a2_4 a2_5 a2_6 a2_7).bind fun t1169 => (if t1169 = true then (if (l3.length : Int) > 60 then (cottonpadtop_TopAlarmed.j0 k l1 l3 l4 t1166 true l0_0 l0_1 a2_0 a2_1 a2_2 a2_3 a2_4 a2_5 a2_6 a2_7) else ((cottonpadref05_Heat.f k l3).bind fun t1170 => (if t1170 = true then (cottonpadtop_TopAlarmed.j0 k l1 l3 l4 t1166 (!t1166) l0_0 l0_1 a2_0 a2_1 a2_2 a2_3 a2_4 a2_5 a2_6 a2_7) else (cottonpadtop_TopAlarmed.j0 k l1 l3 l4 t1166 true l0_0 l0_1 a2_0 a2_1 a2_2 a2_3 a2_4 a2_5 a2_6 a2_7)))) else (cottonpadtop_TopAlarmed.j0 k l1 l3 l4 t1166 true l0_0 l0_1 a2_0 a2_1 a2_2 a2_3 a2_4 a2_5 a2_6 a2_7)))))) else (cottonpadtop_TopAlarmed.j0 k l1 l3 l4 t1166 true l0_0 l0_1 a2_0 a2_1 a2_2 a2_3 a2_4 a2_5 a2_6 a2_7))))) = some r := H
 have A6 := Aside0.mk A60
 clear A60
 have HC7 := Aside0.mk H
 clear H
 go_enter Tryd.func9, Tryd.ntmps9
 try have hz6_ : World.cell? _ ⟨gb1164, 0, none⟩ = some (.slice A1 l1.length c1) := bc_ BK1164 0
 go_upto_region 2 with (first | ((with_reducible refine gate_dst (N := 5) rfl ?_); (try (refine gate_guard (by rfl) ?_; dsimp only)); refine box_event ?hg (N := 5) ?hd (cs := #[.slice A0_0 l0_0.length c0_0, .slice A0_1 l0_1.length c0_1]) (t := 25) ?hr ?_; (case hd => rfl); (case hg => rfl); (case hr => exact gs_); intro gb1163 hg w8 hbox hb; have BK1163 := Aside0.mk (hbox); have GW1163 := hl_ hg (be_ HB); have GE1163 := hl_ hg (be_ HB); replace HB := bs_ HB hb; clear hb hbox hg) | ((with_reducible refine gate_dst (N := 6) rfl ?_); (try (refine gate_guard (by rfl) ?_; dsimp only)); refine box_event ?hg (N := 6) ?hd (cs := #[.slice A1 l1.length c1]) (t := 26) ?hr ?_; (case hd => rfl); (case hg => rfl); (case hr => exact gs_); intro gb1164 hg w9 hbox hb; have n0_ := bb_ BK1163 hb; have n1_ := bs1_ HB GE1163 hb; have n2_ := Aside0.mk (hbox); have n3_ := hl_ hg (be1_ HB GE1163); have n4_ := hl_ hg (be1_ HB GE1163); have n5_ := Aside0.mk ((by rw [hg]; exact Nat.ne_of_lt (blk_lt (bk_ BK1163)) : gb1163 ≠ gb1164)); have n6_ := Aside0.mk ((by rw [hg]; exact Nat.ne_of_gt (blk_lt (bk_ BK1163)) : gb1164 ≠ gb1163)); clear BK1163; clear HB; have BK1163 := n0_; have HB := n1_; have BK1164 := n2_; have hz6_ : World.cell? _ ⟨gb1164, 0, none⟩ = some (.slice A1 l1.length c1) := bc_ BK1164 0; have GW1164 := n3_; have GE1164 := n4_; have NB1163_1164 := n5_; have NB1164_1163 := n6_; clear n0_ n1_ n2_ n3_ n4_ n5_ n6_; clear hb hbox hg) | ((with_reducible refine gate_dst (N := 7) rfl ?_); (try (refine gate_guard (by rfl) ?_; dsimp only)); refine box_event ?hg (N := 7) ?hd (cs := #[.int .i64 a2_0, .int .i64 a2_1, .int .i64 a2_2, .int .i64 a2_3, .int .i64 a2_4, .int .i64 a2_5, .int .i64 a2_6, .int .i64 a2_7]) (t := 90) ?hr ?_; (case hd => rfl); (case hg => rfl); (case hr => exact gs_); intro gb1165 hg w10 hbox hb; have n0_ := bb_ BK1163 hb; have n1_ := bb_ BK1164 hb; have n2_ := bs2_ HB GE1163 GE1164 hb; have n3_ := Aside0.mk (hbox); have n4_ := hl_ hg (be2_ HB GE1163 GE1164); have n5_ := hl_ hg (be2_ HB GE1163 GE1164); have n6_ := Aside0.mk ((by rw [hg]; exact Nat.ne_of_lt (blk_lt (bk_ BK1163)) : gb1163 ≠ gb1165)); have n7_ := Aside0.mk ((by rw [hg]; exact Nat.ne_of_gt (blk_lt (bk_ BK1163)) : gb1165 ≠ gb1163)); have n8_ := Aside0.mk ((by rw [hg]; exact Nat.ne_of_lt (blk_lt (bk_ BK1164)) : gb1164 ≠ gb1165)); have n9_ := Aside0.mk ((by rw [hg]; exact Nat.ne_of_gt (blk_lt (bk_ BK1164)) : gb1165 ≠ gb1164)); clear BK1163; clear BK1164; clear HB; have BK1163 := n0_; have BK1164 := n1_; have hz6_ : World.cell? _ ⟨gb1164, 0, none⟩ = some (.slice A1 l1.length c1) := bc_ BK1164 0; have HB := n2_; have BK1165 := n3_; have GW1165 := n4_; have GE1165 := n5_; have NB1163_1165 := n6_; have NB1165_1163 := n7_; have NB1164_1165 := n8_; have NB1165_1164 := n9_; clear n0_ n1_ n2_ n3_ n4_ n5_ n6_ n7_ n8_ n9_; clear hb hbox hg) | ((with_reducible refine gate_callee (f := 45) rfl ?_); refine goesL_ (some 40) rfl rfl Tryd.func45 (by decide +kernel) rfl #[] rfl ls_ ?_; (with_reducible refine (cottonpadtop_alive06_t.calls  t1166 _ ?side1 A6.out).mono ?_); (case side1 => exact GlobsE.below HG.out.1 (be3_ HB GE1163 GE1164 GE1165)); rintro e w11 ⟨rfl, hb⟩; refine ⟨_, rfl, ?_⟩; have n0_ := bb_ BK1163 hb; have n1_ := bb_ BK1164 hb; have n2_ := bb_ BK1165 hb; have n3_ := bs3_ HB GE1163 GE1164 GE1165 hb; clear BK1163; clear BK1164; clear BK1165; clear HB; have BK1163 := n0_; have BK1164 := n1_; have hz6_ : World.cell? _ ⟨gb1164, 0, none⟩ = some (.slice A1 l1.length c1) := bc_ BK1164 0; have BK1165 := n2_; have HB := n3_; clear n0_ n1_ n2_ n3_; (try clear hb); (try clear hb2); (try clear hk); (try clear hi)))
 (try simp only [Act.put, List.setIfInBounds_toArray, List.set_cons_zero, List.set_cons_succ])
 go_cut [83] (fun v83 wc => ∃ (kq : Nat) (x83_6 : Bool), v83 = .bool x83_6 ∧ Aside0 (cottonpadtop_TopAlarmed.j0 kq l1 l3 l4 t1166 x83_6 l0_0 l0_1 a2_0 a2_1 a2_2 a2_3 a2_4 a2_5 a2_6 a2_7 = some r) ∧ Aside0 (kq ≤ k) ∧ Aside0 (wc.heap[gb1163]? = some (.cells #[(.slice A0_0 l0_0.length c0_0), (.slice A0_1 l0_1.length c0_1)] 25 (0, 0))) ∧ Aside0 (wc.heap[gb1164]? = some (.cells #[.slice A1 l1.length c1] 26 (0, 0))) ∧ Aside0 (wc.heap[gb1165]? = some (.cells #[.int .i64 a2_0, .int .i64 a2_1, .int .i64 a2_2, .int .i64 a2_3, .int .i64 a2_4, .int .i64 a2_5, .int .i64 a2_6, .int .i64 a2_7] 90 (0, 0))) ∧ Aside0 (Below w.heap.size w wc))
 case first =>
  as_aux_lemma =>
   have H := HC7.out
   clear HC7
   replace H := Option.bind_eq_some_iff.mp H
   obtain ⟨t1167, A120, H⟩ := H
   replace H : (if t1167 = true then (cottonpadtop_TopAlarmed.j0 k l1 l3 l4 t1166 true l0_0 l0_1 a2_0 a2_1 a2_2 a2_3 a2_4 a2_5 a2_6 a2_7) else ((cottonpadref06_Check.f k l0_0 l0_1 l1).bind fun t1168 => (if t1168 = 0 then (if (l1.length : Int) = 0 then (cottonpadtop_TopAlarmed.j0 k l1 l3 l4 t1166 true l0_0 l0_1 a2_0 a2_1 a2_2 a2_3 a2_4 a2_5 a2_6 a2_7) else (if a2_1 < 1 then (cottonpadtop_TopAlarmed.j0 k l1 l3 l4 t1166 true l0_0 l0_1 a2_0 a2_1 a2_2 a2_3 a2_4 a2_5 a2_6 a2_7) else (if a2_1 > 12 then (cottonpadtop_TopAlarmed.j0 k l1 l3 l4 t1166 true l0_0 l0_1 a2_0 a2_1 a2_2 a2_3 a2_4 a2_5 a2_6 a2_7) else ((cottonpadref05_Bulb.f a2_0 a2_1 a2_2 a2_3 a2_4 a2_5 a2_6 a2_7).bind fun t1169 => (if t1169 = true then (if (l3.length : Int) > 60 then (cottonpadtop_TopAlarmed.j0 k l1 l3 l4 t1166 true l0_0 l0_1 a2_0 a2_1 a2_2 a2_3 a2_4 a2_5 a2_6 a2_7) else ((cottonpadref05_Heat.f k l3).bind fun t1170 => (if t1170 = true then (cottonpadtop_TopAlarmed.j0 k l1 l3 l4 t1166 (!t1166) l0_0 l0_1 a2_0 a2_1 a2_2 a2_3 a2_4 a2_5 a2_6 a2_7) else (cottonpadtop_TopAlarmed.j0 k l1 l3 l4 t1166 true l0_0 l0_1 a2_0 a2_1 a2_2 a2_3 a2_4 a2_5 a2_6 a2_7)))) else (cottonpadtop_TopAlarmed.j0 k l1 l3 l4 t1166 true l0_0 l0_1 a2_0 a2_1 a2_2 a2_3 a2_4 a2_5 a2_6 a2_7)))))) else (cottonpadtop_TopAlarmed.j0 k l1 l3 l4 t1166 true l0_0 l0_1 a2_0 a2_1 a2_2 a2_3 a2_4 a2_5 a2_6 a2_7)))) = some r := H
   have A12 := Aside0.mk A120
   clear A120
   by_cases c13 : t1167 = true
   ·subst c13
    have H1 : (cottonpadtop_TopAlarmed.j0 k l1 l3 l4 t1166 true l0_0 l0_1 a2_0 a2_1 a2_2 a2_3 a2_4 a2_5 a2_6 a2_7) = some r := by rw [if_pos rfl] at H; exact H
    clear H
    have H := H1
    clear H1
    have H' := Aside0.mk H
    clear H
    have hnb14 := NB1163_1164.out
    have hnc14 := NB1164_1163.out
    have hnb15 := NB1163_1165.out
    have hnc15 := NB1165_1163.out
    have hcz16_0 : w11.cell? ⟨gb1163, 0, none⟩ = some (.slice A0_0 l0_0.length c0_0) := bc_ BK1163 0
    have hcz16_1 : w11.cell? ⟨gb1163, 1, none⟩ = some (.slice A0_1 l0_1.length c0_1) := bc_ BK1163 1
    have hfz16_0 := blk_frozen BK1163.out 0
    have hfz16_1 := blk_frozen BK1163.out 1
    try have hz6_ : World.cell? _ ⟨gb1164, 0, none⟩ = some (.slice A1 l1.length c1) := bc_ BK1164 0
    go_wp2_with (first | ((with_reducible refine gate_callee (f := 15) rfl ?_); refine goesL_ (some 43) rfl rfl Tryd.func15 (by decide +kernel) rfl #[.agg #[.slice A0_0 l0_0.length c0_0, .slice A0_1 l0_1.length c0_1], .slice A1 l1.length c1] rfl ls_ ?_; (with_reducible refine (cottonpadref06_Great.calls _ _ l0_0 _ _ l0_1 _ _ l1 true _ ?side1 ?side2 ?side3 ?side4 ?side5 ?side6 A12.out).mono ?_); (case side1 => exact kc_ HR0_0 HB); (case side2 => exact HC0_0.out); (case side3 => exact kc_ HR0_1 HB); (case side4 => exact HC0_1.out); (case side5 => exact kc_ HR1 HB); (case side6 => exact HC1.out); rintro e w17 ⟨rfl, hb⟩; refine ⟨_, rfl, ?_⟩; have n0_ := bb_ BK1163 hb; have n1_ := bb_ BK1164 hb; have n2_ := bb_ BK1165 hb; have n3_ := bs3_ HB GE1163 GE1164 GE1165 hb; clear BK1163; clear BK1164; clear BK1165; clear HB; have BK1163 := n0_; have BK1164 := n1_; have hz6_ : World.cell? _ ⟨gb1164, 0, none⟩ = some (.slice A1 l1.length c1) := bc_ BK1164 0; have BK1165 := n2_; have HB := n3_; clear n0_ n1_ n2_ n3_; (try clear hb); (try clear hb2); (try clear hk); (try clear hi)))
    go_meet
    case rel => exact ⟨_, (true), (by first | rfl | (simp; done) | (simp [*]; done)), H', ⟨by first | omega | exact Nat.le_refl _⟩, ⟨by refine bx_ ?_; exact BK1163.out⟩, ⟨by refine bx_ ?_; exact BK1164.out⟩, ⟨by refine bx_ ?_; exact BK1165.out⟩, ⟨be3_ HB GE1163 GE1164 GE1165⟩⟩
   ·replace c13 := Bool.eq_false_iff.mpr c13
    subst c13
    have H1 : ((cottonpadref06_Check.f k l0_0 l0_1 l1).bind fun t1168 => (if t1168 = 0 then (if (l1.length : Int) = 0 then (cottonpadtop_TopAlarmed.j0 k l1 l3 l4 t1166 true l0_0 l0_1 a2_0 a2_1 a2_2 a2_3 a2_4 a2_5 a2_6 a2_7) else (if a2_1 < 1 then (cottonpadtop_TopAlarmed.j0 k l1 l3 l4 t1166 true l0_0 l0_1 a2_0 a2_1 a2_2 a2_3 a2_4 a2_5 a2_6 a2_7) else (if a2_1 > 12 then (cottonpadtop_TopAlarmed.j0 k l1 l3 l4 t1166 true l0_0 l0_1 a2_0 a2_1 a2_2 a2_3 a2_4 a2_5 a2_6 a2_7) else ((cottonpadref05_Bulb.f a2_0 a2_1 a2_2 a2_3 a2_4 a2_5 a2_6 a2_7).bind fun t1169 => (if t1169 = true then (if (l3.length : Int) > 60 then (cottonpadtop_TopAlarmed.j0 k l1 l3 l4 t1166 true l0_0 l0_1 a2_0 a2_1 a2_2 a2_3 a2_4 a2_5 a2_6 a2_7) else ((cottonpadref05_Heat.f k l3).bind fun t1170 => (if t1170 = true then (cottonpadtop_TopAlarmed.j0 k l1 l3 l4 t1166 (!t1166) l0_0 l0_1 a2_0 a2_1 a2_2 a2_3 a2_4 a2_5 a2_6 a2_7) else (cottonpadtop_TopAlarmed.j0 k l1 l3 l4 t1166 true l0_0 l0_1 a2_0 a2_1 a2_2 a2_3 a2_4 a2_5 a2_6 a2_7)))) else (cottonpadtop_TopAlarmed.j0 k l1 l3 l4 t1166 true l0_0 l0_1 a2_0 a2_1 a2_2 a2_3 a2_4 a2_5 a2_6 a2_7)))))) else (cottonpadtop_TopAlarmed.j0 k l1 l3 l4 t1166 true l0_0 l0_1 a2_0 a2_1 a2_2 a2_3 a2_4 a2_5 a2_6 a2_7))) = some r := by rw [if_neg (show ¬ (false = true) by decide)] at H; exact H
    clear H
    have H := H1
    clear H1
    replace H := Option.bind_eq_some_iff.mp H
    obtain ⟨t1168, A180, H⟩ := H
    replace H : (if t1168 = 0 then (if (l1.length : Int) = 0 then (cottonpadtop_TopAlarmed.j0 k l1 l3 l4 t1166 true l0_0 l0_1 a2_0 a2_1 a2_2 a2_3 a2_4 a2_5 a2_6 a2_7) else (if a2_1 < 1 then (cottonpadtop_TopAlarmed.j0 k l1 l3 l4 t1166 true l0_0 l0_1 a2_0 a2_1 a2_2 a2_3 a2_4 a2_5 a2_6 a2_7) else (if a2_1 > 12 then (cottonpadtop_TopAlarmed.j0 k l1 l3 l4 t1166 true l0_0 l0_1 a2_0 a2_1 a2_2 a2_3 a2_4 a2_5 a2_6 a2_7) else ((cottonpadref05_Bulb.f a2_0 a2_1 a2_2 a2_3 a2_4 a2_5 a2_6 a2_7).bind fun t1169 => (if t1169 = true then (if (l3.length : Int) > 60 then (cottonpadtop_TopAlarmed.j0 k l1 l3 l4 t1166 true l0_0 l0_1 a2_0 a2_1 a2_2 a2_3 a2_4 a2_5 a2_6 a2_7) else ((cottonpadref05_Heat.f k l3).bind fun t1170 => (if t1170 = true then (cottonpadtop_TopAlarmed.j0 k l1 l3 l4 t1166 (!t1166) l0_0 l0_1 a2_0 a2_1 a2_2 a2_3 a2_4 a2_5 a2_6 a2_7) else (cottonpadtop_TopAlarmed.j0 k l1 l3 l4 t1166 true l0_0 l0_1 a2_0 a2_1 a2_2 a2_3 a2_4 a2_5 a2_6 a2_7)))) else (cottonpadtop_TopAlarmed.j0 k l1 l3 l4 t1166 true l0_0 l0_1 a2_0 a2_1 a2_2 a2_3 a2_4 a2_5 a2_6 a2_7)))))) else (cottonpadtop_TopAlarmed.j0 k l1 l3 l4 t1166 true l0_0 l0_1 a2_0 a2_1 a2_2 a2_3 a2_4 a2_5 a2_6 a2_7)) = some r := H
    have A18 := Aside0.mk A180
    clear A180
    by_cases c19 : t1168 = 0
    ·rw [if_pos c19] at H
     have c19b0 : (t1168 == 0) = true := beq_iff_eq.mpr c19
     have c19b1 : (t1168 != 0) = false := bne_eq_false_iff_eq.mpr c19
     clear c19
     (first | rw [c19b0] | (simp only [i64_w, i32_w]; rw [c19b0]) | skip)
     by_cases c20 : (l1.length : Int) = 0
     ·rw [if_pos c20] at H
      have c20b0 : ((l1.length : Int) == 0) = true := beq_iff_eq.mpr c20
      have c20b1 : ((l1.length : Int) != 0) = false := bne_eq_false_iff_eq.mpr c20
      clear c20
      have H' := Aside0.mk H
      clear H
      have hnb21 := NB1163_1164.out
      have hnc21 := NB1164_1163.out
      have hnb22 := NB1163_1165.out
      have hnc22 := NB1165_1163.out
      have hcz23_0 : w11.cell? ⟨gb1163, 0, none⟩ = some (.slice A0_0 l0_0.length c0_0) := bc_ BK1163 0
      have hcz23_1 : w11.cell? ⟨gb1163, 1, none⟩ = some (.slice A0_1 l0_1.length c0_1) := bc_ BK1163 1
      have hfz23_0 := blk_frozen BK1163.out 0
      have hfz23_1 := blk_frozen BK1163.out 1
      try have hz6_ : World.cell? _ ⟨gb1164, 0, none⟩ = some (.slice A1 l1.length c1) := bc_ BK1164 0
      go_wp2_with (first | ((with_reducible refine gate_callee (f := 15) rfl ?_); refine goesL_ (some 43) rfl rfl Tryd.func15 (by decide +kernel) rfl #[.agg #[.slice A0_0 l0_0.length c0_0, .slice A0_1 l0_1.length c0_1], .slice A1 l1.length c1] rfl ls_ ?_; (with_reducible refine (cottonpadref06_Great.calls _ _ l0_0 _ _ l0_1 _ _ l1 false _ ?side1 ?side2 ?side3 ?side4 ?side5 ?side6 A12.out).mono ?_); (case side1 => exact kc_ HR0_0 HB); (case side2 => exact HC0_0.out); (case side3 => exact kc_ HR0_1 HB); (case side4 => exact HC0_1.out); (case side5 => exact kc_ HR1 HB); (case side6 => exact HC1.out); rintro e w24 ⟨rfl, hb⟩; refine ⟨_, rfl, ?_⟩; have n0_ := bb_ BK1163 hb; have n1_ := bb_ BK1164 hb; have n2_ := bb_ BK1165 hb; have n3_ := bs3_ HB GE1163 GE1164 GE1165 hb; clear BK1163; clear BK1164; clear BK1165; clear HB; have BK1163 := n0_; have BK1164 := n1_; have hz6_ : World.cell? _ ⟨gb1164, 0, none⟩ = some (.slice A1 l1.length c1) := bc_ BK1164 0; have BK1165 := n2_; have HB := n3_; clear n0_ n1_ n2_ n3_; (try clear hb); (try clear hb2); (try clear hk); (try clear hi); have hcz25_0 : w24.cell? ⟨gb1163, 0, none⟩ = some (.slice A0_0 l0_0.length c0_0) := bc_ BK1163 0; have hcz25_1 : w24.cell? ⟨gb1163, 1, none⟩ = some (.slice A0_1 l0_1.length c0_1) := bc_ BK1163 1; have hfz25_0 := blk_frozen BK1163.out 0; have hfz25_1 := blk_frozen BK1163.out 1) | (go_at_call 22; (with_reducible refine (cottonpadref06_Check.calls k _ _ l0_0 _ _ l0_1 _ _ l1 t1168 _ ?side1 ?side2 ?side3 ?side4 ?side5 ?side6 A18.out).mono ?_); (case side1 => exact kc_ HR0_0 HB); (case side2 => exact HC0_0.out); (case side3 => exact kc_ HR0_1 HB); (case side4 => exact HC0_1.out); (case side5 => exact kc_ HR1 HB); (case side6 => exact HC1.out); rintro e w26 ⟨rfl, hb⟩; have n0_ := bb_ BK1163 hb; have n1_ := bb_ BK1164 hb; have n2_ := bb_ BK1165 hb; have n3_ := bs3_ HB GE1163 GE1164 GE1165 hb; clear BK1163; clear BK1164; clear BK1165; clear HB; have BK1163 := n0_; have BK1164 := n1_; have hz6_ : World.cell? _ ⟨gb1164, 0, none⟩ = some (.slice A1 l1.length c1) := bc_ BK1164 0; have BK1165 := n2_; have HB := n3_; clear n0_ n1_ n2_ n3_; (try clear hb); (try clear hb2); (try clear hk); (try clear hi)))
      go_meet
      case rel => exact ⟨_, (true), (by first | rfl | (simp; done) | (simp [*]; done)), H', ⟨by first | omega | exact Nat.le_refl _⟩, ⟨by refine bx_ ?_; exact BK1163.out⟩, ⟨by refine bx_ ?_; exact BK1164.out⟩, ⟨by refine bx_ ?_; exact BK1165.out⟩, ⟨be3_ HB GE1163 GE1164 GE1165⟩⟩
     ·rw [if_neg c20] at H
      have c20b0 : ((l1.length : Int) == 0) = false := beq_eq_false_iff_ne.mpr c20
      have c20b1 : ((l1.length : Int) != 0) = true := bne_iff_ne.mpr c20
      have c20b2 : ¬ (l1 = []) := fun h_ => c20 (by rw [h_]; rfl)
      by_cases c27 : a2_1 < 1
      ·rw [if_pos c27] at H
       have c27b0 : decide (a2_1 < 1) = true := decide_eq_true c27
       clear c27
       have H' := Aside0.mk H
       clear H
       have hnb28 := NB1163_1164.out
       have hnc28 := NB1164_1163.out
       have hnb29 := NB1163_1165.out
       have hnc29 := NB1165_1163.out
       have hcz30_0 : w11.cell? ⟨gb1163, 0, none⟩ = some (.slice A0_0 l0_0.length c0_0) := bc_ BK1163 0
       have hcz30_1 : w11.cell? ⟨gb1163, 1, none⟩ = some (.slice A0_1 l0_1.length c0_1) := bc_ BK1163 1
       have hfz30_0 := blk_frozen BK1163.out 0
       have hfz30_1 := blk_frozen BK1163.out 1
       try have hz6_ : World.cell? _ ⟨gb1164, 0, none⟩ = some (.slice A1 l1.length c1) := bc_ BK1164 0
       go_wp2_with (first | ((with_reducible refine gate_callee (f := 15) rfl ?_); refine goesL_ (some 43) rfl rfl Tryd.func15 (by decide +kernel) rfl #[.agg #[.slice A0_0 l0_0.length c0_0, .slice A0_1 l0_1.length c0_1], .slice A1 l1.length c1] rfl ls_ ?_; (with_reducible refine (cottonpadref06_Great.calls _ _ l0_0 _ _ l0_1 _ _ l1 false _ ?side1 ?side2 ?side3 ?side4 ?side5 ?side6 A12.out).mono ?_); (case side1 => exact kc_ HR0_0 HB); (case side2 => exact HC0_0.out); (case side3 => exact kc_ HR0_1 HB); (case side4 => exact HC0_1.out); (case side5 => exact kc_ HR1 HB); (case side6 => exact HC1.out); rintro e w31 ⟨rfl, hb⟩; refine ⟨_, rfl, ?_⟩; have n0_ := bb_ BK1163 hb; have n1_ := bb_ BK1164 hb; have n2_ := bb_ BK1165 hb; have n3_ := bs3_ HB GE1163 GE1164 GE1165 hb; clear BK1163; clear BK1164; clear BK1165; clear HB; have BK1163 := n0_; have BK1164 := n1_; have hz6_ : World.cell? _ ⟨gb1164, 0, none⟩ = some (.slice A1 l1.length c1) := bc_ BK1164 0; have BK1165 := n2_; have HB := n3_; clear n0_ n1_ n2_ n3_; (try clear hb); (try clear hb2); (try clear hk); (try clear hi); have hcz32_0 : w31.cell? ⟨gb1163, 0, none⟩ = some (.slice A0_0 l0_0.length c0_0) := bc_ BK1163 0; have hcz32_1 : w31.cell? ⟨gb1163, 1, none⟩ = some (.slice A0_1 l0_1.length c0_1) := bc_ BK1163 1; have hfz32_0 := blk_frozen BK1163.out 0; have hfz32_1 := blk_frozen BK1163.out 1) | (go_at_call 22; (with_reducible refine (cottonpadref06_Check.calls k _ _ l0_0 _ _ l0_1 _ _ l1 t1168 _ ?side1 ?side2 ?side3 ?side4 ?side5 ?side6 A18.out).mono ?_); (case side1 => exact kc_ HR0_0 HB); (case side2 => exact HC0_0.out); (case side3 => exact kc_ HR0_1 HB); (case side4 => exact HC0_1.out); (case side5 => exact kc_ HR1 HB); (case side6 => exact HC1.out); rintro e w33 ⟨rfl, hb⟩; have n0_ := bb_ BK1163 hb; have n1_ := bb_ BK1164 hb; have n2_ := bb_ BK1165 hb; have n3_ := bs3_ HB GE1163 GE1164 GE1165 hb; clear BK1163; clear BK1164; clear BK1165; clear HB; have BK1163 := n0_; have BK1164 := n1_; have hz6_ : World.cell? _ ⟨gb1164, 0, none⟩ = some (.slice A1 l1.length c1) := bc_ BK1164 0; have BK1165 := n2_; have HB := n3_; clear n0_ n1_ n2_ n3_; (try clear hb); (try clear hb2); (try clear hk); (try clear hi); have hnb34 := NB1165_1164.out; have hnc34 := NB1164_1165.out; have hcz35_0 : w33.cell? ⟨gb1165, 0, none⟩ = some (.int .i64 a2_0) := bc_ BK1165 0; have hcz35_1 : w33.cell? ⟨gb1165, 1, none⟩ = some (.int .i64 a2_1) := bc_ BK1165 1; have hcz35_2 : w33.cell? ⟨gb1165, 2, none⟩ = some (.int .i64 a2_2) := bc_ BK1165 2; have hcz35_3 : w33.cell? ⟨gb1165, 3, none⟩ = some (.int .i64 a2_3) := bc_ BK1165 3; have hcz35_4 : w33.cell? ⟨gb1165, 4, none⟩ = some (.int .i64 a2_4) := bc_ BK1165 4; have hcz35_5 : w33.cell? ⟨gb1165, 5, none⟩ = some (.int .i64 a2_5) := bc_ BK1165 5; have hcz35_6 : w33.cell? ⟨gb1165, 6, none⟩ = some (.int .i64 a2_6) := bc_ BK1165 6; have hcz35_7 : w33.cell? ⟨gb1165, 7, none⟩ = some (.int .i64 a2_7) := bc_ BK1165 7; have hfz35_0 := blk_frozen BK1165.out 0; have hfz35_1 := blk_frozen BK1165.out 1; have hfz35_2 := blk_frozen BK1165.out 2; have hfz35_3 := blk_frozen BK1165.out 3; have hfz35_4 := blk_frozen BK1165.out 4; have hfz35_5 := blk_frozen BK1165.out 5; have hfz35_6 := blk_frozen BK1165.out 6; have hfz35_7 := blk_frozen BK1165.out 7))
       go_meet
       case rel => exact ⟨_, (true), (by first | rfl | (simp; done) | (simp [*]; done)), H', ⟨by first | omega | exact Nat.le_refl _⟩, ⟨by refine bx_ ?_; exact BK1163.out⟩, ⟨by refine bx_ ?_; exact BK1164.out⟩, ⟨by refine bx_ ?_; exact BK1165.out⟩, ⟨be3_ HB GE1163 GE1164 GE1165⟩⟩
      ·rw [if_neg c27] at H
       have c27b0 : decide (a2_1 < 1) = false := decide_eq_false c27
       clear c27
       by_cases c36 : a2_1 > 12
       ·rw [if_pos c36] at H
        have c36b0 : decide (12 < a2_1) = true := decide_eq_true c36
        clear c36
        have H' := Aside0.mk H
        clear H
        have hnb37 := NB1163_1164.out
        have hnc37 := NB1164_1163.out
        have hnb38 := NB1163_1165.out
        have hnc38 := NB1165_1163.out
        have hcz39_0 : w11.cell? ⟨gb1163, 0, none⟩ = some (.slice A0_0 l0_0.length c0_0) := bc_ BK1163 0
        have hcz39_1 : w11.cell? ⟨gb1163, 1, none⟩ = some (.slice A0_1 l0_1.length c0_1) := bc_ BK1163 1
        have hfz39_0 := blk_frozen BK1163.out 0
        have hfz39_1 := blk_frozen BK1163.out 1
        try have hz6_ : World.cell? _ ⟨gb1164, 0, none⟩ = some (.slice A1 l1.length c1) := bc_ BK1164 0
        go_wp2_with (first | ((with_reducible refine gate_callee (f := 15) rfl ?_); refine goesL_ (some 43) rfl rfl Tryd.func15 (by decide +kernel) rfl #[.agg #[.slice A0_0 l0_0.length c0_0, .slice A0_1 l0_1.length c0_1], .slice A1 l1.length c1] rfl ls_ ?_; (with_reducible refine (cottonpadref06_Great.calls _ _ l0_0 _ _ l0_1 _ _ l1 false _ ?side1 ?side2 ?side3 ?side4 ?side5 ?side6 A12.out).mono ?_); (case side1 => exact kc_ HR0_0 HB); (case side2 => exact HC0_0.out); (case side3 => exact kc_ HR0_1 HB); (case side4 => exact HC0_1.out); (case side5 => exact kc_ HR1 HB); (case side6 => exact HC1.out); rintro e w40 ⟨rfl, hb⟩; refine ⟨_, rfl, ?_⟩; have n0_ := bb_ BK1163 hb; have n1_ := bb_ BK1164 hb; have n2_ := bb_ BK1165 hb; have n3_ := bs3_ HB GE1163 GE1164 GE1165 hb; clear BK1163; clear BK1164; clear BK1165; clear HB; have BK1163 := n0_; have BK1164 := n1_; have hz6_ : World.cell? _ ⟨gb1164, 0, none⟩ = some (.slice A1 l1.length c1) := bc_ BK1164 0; have BK1165 := n2_; have HB := n3_; clear n0_ n1_ n2_ n3_; (try clear hb); (try clear hb2); (try clear hk); (try clear hi); have hcz41_0 : w40.cell? ⟨gb1163, 0, none⟩ = some (.slice A0_0 l0_0.length c0_0) := bc_ BK1163 0; have hcz41_1 : w40.cell? ⟨gb1163, 1, none⟩ = some (.slice A0_1 l0_1.length c0_1) := bc_ BK1163 1; have hfz41_0 := blk_frozen BK1163.out 0; have hfz41_1 := blk_frozen BK1163.out 1) | (go_at_call 22; (with_reducible refine (cottonpadref06_Check.calls k _ _ l0_0 _ _ l0_1 _ _ l1 t1168 _ ?side1 ?side2 ?side3 ?side4 ?side5 ?side6 A18.out).mono ?_); (case side1 => exact kc_ HR0_0 HB); (case side2 => exact HC0_0.out); (case side3 => exact kc_ HR0_1 HB); (case side4 => exact HC0_1.out); (case side5 => exact kc_ HR1 HB); (case side6 => exact HC1.out); rintro e w42 ⟨rfl, hb⟩; have n0_ := bb_ BK1163 hb; have n1_ := bb_ BK1164 hb; have n2_ := bb_ BK1165 hb; have n3_ := bs3_ HB GE1163 GE1164 GE1165 hb; clear BK1163; clear BK1164; clear BK1165; clear HB; have BK1163 := n0_; have BK1164 := n1_; have hz6_ : World.cell? _ ⟨gb1164, 0, none⟩ = some (.slice A1 l1.length c1) := bc_ BK1164 0; have BK1165 := n2_; have HB := n3_; clear n0_ n1_ n2_ n3_; (try clear hb); (try clear hb2); (try clear hk); (try clear hi); have hnb43 := NB1165_1164.out; have hnc43 := NB1164_1165.out; have hcz44_0 : w42.cell? ⟨gb1165, 0, none⟩ = some (.int .i64 a2_0) := bc_ BK1165 0; have hcz44_1 : w42.cell? ⟨gb1165, 1, none⟩ = some (.int .i64 a2_1) := bc_ BK1165 1; have hcz44_2 : w42.cell? ⟨gb1165, 2, none⟩ = some (.int .i64 a2_2) := bc_ BK1165 2; have hcz44_3 : w42.cell? ⟨gb1165, 3, none⟩ = some (.int .i64 a2_3) := bc_ BK1165 3; have hcz44_4 : w42.cell? ⟨gb1165, 4, none⟩ = some (.int .i64 a2_4) := bc_ BK1165 4; have hcz44_5 : w42.cell? ⟨gb1165, 5, none⟩ = some (.int .i64 a2_5) := bc_ BK1165 5; have hcz44_6 : w42.cell? ⟨gb1165, 6, none⟩ = some (.int .i64 a2_6) := bc_ BK1165 6; have hcz44_7 : w42.cell? ⟨gb1165, 7, none⟩ = some (.int .i64 a2_7) := bc_ BK1165 7; have hfz44_0 := blk_frozen BK1165.out 0; have hfz44_1 := blk_frozen BK1165.out 1; have hfz44_2 := blk_frozen BK1165.out 2; have hfz44_3 := blk_frozen BK1165.out 3; have hfz44_4 := blk_frozen BK1165.out 4; have hfz44_5 := blk_frozen BK1165.out 5; have hfz44_6 := blk_frozen BK1165.out 6; have hfz44_7 := blk_frozen BK1165.out 7))
        go_meet
        case rel => exact ⟨_, (true), (by first | rfl | (simp; done) | (simp [*]; done)), H', ⟨by first | omega | exact Nat.le_refl _⟩, ⟨by refine bx_ ?_; exact BK1163.out⟩, ⟨by refine bx_ ?_; exact BK1164.out⟩, ⟨by refine bx_ ?_; exact BK1165.out⟩, ⟨be3_ HB GE1163 GE1164 GE1165⟩⟩
       ·rw [if_neg c36] at H
        have c36b0 : decide (12 < a2_1) = false := decide_eq_false c36
        clear c36
        replace H := Option.bind_eq_some_iff.mp H
        obtain ⟨t1169, A450, H⟩ := H
        replace H : (if t1169 = true then (if (l3.length : Int) > 60 then (cottonpadtop_TopAlarmed.j0 k l1 l3 l4 t1166 true l0_0 l0_1 a2_0 a2_1 a2_2 a2_3 a2_4 a2_5 a2_6 a2_7) else ((cottonpadref05_Heat.f k l3).bind fun t1170 => (if t1170 = true then (cottonpadtop_TopAlarmed.j0 k l1 l3 l4 t1166 (!t1166) l0_0 l0_1 a2_0 a2_1 a2_2 a2_3 a2_4 a2_5 a2_6 a2_7) else (cottonpadtop_TopAlarmed.j0 k l1 l3 l4 t1166 true l0_0 l0_1 a2_0 a2_1 a2_2 a2_3 a2_4 a2_5 a2_6 a2_7)))) else (cottonpadtop_TopAlarmed.j0 k l1 l3 l4 t1166 true l0_0 l0_1 a2_0 a2_1 a2_2 a2_3 a2_4 a2_5 a2_6 a2_7)) = some r := H
        have A45 := Aside0.mk A450
        clear A450
        by_cases c46 : t1169 = true
        ·subst c46
         have H1 : (if (l3.length : Int) > 60 then (cottonpadtop_TopAlarmed.j0 k l1 l3 l4 t1166 true l0_0 l0_1 a2_0 a2_1 a2_2 a2_3 a2_4 a2_5 a2_6 a2_7) else ((cottonpadref05_Heat.f k l3).bind fun t1170 => (if t1170 = true then (cottonpadtop_TopAlarmed.j0 k l1 l3 l4 t1166 (!t1166) l0_0 l0_1 a2_0 a2_1 a2_2 a2_3 a2_4 a2_5 a2_6 a2_7) else (cottonpadtop_TopAlarmed.j0 k l1 l3 l4 t1166 true l0_0 l0_1 a2_0 a2_1 a2_2 a2_3 a2_4 a2_5 a2_6 a2_7)))) = some r := by rw [if_pos rfl] at H; exact H
         clear H
         have H := H1
         clear H1
         by_cases c47 : (l3.length : Int) > 60
         ·rw [if_pos c47] at H
          have c47b0 : decide (60 < (l3.length : Int)) = true := decide_eq_true c47
          have c47b1 : decide (60 < l3.length) = true := decide_eq_true (by omega)
          clear c47
          have H' := Aside0.mk H
          clear H
          have hnb48 := NB1163_1164.out
          have hnc48 := NB1164_1163.out
          have hnb49 := NB1163_1165.out
          have hnc49 := NB1165_1163.out
          have hcz50_0 : w11.cell? ⟨gb1163, 0, none⟩ = some (.slice A0_0 l0_0.length c0_0) := bc_ BK1163 0
          have hcz50_1 : w11.cell? ⟨gb1163, 1, none⟩ = some (.slice A0_1 l0_1.length c0_1) := bc_ BK1163 1
          have hfz50_0 := blk_frozen BK1163.out 0
          have hfz50_1 := blk_frozen BK1163.out 1
          try have hz6_ : World.cell? _ ⟨gb1164, 0, none⟩ = some (.slice A1 l1.length c1) := bc_ BK1164 0
          go_wp2_with (first | ((with_reducible refine gate_callee (f := 15) rfl ?_); refine goesL_ (some 43) rfl rfl Tryd.func15 (by decide +kernel) rfl #[.agg #[.slice A0_0 l0_0.length c0_0, .slice A0_1 l0_1.length c0_1], .slice A1 l1.length c1] rfl ls_ ?_; (with_reducible refine (cottonpadref06_Great.calls _ _ l0_0 _ _ l0_1 _ _ l1 false _ ?side1 ?side2 ?side3 ?side4 ?side5 ?side6 A12.out).mono ?_); (case side1 => exact kc_ HR0_0 HB); (case side2 => exact HC0_0.out); (case side3 => exact kc_ HR0_1 HB); (case side4 => exact HC0_1.out); (case side5 => exact kc_ HR1 HB); (case side6 => exact HC1.out); rintro e w51 ⟨rfl, hb⟩; refine ⟨_, rfl, ?_⟩; have n0_ := bb_ BK1163 hb; have n1_ := bb_ BK1164 hb; have n2_ := bb_ BK1165 hb; have n3_ := bs3_ HB GE1163 GE1164 GE1165 hb; clear BK1163; clear BK1164; clear BK1165; clear HB; have BK1163 := n0_; have BK1164 := n1_; have hz6_ : World.cell? _ ⟨gb1164, 0, none⟩ = some (.slice A1 l1.length c1) := bc_ BK1164 0; have BK1165 := n2_; have HB := n3_; clear n0_ n1_ n2_ n3_; (try clear hb); (try clear hb2); (try clear hk); (try clear hi); have hcz52_0 : w51.cell? ⟨gb1163, 0, none⟩ = some (.slice A0_0 l0_0.length c0_0) := bc_ BK1163 0; have hcz52_1 : w51.cell? ⟨gb1163, 1, none⟩ = some (.slice A0_1 l0_1.length c0_1) := bc_ BK1163 1; have hfz52_0 := blk_frozen BK1163.out 0; have hfz52_1 := blk_frozen BK1163.out 1) | (go_at_call 22; (with_reducible refine (cottonpadref06_Check.calls k _ _ l0_0 _ _ l0_1 _ _ l1 t1168 _ ?side1 ?side2 ?side3 ?side4 ?side5 ?side6 A18.out).mono ?_); (case side1 => exact kc_ HR0_0 HB); (case side2 => exact HC0_0.out); (case side3 => exact kc_ HR0_1 HB); (case side4 => exact HC0_1.out); (case side5 => exact kc_ HR1 HB); (case side6 => exact HC1.out); rintro e w53 ⟨rfl, hb⟩; have n0_ := bb_ BK1163 hb; have n1_ := bb_ BK1164 hb; have n2_ := bb_ BK1165 hb; have n3_ := bs3_ HB GE1163 GE1164 GE1165 hb; clear BK1163; clear BK1164; clear BK1165; clear HB; have BK1163 := n0_; have BK1164 := n1_; have hz6_ : World.cell? _ ⟨gb1164, 0, none⟩ = some (.slice A1 l1.length c1) := bc_ BK1164 0; have BK1165 := n2_; have HB := n3_; clear n0_ n1_ n2_ n3_; (try clear hb); (try clear hb2); (try clear hk); (try clear hi); have hnb54 := NB1165_1164.out; have hnc54 := NB1164_1165.out; have hcz55_0 : w53.cell? ⟨gb1165, 0, none⟩ = some (.int .i64 a2_0) := bc_ BK1165 0; have hcz55_1 : w53.cell? ⟨gb1165, 1, none⟩ = some (.int .i64 a2_1) := bc_ BK1165 1; have hcz55_2 : w53.cell? ⟨gb1165, 2, none⟩ = some (.int .i64 a2_2) := bc_ BK1165 2; have hcz55_3 : w53.cell? ⟨gb1165, 3, none⟩ = some (.int .i64 a2_3) := bc_ BK1165 3; have hcz55_4 : w53.cell? ⟨gb1165, 4, none⟩ = some (.int .i64 a2_4) := bc_ BK1165 4; have hcz55_5 : w53.cell? ⟨gb1165, 5, none⟩ = some (.int .i64 a2_5) := bc_ BK1165 5; have hcz55_6 : w53.cell? ⟨gb1165, 6, none⟩ = some (.int .i64 a2_6) := bc_ BK1165 6; have hcz55_7 : w53.cell? ⟨gb1165, 7, none⟩ = some (.int .i64 a2_7) := bc_ BK1165 7; have hfz55_0 := blk_frozen BK1165.out 0; have hfz55_1 := blk_frozen BK1165.out 1; have hfz55_2 := blk_frozen BK1165.out 2; have hfz55_3 := blk_frozen BK1165.out 3; have hfz55_4 := blk_frozen BK1165.out 4; have hfz55_5 := blk_frozen BK1165.out 5; have hfz55_6 := blk_frozen BK1165.out 6; have hfz55_7 := blk_frozen BK1165.out 7) | (go_at_call 46; (with_reducible refine (cottonpadref05_Bulb.calls a2_0 a2_1 a2_2 a2_3 a2_4 a2_5 a2_6 a2_7 true _ A45.out).mono ?_); rintro e w56 ⟨rfl, hb⟩; have n0_ := bb_ BK1163 hb; have n1_ := bb_ BK1164 hb; have n2_ := bb_ BK1165 hb; have n3_ := bs3_ HB GE1163 GE1164 GE1165 hb; clear BK1163; clear BK1164; clear BK1165; clear HB; have BK1163 := n0_; have BK1164 := n1_; have hz6_ : World.cell? _ ⟨gb1164, 0, none⟩ = some (.slice A1 l1.length c1) := bc_ BK1164 0; have BK1165 := n2_; have HB := n3_; clear n0_ n1_ n2_ n3_; (try clear hb); (try clear hb2); (try clear hk); (try clear hi)))
          go_meet
          case rel => exact ⟨_, (true), (by first | rfl | (simp; done) | (simp [*]; done)), H', ⟨by first | omega | exact Nat.le_refl _⟩, ⟨by refine bx_ ?_; exact BK1163.out⟩, ⟨by refine bx_ ?_; exact BK1164.out⟩, ⟨by refine bx_ ?_; exact BK1165.out⟩, ⟨be3_ HB GE1163 GE1164 GE1165⟩⟩
         ·rw [if_neg c47] at H
          have c47b0 : decide (60 < (l3.length : Int)) = false := decide_eq_false c47
          have c47b1 : decide (60 < l3.length) = false := decide_eq_false (by omega)
          clear c47
          replace H := Option.bind_eq_some_iff.mp H
          obtain ⟨t1170, A570, H⟩ := H
          replace H : (if t1170 = true then (cottonpadtop_TopAlarmed.j0 k l1 l3 l4 t1166 (!t1166) l0_0 l0_1 a2_0 a2_1 a2_2 a2_3 a2_4 a2_5 a2_6 a2_7) else (cottonpadtop_TopAlarmed.j0 k l1 l3 l4 t1166 true l0_0 l0_1 a2_0 a2_1 a2_2 a2_3 a2_4 a2_5 a2_6 a2_7)) = some r := H
          have A57 := Aside0.mk A570
          clear A570
          by_cases c58 : t1170 = true
          ·subst c58
           have H1 : (cottonpadtop_TopAlarmed.j0 k l1 l3 l4 t1166 (!t1166) l0_0 l0_1 a2_0 a2_1 a2_2 a2_3 a2_4 a2_5 a2_6 a2_7) = some r := by rw [if_pos rfl] at H; exact H
           clear H
           have H := H1
           clear H1
           have H' := Aside0.mk H
           clear H
           have hnb59 := NB1163_1164.out
           have hnc59 := NB1164_1163.out
           have hnb60 := NB1163_1165.out
           have hnc60 := NB1165_1163.out
           have hcz61_0 : w11.cell? ⟨gb1163, 0, none⟩ = some (.slice A0_0 l0_0.length c0_0) := bc_ BK1163 0
           have hcz61_1 : w11.cell? ⟨gb1163, 1, none⟩ = some (.slice A0_1 l0_1.length c0_1) := bc_ BK1163 1
           have hfz61_0 := blk_frozen BK1163.out 0
           have hfz61_1 := blk_frozen BK1163.out 1
           try have hz6_ : World.cell? _ ⟨gb1164, 0, none⟩ = some (.slice A1 l1.length c1) := bc_ BK1164 0
           go_wp2_with (first | ((with_reducible refine gate_callee (f := 15) rfl ?_); refine goesL_ (some 43) rfl rfl Tryd.func15 (by decide +kernel) rfl #[.agg #[.slice A0_0 l0_0.length c0_0, .slice A0_1 l0_1.length c0_1], .slice A1 l1.length c1] rfl ls_ ?_; (with_reducible refine (cottonpadref06_Great.calls _ _ l0_0 _ _ l0_1 _ _ l1 false _ ?side1 ?side2 ?side3 ?side4 ?side5 ?side6 A12.out).mono ?_); (case side1 => exact kc_ HR0_0 HB); (case side2 => exact HC0_0.out); (case side3 => exact kc_ HR0_1 HB); (case side4 => exact HC0_1.out); (case side5 => exact kc_ HR1 HB); (case side6 => exact HC1.out); rintro e w62 ⟨rfl, hb⟩; refine ⟨_, rfl, ?_⟩; have n0_ := bb_ BK1163 hb; have n1_ := bb_ BK1164 hb; have n2_ := bb_ BK1165 hb; have n3_ := bs3_ HB GE1163 GE1164 GE1165 hb; clear BK1163; clear BK1164; clear BK1165; clear HB; have BK1163 := n0_; have BK1164 := n1_; have hz6_ : World.cell? _ ⟨gb1164, 0, none⟩ = some (.slice A1 l1.length c1) := bc_ BK1164 0; have BK1165 := n2_; have HB := n3_; clear n0_ n1_ n2_ n3_; (try clear hb); (try clear hb2); (try clear hk); (try clear hi); have hcz63_0 : w62.cell? ⟨gb1163, 0, none⟩ = some (.slice A0_0 l0_0.length c0_0) := bc_ BK1163 0; have hcz63_1 : w62.cell? ⟨gb1163, 1, none⟩ = some (.slice A0_1 l0_1.length c0_1) := bc_ BK1163 1; have hfz63_0 := blk_frozen BK1163.out 0; have hfz63_1 := blk_frozen BK1163.out 1) | (go_at_call 22; (with_reducible refine (cottonpadref06_Check.calls k _ _ l0_0 _ _ l0_1 _ _ l1 t1168 _ ?side1 ?side2 ?side3 ?side4 ?side5 ?side6 A18.out).mono ?_); (case side1 => exact kc_ HR0_0 HB); (case side2 => exact HC0_0.out); (case side3 => exact kc_ HR0_1 HB); (case side4 => exact HC0_1.out); (case side5 => exact kc_ HR1 HB); (case side6 => exact HC1.out); rintro e w64 ⟨rfl, hb⟩; have n0_ := bb_ BK1163 hb; have n1_ := bb_ BK1164 hb; have n2_ := bb_ BK1165 hb; have n3_ := bs3_ HB GE1163 GE1164 GE1165 hb; clear BK1163; clear BK1164; clear BK1165; clear HB; have BK1163 := n0_; have BK1164 := n1_; have hz6_ : World.cell? _ ⟨gb1164, 0, none⟩ = some (.slice A1 l1.length c1) := bc_ BK1164 0; have BK1165 := n2_; have HB := n3_; clear n0_ n1_ n2_ n3_; (try clear hb); (try clear hb2); (try clear hk); (try clear hi); have hnb65 := NB1165_1164.out; have hnc65 := NB1164_1165.out; have hcz66_0 : w64.cell? ⟨gb1165, 0, none⟩ = some (.int .i64 a2_0) := bc_ BK1165 0; have hcz66_1 : w64.cell? ⟨gb1165, 1, none⟩ = some (.int .i64 a2_1) := bc_ BK1165 1; have hcz66_2 : w64.cell? ⟨gb1165, 2, none⟩ = some (.int .i64 a2_2) := bc_ BK1165 2; have hcz66_3 : w64.cell? ⟨gb1165, 3, none⟩ = some (.int .i64 a2_3) := bc_ BK1165 3; have hcz66_4 : w64.cell? ⟨gb1165, 4, none⟩ = some (.int .i64 a2_4) := bc_ BK1165 4; have hcz66_5 : w64.cell? ⟨gb1165, 5, none⟩ = some (.int .i64 a2_5) := bc_ BK1165 5; have hcz66_6 : w64.cell? ⟨gb1165, 6, none⟩ = some (.int .i64 a2_6) := bc_ BK1165 6; have hcz66_7 : w64.cell? ⟨gb1165, 7, none⟩ = some (.int .i64 a2_7) := bc_ BK1165 7; have hfz66_0 := blk_frozen BK1165.out 0; have hfz66_1 := blk_frozen BK1165.out 1; have hfz66_2 := blk_frozen BK1165.out 2; have hfz66_3 := blk_frozen BK1165.out 3; have hfz66_4 := blk_frozen BK1165.out 4; have hfz66_5 := blk_frozen BK1165.out 5; have hfz66_6 := blk_frozen BK1165.out 6; have hfz66_7 := blk_frozen BK1165.out 7) | (go_at_call 46; (with_reducible refine (cottonpadref05_Bulb.calls a2_0 a2_1 a2_2 a2_3 a2_4 a2_5 a2_6 a2_7 true _ A45.out).mono ?_); rintro e w67 ⟨rfl, hb⟩; have n0_ := bb_ BK1163 hb; have n1_ := bb_ BK1164 hb; have n2_ := bb_ BK1165 hb; have n3_ := bs3_ HB GE1163 GE1164 GE1165 hb; clear BK1163; clear BK1164; clear BK1165; clear HB; have BK1163 := n0_; have BK1164 := n1_; have hz6_ : World.cell? _ ⟨gb1164, 0, none⟩ = some (.slice A1 l1.length c1) := bc_ BK1164 0; have BK1165 := n2_; have HB := n3_; clear n0_ n1_ n2_ n3_; (try clear hb); (try clear hb2); (try clear hk); (try clear hi)) | (go_at_call 47; (with_reducible refine (cottonpadref05_Heat.calls k _ _ l3 true _ ?side1 ?side2 A57.out).mono ?_); (case side1 => exact kc_ HR3 HB); (case side2 => exact HC3.out); rintro e w' ⟨rfl, ⟨nd, rfl⟩⟩))
           go_meet
           case rel => exact ⟨_, (!t1166), (by first | rfl | (simp; done) | (simp [*]; done)), H', ⟨by first | omega | exact Nat.le_refl _⟩, ⟨by refine bx_ ?_; exact BK1163.out⟩, ⟨by refine bx_ ?_; exact BK1164.out⟩, ⟨by refine bx_ ?_; exact BK1165.out⟩, ⟨be3_ HB GE1163 GE1164 GE1165⟩⟩
          ·replace c58 := Bool.eq_false_iff.mpr c58
           subst c58
           have H1 : (cottonpadtop_TopAlarmed.j0 k l1 l3 l4 t1166 true l0_0 l0_1 a2_0 a2_1 a2_2 a2_3 a2_4 a2_5 a2_6 a2_7) = some r := by rw [if_neg (show ¬ (false = true) by decide)] at H; exact H
           clear H
           have H := H1
           clear H1
           have H' := Aside0.mk H
           clear H
           have hnb68 := NB1163_1164.out
           have hnc68 := NB1164_1163.out
           have hnb69 := NB1163_1165.out
           have hnc69 := NB1165_1163.out
           have hcz70_0 : w11.cell? ⟨gb1163, 0, none⟩ = some (.slice A0_0 l0_0.length c0_0) := bc_ BK1163 0
           have hcz70_1 : w11.cell? ⟨gb1163, 1, none⟩ = some (.slice A0_1 l0_1.length c0_1) := bc_ BK1163 1
           have hfz70_0 := blk_frozen BK1163.out 0
           have hfz70_1 := blk_frozen BK1163.out 1
           try have hz6_ : World.cell? _ ⟨gb1164, 0, none⟩ = some (.slice A1 l1.length c1) := bc_ BK1164 0
           go_wp2_with (first | ((with_reducible refine gate_callee (f := 15) rfl ?_); refine goesL_ (some 43) rfl rfl Tryd.func15 (by decide +kernel) rfl #[.agg #[.slice A0_0 l0_0.length c0_0, .slice A0_1 l0_1.length c0_1], .slice A1 l1.length c1] rfl ls_ ?_; (with_reducible refine (cottonpadref06_Great.calls _ _ l0_0 _ _ l0_1 _ _ l1 false _ ?side1 ?side2 ?side3 ?side4 ?side5 ?side6 A12.out).mono ?_); (case side1 => exact kc_ HR0_0 HB); (case side2 => exact HC0_0.out); (case side3 => exact kc_ HR0_1 HB); (case side4 => exact HC0_1.out); (case side5 => exact kc_ HR1 HB); (case side6 => exact HC1.out); rintro e w71 ⟨rfl, hb⟩; refine ⟨_, rfl, ?_⟩; have n0_ := bb_ BK1163 hb; have n1_ := bb_ BK1164 hb; have n2_ := bb_ BK1165 hb; have n3_ := bs3_ HB GE1163 GE1164 GE1165 hb; clear BK1163; clear BK1164; clear BK1165; clear HB; have BK1163 := n0_; have BK1164 := n1_; have hz6_ : World.cell? _ ⟨gb1164, 0, none⟩ = some (.slice A1 l1.length c1) := bc_ BK1164 0; have BK1165 := n2_; have HB := n3_; clear n0_ n1_ n2_ n3_; (try clear hb); (try clear hb2); (try clear hk); (try clear hi); have hcz72_0 : w71.cell? ⟨gb1163, 0, none⟩ = some (.slice A0_0 l0_0.length c0_0) := bc_ BK1163 0; have hcz72_1 : w71.cell? ⟨gb1163, 1, none⟩ = some (.slice A0_1 l0_1.length c0_1) := bc_ BK1163 1; have hfz72_0 := blk_frozen BK1163.out 0; have hfz72_1 := blk_frozen BK1163.out 1) | (go_at_call 22; (with_reducible refine (cottonpadref06_Check.calls k _ _ l0_0 _ _ l0_1 _ _ l1 t1168 _ ?side1 ?side2 ?side3 ?side4 ?side5 ?side6 A18.out).mono ?_); (case side1 => exact kc_ HR0_0 HB); (case side2 => exact HC0_0.out); (case side3 => exact kc_ HR0_1 HB); (case side4 => exact HC0_1.out); (case side5 => exact kc_ HR1 HB); (case side6 => exact HC1.out); rintro e w73 ⟨rfl, hb⟩; have n0_ := bb_ BK1163 hb; have n1_ := bb_ BK1164 hb; have n2_ := bb_ BK1165 hb; have n3_ := bs3_ HB GE1163 GE1164 GE1165 hb; clear BK1163; clear BK1164; clear BK1165; clear HB; have BK1163 := n0_; have BK1164 := n1_; have hz6_ : World.cell? _ ⟨gb1164, 0, none⟩ = some (.slice A1 l1.length c1) := bc_ BK1164 0; have BK1165 := n2_; have HB := n3_; clear n0_ n1_ n2_ n3_; (try clear hb); (try clear hb2); (try clear hk); (try clear hi); have hnb74 := NB1165_1164.out; have hnc74 := NB1164_1165.out; have hcz75_0 : w73.cell? ⟨gb1165, 0, none⟩ = some (.int .i64 a2_0) := bc_ BK1165 0; have hcz75_1 : w73.cell? ⟨gb1165, 1, none⟩ = some (.int .i64 a2_1) := bc_ BK1165 1; have hcz75_2 : w73.cell? ⟨gb1165, 2, none⟩ = some (.int .i64 a2_2) := bc_ BK1165 2; have hcz75_3 : w73.cell? ⟨gb1165, 3, none⟩ = some (.int .i64 a2_3) := bc_ BK1165 3; have hcz75_4 : w73.cell? ⟨gb1165, 4, none⟩ = some (.int .i64 a2_4) := bc_ BK1165 4; have hcz75_5 : w73.cell? ⟨gb1165, 5, none⟩ = some (.int .i64 a2_5) := bc_ BK1165 5; have hcz75_6 : w73.cell? ⟨gb1165, 6, none⟩ = some (.int .i64 a2_6) := bc_ BK1165 6; have hcz75_7 : w73.cell? ⟨gb1165, 7, none⟩ = some (.int .i64 a2_7) := bc_ BK1165 7; have hfz75_0 := blk_frozen BK1165.out 0; have hfz75_1 := blk_frozen BK1165.out 1; have hfz75_2 := blk_frozen BK1165.out 2; have hfz75_3 := blk_frozen BK1165.out 3; have hfz75_4 := blk_frozen BK1165.out 4; have hfz75_5 := blk_frozen BK1165.out 5; have hfz75_6 := blk_frozen BK1165.out 6; have hfz75_7 := blk_frozen BK1165.out 7) | (go_at_call 46; (with_reducible refine (cottonpadref05_Bulb.calls a2_0 a2_1 a2_2 a2_3 a2_4 a2_5 a2_6 a2_7 true _ A45.out).mono ?_); rintro e w76 ⟨rfl, hb⟩; have n0_ := bb_ BK1163 hb; have n1_ := bb_ BK1164 hb; have n2_ := bb_ BK1165 hb; have n3_ := bs3_ HB GE1163 GE1164 GE1165 hb; clear BK1163; clear BK1164; clear BK1165; clear HB; have BK1163 := n0_; have BK1164 := n1_; have hz6_ : World.cell? _ ⟨gb1164, 0, none⟩ = some (.slice A1 l1.length c1) := bc_ BK1164 0; have BK1165 := n2_; have HB := n3_; clear n0_ n1_ n2_ n3_; (try clear hb); (try clear hb2); (try clear hk); (try clear hi)) | (go_at_call 47; (with_reducible refine (cottonpadref05_Heat.calls k _ _ l3 false _ ?side1 ?side2 A57.out).mono ?_); (case side1 => exact kc_ HR3 HB); (case side2 => exact HC3.out); rintro e w' ⟨rfl, ⟨nd, rfl⟩⟩))
           go_meet
           case rel => exact ⟨_, (true), (by first | rfl | (simp; done) | (simp [*]; done)), H', ⟨by first | omega | exact Nat.le_refl _⟩, ⟨by refine bx_ ?_; exact BK1163.out⟩, ⟨by refine bx_ ?_; exact BK1164.out⟩, ⟨by refine bx_ ?_; exact BK1165.out⟩, ⟨be3_ HB GE1163 GE1164 GE1165⟩⟩
        ·replace c46 := Bool.eq_false_iff.mpr c46
         subst c46
         have H1 : (cottonpadtop_TopAlarmed.j0 k l1 l3 l4 t1166 true l0_0 l0_1 a2_0 a2_1 a2_2 a2_3 a2_4 a2_5 a2_6 a2_7) = some r := by rw [if_neg (show ¬ (false = true) by decide)] at H; exact H
         clear H
         have H := H1
         clear H1
         have H' := Aside0.mk H
         clear H
         have hnb77 := NB1163_1164.out
         have hnc77 := NB1164_1163.out
         have hnb78 := NB1163_1165.out
         have hnc78 := NB1165_1163.out
         have hcz79_0 : w11.cell? ⟨gb1163, 0, none⟩ = some (.slice A0_0 l0_0.length c0_0) := bc_ BK1163 0
         have hcz79_1 : w11.cell? ⟨gb1163, 1, none⟩ = some (.slice A0_1 l0_1.length c0_1) := bc_ BK1163 1
         have hfz79_0 := blk_frozen BK1163.out 0
         have hfz79_1 := blk_frozen BK1163.out 1
         try have hz6_ : World.cell? _ ⟨gb1164, 0, none⟩ = some (.slice A1 l1.length c1) := bc_ BK1164 0
         go_wp2_with (first | ((with_reducible refine gate_callee (f := 15) rfl ?_); refine goesL_ (some 43) rfl rfl Tryd.func15 (by decide +kernel) rfl #[.agg #[.slice A0_0 l0_0.length c0_0, .slice A0_1 l0_1.length c0_1], .slice A1 l1.length c1] rfl ls_ ?_; (with_reducible refine (cottonpadref06_Great.calls _ _ l0_0 _ _ l0_1 _ _ l1 false _ ?side1 ?side2 ?side3 ?side4 ?side5 ?side6 A12.out).mono ?_); (case side1 => exact kc_ HR0_0 HB); (case side2 => exact HC0_0.out); (case side3 => exact kc_ HR0_1 HB); (case side4 => exact HC0_1.out); (case side5 => exact kc_ HR1 HB); (case side6 => exact HC1.out); rintro e w80 ⟨rfl, hb⟩; refine ⟨_, rfl, ?_⟩; have n0_ := bb_ BK1163 hb; have n1_ := bb_ BK1164 hb; have n2_ := bb_ BK1165 hb; have n3_ := bs3_ HB GE1163 GE1164 GE1165 hb; clear BK1163; clear BK1164; clear BK1165; clear HB; have BK1163 := n0_; have BK1164 := n1_; have hz6_ : World.cell? _ ⟨gb1164, 0, none⟩ = some (.slice A1 l1.length c1) := bc_ BK1164 0; have BK1165 := n2_; have HB := n3_; clear n0_ n1_ n2_ n3_; (try clear hb); (try clear hb2); (try clear hk); (try clear hi); have hcz81_0 : w80.cell? ⟨gb1163, 0, none⟩ = some (.slice A0_0 l0_0.length c0_0) := bc_ BK1163 0; have hcz81_1 : w80.cell? ⟨gb1163, 1, none⟩ = some (.slice A0_1 l0_1.length c0_1) := bc_ BK1163 1; have hfz81_0 := blk_frozen BK1163.out 0; have hfz81_1 := blk_frozen BK1163.out 1) | (go_at_call 22; (with_reducible refine (cottonpadref06_Check.calls k _ _ l0_0 _ _ l0_1 _ _ l1 t1168 _ ?side1 ?side2 ?side3 ?side4 ?side5 ?side6 A18.out).mono ?_); (case side1 => exact kc_ HR0_0 HB); (case side2 => exact HC0_0.out); (case side3 => exact kc_ HR0_1 HB); (case side4 => exact HC0_1.out); (case side5 => exact kc_ HR1 HB); (case side6 => exact HC1.out); rintro e w82 ⟨rfl, hb⟩; have n0_ := bb_ BK1163 hb; have n1_ := bb_ BK1164 hb; have n2_ := bb_ BK1165 hb; have n3_ := bs3_ HB GE1163 GE1164 GE1165 hb; clear BK1163; clear BK1164; clear BK1165; clear HB; have BK1163 := n0_; have BK1164 := n1_; have hz6_ : World.cell? _ ⟨gb1164, 0, none⟩ = some (.slice A1 l1.length c1) := bc_ BK1164 0; have BK1165 := n2_; have HB := n3_; clear n0_ n1_ n2_ n3_; (try clear hb); (try clear hb2); (try clear hk); (try clear hi); have hnb83 := NB1165_1164.out; have hnc83 := NB1164_1165.out; have hcz84_0 : w82.cell? ⟨gb1165, 0, none⟩ = some (.int .i64 a2_0) := bc_ BK1165 0; have hcz84_1 : w82.cell? ⟨gb1165, 1, none⟩ = some (.int .i64 a2_1) := bc_ BK1165 1; have hcz84_2 : w82.cell? ⟨gb1165, 2, none⟩ = some (.int .i64 a2_2) := bc_ BK1165 2; have hcz84_3 : w82.cell? ⟨gb1165, 3, none⟩ = some (.int .i64 a2_3) := bc_ BK1165 3; have hcz84_4 : w82.cell? ⟨gb1165, 4, none⟩ = some (.int .i64 a2_4) := bc_ BK1165 4; have hcz84_5 : w82.cell? ⟨gb1165, 5, none⟩ = some (.int .i64 a2_5) := bc_ BK1165 5; have hcz84_6 : w82.cell? ⟨gb1165, 6, none⟩ = some (.int .i64 a2_6) := bc_ BK1165 6; have hcz84_7 : w82.cell? ⟨gb1165, 7, none⟩ = some (.int .i64 a2_7) := bc_ BK1165 7; have hfz84_0 := blk_frozen BK1165.out 0; have hfz84_1 := blk_frozen BK1165.out 1; have hfz84_2 := blk_frozen BK1165.out 2; have hfz84_3 := blk_frozen BK1165.out 3; have hfz84_4 := blk_frozen BK1165.out 4; have hfz84_5 := blk_frozen BK1165.out 5; have hfz84_6 := blk_frozen BK1165.out 6; have hfz84_7 := blk_frozen BK1165.out 7) | (go_at_call 46; (with_reducible refine (cottonpadref05_Bulb.calls a2_0 a2_1 a2_2 a2_3 a2_4 a2_5 a2_6 a2_7 false _ A45.out).mono ?_); rintro e w85 ⟨rfl, hb⟩; have n0_ := bb_ BK1163 hb; have n1_ := bb_ BK1164 hb; have n2_ := bb_ BK1165 hb; have n3_ := bs3_ HB GE1163 GE1164 GE1165 hb; clear BK1163; clear BK1164; clear BK1165; clear HB; have BK1163 := n0_; have BK1164 := n1_; have hz6_ : World.cell? _ ⟨gb1164, 0, none⟩ = some (.slice A1 l1.length c1) := bc_ BK1164 0; have BK1165 := n2_; have HB := n3_; clear n0_ n1_ n2_ n3_; (try clear hb); (try clear hb2); (try clear hk); (try clear hi)))
         go_meet
         case rel => exact ⟨_, (true), (by first | rfl | (simp; done) | (simp [*]; done)), H', ⟨by first | omega | exact Nat.le_refl _⟩, ⟨by refine bx_ ?_; exact BK1163.out⟩, ⟨by refine bx_ ?_; exact BK1164.out⟩, ⟨by refine bx_ ?_; exact BK1165.out⟩, ⟨be3_ HB GE1163 GE1164 GE1165⟩⟩
    ·rw [if_neg c19] at H
     have c19b0 : (t1168 == 0) = false := beq_eq_false_iff_ne.mpr c19
     have c19b1 : (t1168 != 0) = true := bne_iff_ne.mpr c19
     (first | rw [c19b0] | (simp only [i64_w, i32_w]; rw [c19b0]) | skip)
     have H' := Aside0.mk H
     clear H
     have hnb86 := NB1163_1164.out
     have hnc86 := NB1164_1163.out
     have hnb87 := NB1163_1165.out
     have hnc87 := NB1165_1163.out
     have hcz88_0 : w11.cell? ⟨gb1163, 0, none⟩ = some (.slice A0_0 l0_0.length c0_0) := bc_ BK1163 0
     have hcz88_1 : w11.cell? ⟨gb1163, 1, none⟩ = some (.slice A0_1 l0_1.length c0_1) := bc_ BK1163 1
     have hfz88_0 := blk_frozen BK1163.out 0
     have hfz88_1 := blk_frozen BK1163.out 1
     try have hz6_ : World.cell? _ ⟨gb1164, 0, none⟩ = some (.slice A1 l1.length c1) := bc_ BK1164 0
     go_wp2_with (first | ((with_reducible refine gate_callee (f := 15) rfl ?_); refine goesL_ (some 43) rfl rfl Tryd.func15 (by decide +kernel) rfl #[.agg #[.slice A0_0 l0_0.length c0_0, .slice A0_1 l0_1.length c0_1], .slice A1 l1.length c1] rfl ls_ ?_; (with_reducible refine (cottonpadref06_Great.calls _ _ l0_0 _ _ l0_1 _ _ l1 false _ ?side1 ?side2 ?side3 ?side4 ?side5 ?side6 A12.out).mono ?_); (case side1 => exact kc_ HR0_0 HB); (case side2 => exact HC0_0.out); (case side3 => exact kc_ HR0_1 HB); (case side4 => exact HC0_1.out); (case side5 => exact kc_ HR1 HB); (case side6 => exact HC1.out); rintro e w89 ⟨rfl, hb⟩; refine ⟨_, rfl, ?_⟩; have n0_ := bb_ BK1163 hb; have n1_ := bb_ BK1164 hb; have n2_ := bb_ BK1165 hb; have n3_ := bs3_ HB GE1163 GE1164 GE1165 hb; clear BK1163; clear BK1164; clear BK1165; clear HB; have BK1163 := n0_; have BK1164 := n1_; have hz6_ : World.cell? _ ⟨gb1164, 0, none⟩ = some (.slice A1 l1.length c1) := bc_ BK1164 0; have BK1165 := n2_; have HB := n3_; clear n0_ n1_ n2_ n3_; (try clear hb); (try clear hb2); (try clear hk); (try clear hi); have hcz90_0 : w89.cell? ⟨gb1163, 0, none⟩ = some (.slice A0_0 l0_0.length c0_0) := bc_ BK1163 0; have hcz90_1 : w89.cell? ⟨gb1163, 1, none⟩ = some (.slice A0_1 l0_1.length c0_1) := bc_ BK1163 1; have hfz90_0 := blk_frozen BK1163.out 0; have hfz90_1 := blk_frozen BK1163.out 1) | (go_at_call 22; (with_reducible refine (cottonpadref06_Check.calls k _ _ l0_0 _ _ l0_1 _ _ l1 t1168 _ ?side1 ?side2 ?side3 ?side4 ?side5 ?side6 A18.out).mono ?_); (case side1 => exact kc_ HR0_0 HB); (case side2 => exact HC0_0.out); (case side3 => exact kc_ HR0_1 HB); (case side4 => exact HC0_1.out); (case side5 => exact kc_ HR1 HB); (case side6 => exact HC1.out); rintro e w91 ⟨rfl, hb⟩; have n0_ := bb_ BK1163 hb; have n1_ := bb_ BK1164 hb; have n2_ := bb_ BK1165 hb; have n3_ := bs3_ HB GE1163 GE1164 GE1165 hb; clear BK1163; clear BK1164; clear BK1165; clear HB; have BK1163 := n0_; have BK1164 := n1_; have hz6_ : World.cell? _ ⟨gb1164, 0, none⟩ = some (.slice A1 l1.length c1) := bc_ BK1164 0; have BK1165 := n2_; have HB := n3_; clear n0_ n1_ n2_ n3_; (try clear hb); (try clear hb2); (try clear hk); (try clear hi)))
     go_meet
     case rel => exact ⟨_, (true), (by first | rfl | (simp; done) | (simp [*]; done)), H', ⟨by first | omega | exact Nat.le_refl _⟩, ⟨by refine bx_ ?_; exact BK1163.out⟩, ⟨by refine bx_ ?_; exact BK1164.out⟩, ⟨by refine bx_ ?_; exact BK1165.out⟩, ⟨be3_ HB GE1163 GE1164 GE1165⟩⟩
 case rest =>
  clear HC7
  try clear c1
  try clear c2
  try clear p2
  try clear c3
  try clear c4
  try clear c5
  try clear c6
  try clear c7
  try clear c8
  try clear c9
  try clear c13
  try clear c14
  try clear c15
  try clear c19
  try clear c19b0
  try clear c19b1
  try clear c20
  try clear c20b0
  try clear c20b1
  try clear c20b2
  try clear c21
  try clear c22
  try clear c27
  try clear c27b0
  try clear c28
  try clear c29
  try clear c34
  try clear c36
  try clear c36b0
  try clear c37
  try clear c38
  try clear c43
  try clear c45
  try clear c46
  try clear c47
  try clear c47b0
  try clear c47b1
  try clear c48
  try clear c49
  try clear c54
  try clear c58
  try clear c59
  try clear c60
  try clear c65
  try clear c68
  try clear c69
  try clear c74
  try clear c77
  try clear c78
  try clear c83
  try clear c86
  try clear c87
  try clear hcz16_0
  try clear hcz16_1
  try clear hcz23_0
  try clear hcz23_1
  try clear hcz25_0
  try clear hcz25_1
  try clear hcz30_0
  try clear hcz30_1
  try clear hcz32_0
  try clear hcz32_1
  try clear hcz35_0
  try clear hcz35_1
  try clear hcz35_2
  try clear hcz35_3
  try clear hcz35_4
  try clear hcz35_5
  try clear hcz35_6
  try clear hcz35_7
  try clear hcz39_0
  try clear hcz39_1
  try clear hcz41_0
  try clear hcz41_1
  try clear hcz44_0
  try clear hcz44_1
  try clear hcz44_2
  try clear hcz44_3
  try clear hcz44_4
  try clear hcz44_5
  try clear hcz44_6
  try clear hcz44_7
  try clear hcz50_0
  try clear hcz50_1
  try clear hcz52_0
  try clear hcz52_1
  try clear hcz55_0
  try clear hcz55_1
  try clear hcz55_2
  try clear hcz55_3
  try clear hcz55_4
  try clear hcz55_5
  try clear hcz55_6
  try clear hcz55_7
  try clear hcz61_0
  try clear hcz61_1
  try clear hcz63_0
  try clear hcz63_1
  try clear hcz66_0
  try clear hcz66_1
  try clear hcz66_2
  try clear hcz66_3
  try clear hcz66_4
  try clear hcz66_5
  try clear hcz66_6
  try clear hcz66_7
  try clear hcz70_0
  try clear hcz70_1
  try clear hcz72_0
  try clear hcz72_1
  try clear hcz75_0
  try clear hcz75_1
  try clear hcz75_2
  try clear hcz75_3
  try clear hcz75_4
  try clear hcz75_5
  try clear hcz75_6
  try clear hcz75_7
  try clear hcz79_0
  try clear hcz79_1
  try clear hcz81_0
  try clear hcz81_1
  try clear hcz84_0
  try clear hcz84_1
  try clear hcz84_2
  try clear hcz84_3
  try clear hcz84_4
  try clear hcz84_5
  try clear hcz84_6
  try clear hcz84_7
  try clear hcz88_0
  try clear hcz88_1
  try clear hcz90_0
  try clear hcz90_1
  try clear hfz16_0
  try clear hfz16_1
  try clear hfz23_0
  try clear hfz23_1
  try clear hfz25_0
  try clear hfz25_1
  try clear hfz30_0
  try clear hfz30_1
  try clear hfz32_0
  try clear hfz32_1
  try clear hfz35_0
  try clear hfz35_1
  try clear hfz35_2
  try clear hfz35_3
  try clear hfz35_4
  try clear hfz35_5
  try clear hfz35_6
  try clear hfz35_7
  try clear hfz39_0
  try clear hfz39_1
  try clear hfz41_0
  try clear hfz41_1
  try clear hfz44_0
  try clear hfz44_1
  try clear hfz44_2
  try clear hfz44_3
  try clear hfz44_4
  try clear hfz44_5
  try clear hfz44_6
  try clear hfz44_7
  try clear hfz50_0
  try clear hfz50_1
  try clear hfz52_0
  try clear hfz52_1
  try clear hfz55_0
  try clear hfz55_1
  try clear hfz55_2
  try clear hfz55_3
  try clear hfz55_4
  try clear hfz55_5
  try clear hfz55_6
  try clear hfz55_7
  try clear hfz61_0
  try clear hfz61_1
  try clear hfz63_0
  try clear hfz63_1
  try clear hfz66_0
  try clear hfz66_1
  try clear hfz66_2
  try clear hfz66_3
  try clear hfz66_4
  try clear hfz66_5
  try clear hfz66_6
  try clear hfz66_7
  try clear hfz70_0
  try clear hfz70_1
  try clear hfz72_0
  try clear hfz72_1
  try clear hfz75_0
  try clear hfz75_1
  try clear hfz75_2
  try clear hfz75_3
  try clear hfz75_4
  try clear hfz75_5
  try clear hfz75_6
  try clear hfz75_7
  try clear hfz79_0
  try clear hfz79_1
  try clear hfz81_0
  try clear hfz81_1
  try clear hfz84_0
  try clear hfz84_1
  try clear hfz84_2
  try clear hfz84_3
  try clear hfz84_4
  try clear hfz84_5
  try clear hfz84_6
  try clear hfz84_7
  try clear hfz88_0
  try clear hfz88_1
  try clear hfz90_0
  try clear hfz90_1
  obtain ⟨kq, x83_6, rfl, HA, HJ6, BK1163, BK1164, BK1165, HB⟩ := hcut
  cases kq with
  | zero => exact absurd HA.out (by simp [cottonpadtop_TopAlarmed.j0])
  | succ kj6 =>
   have H := HA.out
   clear HA
   simp only [cottonpadtop_TopAlarmed.j0] at H
   by_cases c92 : x83_6 = true
   ·subst c92
    have H1 : (some t1166) = some r := by rw [if_pos rfl] at H; exact H
    clear H
    have H := H1
    clear H1
    obtain rfl := Option.some.inj H
    try have hz6_ : World.cell? _ ⟨gb1164, 0, none⟩ = some (.slice A1 l1.length c1) := bc_ BK1164 0
    go_wp2
    go_ret
    exact ⟨rf_, be3_ HB GE1163 GE1164 GE1165⟩
   ·replace c92 := Bool.eq_false_iff.mpr c92
    subst c92
    have H1 : ((spray_Bursts.f a2_0 a2_1 a2_2 a2_3 a2_4 a2_5 a2_6 a2_7 l3).bind fun bt1171 => (if bt1171.2.2 = 0 then (if bt1171.2.1 > 0 then (if bt1171.1 < 1 then (cottonpadtop_TopAlarmed.j1 kj6 l1 l3 l4 t1166 bt1171.1 bt1171.2.1 true l0_0 l0_1 a2_0 a2_1 a2_2 a2_3 a2_4 a2_5 a2_6 a2_7) else (cottonpadtop_TopAlarmed.j1 kj6 l1 l3 l4 t1166 bt1171.1 bt1171.2.1 (decide (bt1171.1 > bt1171.2.1)) l0_0 l0_1 a2_0 a2_1 a2_2 a2_3 a2_4 a2_5 a2_6 a2_7)) else (cottonpadtop_TopAlarmed.j1 kj6 l1 l3 l4 t1166 bt1171.1 bt1171.2.1 false l0_0 l0_1 a2_0 a2_1 a2_2 a2_3 a2_4 a2_5 a2_6 a2_7)) else (cottonpadtop_TopAlarmed.j1 kj6 l1 l3 l4 t1166 bt1171.1 bt1171.2.1 true l0_0 l0_1 a2_0 a2_1 a2_2 a2_3 a2_4 a2_5 a2_6 a2_7))) = some r := by rw [if_neg (show ¬ (false = true) by decide)] at H; exact H
    clear H
    have H := H1
    clear H1
    replace H := Option.bind_eq_some_iff.mp H
    obtain ⟨⟨t1171, t1172, t1173⟩, A930, H⟩ := H
    replace H : (if t1173 = 0 then (if t1172 > 0 then (if t1171 < 1 then (cottonpadtop_TopAlarmed.j1 kj6 l1 l3 l4 t1166 t1171 t1172 true l0_0 l0_1 a2_0 a2_1 a2_2 a2_3 a2_4 a2_5 a2_6 a2_7) else (cottonpadtop_TopAlarmed.j1 kj6 l1 l3 l4 t1166 t1171 t1172 (decide (t1171 > t1172)) l0_0 l0_1 a2_0 a2_1 a2_2 a2_3 a2_4 a2_5 a2_6 a2_7)) else (cottonpadtop_TopAlarmed.j1 kj6 l1 l3 l4 t1166 t1171 t1172 false l0_0 l0_1 a2_0 a2_1 a2_2 a2_3 a2_4 a2_5 a2_6 a2_7)) else (cottonpadtop_TopAlarmed.j1 kj6 l1 l3 l4 t1166 t1171 t1172 true l0_0 l0_1 a2_0 a2_1 a2_2 a2_3 a2_4 a2_5 a2_6 a2_7)) = some r := H
    have A93 := Aside0.mk A930
    clear A930
    have HC94 := Aside0.mk H
    clear H
    have hnb95 := NB1165_1163.out
    have hnc95 := NB1163_1165.out
    have hnb96 := NB1165_1164.out
    have hnc96 := NB1164_1165.out
    have hcz97_0 : wc.cell? ⟨gb1165, 0, none⟩ = some (.int .i64 a2_0) := bc_ BK1165 0
    have hcz97_1 : wc.cell? ⟨gb1165, 1, none⟩ = some (.int .i64 a2_1) := bc_ BK1165 1
    have hcz97_2 : wc.cell? ⟨gb1165, 2, none⟩ = some (.int .i64 a2_2) := bc_ BK1165 2
    have hcz97_3 : wc.cell? ⟨gb1165, 3, none⟩ = some (.int .i64 a2_3) := bc_ BK1165 3
    have hcz97_4 : wc.cell? ⟨gb1165, 4, none⟩ = some (.int .i64 a2_4) := bc_ BK1165 4
    have hcz97_5 : wc.cell? ⟨gb1165, 5, none⟩ = some (.int .i64 a2_5) := bc_ BK1165 5
    have hcz97_6 : wc.cell? ⟨gb1165, 6, none⟩ = some (.int .i64 a2_6) := bc_ BK1165 6
    have hcz97_7 : wc.cell? ⟨gb1165, 7, none⟩ = some (.int .i64 a2_7) := bc_ BK1165 7
    have hfz97_0 := blk_frozen BK1165.out 0
    have hfz97_1 := blk_frozen BK1165.out 1
    have hfz97_2 := blk_frozen BK1165.out 2
    have hfz97_3 := blk_frozen BK1165.out 3
    have hfz97_4 := blk_frozen BK1165.out 4
    have hfz97_5 := blk_frozen BK1165.out 5
    have hfz97_6 := blk_frozen BK1165.out 6
    have hfz97_7 := blk_frozen BK1165.out 7
    try have hz6_ : World.cell? _ ⟨gb1164, 0, none⟩ = some (.slice A1 l1.length c1) := bc_ BK1164 0
    go_upto_region 5 with (first | ((with_reducible refine gate_callee (f := 48) rfl ?_); refine goesL_ (some 88) rfl rfl Tryd.func48 (by decide +kernel) rfl #[.agg #[.int .i64 a2_0, .int .i64 a2_1, .int .i64 a2_2, .int .i64 a2_3, .int .i64 a2_4, .int .i64 a2_5, .int .i64 a2_6, .int .i64 a2_7], .slice A3 l3.length c3] rfl ls_ ?_; (with_reducible refine (spray_Bursts.calls a2_0 a2_1 a2_2 a2_3 a2_4 a2_5 a2_6 a2_7 _ _ l3 t1171 t1172 t1173 _ ?side1 ?side2 A93.out).mono ?_); (case side1 => exact kc_ HR3 HB); (case side2 => exact HC3.out); rintro e w98 ⟨rfl, hb⟩; refine ⟨_, rfl, ?_⟩; have n0_ := bb_ BK1163 hb; have n1_ := bb_ BK1164 hb; have n2_ := bb_ BK1165 hb; have n3_ := bs3_ HB GE1163 GE1164 GE1165 hb; clear BK1163; clear BK1164; clear BK1165; clear HB; have BK1163 := n0_; have BK1164 := n1_; have hz6_ : World.cell? _ ⟨gb1164, 0, none⟩ = some (.slice A1 l1.length c1) := bc_ BK1164 0; have BK1165 := n2_; have HB := n3_; clear n0_ n1_ n2_ n3_; (try clear hb); (try clear hb2); (try clear hk); (try clear hi)))
    (try simp only [Act.put, List.setIfInBounds_toArray, List.set_cons_zero, List.set_cons_succ])
    go_cut [106] (fun v106 wc => ∃ (kq : Nat) (x106_93 : Bool), v106 = .bool x106_93 ∧ Aside0 (cottonpadtop_TopAlarmed.j1 kq l1 l3 l4 t1166 t1171 t1172 x106_93 l0_0 l0_1 a2_0 a2_1 a2_2 a2_3 a2_4 a2_5 a2_6 a2_7 = some r) ∧ Aside0 (kq ≤ kj6) ∧ Aside0 (wc.heap[gb1163]? = some (.cells #[(.slice A0_0 l0_0.length c0_0), (.slice A0_1 l0_1.length c0_1)] 25 (0, 0))) ∧ Aside0 (wc.heap[gb1164]? = some (.cells #[.slice A1 l1.length c1] 26 (0, 0))) ∧ Aside0 (wc.heap[gb1165]? = some (.cells #[.int .i64 a2_0, .int .i64 a2_1, .int .i64 a2_2, .int .i64 a2_3, .int .i64 a2_4, .int .i64 a2_5, .int .i64 a2_6, .int .i64 a2_7] 90 (0, 0))) ∧ Aside0 (Below w.heap.size w wc))
    case first =>
     have H := HC94.out
     clear HC94
     by_cases c99 : t1173 = 0
     ·rw [if_pos c99] at H
      have c99b0 : (t1173 == 0) = true := beq_iff_eq.mpr c99
      have c99b1 : (t1173 != 0) = false := bne_eq_false_iff_eq.mpr c99
      clear c99
      (first | rw [c99b0] | (simp only [i64_w, i32_w]; rw [c99b0]) | skip)
      by_cases c100 : t1172 > 0
      ·rw [if_pos c100] at H
       have c100b0 : decide (0 < t1172) = true := decide_eq_true c100
       clear c100
       by_cases c101 : t1171 < 1
       ·rw [if_pos c101] at H
        have c101b0 : decide (t1171 < 1) = true := decide_eq_true c101
        clear c101
        exact absurd H (by rw [HRT.out]; cases kj6 <;> simp [cottonpadtop_TopAlarmed.j1])
       ·rw [if_neg c101] at H
        have c101b0 : decide (t1171 < 1) = false := decide_eq_false c101
        clear c101
        have H' := Aside0.mk H
        clear H
        try have hz6_ : World.cell? _ ⟨gb1164, 0, none⟩ = some (.slice A1 l1.length c1) := bc_ BK1164 0
        go_wp2
        go_meet
        case rel => exact ⟨_, (decide (t1171 > t1172)), (by first | rfl | (simp; done) | (simp [*]; done)), H', ⟨by have := HJ6.out; first | omega | exact Nat.le_refl _⟩, ⟨by refine bx_ ?_; exact BK1163.out⟩, ⟨by refine bx_ ?_; exact BK1164.out⟩, ⟨by refine bx_ ?_; exact BK1165.out⟩, ⟨be3_ HB GE1163 GE1164 GE1165⟩⟩
      ·rw [if_neg c100] at H
       have c100b0 : decide (0 < t1172) = false := decide_eq_false c100
       clear c100
       have H' := Aside0.mk H
       clear H
       try have hz6_ : World.cell? _ ⟨gb1164, 0, none⟩ = some (.slice A1 l1.length c1) := bc_ BK1164 0
       go_wp2
       go_meet
       case rel => exact ⟨_, (false), (by first | rfl | (simp; done) | (simp [*]; done)), H', ⟨by have := HJ6.out; first | omega | exact Nat.le_refl _⟩, ⟨by refine bx_ ?_; exact BK1163.out⟩, ⟨by refine bx_ ?_; exact BK1164.out⟩, ⟨by refine bx_ ?_; exact BK1165.out⟩, ⟨be3_ HB GE1163 GE1164 GE1165⟩⟩
     ·rw [if_neg c99] at H
      have c99b0 : (t1173 == 0) = false := beq_eq_false_iff_ne.mpr c99
      have c99b1 : (t1173 != 0) = true := bne_iff_ne.mpr c99
      (first | rw [c99b0] | (simp only [i64_w, i32_w]; rw [c99b0]) | skip)
      exact absurd H (by rw [HRT.out]; cases kj6 <;> simp [cottonpadtop_TopAlarmed.j1])
    case rest =>
     clear HC94
     try clear c1
     try clear c2
     try clear p2
     try clear c3
     try clear c4
     try clear c5
     try clear c6
     try clear c7
     try clear c8
     try clear c9
     try clear c10
     try clear c13
     try clear c14
     try clear c15
     try clear c19
     try clear c19b0
     try clear c19b1
     try clear c20
     try clear c20b0
     try clear c20b1
     try clear c20b2
     try clear c21
     try clear c22
     try clear c27
     try clear c27b0
     try clear c28
     try clear c29
     try clear c34
     try clear c36
     try clear c36b0
     try clear c37
     try clear c38
     try clear c43
     try clear c45
     try clear c46
     try clear c47
     try clear c47b0
     try clear c47b1
     try clear c48
     try clear c49
     try clear c54
     try clear c58
     try clear c59
     try clear c60
     try clear c65
     try clear c68
     try clear c69
     try clear c74
     try clear c77
     try clear c78
     try clear c83
     try clear c86
     try clear c87
     try clear c92
     try clear c95
     try clear c96
     try clear c99
     try clear c99b0
     try clear c99b1
     try clear c100
     try clear c100b0
     try clear c101
     try clear c101b0
     try clear hcz16_0
     try clear hcz16_1
     try clear hcz23_0
     try clear hcz23_1
     try clear hcz25_0
     try clear hcz25_1
     try clear hcz30_0
     try clear hcz30_1
     try clear hcz32_0
     try clear hcz32_1
     try clear hcz35_0
     try clear hcz35_1
     try clear hcz35_2
     try clear hcz35_3
     try clear hcz35_4
     try clear hcz35_5
     try clear hcz35_6
     try clear hcz35_7
     try clear hcz39_0
     try clear hcz39_1
     try clear hcz41_0
     try clear hcz41_1
     try clear hcz44_0
     try clear hcz44_1
     try clear hcz44_2
     try clear hcz44_3
     try clear hcz44_4
     try clear hcz44_5
     try clear hcz44_6
     try clear hcz44_7
     try clear hcz50_0
     try clear hcz50_1
     try clear hcz52_0
     try clear hcz52_1
     try clear hcz55_0
     try clear hcz55_1
     try clear hcz55_2
     try clear hcz55_3
     try clear hcz55_4
     try clear hcz55_5
     try clear hcz55_6
     try clear hcz55_7
     try clear hcz61_0
     try clear hcz61_1
     try clear hcz63_0
     try clear hcz63_1
     try clear hcz66_0
     try clear hcz66_1
     try clear hcz66_2
     try clear hcz66_3
     try clear hcz66_4
     try clear hcz66_5
     try clear hcz66_6
     try clear hcz66_7
     try clear hcz70_0
     try clear hcz70_1
     try clear hcz72_0
     try clear hcz72_1
     try clear hcz75_0
     try clear hcz75_1
     try clear hcz75_2
     try clear hcz75_3
     try clear hcz75_4
     try clear hcz75_5
     try clear hcz75_6
     try clear hcz75_7
     try clear hcz79_0
     try clear hcz79_1
     try clear hcz81_0
     try clear hcz81_1
     try clear hcz84_0
     try clear hcz84_1
     try clear hcz84_2
     try clear hcz84_3
     try clear hcz84_4
     try clear hcz84_5
     try clear hcz84_6
     try clear hcz84_7
     try clear hcz88_0
     try clear hcz88_1
     try clear hcz90_0
     try clear hcz90_1
     try clear hcz97_0
     try clear hcz97_1
     try clear hcz97_2
     try clear hcz97_3
     try clear hcz97_4
     try clear hcz97_5
     try clear hcz97_6
     try clear hcz97_7
     try clear hfz16_0
     try clear hfz16_1
     try clear hfz23_0
     try clear hfz23_1
     try clear hfz25_0
     try clear hfz25_1
     try clear hfz30_0
     try clear hfz30_1
     try clear hfz32_0
     try clear hfz32_1
     try clear hfz35_0
     try clear hfz35_1
     try clear hfz35_2
     try clear hfz35_3
     try clear hfz35_4
     try clear hfz35_5
     try clear hfz35_6
     try clear hfz35_7
     try clear hfz39_0
     try clear hfz39_1
     try clear hfz41_0
     try clear hfz41_1
     try clear hfz44_0
     try clear hfz44_1
     try clear hfz44_2
     try clear hfz44_3
     try clear hfz44_4
     try clear hfz44_5
     try clear hfz44_6
     try clear hfz44_7
     try clear hfz50_0
     try clear hfz50_1
     try clear hfz52_0
     try clear hfz52_1
     try clear hfz55_0
     try clear hfz55_1
     try clear hfz55_2
     try clear hfz55_3
     try clear hfz55_4
     try clear hfz55_5
     try clear hfz55_6
     try clear hfz55_7
     try clear hfz61_0
     try clear hfz61_1
     try clear hfz63_0
     try clear hfz63_1
     try clear hfz66_0
     try clear hfz66_1
     try clear hfz66_2
     try clear hfz66_3
     try clear hfz66_4
     try clear hfz66_5
     try clear hfz66_6
     try clear hfz66_7
     try clear hfz70_0
     try clear hfz70_1
     try clear hfz72_0
     try clear hfz72_1
     try clear hfz75_0
     try clear hfz75_1
     try clear hfz75_2
     try clear hfz75_3
     try clear hfz75_4
     try clear hfz75_5
     try clear hfz75_6
     try clear hfz75_7
     try clear hfz79_0
     try clear hfz79_1
     try clear hfz81_0
     try clear hfz81_1
     try clear hfz84_0
     try clear hfz84_1
     try clear hfz84_2
     try clear hfz84_3
     try clear hfz84_4
     try clear hfz84_5
     try clear hfz84_6
     try clear hfz84_7
     try clear hfz88_0
     try clear hfz88_1
     try clear hfz90_0
     try clear hfz90_1
     try clear hfz97_0
     try clear hfz97_1
     try clear hfz97_2
     try clear hfz97_3
     try clear hfz97_4
     try clear hfz97_5
     try clear hfz97_6
     try clear hfz97_7
     try clear p2
     obtain ⟨kq, x106_93, rfl, HA, HJ93, BK1163, BK1164, BK1165, HB⟩ := hcut
     cases kq with
     | zero => exact absurd HA.out (by simp [cottonpadtop_TopAlarmed.j1])
     | succ kj93 =>
      have H := HA.out
      clear HA
      simp only [cottonpadtop_TopAlarmed.j1] at H
      by_cases c102 : x106_93 = true
      ·subst c102
       have H1 : (some false) = some r := by rw [if_pos rfl] at H; exact H
       clear H
       have H := H1
       clear H1
       exact absurd (H.trans (congrArg some HRT.out)) (by simp)
      ·replace c102 := Bool.eq_false_iff.mpr c102
       subst c102
       have H1 : (if t1172 = 0 then (some t1166) else ((cottonpadtop_topafter.f kj93 t1171 t1172 l1 l0_0 l0_1).bind fun bt1174 => (if bt1174.2 = true then ((exits_Out.f l0_0 l0_1 l1).bind fun bt1178 => ((exits_Out.f l0_0 l0_1 bt1174.1).bind fun bt1182 => ((exits_Safe.f l0_0 l0_1 l1).bind fun bt1186 => ((exits_Safe.f l0_0 l0_1 bt1174.1).bind fun bt1190 => (if bt1178.2.2 = 0 then (if bt1182.2.2 = 0 then (if bt1186.2.2.2 = 0 then (if bt1190.2.2.2 = 0 then (if (!(bt1182.1 == (wrap64 (bt1178.1 + (wrap64 (60 * t1171))))) || (!(bt1182.2.1 == (wrap64 (bt1178.2.1 + (wrap64 (60 * t1172))))))) = true then (cottonpadtop_TopAlarmed.j2 kj93 l1 l3 l4 t1166 t1171 t1172 bt1190.1 true l0_0 l0_1 l0_0 l0_1 a2_0 a2_1 a2_2 a2_3 a2_4 a2_5 a2_6 a2_7 bt1182.1 bt1182.2.1) else (cottonpadtop_TopAlarmed.j2 kj93 l1 l3 l4 t1166 t1171 t1172 bt1190.1 (decide (bt1190.1 > bt1186.1)) l0_0 l0_1 l0_0 l0_1 a2_0 a2_1 a2_2 a2_3 a2_4 a2_5 a2_6 a2_7 bt1182.1 bt1182.2.1)) else (cottonpadtop_TopAlarmed.j2 kj93 l1 l3 l4 t1166 t1171 t1172 bt1190.1 true l0_0 l0_1 l0_0 l0_1 a2_0 a2_1 a2_2 a2_3 a2_4 a2_5 a2_6 a2_7 bt1182.1 bt1182.2.1)) else (cottonpadtop_TopAlarmed.j2 kj93 l1 l3 l4 t1166 t1171 t1172 bt1190.1 true l0_0 l0_1 l0_0 l0_1 a2_0 a2_1 a2_2 a2_3 a2_4 a2_5 a2_6 a2_7 bt1182.1 bt1182.2.1)) else (cottonpadtop_TopAlarmed.j2 kj93 l1 l3 l4 t1166 t1171 t1172 bt1190.1 true l0_0 l0_1 l0_0 l0_1 a2_0 a2_1 a2_2 a2_3 a2_4 a2_5 a2_6 a2_7 bt1182.1 bt1182.2.1)) else (cottonpadtop_TopAlarmed.j2 kj93 l1 l3 l4 t1166 t1171 t1172 bt1190.1 true l0_0 l0_1 l0_0 l0_1 a2_0 a2_1 a2_2 a2_3 a2_4 a2_5 a2_6 a2_7 bt1182.1 bt1182.2.1)))))) else (some t1166)))) = some r := by rw [if_neg (show ¬ (false = true) by decide)] at H; exact H
       clear H
       have H := H1
       clear H1
       by_cases c103 : t1172 = 0
       ·rw [if_pos c103] at H
        have c103b0 : (t1172 == 0) = true := beq_iff_eq.mpr c103
        have c103b1 : (t1172 != 0) = false := bne_eq_false_iff_eq.mpr c103
        clear c103
        obtain rfl := Option.some.inj H
        try have hz6_ : World.cell? _ ⟨gb1164, 0, none⟩ = some (.slice A1 l1.length c1) := bc_ BK1164 0
        go_wp2
        go_ret
        exact ⟨rf_, be3_ HB GE1163 GE1164 GE1165⟩
       ·rw [if_neg c103] at H
        have c103b0 : (t1172 == 0) = false := beq_eq_false_iff_ne.mpr c103
        have c103b1 : (t1172 != 0) = true := bne_iff_ne.mpr c103
        replace H := Option.bind_eq_some_iff.mp H
        obtain ⟨⟨t1174, t1175⟩, A1040, H⟩ := H
        replace H : (if t1175 = true then ((exits_Out.f l0_0 l0_1 l1).bind fun bt1178 => ((exits_Out.f l0_0 l0_1 t1174).bind fun bt1182 => ((exits_Safe.f l0_0 l0_1 l1).bind fun bt1186 => ((exits_Safe.f l0_0 l0_1 t1174).bind fun bt1190 => (if bt1178.2.2 = 0 then (if bt1182.2.2 = 0 then (if bt1186.2.2.2 = 0 then (if bt1190.2.2.2 = 0 then (if (!(bt1182.1 == (wrap64 (bt1178.1 + (wrap64 (60 * t1171))))) || (!(bt1182.2.1 == (wrap64 (bt1178.2.1 + (wrap64 (60 * t1172))))))) = true then (cottonpadtop_TopAlarmed.j2 kj93 l1 l3 l4 t1166 t1171 t1172 bt1190.1 true l0_0 l0_1 l0_0 l0_1 a2_0 a2_1 a2_2 a2_3 a2_4 a2_5 a2_6 a2_7 bt1182.1 bt1182.2.1) else (cottonpadtop_TopAlarmed.j2 kj93 l1 l3 l4 t1166 t1171 t1172 bt1190.1 (decide (bt1190.1 > bt1186.1)) l0_0 l0_1 l0_0 l0_1 a2_0 a2_1 a2_2 a2_3 a2_4 a2_5 a2_6 a2_7 bt1182.1 bt1182.2.1)) else (cottonpadtop_TopAlarmed.j2 kj93 l1 l3 l4 t1166 t1171 t1172 bt1190.1 true l0_0 l0_1 l0_0 l0_1 a2_0 a2_1 a2_2 a2_3 a2_4 a2_5 a2_6 a2_7 bt1182.1 bt1182.2.1)) else (cottonpadtop_TopAlarmed.j2 kj93 l1 l3 l4 t1166 t1171 t1172 bt1190.1 true l0_0 l0_1 l0_0 l0_1 a2_0 a2_1 a2_2 a2_3 a2_4 a2_5 a2_6 a2_7 bt1182.1 bt1182.2.1)) else (cottonpadtop_TopAlarmed.j2 kj93 l1 l3 l4 t1166 t1171 t1172 bt1190.1 true l0_0 l0_1 l0_0 l0_1 a2_0 a2_1 a2_2 a2_3 a2_4 a2_5 a2_6 a2_7 bt1182.1 bt1182.2.1)) else (cottonpadtop_TopAlarmed.j2 kj93 l1 l3 l4 t1166 t1171 t1172 bt1190.1 true l0_0 l0_1 l0_0 l0_1 a2_0 a2_1 a2_2 a2_3 a2_4 a2_5 a2_6 a2_7 bt1182.1 bt1182.2.1)))))) else (some t1166)) = some r := H
        have A104 := Aside0.mk A1040
        clear A1040
        by_cases c105 : t1175 = true
        ·subst c105
         have H1 : ((exits_Out.f l0_0 l0_1 l1).bind fun bt1178 => ((exits_Out.f l0_0 l0_1 t1174).bind fun bt1182 => ((exits_Safe.f l0_0 l0_1 l1).bind fun bt1186 => ((exits_Safe.f l0_0 l0_1 t1174).bind fun bt1190 => (if bt1178.2.2 = 0 then (if bt1182.2.2 = 0 then (if bt1186.2.2.2 = 0 then (if bt1190.2.2.2 = 0 then (if (!(bt1182.1 == (wrap64 (bt1178.1 + (wrap64 (60 * t1171))))) || (!(bt1182.2.1 == (wrap64 (bt1178.2.1 + (wrap64 (60 * t1172))))))) = true then (cottonpadtop_TopAlarmed.j2 kj93 l1 l3 l4 t1166 t1171 t1172 bt1190.1 true l0_0 l0_1 l0_0 l0_1 a2_0 a2_1 a2_2 a2_3 a2_4 a2_5 a2_6 a2_7 bt1182.1 bt1182.2.1) else (cottonpadtop_TopAlarmed.j2 kj93 l1 l3 l4 t1166 t1171 t1172 bt1190.1 (decide (bt1190.1 > bt1186.1)) l0_0 l0_1 l0_0 l0_1 a2_0 a2_1 a2_2 a2_3 a2_4 a2_5 a2_6 a2_7 bt1182.1 bt1182.2.1)) else (cottonpadtop_TopAlarmed.j2 kj93 l1 l3 l4 t1166 t1171 t1172 bt1190.1 true l0_0 l0_1 l0_0 l0_1 a2_0 a2_1 a2_2 a2_3 a2_4 a2_5 a2_6 a2_7 bt1182.1 bt1182.2.1)) else (cottonpadtop_TopAlarmed.j2 kj93 l1 l3 l4 t1166 t1171 t1172 bt1190.1 true l0_0 l0_1 l0_0 l0_1 a2_0 a2_1 a2_2 a2_3 a2_4 a2_5 a2_6 a2_7 bt1182.1 bt1182.2.1)) else (cottonpadtop_TopAlarmed.j2 kj93 l1 l3 l4 t1166 t1171 t1172 bt1190.1 true l0_0 l0_1 l0_0 l0_1 a2_0 a2_1 a2_2 a2_3 a2_4 a2_5 a2_6 a2_7 bt1182.1 bt1182.2.1)) else (cottonpadtop_TopAlarmed.j2 kj93 l1 l3 l4 t1166 t1171 t1172 bt1190.1 true l0_0 l0_1 l0_0 l0_1 a2_0 a2_1 a2_2 a2_3 a2_4 a2_5 a2_6 a2_7 bt1182.1 bt1182.2.1)))))) = some r := by rw [if_pos rfl] at H; exact H
         clear H
         have H := H1
         clear H1
         replace H := Option.bind_eq_some_iff.mp H
         obtain ⟨⟨t1178, t1179, t1180⟩, A1060, H⟩ := H
         replace H : ((exits_Out.f l0_0 l0_1 t1174).bind fun bt1182 => ((exits_Safe.f l0_0 l0_1 l1).bind fun bt1186 => ((exits_Safe.f l0_0 l0_1 t1174).bind fun bt1190 => (if t1180 = 0 then (if bt1182.2.2 = 0 then (if bt1186.2.2.2 = 0 then (if bt1190.2.2.2 = 0 then (if (!(bt1182.1 == (wrap64 (t1178 + (wrap64 (60 * t1171))))) || (!(bt1182.2.1 == (wrap64 (t1179 + (wrap64 (60 * t1172))))))) = true then (cottonpadtop_TopAlarmed.j2 kj93 l1 l3 l4 t1166 t1171 t1172 bt1190.1 true l0_0 l0_1 l0_0 l0_1 a2_0 a2_1 a2_2 a2_3 a2_4 a2_5 a2_6 a2_7 bt1182.1 bt1182.2.1) else (cottonpadtop_TopAlarmed.j2 kj93 l1 l3 l4 t1166 t1171 t1172 bt1190.1 (decide (bt1190.1 > bt1186.1)) l0_0 l0_1 l0_0 l0_1 a2_0 a2_1 a2_2 a2_3 a2_4 a2_5 a2_6 a2_7 bt1182.1 bt1182.2.1)) else (cottonpadtop_TopAlarmed.j2 kj93 l1 l3 l4 t1166 t1171 t1172 bt1190.1 true l0_0 l0_1 l0_0 l0_1 a2_0 a2_1 a2_2 a2_3 a2_4 a2_5 a2_6 a2_7 bt1182.1 bt1182.2.1)) else (cottonpadtop_TopAlarmed.j2 kj93 l1 l3 l4 t1166 t1171 t1172 bt1190.1 true l0_0 l0_1 l0_0 l0_1 a2_0 a2_1 a2_2 a2_3 a2_4 a2_5 a2_6 a2_7 bt1182.1 bt1182.2.1)) else (cottonpadtop_TopAlarmed.j2 kj93 l1 l3 l4 t1166 t1171 t1172 bt1190.1 true l0_0 l0_1 l0_0 l0_1 a2_0 a2_1 a2_2 a2_3 a2_4 a2_5 a2_6 a2_7 bt1182.1 bt1182.2.1)) else (cottonpadtop_TopAlarmed.j2 kj93 l1 l3 l4 t1166 t1171 t1172 bt1190.1 true l0_0 l0_1 l0_0 l0_1 a2_0 a2_1 a2_2 a2_3 a2_4 a2_5 a2_6 a2_7 bt1182.1 bt1182.2.1))))) = some r := H
         have A106 := Aside0.mk A1060
         clear A1060
         replace H := Option.bind_eq_some_iff.mp H
         obtain ⟨⟨t1182, t1183, t1184⟩, A1070, H⟩ := H
         replace H : ((exits_Safe.f l0_0 l0_1 l1).bind fun bt1186 => ((exits_Safe.f l0_0 l0_1 t1174).bind fun bt1190 => (if t1180 = 0 then (if t1184 = 0 then (if bt1186.2.2.2 = 0 then (if bt1190.2.2.2 = 0 then (if (!(t1182 == (wrap64 (t1178 + (wrap64 (60 * t1171))))) || (!(t1183 == (wrap64 (t1179 + (wrap64 (60 * t1172))))))) = true then (cottonpadtop_TopAlarmed.j2 kj93 l1 l3 l4 t1166 t1171 t1172 bt1190.1 true l0_0 l0_1 l0_0 l0_1 a2_0 a2_1 a2_2 a2_3 a2_4 a2_5 a2_6 a2_7 t1182 t1183) else (cottonpadtop_TopAlarmed.j2 kj93 l1 l3 l4 t1166 t1171 t1172 bt1190.1 (decide (bt1190.1 > bt1186.1)) l0_0 l0_1 l0_0 l0_1 a2_0 a2_1 a2_2 a2_3 a2_4 a2_5 a2_6 a2_7 t1182 t1183)) else (cottonpadtop_TopAlarmed.j2 kj93 l1 l3 l4 t1166 t1171 t1172 bt1190.1 true l0_0 l0_1 l0_0 l0_1 a2_0 a2_1 a2_2 a2_3 a2_4 a2_5 a2_6 a2_7 t1182 t1183)) else (cottonpadtop_TopAlarmed.j2 kj93 l1 l3 l4 t1166 t1171 t1172 bt1190.1 true l0_0 l0_1 l0_0 l0_1 a2_0 a2_1 a2_2 a2_3 a2_4 a2_5 a2_6 a2_7 t1182 t1183)) else (cottonpadtop_TopAlarmed.j2 kj93 l1 l3 l4 t1166 t1171 t1172 bt1190.1 true l0_0 l0_1 l0_0 l0_1 a2_0 a2_1 a2_2 a2_3 a2_4 a2_5 a2_6 a2_7 t1182 t1183)) else (cottonpadtop_TopAlarmed.j2 kj93 l1 l3 l4 t1166 t1171 t1172 bt1190.1 true l0_0 l0_1 l0_0 l0_1 a2_0 a2_1 a2_2 a2_3 a2_4 a2_5 a2_6 a2_7 t1182 t1183)))) = some r := H
         have A107 := Aside0.mk A1070
         clear A1070
         replace H := Option.bind_eq_some_iff.mp H
         obtain ⟨⟨t1186, t1187, t1188, t1189⟩, A1080, H⟩ := H
         replace H : ((exits_Safe.f l0_0 l0_1 t1174).bind fun bt1190 => (if t1180 = 0 then (if t1184 = 0 then (if t1189 = 0 then (if bt1190.2.2.2 = 0 then (if (!(t1182 == (wrap64 (t1178 + (wrap64 (60 * t1171))))) || (!(t1183 == (wrap64 (t1179 + (wrap64 (60 * t1172))))))) = true then (cottonpadtop_TopAlarmed.j2 kj93 l1 l3 l4 t1166 t1171 t1172 bt1190.1 true l0_0 l0_1 l0_0 l0_1 a2_0 a2_1 a2_2 a2_3 a2_4 a2_5 a2_6 a2_7 t1182 t1183) else (cottonpadtop_TopAlarmed.j2 kj93 l1 l3 l4 t1166 t1171 t1172 bt1190.1 (decide (bt1190.1 > t1186)) l0_0 l0_1 l0_0 l0_1 a2_0 a2_1 a2_2 a2_3 a2_4 a2_5 a2_6 a2_7 t1182 t1183)) else (cottonpadtop_TopAlarmed.j2 kj93 l1 l3 l4 t1166 t1171 t1172 bt1190.1 true l0_0 l0_1 l0_0 l0_1 a2_0 a2_1 a2_2 a2_3 a2_4 a2_5 a2_6 a2_7 t1182 t1183)) else (cottonpadtop_TopAlarmed.j2 kj93 l1 l3 l4 t1166 t1171 t1172 bt1190.1 true l0_0 l0_1 l0_0 l0_1 a2_0 a2_1 a2_2 a2_3 a2_4 a2_5 a2_6 a2_7 t1182 t1183)) else (cottonpadtop_TopAlarmed.j2 kj93 l1 l3 l4 t1166 t1171 t1172 bt1190.1 true l0_0 l0_1 l0_0 l0_1 a2_0 a2_1 a2_2 a2_3 a2_4 a2_5 a2_6 a2_7 t1182 t1183)) else (cottonpadtop_TopAlarmed.j2 kj93 l1 l3 l4 t1166 t1171 t1172 bt1190.1 true l0_0 l0_1 l0_0 l0_1 a2_0 a2_1 a2_2 a2_3 a2_4 a2_5 a2_6 a2_7 t1182 t1183))) = some r := H
         have A108 := Aside0.mk A1080
         clear A1080
         replace H := Option.bind_eq_some_iff.mp H
         obtain ⟨⟨t1190, t1191, t1192, t1193⟩, A1090, H⟩ := H
         replace H : (if t1180 = 0 then (if t1184 = 0 then (if t1189 = 0 then (if t1193 = 0 then (if (!(t1182 == (wrap64 (t1178 + (wrap64 (60 * t1171))))) || (!(t1183 == (wrap64 (t1179 + (wrap64 (60 * t1172))))))) = true then (cottonpadtop_TopAlarmed.j2 kj93 l1 l3 l4 t1166 t1171 t1172 t1190 true l0_0 l0_1 l0_0 l0_1 a2_0 a2_1 a2_2 a2_3 a2_4 a2_5 a2_6 a2_7 t1182 t1183) else (cottonpadtop_TopAlarmed.j2 kj93 l1 l3 l4 t1166 t1171 t1172 t1190 (decide (t1190 > t1186)) l0_0 l0_1 l0_0 l0_1 a2_0 a2_1 a2_2 a2_3 a2_4 a2_5 a2_6 a2_7 t1182 t1183)) else (cottonpadtop_TopAlarmed.j2 kj93 l1 l3 l4 t1166 t1171 t1172 t1190 true l0_0 l0_1 l0_0 l0_1 a2_0 a2_1 a2_2 a2_3 a2_4 a2_5 a2_6 a2_7 t1182 t1183)) else (cottonpadtop_TopAlarmed.j2 kj93 l1 l3 l4 t1166 t1171 t1172 t1190 true l0_0 l0_1 l0_0 l0_1 a2_0 a2_1 a2_2 a2_3 a2_4 a2_5 a2_6 a2_7 t1182 t1183)) else (cottonpadtop_TopAlarmed.j2 kj93 l1 l3 l4 t1166 t1171 t1172 t1190 true l0_0 l0_1 l0_0 l0_1 a2_0 a2_1 a2_2 a2_3 a2_4 a2_5 a2_6 a2_7 t1182 t1183)) else (cottonpadtop_TopAlarmed.j2 kj93 l1 l3 l4 t1166 t1171 t1172 t1190 true l0_0 l0_1 l0_0 l0_1 a2_0 a2_1 a2_2 a2_3 a2_4 a2_5 a2_6 a2_7 t1182 t1183)) = some r := H
         have A109 := Aside0.mk A1090
         clear A1090
         have HC110 := Aside0.mk H
         clear H
         have hnb111 := NB1163_1164.out
         have hnc111 := NB1164_1163.out
         have hnb112 := NB1163_1165.out
         have hnc112 := NB1165_1163.out
         have hcz113_0 : wc.cell? ⟨gb1163, 0, none⟩ = some (.slice A0_0 l0_0.length c0_0) := bc_ BK1163 0
         have hcz113_1 : wc.cell? ⟨gb1163, 1, none⟩ = some (.slice A0_1 l0_1.length c0_1) := bc_ BK1163 1
         have hfz113_0 := blk_frozen BK1163.out 0
         have hfz113_1 := blk_frozen BK1163.out 1
         try have hz6_ : World.cell? _ ⟨gb1164, 0, none⟩ = some (.slice A1 l1.length c1) := bc_ BK1164 0
         go_upto_region 17 with (first | ((with_reducible refine gate_slot (t := 112) rfl ?_); refine goesCL_ (some 115) rfl rfl Tryd.func49 (by decide +kernel) rfl #[.pointer (some ⟨gb1164, 0, none⟩), .pointer (some ⟨gb1163, 0, none⟩)] #[.int .i64 t1171, .int .i64 t1172, .pointer (some ⟨gb1164, 0, none⟩), .pointer (some ⟨gb1163, 0, none⟩)] rfl rfl (by first | rfl | (simp only [List.map_toArray, List.map_cons, List.map_nil, List.append_toArray, List.cons_append, List.nil_append]; done) | (simp only [List.map_toArray, List.map_cons, List.map_nil, List.append_toArray, List.cons_append, List.nil_append]; rfl)) ?_; (with_reducible refine (cottonpadtop_topafter.calls kj93 t1171 t1172 _ _ l1 _ _ l0_0 _ _ l0_1 t1174 true _ ?side1 ?side2 ?side3 ?side4 ?side5 ?side6 gb1164 gb1163 (bk_ BK1164) (bk_ BK1163) A104.out).mono ?_); (case side1 => exact kc_ HR1 HB); (case side2 => exact HC1.out); (case side3 => exact kc_ HR0_0 HB); (case side4 => exact HC0_0.out); (case side5 => exact kc_ HR0_1 HB); (case side6 => exact HC0_1.out); rintro e w114 ⟨v1176, rfl, ho0, hb⟩; refine ⟨_, rfl, ?_⟩; have n0_ := Aside0.mk (Kd.R_lower ho0 (below_size (be3_ HB GE1163 GE1164 GE1165))); have n1_ := bb_ BK1163 hb; have n2_ := bb_ BK1164 hb; have n3_ := bb_ BK1165 hb; have n4_ := bs3_ HB GE1163 GE1164 GE1165 hb; clear BK1163; clear BK1164; clear BK1165; clear HB; have HO1177 := n0_; have BK1163 := n1_; have BK1164 := n2_; have hz6_ : World.cell? _ ⟨gb1164, 0, none⟩ = some (.slice A1 l1.length c1) := bc_ BK1164 0; have BK1165 := n3_; have HB := n4_; clear n0_ n1_ n2_ n3_ n4_; (try clear hb); (try clear hb2); (try clear hk); (try clear hi); (try clear ho0); have hcz115_0 : w114.cell? ⟨gb1163, 0, none⟩ = some (.slice A0_0 l0_0.length c0_0) := bc_ BK1163 0; have hcz115_1 : w114.cell? ⟨gb1163, 1, none⟩ = some (.slice A0_1 l0_1.length c0_1) := bc_ BK1163 1; have hfz115_0 := blk_frozen BK1163.out 0; have hfz115_1 := blk_frozen BK1163.out 1) | ((with_reducible refine gate_callee (f := 19) rfl ?_); refine goesL_ (some 124) rfl rfl Tryd.func19 (by decide +kernel) rfl #[.agg #[.slice A0_0 l0_0.length c0_0, .slice A0_1 l0_1.length c0_1], .slice A1 l1.length c1] rfl ls_ ?_; (with_reducible refine (exits_Out.calls _ _ l0_0 _ _ l0_1 _ _ l1 t1178 t1179 t1180 _ ?side7 ?side1 ?side2 ?side3 ?side4 ?side5 ?side6 A106.out).mono ?_); (case side1 => exact kc_ HR0_0 HB); (case side2 => exact HC0_0.out); (case side3 => exact kc_ HR0_1 HB); (case side4 => exact HC0_1.out); (case side5 => exact kc_ HR1 HB); (case side6 => exact HC1.out); (case side7 => exact GlobsE.below HG.out.1 (be3_ HB GE1163 GE1164 GE1165)); rintro e w116 ⟨rfl, hb⟩; refine ⟨_, rfl, ?_⟩; have n0_ := rb_ HO1177 hb; have n1_ := bb_ BK1163 hb; have n2_ := bb_ BK1164 hb; have n3_ := bb_ BK1165 hb; have n4_ := bs3_ HB GE1163 GE1164 GE1165 hb; clear HO1177; clear BK1163; clear BK1164; clear BK1165; clear HB; have HO1177 := n0_; have BK1163 := n1_; have BK1164 := n2_; have hz6_ : World.cell? _ ⟨gb1164, 0, none⟩ = some (.slice A1 l1.length c1) := bc_ BK1164 0; have BK1165 := n3_; have HB := n4_; clear n0_ n1_ n2_ n3_ n4_; (try clear hb); (try clear hb2); (try clear hk); (try clear hi)) | ((with_reducible refine gate_dst (N := 18) rfl ?_); (try (refine gate_guard (by rfl) ?_; dsimp only)); refine box_event ?hg (N := 18) ?hd (cs := #[.int .i64 0, .int .i64 0]) (t := 36) ?hr ?_; (case hd => rfl); (case hg => rfl); (case hr => exact gs_); intro gb1181 hg w117 hbox hb; have n0_ := rb_ HO1177 hb; have n1_ := bb_ BK1163 hb; have n2_ := bb_ BK1164 hb; have n3_ := bb_ BK1165 hb; have n4_ := bs3_ HB GE1163 GE1164 GE1165 hb; have n5_ := Aside0.mk (hbox); have n6_ := hl_ hg (be3_ HB GE1163 GE1164 GE1165); have n7_ := hl_ hg (be3_ HB GE1163 GE1164 GE1165); have n8_ := Aside0.mk ((by rw [hg]; exact Nat.ne_of_lt (blk_lt (bk_ BK1163)) : gb1163 ≠ gb1181)); have n9_ := Aside0.mk ((by rw [hg]; exact Nat.ne_of_gt (blk_lt (bk_ BK1163)) : gb1181 ≠ gb1163)); have n10_ := Aside0.mk ((by rw [hg]; exact Nat.ne_of_lt (blk_lt (bk_ BK1164)) : gb1164 ≠ gb1181)); have n11_ := Aside0.mk ((by rw [hg]; exact Nat.ne_of_gt (blk_lt (bk_ BK1164)) : gb1181 ≠ gb1164)); have n12_ := Aside0.mk ((by rw [hg]; exact Nat.ne_of_lt (blk_lt (bk_ BK1165)) : gb1165 ≠ gb1181)); have n13_ := Aside0.mk ((by rw [hg]; exact Nat.ne_of_gt (blk_lt (bk_ BK1165)) : gb1181 ≠ gb1165)); clear HO1177; clear BK1163; clear BK1164; clear BK1165; clear HB; have HO1177 := n0_; have BK1163 := n1_; have BK1164 := n2_; have hz6_ : World.cell? _ ⟨gb1164, 0, none⟩ = some (.slice A1 l1.length c1) := bc_ BK1164 0; have BK1165 := n3_; have HB := n4_; have BK1181 := n5_; have GW1181 := n6_; have GE1181 := n7_; have NB1163_1181 := n8_; have NB1181_1163 := n9_; have NB1164_1181 := n10_; have NB1181_1164 := n11_; have NB1165_1181 := n12_; have NB1181_1165 := n13_; clear n0_ n1_ n2_ n3_ n4_ n5_ n6_ n7_ n8_ n9_ n10_ n11_ n12_ n13_; clear hb hbox hg; have hnb118 := NB1181_1163.out; have hnc118 := NB1163_1181.out; have hnb119 := NB1181_1164.out; have hnc119 := NB1164_1181.out; have hnb120 := NB1181_1165.out; have hnc120 := NB1165_1181.out; have hcz121_0 : w117.cell? ⟨gb1181, 0, none⟩ = some (.int .i64 0) := bc_ BK1181 0; have hcz121_1 : w117.cell? ⟨gb1181, 1, none⟩ = some (.int .i64 0) := bc_ BK1181 1; have hfz121_0 := blk_frozen BK1181.out 0; have hfz121_1 := blk_frozen BK1181.out 1; have hcz122_0 : w117.cell? ⟨gb1163, 0, none⟩ = some (.slice A0_0 l0_0.length c0_0) := bc_ BK1163 0; have hcz122_1 : w117.cell? ⟨gb1163, 1, none⟩ = some (.slice A0_1 l0_1.length c0_1) := bc_ BK1163 1; have hfz122_0 := blk_frozen BK1163.out 0; have hfz122_1 := blk_frozen BK1163.out 1; obtain ⟨Ao123, co123, eo123⟩ := Kd.R_slice HO1177.out; subst eo123) | ((with_reducible refine gate_callee (f := 19) rfl ?_); refine goesL_ (some 130) rfl rfl Tryd.func19 (by decide +kernel) rfl #[.agg #[.slice A0_0 l0_0.length c0_0, .slice A0_1 l0_1.length c0_1], .slice Ao123 t1174.length co123] rfl ls_ ?_; (with_reducible refine (exits_Out.calls _ _ l0_0 _ _ l0_1 _ _ t1174 t1182 t1183 t1184 _ ?side7 ?side1 ?side2 ?side3 ?side4 ?side5 ?side6 A107.out).mono ?_); (case side1 => exact Kd.C_below HR0_0.out (by repeat (first | (with_reducible first | exact HB.out | apply below_alloc | apply pw_below_drewN | apply below_drew1 | refine below_set ?_ GE1163.out | refine below_set ?_ GE1164.out | refine below_set ?_ GE1165.out | refine below_set ?_ GE1181.out) | exact HB.out))); (case side2 => exact HC0_0.out); (case side3 => exact Kd.C_below HR0_1.out (by repeat (first | (with_reducible first | exact HB.out | apply below_alloc | apply pw_below_drewN | apply below_drew1 | refine below_set ?_ GE1163.out | refine below_set ?_ GE1164.out | refine below_set ?_ GE1165.out | refine below_set ?_ GE1181.out) | exact HB.out))); (case side4 => exact HC0_1.out); (case side5 => refine (Kd.R_reads' (e := 48) (base := w.heap.size) (ok := fun k_ => True) (n := t1174.length) (c := co123) ?_).2.2; exact (by (with_reducible repeat (first | apply Kd.R_alloc | apply Kd.R_drewN | apply Kd.R_drew)); exact (Kd.R_mono (Kd.R_far (p := ⟨gb1181, 1, none⟩) (Kd.R_far (p := ⟨gb1181, 0, none⟩) (Kd.R_types HO1177.out BK1181.out (by decide)) (fun _ hk => hk.2) (.int .i64 t1178)) (fun _ hk => hk.2) (.int .i64 t1179)) (fun _ h_ => h_.1)))); (case side6 => exact (Kd.R_reads' HO1177.out).2.1); (case side7 => exact GlobsE.below HG.out.1 (by repeat (first | (with_reducible first | exact HB.out | apply below_alloc | apply pw_below_drewN | apply below_drew1 | refine below_set ?_ GE1163.out | refine below_set ?_ GE1164.out | refine below_set ?_ GE1165.out | refine below_set ?_ GE1181.out) | exact HB.out))); rintro e w124 ⟨rfl, hb⟩; refine ⟨_, rfl, ?_⟩; have n0_ := Aside0.mk (Kd.R_below (by (with_reducible repeat (first | apply Kd.R_alloc | apply Kd.R_drewN | apply Kd.R_drew)); exact (Kd.R_mono (Kd.R_far (p := ⟨gb1181, 1, none⟩) (Kd.R_far (p := ⟨gb1181, 0, none⟩) (Kd.R_types HO1177.out BK1181.out (by decide)) (fun _ hk => hk.2) (.int .i64 t1178)) (fun _ hk => hk.2) (.int .i64 t1179)) (fun _ h_ => h_.1))) hb); have n1_ := Aside0.mk (blk_below (g := gb1163) (o := .cells #[.slice A0_0 l0_0.length c0_0, .slice A0_1 l0_1.length c0_1] 25 (0, 0)) (by refine bx_ ?_; refine blk_far ?_ NB1163_1181.out _; refine bx_ ?_; refine blk_far ?_ NB1163_1181.out _; refine bx_ ?_; exact BK1163.out) hb); have n2_ := Aside0.mk (blk_below (g := gb1164) (o := .cells #[.slice A1 l1.length c1] 26 (0, 0)) (by refine bx_ ?_; refine blk_far ?_ NB1164_1181.out _; refine bx_ ?_; refine blk_far ?_ NB1164_1181.out _; refine bx_ ?_; exact BK1164.out) hb); have n3_ := Aside0.mk (blk_below (g := gb1165) (o := .cells #[.int .i64 a2_0, .int .i64 a2_1, .int .i64 a2_2, .int .i64 a2_3, .int .i64 a2_4, .int .i64 a2_5, .int .i64 a2_6, .int .i64 a2_7] 90 (0, 0)) (by refine bx_ ?_; refine blk_far ?_ NB1165_1181.out _; refine bx_ ?_; refine blk_far ?_ NB1165_1181.out _; refine bx_ ?_; exact BK1165.out) hb); have n4_ := Aside0.mk (blk_below (g := gb1181) (o := .cells #[.int .i64 t1178, .int .i64 t1179] 36 (0, 0)) (by refine bx_ ?_; refine blk_put (cs := #[.int .i64 t1178, .int .i64 0]) ?_ 1 _ rfl; refine bx_ ?_; refine blk_put (cs := #[.int .i64 0, .int .i64 0]) ?_ 0 _ rfl; refine bx_ ?_; exact BK1181.out) hb); have n5_ := Aside0.mk (below_step (by repeat (first | (with_reducible first | exact HB.out | apply below_alloc | apply pw_below_drewN | apply below_drew1 | refine below_set ?_ GE1163.out | refine below_set ?_ GE1164.out | refine below_set ?_ GE1165.out | refine below_set ?_ GE1181.out) | exact HB.out)) hb); clear HO1177; clear BK1163; clear BK1164; clear BK1165; clear BK1181; clear HB; have HO1177 := n0_; have BK1163 := n1_; have BK1164 := n2_; have hz6_ : World.cell? _ ⟨gb1164, 0, none⟩ = some (.slice A1 l1.length c1) := bc_ BK1164 0; have BK1165 := n3_; have BK1181 := n4_; have HB := n5_; clear n0_ n1_ n2_ n3_ n4_ n5_; (try clear hb); (try clear hb2); (try clear hk); (try clear hi)) | ((with_reducible refine gate_dst (N := 20) rfl ?_); (try (refine gate_guard (by rfl) ?_; dsimp only)); refine box_event ?hg (N := 20) ?hd (cs := #[.int .i64 0, .int .i64 0]) (t := 36) ?hr ?_; (case hd => rfl); (case hg => rfl); (case hr => exact gs_); intro gb1185 hg w125 hbox hb; have n0_ := rb_ HO1177 hb; have n1_ := bb_ BK1163 hb; have n2_ := bb_ BK1164 hb; have n3_ := bb_ BK1165 hb; have n4_ := bb_ BK1181 hb; have n5_ := Aside0.mk (below_step (by repeat (first | (with_reducible first | exact HB.out | apply below_alloc | apply pw_below_drewN | apply below_drew1 | refine below_set ?_ GE1163.out | refine below_set ?_ GE1164.out | refine below_set ?_ GE1165.out | refine below_set ?_ GE1181.out) | exact HB.out)) hb); have n6_ := Aside0.mk (hbox); have n7_ := Aside0.mk ((by rw [hg]; exact (below_size (by repeat (first | (with_reducible first | exact HB.out | apply below_alloc | apply pw_below_drewN | apply below_drew1 | refine below_set ?_ GE1163.out | refine below_set ?_ GE1164.out | refine below_set ?_ GE1165.out | refine below_set ?_ GE1181.out) | exact HB.out))) : w.heap.size ≤ gb1185)); have n8_ := Aside0.mk ((by rw [hg]; exact (below_size (by repeat (first | (with_reducible first | exact HB.out | apply below_alloc | apply pw_below_drewN | apply below_drew1 | refine below_set ?_ GE1163.out | refine below_set ?_ GE1164.out | refine below_set ?_ GE1165.out | refine below_set ?_ GE1181.out) | exact HB.out))) : w.heap.size ≤ gb1185)); have n9_ := Aside0.mk ((by rw [hg]; exact Nat.ne_of_lt (blk_lt (bk_ BK1163)) : gb1163 ≠ gb1185)); have n10_ := Aside0.mk ((by rw [hg]; exact Nat.ne_of_gt (blk_lt (bk_ BK1163)) : gb1185 ≠ gb1163)); have n11_ := Aside0.mk ((by rw [hg]; exact Nat.ne_of_lt (blk_lt (bk_ BK1164)) : gb1164 ≠ gb1185)); have n12_ := Aside0.mk ((by rw [hg]; exact Nat.ne_of_gt (blk_lt (bk_ BK1164)) : gb1185 ≠ gb1164)); have n13_ := Aside0.mk ((by rw [hg]; exact Nat.ne_of_lt (blk_lt (bk_ BK1165)) : gb1165 ≠ gb1185)); have n14_ := Aside0.mk ((by rw [hg]; exact Nat.ne_of_gt (blk_lt (bk_ BK1165)) : gb1185 ≠ gb1165)); have n15_ := Aside0.mk ((by rw [hg]; exact Nat.ne_of_lt (blk_lt (bk_ BK1181)) : gb1181 ≠ gb1185)); have n16_ := Aside0.mk ((by rw [hg]; exact Nat.ne_of_gt (blk_lt (bk_ BK1181)) : gb1185 ≠ gb1181)); clear HO1177; clear BK1163; clear BK1164; clear BK1165; clear BK1181; clear HB; have HO1177 := n0_; have BK1163 := n1_; have BK1164 := n2_; have hz6_ : World.cell? _ ⟨gb1164, 0, none⟩ = some (.slice A1 l1.length c1) := bc_ BK1164 0; have BK1165 := n3_; have BK1181 := n4_; have HB := n5_; have BK1185 := n6_; have GW1185 := n7_; have GE1185 := n8_; have NB1163_1185 := n9_; have NB1185_1163 := n10_; have NB1164_1185 := n11_; have NB1185_1164 := n12_; have NB1165_1185 := n13_; have NB1185_1165 := n14_; have NB1181_1185 := n15_; have NB1185_1181 := n16_; clear n0_ n1_ n2_ n3_ n4_ n5_ n6_ n7_ n8_ n9_ n10_ n11_ n12_ n13_ n14_ n15_ n16_; clear hb hbox hg; have hnb126 := NB1185_1163.out; have hnc126 := NB1163_1185.out; have hnb127 := NB1185_1164.out; have hnc127 := NB1164_1185.out; have hnb128 := NB1185_1165.out; have hnc128 := NB1165_1185.out; have hnb129 := NB1185_1181.out; have hnc129 := NB1181_1185.out; have hcz130_0 : w125.cell? ⟨gb1185, 0, none⟩ = some (.int .i64 0) := bc_ BK1185 0; have hcz130_1 : w125.cell? ⟨gb1185, 1, none⟩ = some (.int .i64 0) := bc_ BK1185 1; have hfz130_0 := blk_frozen BK1185.out 0; have hfz130_1 := blk_frozen BK1185.out 1; have hcz131_0 : w125.cell? ⟨gb1163, 0, none⟩ = some (.slice A0_0 l0_0.length c0_0) := bc_ BK1163 0; have hcz131_1 : w125.cell? ⟨gb1163, 1, none⟩ = some (.slice A0_1 l0_1.length c0_1) := bc_ BK1163 1; have hfz131_0 := blk_frozen BK1163.out 0; have hfz131_1 := blk_frozen BK1163.out 1) | ((with_reducible refine gate_callee (f := 26) rfl ?_); refine goesL_ (some 136) rfl rfl Tryd.func26 (by decide +kernel) rfl #[.agg #[.slice A0_0 l0_0.length c0_0, .slice A0_1 l0_1.length c0_1], .slice A1 l1.length c1] rfl ls_ ?_; (with_reducible refine (exits_Safe.calls _ _ l0_0 _ _ l0_1 _ _ l1 t1186 t1187 t1188 t1189 _ ?side7 ?side1 ?side2 ?side3 ?side4 ?side5 ?side6 A108.out).mono ?_); (case side1 => exact Kd.C_below HR0_0.out (by repeat (first | (with_reducible first | exact HB.out | apply below_alloc | apply pw_below_drewN | apply below_drew1 | refine below_set ?_ GE1163.out | refine below_set ?_ GE1164.out | refine below_set ?_ GE1165.out | refine below_set ?_ GE1181.out | refine below_set ?_ GE1185.out) | exact HB.out))); (case side2 => exact HC0_0.out); (case side3 => exact Kd.C_below HR0_1.out (by repeat (first | (with_reducible first | exact HB.out | apply below_alloc | apply pw_below_drewN | apply below_drew1 | refine below_set ?_ GE1163.out | refine below_set ?_ GE1164.out | refine below_set ?_ GE1165.out | refine below_set ?_ GE1181.out | refine below_set ?_ GE1185.out) | exact HB.out))); (case side4 => exact HC0_1.out); (case side5 => exact Kd.C_below HR1.out (by repeat (first | (with_reducible first | exact HB.out | apply below_alloc | apply pw_below_drewN | apply below_drew1 | refine below_set ?_ GE1163.out | refine below_set ?_ GE1164.out | refine below_set ?_ GE1165.out | refine below_set ?_ GE1181.out | refine below_set ?_ GE1185.out) | exact HB.out))); (case side6 => exact HC1.out); (case side7 => exact Globs.below HG.out (by repeat (first | (with_reducible first | exact HB.out | apply below_alloc | apply pw_below_drewN | apply below_drew1 | refine below_set ?_ GE1163.out | refine below_set ?_ GE1164.out | refine below_set ?_ GE1165.out | refine below_set ?_ GE1181.out | refine below_set ?_ GE1185.out) | exact HB.out))); rintro e w132 ⟨rfl, hb⟩; refine ⟨_, rfl, ?_⟩; have n0_ := Aside0.mk (Kd.R_below (by (with_reducible repeat (first | apply Kd.R_alloc | apply Kd.R_drewN | apply Kd.R_drew)); exact (Kd.R_mono (Kd.R_far (p := ⟨gb1185, 1, none⟩) (Kd.R_far (p := ⟨gb1185, 0, none⟩) (Kd.R_types HO1177.out BK1185.out (by decide)) (fun _ hk => hk.2) (.int .i64 t1182)) (fun _ hk => hk.2) (.int .i64 t1183)) (fun _ h_ => h_.1))) hb); have n1_ := Aside0.mk (blk_below (g := gb1163) (o := .cells #[.slice A0_0 l0_0.length c0_0, .slice A0_1 l0_1.length c0_1] 25 (0, 0)) (by refine bx_ ?_; refine blk_far ?_ NB1163_1185.out _; refine bx_ ?_; refine blk_far ?_ NB1163_1185.out _; refine bx_ ?_; exact BK1163.out) hb); have n2_ := Aside0.mk (blk_below (g := gb1164) (o := .cells #[.slice A1 l1.length c1] 26 (0, 0)) (by refine bx_ ?_; refine blk_far ?_ NB1164_1185.out _; refine bx_ ?_; refine blk_far ?_ NB1164_1185.out _; refine bx_ ?_; exact BK1164.out) hb); have n3_ := Aside0.mk (blk_below (g := gb1165) (o := .cells #[.int .i64 a2_0, .int .i64 a2_1, .int .i64 a2_2, .int .i64 a2_3, .int .i64 a2_4, .int .i64 a2_5, .int .i64 a2_6, .int .i64 a2_7] 90 (0, 0)) (by refine bx_ ?_; refine blk_far ?_ NB1165_1185.out _; refine bx_ ?_; refine blk_far ?_ NB1165_1185.out _; refine bx_ ?_; exact BK1165.out) hb); have n4_ := Aside0.mk (blk_below (g := gb1181) (o := .cells #[.int .i64 t1178, .int .i64 t1179] 36 (0, 0)) (by refine bx_ ?_; refine blk_far ?_ NB1181_1185.out _; refine bx_ ?_; refine blk_far ?_ NB1181_1185.out _; refine bx_ ?_; exact BK1181.out) hb); have n5_ := Aside0.mk (blk_below (g := gb1185) (o := .cells #[.int .i64 t1182, .int .i64 t1183] 36 (0, 0)) (by refine bx_ ?_; refine blk_put (cs := #[.int .i64 t1182, .int .i64 0]) ?_ 1 _ rfl; refine bx_ ?_; refine blk_put (cs := #[.int .i64 0, .int .i64 0]) ?_ 0 _ rfl; refine bx_ ?_; exact BK1185.out) hb); have n6_ := Aside0.mk (below_step (by repeat (first | (with_reducible first | exact HB.out | apply below_alloc | apply pw_below_drewN | apply below_drew1 | refine below_set ?_ GE1163.out | refine below_set ?_ GE1164.out | refine below_set ?_ GE1165.out | refine below_set ?_ GE1181.out | refine below_set ?_ GE1185.out) | exact HB.out)) hb); clear HO1177; clear BK1163; clear BK1164; clear BK1165; clear BK1181; clear BK1185; clear HB; have HO1177 := n0_; have BK1163 := n1_; have BK1164 := n2_; have hz6_ : World.cell? _ ⟨gb1164, 0, none⟩ = some (.slice A1 l1.length c1) := bc_ BK1164 0; have BK1165 := n3_; have BK1181 := n4_; have BK1185 := n5_; have HB := n6_; clear n0_ n1_ n2_ n3_ n4_ n5_ n6_; (try clear hb); (try clear hb2); (try clear hk); (try clear hi); have hcz133_0 : w132.cell? ⟨gb1163, 0, none⟩ = some (.slice A0_0 l0_0.length c0_0) := bc_ BK1163 0; have hcz133_1 : w132.cell? ⟨gb1163, 1, none⟩ = some (.slice A0_1 l0_1.length c0_1) := bc_ BK1163 1; have hfz133_0 := blk_frozen BK1163.out 0; have hfz133_1 := blk_frozen BK1163.out 1) | ((with_reducible refine gate_callee (f := 26) rfl ?_); refine goesL_ (some 144) rfl rfl Tryd.func26 (by decide +kernel) rfl #[.agg #[.slice A0_0 l0_0.length c0_0, .slice A0_1 l0_1.length c0_1], .slice Ao123 t1174.length co123] rfl ls_ ?_; (with_reducible refine (exits_Safe.calls _ _ l0_0 _ _ l0_1 _ _ t1174 t1190 t1191 t1192 t1193 _ ?side7 ?side1 ?side2 ?side3 ?side4 ?side5 ?side6 A109.out).mono ?_); (case side1 => exact kc_ HR0_0 HB); (case side2 => exact HC0_0.out); (case side3 => exact kc_ HR0_1 HB); (case side4 => exact HC0_1.out); (case side5 => exact kd_ (Kd.R_reads' HO1177.out).2.2); (case side6 => exact (Kd.R_reads' HO1177.out).2.1); (case side7 => exact Globs.below HG.out (by repeat (first | (with_reducible first | exact HB.out | apply below_alloc | apply pw_below_drewN | apply below_drew1 | refine below_set ?_ GE1163.out | refine below_set ?_ GE1164.out | refine below_set ?_ GE1165.out | refine below_set ?_ GE1181.out | refine below_set ?_ GE1185.out) | exact HB.out))); rintro e w134 ⟨rfl, hb⟩; refine ⟨_, rfl, ?_⟩; have n0_ := rb_ HO1177 hb; have n1_ := bb_ BK1163 hb; have n2_ := bb_ BK1164 hb; have n3_ := bb_ BK1165 hb; have n4_ := bb_ BK1181 hb; have n5_ := bb_ BK1185 hb; have n6_ := Aside0.mk (below_step (by repeat (first | (with_reducible first | exact HB.out | apply below_alloc | apply pw_below_drewN | apply below_drew1 | refine below_set ?_ GE1163.out | refine below_set ?_ GE1164.out | refine below_set ?_ GE1165.out | refine below_set ?_ GE1181.out | refine below_set ?_ GE1185.out) | exact HB.out)) hb); clear HO1177; clear BK1163; clear BK1164; clear BK1165; clear BK1181; clear BK1185; clear HB; have HO1177 := n0_; have BK1163 := n1_; have BK1164 := n2_; have hz6_ : World.cell? _ ⟨gb1164, 0, none⟩ = some (.slice A1 l1.length c1) := bc_ BK1164 0; have BK1165 := n3_; have BK1181 := n4_; have BK1185 := n5_; have HB := n6_; clear n0_ n1_ n2_ n3_ n4_ n5_ n6_; (try clear hb); (try clear hb2); (try clear hk); (try clear hi)))
         (try simp only [Act.put, List.setIfInBounds_toArray, List.set_cons_zero, List.set_cons_succ])
         go_cut [182] (fun v182 wc => ∃ (kq : Nat) (x182_109 : Bool), v182 = .bool x182_109 ∧ Aside0 (cottonpadtop_TopAlarmed.j2 kq l1 l3 l4 t1166 t1171 t1172 t1190 x182_109 l0_0 l0_1 l0_0 l0_1 a2_0 a2_1 a2_2 a2_3 a2_4 a2_5 a2_6 a2_7 t1182 t1183 = some r) ∧ Aside0 (kq ≤ kj93) ∧ Aside0 (wc.heap[gb1163]? = some (.cells #[(.slice A0_0 l0_0.length c0_0), (.slice A0_1 l0_1.length c0_1)] 25 (0, 0))) ∧ Aside0 (wc.heap[gb1164]? = some (.cells #[.slice A1 l1.length c1] 26 (0, 0))) ∧ Aside0 (wc.heap[gb1165]? = some (.cells #[.int .i64 a2_0, .int .i64 a2_1, .int .i64 a2_2, .int .i64 a2_3, .int .i64 a2_4, .int .i64 a2_5, .int .i64 a2_6, .int .i64 a2_7] 90 (0, 0))) ∧ Aside0 (wc.heap[gb1181]? = some (.cells #[.int .i64 t1178, .int .i64 t1179] 36 (0, 0))) ∧ Aside0 (wc.heap[gb1185]? = some (.cells #[.int .i64 t1182, .int .i64 t1183] 36 (0, 0))) ∧ Aside0 (Below w.heap.size w wc))
         case first =>
          have H := HC110.out
          clear HC110
          by_cases c135 : t1180 = 0
          ·rw [if_pos c135] at H
           have c135b0 : (t1180 == 0) = true := beq_iff_eq.mpr c135
           have c135b1 : (t1180 != 0) = false := bne_eq_false_iff_eq.mpr c135
           clear c135
           (first | rw [c135b0] | (simp only [i64_w, i32_w]; rw [c135b0]) | skip)
           by_cases c136 : t1184 = 0
           ·rw [if_pos c136] at H
            have c136b0 : (t1184 == 0) = true := beq_iff_eq.mpr c136
            have c136b1 : (t1184 != 0) = false := bne_eq_false_iff_eq.mpr c136
            clear c136
            by_cases c137 : t1189 = 0
            ·rw [if_pos c137] at H
             have c137b0 : (t1189 == 0) = true := beq_iff_eq.mpr c137
             have c137b1 : (t1189 != 0) = false := bne_eq_false_iff_eq.mpr c137
             clear c137
             by_cases c138 : t1193 = 0
             ·rw [if_pos c138] at H
              have c138b0 : (t1193 == 0) = true := beq_iff_eq.mpr c138
              have c138b1 : (t1193 != 0) = false := bne_eq_false_iff_eq.mpr c138
              clear c138
              by_cases c139 : (!(t1182 == (wrap64 (t1178 + (wrap64 (60 * t1171))))) || (!(t1183 == (wrap64 (t1179 + (wrap64 (60 * t1172))))))) = true
              ·rw [if_pos c139] at H
               have c139b0 : (!(t1182 == (wrap64 (t1178 + (wrap64 (60 * t1171))))) || (!(t1183 == (wrap64 (t1179 + (wrap64 (60 * t1172))))))) = true := c139
               clear c139
               exact absurd H (by rw [HRT.out]; cases kj93 <;> simp [cottonpadtop_TopAlarmed.j2])
              ·rw [if_neg c139] at H
               have c139b0 : (!(t1182 == (wrap64 (t1178 + (wrap64 (60 * t1171))))) || (!(t1183 == (wrap64 (t1179 + (wrap64 (60 * t1172))))))) = false := by simpa using c139
               clear c139
               have H' := Aside0.mk H
               clear H
               have hnb140 := NB1185_1163.out
               have hnc140 := NB1163_1185.out
               have hnb141 := NB1185_1164.out
               have hnc141 := NB1164_1185.out
               have hnb142 := NB1185_1165.out
               have hnc142 := NB1165_1185.out
               have hnb143 := NB1185_1181.out
               have hnc143 := NB1181_1185.out
               have hcz144_0 : w134.cell? ⟨gb1185, 0, none⟩ = some (.int .i64 t1182) := bc_ BK1185 0
               have hcz144_1 : w134.cell? ⟨gb1185, 1, none⟩ = some (.int .i64 t1183) := bc_ BK1185 1
               have hfz144_0 := blk_frozen BK1185.out 0
               have hfz144_1 := blk_frozen BK1185.out 1
               have hnb145 := NB1181_1163.out
               have hnc145 := NB1163_1181.out
               have hnb146 := NB1181_1164.out
               have hnc146 := NB1164_1181.out
               have hnb147 := NB1181_1165.out
               have hnc147 := NB1165_1181.out
               have hcz148_0 : w134.cell? ⟨gb1181, 0, none⟩ = some (.int .i64 t1178) := bc_ BK1181 0
               have hcz148_1 : w134.cell? ⟨gb1181, 1, none⟩ = some (.int .i64 t1179) := bc_ BK1181 1
               have hfz148_0 := blk_frozen BK1181.out 0
               have hfz148_1 := blk_frozen BK1181.out 1
               try have hz6_ : World.cell? _ ⟨gb1164, 0, none⟩ = some (.slice A1 l1.length c1) := bc_ BK1164 0
               go_wp2
               go_meet
               case rel => exact ⟨_, (decide (t1190 > t1186)), (by first | rfl | (simp; done) | (simp [*]; done)), H', ⟨by have := HJ6.out; have := HJ93.out; first | omega | exact Nat.le_refl _⟩, ⟨by refine bx_ ?_; exact BK1163.out⟩, ⟨by refine bx_ ?_; exact BK1164.out⟩, ⟨by refine bx_ ?_; exact BK1165.out⟩, ⟨by refine bx_ ?_; exact BK1181.out⟩, ⟨by refine bx_ ?_; exact BK1185.out⟩, ⟨by repeat (first | (with_reducible first | exact HB.out | apply below_alloc | apply pw_below_drewN | apply below_drew1 | refine below_set ?_ GE1163.out | refine below_set ?_ GE1164.out | refine below_set ?_ GE1165.out | refine below_set ?_ GE1181.out | refine below_set ?_ GE1185.out) | exact HB.out)⟩⟩
             ·rw [if_neg c138] at H
              have c138b0 : (t1193 == 0) = false := beq_eq_false_iff_ne.mpr c138
              have c138b1 : (t1193 != 0) = true := bne_iff_ne.mpr c138
              exact absurd H (by rw [HRT.out]; cases kj93 <;> simp [cottonpadtop_TopAlarmed.j2])
            ·rw [if_neg c137] at H
             have c137b0 : (t1189 == 0) = false := beq_eq_false_iff_ne.mpr c137
             have c137b1 : (t1189 != 0) = true := bne_iff_ne.mpr c137
             exact absurd H (by rw [HRT.out]; cases kj93 <;> simp [cottonpadtop_TopAlarmed.j2])
           ·rw [if_neg c136] at H
            have c136b0 : (t1184 == 0) = false := beq_eq_false_iff_ne.mpr c136
            have c136b1 : (t1184 != 0) = true := bne_iff_ne.mpr c136
            exact absurd H (by rw [HRT.out]; cases kj93 <;> simp [cottonpadtop_TopAlarmed.j2])
          ·rw [if_neg c135] at H
           have c135b0 : (t1180 == 0) = false := beq_eq_false_iff_ne.mpr c135
           have c135b1 : (t1180 != 0) = true := bne_iff_ne.mpr c135
           (first | rw [c135b0] | (simp only [i64_w, i32_w]; rw [c135b0]) | skip)
           exact absurd H (by rw [HRT.out]; cases kj93 <;> simp [cottonpadtop_TopAlarmed.j2])
         case rest =>
          as_aux_lemma =>
           clear HC110
           try clear c1
           try clear c2
           try clear p2
           try clear c3
           try clear c4
           try clear c5
           try clear c6
           try clear p6
           try clear c7
           try clear c8
           try clear c9
           try clear c10
           try clear c11
           try clear c12
           try clear c13
           try clear c14
           try clear c15
           try clear c19
           try clear c19b0
           try clear c19b1
           try clear c20
           try clear c20b0
           try clear c20b1
           try clear c20b2
           try clear c21
           try clear c22
           try clear c26
           try clear c27
           try clear c27b0
           try clear c28
           try clear c29
           try clear c34
           try clear c36
           try clear c36b0
           try clear c37
           try clear c38
           try clear c43
           try clear c45
           try clear c46
           try clear c47
           try clear c47b0
           try clear c47b1
           try clear c48
           try clear c49
           try clear c54
           try clear c58
           try clear c59
           try clear c60
           try clear p64
           try clear c65
           try clear c68
           try clear c69
           try clear c74
           try clear c77
           try clear c78
           try clear c83
           try clear c86
           try clear c87
           try clear c92
           try clear c95
           try clear c96
           try clear c99
           try clear c99b0
           try clear c99b1
           try clear c100
           try clear c100b0
           try clear c101
           try clear c101b0
           try clear c102
           try clear c103
           try clear c103b0
           try clear c103b1
           try clear c105
           try clear c111
           try clear c112
           try clear c118
           try clear c119
           try clear c120
           try clear c126
           try clear c127
           try clear c128
           try clear c129
           try clear c135
           try clear c135b0
           try clear c135b1
           try clear c136
           try clear c136b0
           try clear c136b1
           try clear c137
           try clear c137b0
           try clear c137b1
           try clear c138
           try clear c138b0
           try clear c138b1
           try clear c139
           try clear c139b0
           try clear c140
           try clear c141
           try clear c142
           try clear c143
           try clear c145
           try clear c146
           try clear c147
           try clear hcz113_0
           try clear hcz113_1
           try clear hcz115_0
           try clear hcz115_1
           try clear hcz121_0
           try clear hcz121_1
           try clear hcz122_0
           try clear hcz122_1
           try clear hcz130_0
           try clear hcz130_1
           try clear hcz131_0
           try clear hcz131_1
           try clear hcz133_0
           try clear hcz133_1
           try clear hcz144_0
           try clear hcz144_1
           try clear hcz148_0
           try clear hcz148_1
           try clear hcz16_0
           try clear hcz16_1
           try clear hcz23_0
           try clear hcz23_1
           try clear hcz25_0
           try clear hcz25_1
           try clear hcz30_0
           try clear hcz30_1
           try clear hcz32_0
           try clear hcz32_1
           try clear hcz35_0
           try clear hcz35_1
           try clear hcz35_2
           try clear hcz35_3
           try clear hcz35_4
           try clear hcz35_5
           try clear hcz35_6
           try clear hcz35_7
           try clear hcz39_0
           try clear hcz39_1
           try clear hcz41_0
           try clear hcz41_1
           try clear hcz44_0
           try clear hcz44_1
           try clear hcz44_2
           try clear hcz44_3
           try clear hcz44_4
           try clear hcz44_5
           try clear hcz44_6
           try clear hcz44_7
           try clear hcz50_0
           try clear hcz50_1
           try clear hcz52_0
           try clear hcz52_1
           try clear hcz55_0
           try clear hcz55_1
           try clear hcz55_2
           try clear hcz55_3
           try clear hcz55_4
           try clear hcz55_5
           try clear hcz55_6
           try clear hcz55_7
           try clear hcz61_0
           try clear hcz61_1
           try clear hcz63_0
           try clear hcz63_1
           try clear hcz66_0
           try clear hcz66_1
           try clear hcz66_2
           try clear hcz66_3
           try clear hcz66_4
           try clear hcz66_5
           try clear hcz66_6
           try clear hcz66_7
           try clear hcz70_0
           try clear hcz70_1
           try clear hcz72_0
           try clear hcz72_1
           try clear hcz75_0
           try clear hcz75_1
           try clear hcz75_2
           try clear hcz75_3
           try clear hcz75_4
           try clear hcz75_5
           try clear hcz75_6
           try clear hcz75_7
           try clear hcz79_0
           try clear hcz79_1
           try clear hcz81_0
           try clear hcz81_1
           try clear hcz84_0
           try clear hcz84_1
           try clear hcz84_2
           try clear hcz84_3
           try clear hcz84_4
           try clear hcz84_5
           try clear hcz84_6
           try clear hcz84_7
           try clear hcz88_0
           try clear hcz88_1
           try clear hcz90_0
           try clear hcz90_1
           try clear hcz97_0
           try clear hcz97_1
           try clear hcz97_2
           try clear hcz97_3
           try clear hcz97_4
           try clear hcz97_5
           try clear hcz97_6
           try clear hcz97_7
           try clear hfz113_0
           try clear hfz113_1
           try clear hfz115_0
           try clear hfz115_1
           try clear hfz121_0
           try clear hfz121_1
           try clear hfz122_0
           try clear hfz122_1
           try clear hfz130_0
           try clear hfz130_1
           try clear hfz131_0
           try clear hfz131_1
           try clear hfz133_0
           try clear hfz133_1
           try clear hfz144_0
           try clear hfz144_1
           try clear hfz148_0
           try clear hfz148_1
           try clear hfz16_0
           try clear hfz16_1
           try clear hfz23_0
           try clear hfz23_1
           try clear hfz25_0
           try clear hfz25_1
           try clear hfz30_0
           try clear hfz30_1
           try clear hfz32_0
           try clear hfz32_1
           try clear hfz35_0
           try clear hfz35_1
           try clear hfz35_2
           try clear hfz35_3
           try clear hfz35_4
           try clear hfz35_5
           try clear hfz35_6
           try clear hfz35_7
           try clear hfz39_0
           try clear hfz39_1
           try clear hfz41_0
           try clear hfz41_1
           try clear hfz44_0
           try clear hfz44_1
           try clear hfz44_2
           try clear hfz44_3
           try clear hfz44_4
           try clear hfz44_5
           try clear hfz44_6
           try clear hfz44_7
           try clear hfz50_0
           try clear hfz50_1
           try clear hfz52_0
           try clear hfz52_1
           try clear hfz55_0
           try clear hfz55_1
           try clear hfz55_2
           try clear hfz55_3
           try clear hfz55_4
           try clear hfz55_5
           try clear hfz55_6
           try clear hfz55_7
           try clear hfz61_0
           try clear hfz61_1
           try clear hfz63_0
           try clear hfz63_1
           try clear hfz66_0
           try clear hfz66_1
           try clear hfz66_2
           try clear hfz66_3
           try clear hfz66_4
           try clear hfz66_5
           try clear hfz66_6
           try clear hfz66_7
           try clear hfz70_0
           try clear hfz70_1
           try clear hfz72_0
           try clear hfz72_1
           try clear hfz75_0
           try clear hfz75_1
           try clear hfz75_2
           try clear hfz75_3
           try clear hfz75_4
           try clear hfz75_5
           try clear hfz75_6
           try clear hfz75_7
           try clear hfz79_0
           try clear hfz79_1
           try clear hfz81_0
           try clear hfz81_1
           try clear hfz84_0
           try clear hfz84_1
           try clear hfz84_2
           try clear hfz84_3
           try clear hfz84_4
           try clear hfz84_5
           try clear hfz84_6
           try clear hfz84_7
           try clear hfz88_0
           try clear hfz88_1
           try clear hfz90_0
           try clear hfz90_1
           try clear hfz97_0
           try clear hfz97_1
           try clear hfz97_2
           try clear hfz97_3
           try clear hfz97_4
           try clear hfz97_5
           try clear hfz97_6
           try clear hfz97_7
           try clear p2
           obtain ⟨kq, x182_109, rfl, HA, HJ109, BK1163, BK1164, BK1165, BK1181, BK1185, HB⟩ := hcut
           cases kq with
           | zero => exact absurd HA.out (by simp [cottonpadtop_TopAlarmed.j2])
           | succ kj109 =>
            have H := HA.out
            clear HA
            simp only [cottonpadtop_TopAlarmed.j2] at H
            by_cases c149 : x182_109 = true
            ·subst c149
             have H1 : (some false) = some r := by rw [if_pos rfl] at H; exact H
             clear H
             have H := H1
             clear H1
             exact absurd (H.trans (congrArg some HRT.out)) (by simp)
            ·replace c149 := Bool.eq_false_iff.mpr c149
             subst c149
             have H1 : ((cottonpadtop_topHotter.f kj109 l3 l4).bind fun t1194 => ((spray_Bursts.f a2_0 a2_1 a2_2 a2_3 a2_4 a2_5 a2_6 a2_7 t1194).bind fun bt1197 => (if bt1197.2.2 = 0 then (if bt1197.1 < 1 then (cottonpadtop_TopAlarmed.j3 kj109 l1 t1166 t1190 bt1197.1 bt1197.2.1 true l0_0 l0_1 l0_0 l0_1 t1182 t1183) else (if bt1197.1 > t1171 then (cottonpadtop_TopAlarmed.j3 kj109 l1 t1166 t1190 bt1197.1 bt1197.2.1 true l0_0 l0_1 l0_0 l0_1 t1182 t1183) else (if bt1197.2.1 < 1 then (cottonpadtop_TopAlarmed.j3 kj109 l1 t1166 t1190 bt1197.1 bt1197.2.1 true l0_0 l0_1 l0_0 l0_1 t1182 t1183) else (cottonpadtop_TopAlarmed.j3 kj109 l1 t1166 t1190 bt1197.1 bt1197.2.1 (decide (bt1197.2.1 > t1172)) l0_0 l0_1 l0_0 l0_1 t1182 t1183)))) else (cottonpadtop_TopAlarmed.j3 kj109 l1 t1166 t1190 bt1197.1 bt1197.2.1 true l0_0 l0_1 l0_0 l0_1 t1182 t1183)))) = some r := by rw [if_neg (show ¬ (false = true) by decide)] at H; exact H
             clear H
             have H := H1
             clear H1
             replace H := Option.bind_eq_some_iff.mp H
             obtain ⟨t1194, A1500, H⟩ := H
             replace H : ((spray_Bursts.f a2_0 a2_1 a2_2 a2_3 a2_4 a2_5 a2_6 a2_7 t1194).bind fun bt1197 => (if bt1197.2.2 = 0 then (if bt1197.1 < 1 then (cottonpadtop_TopAlarmed.j3 kj109 l1 t1166 t1190 bt1197.1 bt1197.2.1 true l0_0 l0_1 l0_0 l0_1 t1182 t1183) else (if bt1197.1 > t1171 then (cottonpadtop_TopAlarmed.j3 kj109 l1 t1166 t1190 bt1197.1 bt1197.2.1 true l0_0 l0_1 l0_0 l0_1 t1182 t1183) else (if bt1197.2.1 < 1 then (cottonpadtop_TopAlarmed.j3 kj109 l1 t1166 t1190 bt1197.1 bt1197.2.1 true l0_0 l0_1 l0_0 l0_1 t1182 t1183) else (cottonpadtop_TopAlarmed.j3 kj109 l1 t1166 t1190 bt1197.1 bt1197.2.1 (decide (bt1197.2.1 > t1172)) l0_0 l0_1 l0_0 l0_1 t1182 t1183)))) else (cottonpadtop_TopAlarmed.j3 kj109 l1 t1166 t1190 bt1197.1 bt1197.2.1 true l0_0 l0_1 l0_0 l0_1 t1182 t1183))) = some r := H
             have A150 := Aside0.mk A1500
             clear A1500
             replace H := Option.bind_eq_some_iff.mp H
             obtain ⟨⟨t1197, t1198, t1199⟩, A1510, H⟩ := H
             replace H : (if t1199 = 0 then (if t1197 < 1 then (cottonpadtop_TopAlarmed.j3 kj109 l1 t1166 t1190 t1197 t1198 true l0_0 l0_1 l0_0 l0_1 t1182 t1183) else (if t1197 > t1171 then (cottonpadtop_TopAlarmed.j3 kj109 l1 t1166 t1190 t1197 t1198 true l0_0 l0_1 l0_0 l0_1 t1182 t1183) else (if t1198 < 1 then (cottonpadtop_TopAlarmed.j3 kj109 l1 t1166 t1190 t1197 t1198 true l0_0 l0_1 l0_0 l0_1 t1182 t1183) else (cottonpadtop_TopAlarmed.j3 kj109 l1 t1166 t1190 t1197 t1198 (decide (t1198 > t1172)) l0_0 l0_1 l0_0 l0_1 t1182 t1183)))) else (cottonpadtop_TopAlarmed.j3 kj109 l1 t1166 t1190 t1197 t1198 true l0_0 l0_1 l0_0 l0_1 t1182 t1183)) = some r := H
             have A151 := Aside0.mk A1510
             clear A1510
             have HC152 := Aside0.mk H
             clear H
             try have hz6_ : World.cell? _ ⟨gb1164, 0, none⟩ = some (.slice A1 l1.length c1) := bc_ BK1164 0
             try go_wp2
             have n0_ := Aside0.mk (blk_drew BK1163.out)
             have n1_ := Aside0.mk (blk_drew BK1164.out)
             have n2_ := Aside0.mk (blk_drew BK1165.out)
             have n3_ := Aside0.mk (blk_drew BK1181.out)
             have n4_ := Aside0.mk (blk_drew BK1185.out)
             have n5_ := Aside0.mk (below_drew1 HB.out)
             clear BK1163
             clear BK1164
             clear BK1165
             clear BK1181
             clear BK1185
             clear HB
             have BK1163 := n0_
             have BK1164 := n1_; have hz6_ : World.cell? _ ⟨gb1164, 0, none⟩ = some (.slice A1 l1.length c1) := bc_ BK1164 0
             have BK1165 := n2_
             have BK1181 := n3_
             have BK1185 := n4_
             have HB := n5_
             clear n0_ n1_ n2_ n3_ n4_ n5_
             refine start_ (n := 12) (S := fun w' => w'.cell? ⟨gb1165, 0, none⟩ = some (.int .i64 a2_0) ∧ w'.cell? ⟨gb1165, 1, none⟩ = some (.int .i64 a2_1) ∧ w'.cell? ⟨gb1165, 2, none⟩ = some (.int .i64 a2_2) ∧ w'.cell? ⟨gb1165, 3, none⟩ = some (.int .i64 a2_3) ∧ w'.cell? ⟨gb1165, 4, none⟩ = some (.int .i64 a2_4) ∧ w'.cell? ⟨gb1165, 5, none⟩ = some (.int .i64 a2_5) ∧ w'.cell? ⟨gb1165, 6, none⟩ = some (.int .i64 a2_6) ∧ w'.cell? ⟨gb1165, 7, none⟩ = some (.int .i64 a2_7)) (ds := []) (bm_ 12 0) (by decide +kernel) rfl rfl ⟨bc_ BK1165 0, bc_ BK1165 1, bc_ BK1165 2, bc_ BK1165 3, bc_ BK1165 4, bc_ BK1165 5, bc_ BK1165 6, bc_ BK1165 7⟩ (fun hHeld => ?_); refine with_tabW cottonpadtop_TopAlarmed.tab19 cottonpadtop_TopAlarmed.bits19 (fun HT_ HW_ => ?_)
             generalize wc.drew = w153 at BK1163 BK1164 BK1165 BK1181 BK1185 HB hHeld ⊢
             refine pr2_ 1 185 12 2 HT_ rfl rfl ?_
             refine pr2_ 2 186 12 6 HT_ rfl rfl ?_
             refine ta2_ 0 184 12 7 HT_ HW_ rfl rfl hHeld ?_
             refine one_ (i := 3) (N := some 187) (bm_ 12 15) rfl rfl (one_of HT_.out (by decide +kernel)) (by decide) (fun K hK => ?_)
             refine goes_ Tryd.func50 (by decide +kernel) rfl #[.slice A3 l3.length c3, .slice A4 l4.length c4] (by rfl) rfl rfl ls_ ?_
             with_reducible refine (cottonpadtop_topHotter.calls kj109 _ _ l3 _ _ l4 t1194 _ ?side1 ?side2 ?side3 ?side4 A150.out).mono ?_
             (case side1 => exact kc_ HR3 HB)
             (case side2 => exact HC3.out)
             (case side3 => exact kc_ HR4 HB)
             (case side4 => exact HC4.out)
             rintro e w154 ⟨v1195, rfl, ho0, hb⟩
             refine ⟨_, rfl, ?_⟩
             have n0_ := Aside0.mk (Kd.R_lower ho0 (below_size (by repeat (first | (with_reducible first | exact HB.out | apply below_alloc | apply pw_below_drewN | apply below_drew1 | refine below_set ?_ GE1163.out | refine below_set ?_ GE1164.out | refine below_set ?_ GE1165.out | refine below_set ?_ GE1181.out | refine below_set ?_ GE1185.out) | exact HB.out))))
             have n1_ := bb_ BK1163 hb
             have n2_ := bb_ BK1164 hb
             have n3_ := bb_ BK1165 hb
             have n4_ := bb_ BK1181 hb
             have n5_ := bb_ BK1185 hb
             have n6_ := Aside0.mk (below_step (by repeat (first | (with_reducible first | exact HB.out | apply below_alloc | apply pw_below_drewN | apply below_drew1 | refine below_set ?_ GE1163.out | refine below_set ?_ GE1164.out | refine below_set ?_ GE1165.out | refine below_set ?_ GE1181.out | refine below_set ?_ GE1185.out) | exact HB.out)) hb)
             clear BK1163
             clear BK1164
             clear BK1165
             clear BK1181
             clear BK1185
             clear HB
             have HO1196 := n0_
             have BK1163 := n1_
             have BK1164 := n2_; have hz6_ : World.cell? _ ⟨gb1164, 0, none⟩ = some (.slice A1 l1.length c1) := bc_ BK1164 0
             have BK1165 := n3_
             have BK1181 := n4_
             have BK1185 := n5_
             have HB := n6_
             clear n0_ n1_ n2_ n3_ n4_ n5_ n6_
             (try clear hb)
             (try clear hb2)
             (try clear hk)
             (try clear hi)
             (try clear ho0)
             obtain ⟨Ao155, co155, eo155⟩ := Kd.R_slice HO1196.out
             (first | subst eo155 | (injection eo155 with f1_ f2_ f3_; have f4_ := f1_.symm; have f5_ := f3_.symm; clear f1_ f2_ f3_; subst f4_; subst f5_))
             refine hK.out _ _ ⟨bc_ BK1165 0, bc_ BK1165 1, bc_ BK1165 2, bc_ BK1165 3, bc_ BK1165 4, bc_ BK1165 5, bc_ BK1165 6, bc_ BK1165 7⟩ (fun hHeld => ?_)
             clear hK K
             refine norm_ (a' := ?_) ?_ ?_
             rotate_left
             ·show Act.put _ (some 187) _ = _
              simp only [Act.put, List.setIfInBounds_toArray, List.set_cons_zero, List.set_cons_succ, i64_w, i32_w]
              rfl
             refine one_ (i := 4) (N := some 188) (bm_ 12 31) rfl rfl (one_of HT_.out (by decide +kernel)) (by decide) (fun K hK => ?_)
             refine goes_ Tryd.func48 (by decide +kernel) rfl #[.agg #[.int .i64 a2_0, .int .i64 a2_1, .int .i64 a2_2, .int .i64 a2_3, .int .i64 a2_4, .int .i64 a2_5, .int .i64 a2_6, .int .i64 a2_7], .slice Ao155 t1194.length co155] (by rfl) rfl rfl ls_ ?_
             with_reducible refine (spray_Bursts.calls a2_0 a2_1 a2_2 a2_3 a2_4 a2_5 a2_6 a2_7 _ _ t1194 t1197 t1198 t1199 _ ?side1 ?side2 A151.out).mono ?_
             (case side1 => exact kd_ (Kd.R_reads' HO1196.out).2.2)
             (case side2 => exact (Kd.R_reads' HO1196.out).2.1)
             rintro e w156 ⟨rfl, hb⟩
             refine ⟨_, rfl, ?_⟩
             have n0_ := rb_ HO1196 hb
             have n1_ := bb_ BK1163 hb
             have n2_ := bb_ BK1164 hb
             have n3_ := bb_ BK1165 hb
             have n4_ := bb_ BK1181 hb
             have n5_ := bb_ BK1185 hb
             have n6_ := Aside0.mk (below_step (by repeat (first | (with_reducible first | exact HB.out | apply below_alloc | apply pw_below_drewN | apply below_drew1 | refine below_set ?_ GE1163.out | refine below_set ?_ GE1164.out | refine below_set ?_ GE1165.out | refine below_set ?_ GE1181.out | refine below_set ?_ GE1185.out) | exact HB.out)) hb)
             clear HO1196
             clear BK1163
             clear BK1164
             clear BK1165
             clear BK1181
             clear BK1185
             clear HB
             have HO1196 := n0_
             have BK1163 := n1_
             have BK1164 := n2_; have hz6_ : World.cell? _ ⟨gb1164, 0, none⟩ = some (.slice A1 l1.length c1) := bc_ BK1164 0
             have BK1165 := n3_
             have BK1181 := n4_
             have BK1185 := n5_
             have HB := n6_
             clear n0_ n1_ n2_ n3_ n4_ n5_ n6_
             (try clear hb)
             (try clear hb2)
             (try clear hk)
             (try clear hi)
             refine hK.out _ _ ⟨bc_ BK1165 0, bc_ BK1165 1, bc_ BK1165 2, bc_ BK1165 3, bc_ BK1165 4, bc_ BK1165 5, bc_ BK1165 6, bc_ BK1165 7⟩ (fun hHeld => ?_)
             clear hK K
             refine norm_ (a' := ?_) ?_ ?_
             rotate_left
             ·show Act.put _ (some 188) _ = _
              simp only [Act.put, List.setIfInBounds_toArray, List.set_cons_zero, List.set_cons_succ, i64_w, i32_w]
              rfl
             refine pr2_ 5 183 12 63 HT_ rfl rfl ?_
             refine pr2_ 6 189 12 127 HT_ rfl rfl ?_
             refine pr2_ 7 190 12 255 HT_ rfl rfl ?_
             refine pr2_ 8 191 12 511 HT_ rfl rfl ?_
             refine pr2_ 9 30 12 1023 HT_ rfl rfl ?_
             refine pr2_ 10 31 12 2047 HT_ rfl rfl ?_
             refine pr2_ 11 32 12 4095 HT_ rfl rfl ?_
             refine done_ (done_of HT_.out (by decide +kernel)) ?_
             try have hz6_ : World.cell? _ ⟨gb1164, 0, none⟩ = some (.slice A1 l1.length c1) := bc_ BK1164 0
             go_upto_region 20 with (fail)
             go_cut [211] (fun v211 wc => ∃ (kq : Nat) (x211_151 : Bool), v211 = .bool x211_151 ∧ Aside0 (cottonpadtop_TopAlarmed.j3 kq l1 t1166 t1190 t1197 t1198 x211_151 l0_0 l0_1 l0_0 l0_1 t1182 t1183 = some r) ∧ Aside0 (kq ≤ kj109) ∧ Aside0 (wc.heap[gb1163]? = some (.cells #[(.slice A0_0 l0_0.length c0_0), (.slice A0_1 l0_1.length c0_1)] 25 (0, 0))) ∧ Aside0 (wc.heap[gb1164]? = some (.cells #[.slice A1 l1.length c1] 26 (0, 0))) ∧ Aside0 (wc.heap[gb1165]? = some (.cells #[.int .i64 a2_0, .int .i64 a2_1, .int .i64 a2_2, .int .i64 a2_3, .int .i64 a2_4, .int .i64 a2_5, .int .i64 a2_6, .int .i64 a2_7] 90 (0, 0))) ∧ Aside0 (wc.heap[gb1181]? = some (.cells #[.int .i64 t1178, .int .i64 t1179] 36 (0, 0))) ∧ Aside0 (wc.heap[gb1185]? = some (.cells #[.int .i64 t1182, .int .i64 t1183] 36 (0, 0))) ∧ Aside0 (Below w.heap.size w wc))
             case first =>
              have H := HC152.out
              clear HC152
              by_cases c157 : t1199 = 0
              ·rw [if_pos c157] at H
               have c157b0 : (t1199 == 0) = true := beq_iff_eq.mpr c157
               have c157b1 : (t1199 != 0) = false := bne_eq_false_iff_eq.mpr c157
               clear c157
               (first | rw [c157b0] | (simp only [i64_w, i32_w]; rw [c157b0]) | skip)
               by_cases c158 : t1197 < 1
               ·rw [if_pos c158] at H
                have c158b0 : decide (t1197 < 1) = true := decide_eq_true c158
                clear c158
                exact absurd H (by rw [HRT.out]; cases kj109 <;> simp [cottonpadtop_TopAlarmed.j3])
               ·rw [if_neg c158] at H
                have c158b0 : decide (t1197 < 1) = false := decide_eq_false c158
                clear c158
                by_cases c159 : t1197 > t1171
                ·rw [if_pos c159] at H
                 have c159b0 : decide (t1171 < t1197) = true := decide_eq_true c159
                 clear c159
                 exact absurd H (by rw [HRT.out]; cases kj109 <;> simp [cottonpadtop_TopAlarmed.j3])
                ·rw [if_neg c159] at H
                 have c159b0 : decide (t1171 < t1197) = false := decide_eq_false c159
                 clear c159
                 by_cases c160 : t1198 < 1
                 ·rw [if_pos c160] at H
                  have c160b0 : decide (t1198 < 1) = true := decide_eq_true c160
                  clear c160
                  exact absurd H (by rw [HRT.out]; cases kj109 <;> simp [cottonpadtop_TopAlarmed.j3])
                 ·rw [if_neg c160] at H
                  have c160b0 : decide (t1198 < 1) = false := decide_eq_false c160
                  clear c160
                  have H' := Aside0.mk H
                  clear H
                  try have hz6_ : World.cell? _ ⟨gb1164, 0, none⟩ = some (.slice A1 l1.length c1) := bc_ BK1164 0
                  go_wp2
                  go_meet
                  case rel => exact ⟨_, (decide (t1198 > t1172)), (by first | rfl | (simp; done) | (simp [*]; done)), H', ⟨by have := HJ6.out; have := HJ93.out; have := HJ109.out; first | omega | exact Nat.le_refl _⟩, ⟨by refine bx_ ?_; exact BK1163.out⟩, ⟨by refine bx_ ?_; exact BK1164.out⟩, ⟨by refine bx_ ?_; exact BK1165.out⟩, ⟨by refine bx_ ?_; exact BK1181.out⟩, ⟨by refine bx_ ?_; exact BK1185.out⟩, ⟨by repeat (first | (with_reducible first | exact HB.out | apply below_alloc | apply pw_below_drewN | apply below_drew1 | refine below_set ?_ GE1163.out | refine below_set ?_ GE1164.out | refine below_set ?_ GE1165.out | refine below_set ?_ GE1181.out | refine below_set ?_ GE1185.out) | exact HB.out)⟩⟩
              ·rw [if_neg c157] at H
               have c157b0 : (t1199 == 0) = false := beq_eq_false_iff_ne.mpr c157
               have c157b1 : (t1199 != 0) = true := bne_iff_ne.mpr c157
               (first | rw [c157b0] | (simp only [i64_w, i32_w]; rw [c157b0]) | skip)
               exact absurd H (by rw [HRT.out]; cases kj109 <;> simp [cottonpadtop_TopAlarmed.j3])
             case rest =>
              as_aux_lemma =>
               clear HC152
               try clear c1
               try clear c2
               try clear p2
               try clear c3
               try clear c4
               try clear c5
               try clear c6
               try clear p6
               try clear c7
               try clear c8
               try clear c9
               try clear c10
               try clear c11
               try clear c12
               try clear c13
               try clear c14
               try clear c15
               try clear c16
               try clear c19
               try clear c19b0
               try clear c19b1
               try clear c20
               try clear c20b0
               try clear c20b1
               try clear c20b2
               try clear c21
               try clear c22
               try clear c26
               try clear c27
               try clear c27b0
               try clear c28
               try clear c29
               try clear c34
               try clear c36
               try clear c36b0
               try clear c37
               try clear c38
               try clear c43
               try clear c45
               try clear c46
               try clear c47
               try clear c47b0
               try clear c47b1
               try clear c48
               try clear c49
               try clear c50
               try clear c54
               try clear c58
               try clear c59
               try clear c60
               try clear p64
               try clear c65
               try clear c68
               try clear c69
               try clear c74
               try clear c77
               try clear c78
               try clear c83
               try clear c86
               try clear c87
               try clear c92
               try clear c95
               try clear c96
               try clear c99
               try clear c99b0
               try clear c99b1
               try clear c100
               try clear c100b0
               try clear c101
               try clear c101b0
               try clear c102
               try clear c103
               try clear c103b0
               try clear c103b1
               try clear c105
               try clear c111
               try clear c112
               try clear c118
               try clear c119
               try clear c120
               try clear c126
               try clear c127
               try clear c128
               try clear c129
               try clear c135
               try clear c135b0
               try clear c135b1
               try clear c136
               try clear c136b0
               try clear c136b1
               try clear c137
               try clear c137b0
               try clear c137b1
               try clear c138
               try clear c138b0
               try clear c138b1
               try clear c139
               try clear c139b0
               try clear c140
               try clear c141
               try clear c142
               try clear c143
               try clear c145
               try clear c146
               try clear c147
               try clear c149
               try clear c157
               try clear c157b0
               try clear c157b1
               try clear c158
               try clear c158b0
               try clear c159
               try clear c159b0
               try clear c160
               try clear c160b0
               try clear hcz113_0
               try clear hcz113_1
               try clear hcz115_0
               try clear hcz115_1
               try clear hcz121_0
               try clear hcz121_1
               try clear hcz122_0
               try clear hcz122_1
               try clear hcz130_0
               try clear hcz130_1
               try clear hcz131_0
               try clear hcz131_1
               try clear hcz133_0
               try clear hcz133_1
               try clear hcz144_0
               try clear hcz144_1
               try clear hcz148_0
               try clear hcz148_1
               try clear hcz16_0
               try clear hcz16_1
               try clear hcz23_0
               try clear hcz23_1
               try clear hcz25_0
               try clear hcz25_1
               try clear hcz30_0
               try clear hcz30_1
               try clear hcz32_0
               try clear hcz32_1
               try clear hcz35_0
               try clear hcz35_1
               try clear hcz35_2
               try clear hcz35_3
               try clear hcz35_4
               try clear hcz35_5
               try clear hcz35_6
               try clear hcz35_7
               try clear hcz39_0
               try clear hcz39_1
               try clear hcz41_0
               try clear hcz41_1
               try clear hcz44_0
               try clear hcz44_1
               try clear hcz44_2
               try clear hcz44_3
               try clear hcz44_4
               try clear hcz44_5
               try clear hcz44_6
               try clear hcz44_7
               try clear hcz50_0
               try clear hcz50_1
               try clear hcz52_0
               try clear hcz52_1
               try clear hcz55_0
               try clear hcz55_1
               try clear hcz55_2
               try clear hcz55_3
               try clear hcz55_4
               try clear hcz55_5
               try clear hcz55_6
               try clear hcz55_7
               try clear hcz61_0
               try clear hcz61_1
               try clear hcz63_0
               try clear hcz63_1
               try clear hcz66_0
               try clear hcz66_1
               try clear hcz66_2
               try clear hcz66_3
               try clear hcz66_4
               try clear hcz66_5
               try clear hcz66_6
               try clear hcz66_7
               try clear hcz70_0
               try clear hcz70_1
               try clear hcz72_0
               try clear hcz72_1
               try clear hcz75_0
               try clear hcz75_1
               try clear hcz75_2
               try clear hcz75_3
               try clear hcz75_4
               try clear hcz75_5
               try clear hcz75_6
               try clear hcz75_7
               try clear hcz79_0
               try clear hcz79_1
               try clear hcz81_0
               try clear hcz81_1
               try clear hcz84_0
               try clear hcz84_1
               try clear hcz84_2
               try clear hcz84_3
               try clear hcz84_4
               try clear hcz84_5
               try clear hcz84_6
               try clear hcz84_7
               try clear hcz88_0
               try clear hcz88_1
               try clear hcz90_0
               try clear hcz90_1
               try clear hcz97_0
               try clear hcz97_1
               try clear hcz97_2
               try clear hcz97_3
               try clear hcz97_4
               try clear hcz97_5
               try clear hcz97_6
               try clear hcz97_7
               try clear hfz113_0
               try clear hfz113_1
               try clear hfz115_0
               try clear hfz115_1
               try clear hfz121_0
               try clear hfz121_1
               try clear hfz122_0
               try clear hfz122_1
               try clear hfz130_0
               try clear hfz130_1
               try clear hfz131_0
               try clear hfz131_1
               try clear hfz133_0
               try clear hfz133_1
               try clear hfz144_0
               try clear hfz144_1
               try clear hfz148_0
               try clear hfz148_1
               try clear hfz16_0
               try clear hfz16_1
               try clear hfz23_0
               try clear hfz23_1
               try clear hfz25_0
               try clear hfz25_1
               try clear hfz30_0
               try clear hfz30_1
               try clear hfz32_0
               try clear hfz32_1
               try clear hfz35_0
               try clear hfz35_1
               try clear hfz35_2
               try clear hfz35_3
               try clear hfz35_4
               try clear hfz35_5
               try clear hfz35_6
               try clear hfz35_7
               try clear hfz39_0
               try clear hfz39_1
               try clear hfz41_0
               try clear hfz41_1
               try clear hfz44_0
               try clear hfz44_1
               try clear hfz44_2
               try clear hfz44_3
               try clear hfz44_4
               try clear hfz44_5
               try clear hfz44_6
               try clear hfz44_7
               try clear hfz50_0
               try clear hfz50_1
               try clear hfz52_0
               try clear hfz52_1
               try clear hfz55_0
               try clear hfz55_1
               try clear hfz55_2
               try clear hfz55_3
               try clear hfz55_4
               try clear hfz55_5
               try clear hfz55_6
               try clear hfz55_7
               try clear hfz61_0
               try clear hfz61_1
               try clear hfz63_0
               try clear hfz63_1
               try clear hfz66_0
               try clear hfz66_1
               try clear hfz66_2
               try clear hfz66_3
               try clear hfz66_4
               try clear hfz66_5
               try clear hfz66_6
               try clear hfz66_7
               try clear hfz70_0
               try clear hfz70_1
               try clear hfz72_0
               try clear hfz72_1
               try clear hfz75_0
               try clear hfz75_1
               try clear hfz75_2
               try clear hfz75_3
               try clear hfz75_4
               try clear hfz75_5
               try clear hfz75_6
               try clear hfz75_7
               try clear hfz79_0
               try clear hfz79_1
               try clear hfz81_0
               try clear hfz81_1
               try clear hfz84_0
               try clear hfz84_1
               try clear hfz84_2
               try clear hfz84_3
               try clear hfz84_4
               try clear hfz84_5
               try clear hfz84_6
               try clear hfz84_7
               try clear hfz88_0
               try clear hfz88_1
               try clear hfz90_0
               try clear hfz90_1
               try clear hfz97_0
               try clear hfz97_1
               try clear hfz97_2
               try clear hfz97_3
               try clear hfz97_4
               try clear hfz97_5
               try clear hfz97_6
               try clear hfz97_7
               try clear p2
               try clear p6
               try clear p64
               obtain ⟨kq, x211_151, rfl, HA, HJ151, BK1163, BK1164, BK1165, BK1181, BK1185, HB⟩ := hcut
               cases kq with
               | zero => exact absurd HA.out (by simp [cottonpadtop_TopAlarmed.j3])
               | succ kj151 =>
                have H := HA.out
                clear HA
                simp only [cottonpadtop_TopAlarmed.j3] at H
                by_cases c161 : x211_151 = true
                ·subst c161
                 have H1 : (some false) = some r := by rw [if_pos rfl] at H; exact H
                 clear H
                 have H := H1
                 clear H1
                 exact absurd (H.trans (congrArg some HRT.out)) (by simp)
                ·replace c161 := Bool.eq_false_iff.mpr c161
                 subst c161
                 have H1 : ((cottonpadtop_topafter.f kj151 t1197 t1198 l1 l0_0 l0_1).bind fun bt1200 => (if bt1200.2 = true then ((exits_Out.f l0_0 l0_1 bt1200.1).bind fun bt1204 => ((exits_Safe.f l0_0 l0_1 bt1200.1).bind fun bt1208 => (if t1166 = true then (if bt1204.2.2 = 0 then (if bt1208.2.2.2 = 0 then (if bt1204.1 ≤ t1182 then (if bt1204.2.1 ≤ t1183 then (some (decide (bt1208.1 ≥ t1190))) else (some false)) else (some false)) else (some false)) else (some false)) else (some false)))) else (some false))) = some r := by rw [if_neg (show ¬ (false = true) by decide)] at H; exact H
                 clear H
                 have H := H1
                 clear H1
                 replace H := Option.bind_eq_some_iff.mp H
                 obtain ⟨⟨t1200, t1201⟩, A1620, H⟩ := H
                 replace H : (if t1201 = true then ((exits_Out.f l0_0 l0_1 t1200).bind fun bt1204 => ((exits_Safe.f l0_0 l0_1 t1200).bind fun bt1208 => (if t1166 = true then (if bt1204.2.2 = 0 then (if bt1208.2.2.2 = 0 then (if bt1204.1 ≤ t1182 then (if bt1204.2.1 ≤ t1183 then (some (decide (bt1208.1 ≥ t1190))) else (some false)) else (some false)) else (some false)) else (some false)) else (some false)))) else (some false)) = some r := H
                 have A162 := Aside0.mk A1620
                 clear A1620
                 by_cases c163 : t1201 = true
                 ·subst c163
                  have H1 : ((exits_Out.f l0_0 l0_1 t1200).bind fun bt1204 => ((exits_Safe.f l0_0 l0_1 t1200).bind fun bt1208 => (if t1166 = true then (if bt1204.2.2 = 0 then (if bt1208.2.2.2 = 0 then (if bt1204.1 ≤ t1182 then (if bt1204.2.1 ≤ t1183 then (some (decide (bt1208.1 ≥ t1190))) else (some false)) else (some false)) else (some false)) else (some false)) else (some false)))) = some r := by rw [if_pos rfl] at H; exact H
                  clear H
                  have H := H1
                  clear H1
                  replace H := Option.bind_eq_some_iff.mp H
                  obtain ⟨⟨t1204, t1205, t1206⟩, A1640, H⟩ := H
                  replace H : ((exits_Safe.f l0_0 l0_1 t1200).bind fun bt1208 => (if t1166 = true then (if t1206 = 0 then (if bt1208.2.2.2 = 0 then (if t1204 ≤ t1182 then (if t1205 ≤ t1183 then (some (decide (bt1208.1 ≥ t1190))) else (some false)) else (some false)) else (some false)) else (some false)) else (some false))) = some r := H
                  have A164 := Aside0.mk A1640
                  clear A1640
                  replace H := Option.bind_eq_some_iff.mp H
                  obtain ⟨⟨t1208, t1209, t1210, t1211⟩, A1650, H⟩ := H
                  replace H : (if t1166 = true then (if t1206 = 0 then (if t1211 = 0 then (if t1204 ≤ t1182 then (if t1205 ≤ t1183 then (some (decide (t1208 ≥ t1190))) else (some false)) else (some false)) else (some false)) else (some false)) else (some false)) = some r := H
                  have A165 := Aside0.mk A1650
                  clear A1650
                  by_cases c166 : t1166 = true
                  ·subst c166
                   have H1 : (if t1206 = 0 then (if t1211 = 0 then (if t1204 ≤ t1182 then (if t1205 ≤ t1183 then (some (decide (t1208 ≥ t1190))) else (some false)) else (some false)) else (some false)) else (some false)) = some r := by rw [if_pos rfl] at H; exact H
                   clear H
                   have H := H1
                   clear H1
                   by_cases c167 : t1206 = 0
                   ·rw [if_pos c167] at H
                    have c167b0 : (t1206 == 0) = true := beq_iff_eq.mpr c167
                    have c167b1 : (t1206 != 0) = false := bne_eq_false_iff_eq.mpr c167
                    clear c167
                    by_cases c168 : t1211 = 0
                    ·rw [if_pos c168] at H
                     have c168b0 : (t1211 == 0) = true := beq_iff_eq.mpr c168
                     have c168b1 : (t1211 != 0) = false := bne_eq_false_iff_eq.mpr c168
                     clear c168
                     by_cases c169 : t1204 ≤ t1182
                     ·rw [if_pos c169] at H
                      have c169b0 : decide (t1204 ≤ t1182) = true := decide_eq_true c169
                      clear c169
                      by_cases c170 : t1205 ≤ t1183
                      ·rw [if_pos c170] at H
                       have c170b0 : decide (t1205 ≤ t1183) = true := decide_eq_true c170
                       clear c170
                       obtain rfl := Option.some.inj H
                       try have hz6_ : World.cell? _ ⟨gb1164, 0, none⟩ = some (.slice A1 l1.length c1) := bc_ BK1164 0
                       go_wp2_with (first | ((with_reducible refine gate_slot (t := 213) rfl ?_); refine goesCL_ (some 216) rfl rfl Tryd.func49 (by decide +kernel) rfl #[.pointer (some ⟨gb1164, 0, none⟩), .pointer (some ⟨gb1163, 0, none⟩)] #[.int .i64 t1197, .int .i64 t1198, .pointer (some ⟨gb1164, 0, none⟩), .pointer (some ⟨gb1163, 0, none⟩)] rfl rfl (by first | rfl | (simp only [List.map_toArray, List.map_cons, List.map_nil, List.append_toArray, List.cons_append, List.nil_append]; done) | (simp only [List.map_toArray, List.map_cons, List.map_nil, List.append_toArray, List.cons_append, List.nil_append]; rfl)) ?_; (with_reducible refine (cottonpadtop_topafter.calls kj151 t1197 t1198 _ _ l1 _ _ l0_0 _ _ l0_1 t1200 true _ ?side1 ?side2 ?side3 ?side4 ?side5 ?side6 gb1164 gb1163 (bk_ BK1164) (bk_ BK1163) A162.out).mono ?_); (case side1 => exact kc_ HR1 HB); (case side2 => exact HC1.out); (case side3 => exact kc_ HR0_0 HB); (case side4 => exact HC0_0.out); (case side5 => exact kc_ HR0_1 HB); (case side6 => exact HC0_1.out); rintro e w171 ⟨v1202, rfl, ho0, hb⟩; refine ⟨_, rfl, ?_⟩; have n0_ := Aside0.mk (Kd.R_lower ho0 (below_size (by repeat (first | (with_reducible first | exact HB.out | apply below_alloc | apply pw_below_drewN | apply below_drew1 | refine below_set ?_ GE1163.out | refine below_set ?_ GE1164.out | refine below_set ?_ GE1165.out | refine below_set ?_ GE1181.out | refine below_set ?_ GE1185.out) | exact HB.out)))); have n1_ := bb_ BK1163 hb; have n2_ := bb_ BK1164 hb; have n3_ := bb_ BK1165 hb; have n4_ := bb_ BK1181 hb; have n5_ := bb_ BK1185 hb; have n6_ := Aside0.mk (below_step (by repeat (first | (with_reducible first | exact HB.out | apply below_alloc | apply pw_below_drewN | apply below_drew1 | refine below_set ?_ GE1163.out | refine below_set ?_ GE1164.out | refine below_set ?_ GE1165.out | refine below_set ?_ GE1181.out | refine below_set ?_ GE1185.out) | exact HB.out)) hb); clear BK1163; clear BK1164; clear BK1165; clear BK1181; clear BK1185; clear HB; have HO1203 := n0_; have BK1163 := n1_; have BK1164 := n2_; have hz6_ : World.cell? _ ⟨gb1164, 0, none⟩ = some (.slice A1 l1.length c1) := bc_ BK1164 0; have BK1165 := n3_; have BK1181 := n4_; have BK1185 := n5_; have HB := n6_; clear n0_ n1_ n2_ n3_ n4_ n5_ n6_; (try clear hb); (try clear hb2); (try clear hk); (try clear hi); (try clear ho0); have hnb172 := NB1163_1164.out; have hnc172 := NB1164_1163.out; have hnb173 := NB1163_1165.out; have hnc173 := NB1165_1163.out; have hnb174 := NB1163_1181.out; have hnc174 := NB1181_1163.out; have hnb175 := NB1163_1185.out; have hnc175 := NB1185_1163.out; have hcz176_0 : w171.cell? ⟨gb1163, 0, none⟩ = some (.slice A0_0 l0_0.length c0_0) := bc_ BK1163 0; have hcz176_1 : w171.cell? ⟨gb1163, 1, none⟩ = some (.slice A0_1 l0_1.length c0_1) := bc_ BK1163 1; have hfz176_0 := blk_frozen BK1163.out 0; have hfz176_1 := blk_frozen BK1163.out 1; obtain ⟨Ao177, co177, eo177⟩ := Kd.R_slice HO1203.out; subst eo177) | ((with_reducible refine gate_callee (f := 19) rfl ?_); refine goesL_ (some 224) rfl rfl Tryd.func19 (by decide +kernel) rfl #[.agg #[.slice A0_0 l0_0.length c0_0, .slice A0_1 l0_1.length c0_1], .slice Ao177 t1200.length co177] rfl ls_ ?_; (with_reducible refine (exits_Out.calls _ _ l0_0 _ _ l0_1 _ _ t1200 t1204 t1205 t1206 _ ?side7 ?side1 ?side2 ?side3 ?side4 ?side5 ?side6 A164.out).mono ?_); (case side1 => exact kc_ HR0_0 HB); (case side2 => exact HC0_0.out); (case side3 => exact kc_ HR0_1 HB); (case side4 => exact HC0_1.out); (case side5 => exact kd_ (Kd.R_reads' HO1203.out).2.2); (case side6 => exact (Kd.R_reads' HO1203.out).2.1); (case side7 => exact GlobsE.below HG.out.1 (by repeat (first | (with_reducible first | exact HB.out | apply below_alloc | apply pw_below_drewN | apply below_drew1 | refine below_set ?_ GE1163.out | refine below_set ?_ GE1164.out | refine below_set ?_ GE1165.out | refine below_set ?_ GE1181.out | refine below_set ?_ GE1185.out) | exact HB.out))); rintro e w178 ⟨rfl, hb⟩; refine ⟨_, rfl, ?_⟩; have n0_ := rb_ HO1203 hb; have n1_ := bb_ BK1163 hb; have n2_ := bb_ BK1164 hb; have n3_ := bb_ BK1165 hb; have n4_ := bb_ BK1181 hb; have n5_ := bb_ BK1185 hb; have n6_ := Aside0.mk (below_step (by repeat (first | (with_reducible first | exact HB.out | apply below_alloc | apply pw_below_drewN | apply below_drew1 | refine below_set ?_ GE1163.out | refine below_set ?_ GE1164.out | refine below_set ?_ GE1165.out | refine below_set ?_ GE1181.out | refine below_set ?_ GE1185.out) | exact HB.out)) hb); clear HO1203; clear BK1163; clear BK1164; clear BK1165; clear BK1181; clear BK1185; clear HB; have HO1203 := n0_; have BK1163 := n1_; have BK1164 := n2_; have hz6_ : World.cell? _ ⟨gb1164, 0, none⟩ = some (.slice A1 l1.length c1) := bc_ BK1164 0; have BK1165 := n3_; have BK1181 := n4_; have BK1185 := n5_; have HB := n6_; clear n0_ n1_ n2_ n3_ n4_ n5_ n6_; (try clear hb); (try clear hb2); (try clear hk); (try clear hi)) | ((with_reducible refine gate_dst (N := 34) rfl ?_); (try (refine gate_guard (by rfl) ?_; dsimp only)); refine box_event ?hg (N := 34) ?hd (cs := #[.int .i64 0, .int .i64 0]) (t := 36) ?hr ?_; (case hd => rfl); (case hg => rfl); (case hr => exact gs_); intro gb1207 hg w179 hbox hb; have n0_ := rb_ HO1203 hb; have n1_ := bb_ BK1163 hb; have n2_ := bb_ BK1164 hb; have n3_ := bb_ BK1165 hb; have n4_ := bb_ BK1181 hb; have n5_ := bb_ BK1185 hb; have n6_ := Aside0.mk (below_step (by repeat (first | (with_reducible first | exact HB.out | apply below_alloc | apply pw_below_drewN | apply below_drew1 | refine below_set ?_ GE1163.out | refine below_set ?_ GE1164.out | refine below_set ?_ GE1165.out | refine below_set ?_ GE1181.out | refine below_set ?_ GE1185.out) | exact HB.out)) hb); have n7_ := Aside0.mk (hbox); have n8_ := Aside0.mk ((by rw [hg]; exact (below_size (by repeat (first | (with_reducible first | exact HB.out | apply below_alloc | apply pw_below_drewN | apply below_drew1 | refine below_set ?_ GE1163.out | refine below_set ?_ GE1164.out | refine below_set ?_ GE1165.out | refine below_set ?_ GE1181.out | refine below_set ?_ GE1185.out) | exact HB.out))) : w.heap.size ≤ gb1207)); have n9_ := Aside0.mk ((by rw [hg]; exact (below_size (by repeat (first | (with_reducible first | exact HB.out | apply below_alloc | apply pw_below_drewN | apply below_drew1 | refine below_set ?_ GE1163.out | refine below_set ?_ GE1164.out | refine below_set ?_ GE1165.out | refine below_set ?_ GE1181.out | refine below_set ?_ GE1185.out) | exact HB.out))) : w.heap.size ≤ gb1207)); have n10_ := Aside0.mk ((by rw [hg]; exact Nat.ne_of_lt (blk_lt (bk_ BK1163)) : gb1163 ≠ gb1207)); have n11_ := Aside0.mk ((by rw [hg]; exact Nat.ne_of_gt (blk_lt (bk_ BK1163)) : gb1207 ≠ gb1163)); have n12_ := Aside0.mk ((by rw [hg]; exact Nat.ne_of_lt (blk_lt (bk_ BK1164)) : gb1164 ≠ gb1207)); have n13_ := Aside0.mk ((by rw [hg]; exact Nat.ne_of_gt (blk_lt (bk_ BK1164)) : gb1207 ≠ gb1164)); have n14_ := Aside0.mk ((by rw [hg]; exact Nat.ne_of_lt (blk_lt (bk_ BK1165)) : gb1165 ≠ gb1207)); have n15_ := Aside0.mk ((by rw [hg]; exact Nat.ne_of_gt (blk_lt (bk_ BK1165)) : gb1207 ≠ gb1165)); have n16_ := Aside0.mk ((by rw [hg]; exact Nat.ne_of_lt (blk_lt (bk_ BK1181)) : gb1181 ≠ gb1207)); have n17_ := Aside0.mk ((by rw [hg]; exact Nat.ne_of_gt (blk_lt (bk_ BK1181)) : gb1207 ≠ gb1181)); have n18_ := Aside0.mk ((by rw [hg]; exact Nat.ne_of_lt (blk_lt (bk_ BK1185)) : gb1185 ≠ gb1207)); have n19_ := Aside0.mk ((by rw [hg]; exact Nat.ne_of_gt (blk_lt (bk_ BK1185)) : gb1207 ≠ gb1185)); clear HO1203; clear BK1163; clear BK1164; clear BK1165; clear BK1181; clear BK1185; clear HB; have HO1203 := n0_; have BK1163 := n1_; have BK1164 := n2_; have hz6_ : World.cell? _ ⟨gb1164, 0, none⟩ = some (.slice A1 l1.length c1) := bc_ BK1164 0; have BK1165 := n3_; have BK1181 := n4_; have BK1185 := n5_; have HB := n6_; have BK1207 := n7_; have GW1207 := n8_; have GE1207 := n9_; have NB1163_1207 := n10_; have NB1207_1163 := n11_; have NB1164_1207 := n12_; have NB1207_1164 := n13_; have NB1165_1207 := n14_; have NB1207_1165 := n15_; have NB1181_1207 := n16_; have NB1207_1181 := n17_; have NB1185_1207 := n18_; have NB1207_1185 := n19_; clear n0_ n1_ n2_ n3_ n4_ n5_ n6_ n7_ n8_ n9_ n10_ n11_ n12_ n13_ n14_ n15_ n16_ n17_ n18_ n19_; clear hb hbox hg; have hnb180 := NB1207_1163.out; have hnc180 := NB1163_1207.out; have hnb181 := NB1207_1164.out; have hnc181 := NB1164_1207.out; have hnb182 := NB1207_1165.out; have hnc182 := NB1165_1207.out; have hnb183 := NB1207_1181.out; have hnc183 := NB1181_1207.out; have hnb184 := NB1207_1185.out; have hnc184 := NB1185_1207.out; have hcz185_0 : w179.cell? ⟨gb1207, 0, none⟩ = some (.int .i64 0) := bc_ BK1207 0; have hcz185_1 : w179.cell? ⟨gb1207, 1, none⟩ = some (.int .i64 0) := bc_ BK1207 1; have hfz185_0 := blk_frozen BK1207.out 0; have hfz185_1 := blk_frozen BK1207.out 1; have hcz186_0 : w179.cell? ⟨gb1163, 0, none⟩ = some (.slice A0_0 l0_0.length c0_0) := bc_ BK1163 0; have hcz186_1 : w179.cell? ⟨gb1163, 1, none⟩ = some (.slice A0_1 l0_1.length c0_1) := bc_ BK1163 1; have hfz186_0 := blk_frozen BK1163.out 0; have hfz186_1 := blk_frozen BK1163.out 1) | ((with_reducible refine gate_callee (f := 26) rfl ?_); refine goesL_ (some 230) rfl rfl Tryd.func26 (by decide +kernel) rfl #[.agg #[.slice A0_0 l0_0.length c0_0, .slice A0_1 l0_1.length c0_1], .slice Ao177 t1200.length co177] rfl ls_ ?_; (with_reducible refine (exits_Safe.calls _ _ l0_0 _ _ l0_1 _ _ t1200 t1208 t1209 t1210 t1211 _ ?side7 ?side1 ?side2 ?side3 ?side4 ?side5 ?side6 A165.out).mono ?_); (case side1 => exact Kd.C_below HR0_0.out (by repeat (first | (with_reducible first | exact HB.out | apply below_alloc | apply pw_below_drewN | apply below_drew1 | refine below_set ?_ GE1163.out | refine below_set ?_ GE1164.out | refine below_set ?_ GE1165.out | refine below_set ?_ GE1181.out | refine below_set ?_ GE1185.out | refine below_set ?_ GE1207.out) | exact HB.out))); (case side2 => exact HC0_0.out); (case side3 => exact Kd.C_below HR0_1.out (by repeat (first | (with_reducible first | exact HB.out | apply below_alloc | apply pw_below_drewN | apply below_drew1 | refine below_set ?_ GE1163.out | refine below_set ?_ GE1164.out | refine below_set ?_ GE1165.out | refine below_set ?_ GE1181.out | refine below_set ?_ GE1185.out | refine below_set ?_ GE1207.out) | exact HB.out))); (case side4 => exact HC0_1.out); (case side5 => refine (Kd.R_reads' (e := 48) (base := w.heap.size) (ok := fun k_ => True) (n := t1200.length) (c := co177) ?_).2.2; exact (by (with_reducible repeat (first | apply Kd.R_alloc | apply Kd.R_drewN | apply Kd.R_drew)); exact (Kd.R_mono (Kd.R_far (p := ⟨gb1207, 1, none⟩) (Kd.R_far (p := ⟨gb1207, 0, none⟩) (Kd.R_types HO1203.out BK1207.out (by decide)) (fun _ hk => hk.2) (.int .i64 t1204)) (fun _ hk => hk.2) (.int .i64 t1205)) (fun _ h_ => h_.1)))); (case side6 => exact (Kd.R_reads' HO1203.out).2.1); (case side7 => exact Globs.below HG.out (by repeat (first | (with_reducible first | exact HB.out | apply below_alloc | apply pw_below_drewN | apply below_drew1 | refine below_set ?_ GE1163.out | refine below_set ?_ GE1164.out | refine below_set ?_ GE1165.out | refine below_set ?_ GE1181.out | refine below_set ?_ GE1185.out | refine below_set ?_ GE1207.out) | exact HB.out))); rintro e w187 ⟨rfl, hb⟩; refine ⟨_, rfl, ?_⟩; have n0_ := Aside0.mk (Kd.R_below (by (with_reducible repeat (first | apply Kd.R_alloc | apply Kd.R_drewN | apply Kd.R_drew)); exact (Kd.R_mono (Kd.R_far (p := ⟨gb1207, 1, none⟩) (Kd.R_far (p := ⟨gb1207, 0, none⟩) (Kd.R_types HO1203.out BK1207.out (by decide)) (fun _ hk => hk.2) (.int .i64 t1204)) (fun _ hk => hk.2) (.int .i64 t1205)) (fun _ h_ => h_.1))) hb); have n1_ := Aside0.mk (blk_below (g := gb1163) (o := .cells #[.slice A0_0 l0_0.length c0_0, .slice A0_1 l0_1.length c0_1] 25 (0, 0)) (by refine bx_ ?_; refine blk_far ?_ NB1163_1207.out _; refine bx_ ?_; refine blk_far ?_ NB1163_1207.out _; refine bx_ ?_; exact BK1163.out) hb); have n2_ := Aside0.mk (blk_below (g := gb1164) (o := .cells #[.slice A1 l1.length c1] 26 (0, 0)) (by refine bx_ ?_; refine blk_far ?_ NB1164_1207.out _; refine bx_ ?_; refine blk_far ?_ NB1164_1207.out _; refine bx_ ?_; exact BK1164.out) hb); have n3_ := Aside0.mk (blk_below (g := gb1165) (o := .cells #[.int .i64 a2_0, .int .i64 a2_1, .int .i64 a2_2, .int .i64 a2_3, .int .i64 a2_4, .int .i64 a2_5, .int .i64 a2_6, .int .i64 a2_7] 90 (0, 0)) (by refine bx_ ?_; refine blk_far ?_ NB1165_1207.out _; refine bx_ ?_; refine blk_far ?_ NB1165_1207.out _; refine bx_ ?_; exact BK1165.out) hb); have n4_ := Aside0.mk (blk_below (g := gb1181) (o := .cells #[.int .i64 t1178, .int .i64 t1179] 36 (0, 0)) (by refine bx_ ?_; refine blk_far ?_ NB1181_1207.out _; refine bx_ ?_; refine blk_far ?_ NB1181_1207.out _; refine bx_ ?_; exact BK1181.out) hb); have n5_ := Aside0.mk (blk_below (g := gb1185) (o := .cells #[.int .i64 t1182, .int .i64 t1183] 36 (0, 0)) (by refine bx_ ?_; refine blk_far ?_ NB1185_1207.out _; refine bx_ ?_; refine blk_far ?_ NB1185_1207.out _; refine bx_ ?_; exact BK1185.out) hb); have n6_ := Aside0.mk (blk_below (g := gb1207) (o := .cells #[.int .i64 t1204, .int .i64 t1205] 36 (0, 0)) (by refine bx_ ?_; refine blk_put (cs := #[.int .i64 t1204, .int .i64 0]) ?_ 1 _ rfl; refine bx_ ?_; refine blk_put (cs := #[.int .i64 0, .int .i64 0]) ?_ 0 _ rfl; refine bx_ ?_; exact BK1207.out) hb); have n7_ := Aside0.mk (below_step (by repeat (first | (with_reducible first | exact HB.out | apply below_alloc | apply pw_below_drewN | apply below_drew1 | refine below_set ?_ GE1163.out | refine below_set ?_ GE1164.out | refine below_set ?_ GE1165.out | refine below_set ?_ GE1181.out | refine below_set ?_ GE1185.out | refine below_set ?_ GE1207.out) | exact HB.out)) hb); clear HO1203; clear BK1163; clear BK1164; clear BK1165; clear BK1181; clear BK1185; clear BK1207; clear HB; have HO1203 := n0_; have BK1163 := n1_; have BK1164 := n2_; have hz6_ : World.cell? _ ⟨gb1164, 0, none⟩ = some (.slice A1 l1.length c1) := bc_ BK1164 0; have BK1165 := n3_; have BK1181 := n4_; have BK1185 := n5_; have BK1207 := n6_; have HB := n7_; clear n0_ n1_ n2_ n3_ n4_ n5_ n6_ n7_; (try clear hb); (try clear hb2); (try clear hk); (try clear hi); have hcz188_0 : w187.cell? ⟨gb1207, 0, none⟩ = some (.int .i64 t1204) := bc_ BK1207 0; have hcz188_1 : w187.cell? ⟨gb1207, 1, none⟩ = some (.int .i64 t1205) := bc_ BK1207 1; have hfz188_0 := blk_frozen BK1207.out 0; have hfz188_1 := blk_frozen BK1207.out 1; have hnb189 := NB1185_1164.out; have hnc189 := NB1164_1185.out; have hnb190 := NB1185_1165.out; have hnc190 := NB1165_1185.out; have hnb191 := NB1185_1181.out; have hnc191 := NB1181_1185.out; have hcz192_0 : w187.cell? ⟨gb1185, 0, none⟩ = some (.int .i64 t1182) := bc_ BK1185 0; have hcz192_1 : w187.cell? ⟨gb1185, 1, none⟩ = some (.int .i64 t1183) := bc_ BK1185 1; have hfz192_0 := blk_frozen BK1185.out 0; have hfz192_1 := blk_frozen BK1185.out 1))
                       go_ret
                       exact ⟨rf_, by repeat (first | (with_reducible first | exact HB.out | apply below_alloc | apply pw_below_drewN | apply below_drew1 | refine below_set ?_ GE1163.out | refine below_set ?_ GE1164.out | refine below_set ?_ GE1165.out | refine below_set ?_ GE1181.out | refine below_set ?_ GE1185.out | refine below_set ?_ GE1207.out) | exact HB.out)⟩
                      ·rw [if_neg c170] at H
                       have c170b0 : decide (t1205 ≤ t1183) = false := decide_eq_false c170
                       clear c170
                       exact absurd (H.trans (congrArg some HRT.out)) (by simp)
                     ·rw [if_neg c169] at H
                      have c169b0 : decide (t1204 ≤ t1182) = false := decide_eq_false c169
                      clear c169
                      exact absurd (H.trans (congrArg some HRT.out)) (by simp)
                    ·rw [if_neg c168] at H
                     have c168b0 : (t1211 == 0) = false := beq_eq_false_iff_ne.mpr c168
                     have c168b1 : (t1211 != 0) = true := bne_iff_ne.mpr c168
                     exact absurd (H.trans (congrArg some HRT.out)) (by simp)
                   ·rw [if_neg c167] at H
                    have c167b0 : (t1206 == 0) = false := beq_eq_false_iff_ne.mpr c167
                    have c167b1 : (t1206 != 0) = true := bne_iff_ne.mpr c167
                    exact absurd (H.trans (congrArg some HRT.out)) (by simp)
                  ·replace c166 := Bool.eq_false_iff.mpr c166
                   subst c166
                   have H1 : (some false) = some r := by rw [if_neg (show ¬ (false = true) by decide)] at H; exact H
                   clear H
                   have H := H1
                   clear H1
                   exact absurd (H.trans (congrArg some HRT.out)) (by simp)
                 ·replace c163 := Bool.eq_false_iff.mpr c163
                  subst c163
                  have H1 : (some false) = some r := by rw [if_neg (show ¬ (false = true) by decide)] at H; exact H
                  clear H
                  have H := H1
                  clear H1
                  exact absurd (H.trans (congrArg some HRT.out)) (by simp)
        ·replace c105 := Bool.eq_false_iff.mpr c105
         subst c105
         have H1 : (some t1166) = some r := by rw [if_neg (show ¬ (false = true) by decide)] at H; exact H
         clear H
         have H := H1
         clear H1
         obtain rfl := Option.some.inj H
         have hnb193 := NB1163_1164.out
         have hnc193 := NB1164_1163.out
         have hnb194 := NB1163_1165.out
         have hnc194 := NB1165_1163.out
         have hcz195_0 : wc.cell? ⟨gb1163, 0, none⟩ = some (.slice A0_0 l0_0.length c0_0) := bc_ BK1163 0
         have hcz195_1 : wc.cell? ⟨gb1163, 1, none⟩ = some (.slice A0_1 l0_1.length c0_1) := bc_ BK1163 1
         have hfz195_0 := blk_frozen BK1163.out 0
         have hfz195_1 := blk_frozen BK1163.out 1
         try have hz6_ : World.cell? _ ⟨gb1164, 0, none⟩ = some (.slice A1 l1.length c1) := bc_ BK1164 0
         go_wp2_with (first | ((with_reducible refine gate_slot (t := 112) rfl ?_); refine goesCL_ (some 115) rfl rfl Tryd.func49 (by decide +kernel) rfl #[.pointer (some ⟨gb1164, 0, none⟩), .pointer (some ⟨gb1163, 0, none⟩)] #[.int .i64 t1171, .int .i64 t1172, .pointer (some ⟨gb1164, 0, none⟩), .pointer (some ⟨gb1163, 0, none⟩)] rfl rfl (by first | rfl | (simp only [List.map_toArray, List.map_cons, List.map_nil, List.append_toArray, List.cons_append, List.nil_append]; done) | (simp only [List.map_toArray, List.map_cons, List.map_nil, List.append_toArray, List.cons_append, List.nil_append]; rfl)) ?_; (with_reducible refine (cottonpadtop_topafter.calls kj93 t1171 t1172 _ _ l1 _ _ l0_0 _ _ l0_1 t1174 false _ ?side1 ?side2 ?side3 ?side4 ?side5 ?side6 gb1164 gb1163 (bk_ BK1164) (bk_ BK1163) A104.out).mono ?_); (case side1 => exact kc_ HR1 HB); (case side2 => exact HC1.out); (case side3 => exact kc_ HR0_0 HB); (case side4 => exact HC0_0.out); (case side5 => exact kc_ HR0_1 HB); (case side6 => exact HC0_1.out); rintro e w196 ⟨v1176, rfl, ho0, hb⟩; refine ⟨_, rfl, ?_⟩; have n0_ := Aside0.mk (Kd.R_lower ho0 (below_size (be3_ HB GE1163 GE1164 GE1165))); have n1_ := bb_ BK1163 hb; have n2_ := bb_ BK1164 hb; have n3_ := bb_ BK1165 hb; have n4_ := bs3_ HB GE1163 GE1164 GE1165 hb; clear BK1163; clear BK1164; clear BK1165; clear HB; have HO1177 := n0_; have BK1163 := n1_; have BK1164 := n2_; have hz6_ : World.cell? _ ⟨gb1164, 0, none⟩ = some (.slice A1 l1.length c1) := bc_ BK1164 0; have BK1165 := n3_; have HB := n4_; clear n0_ n1_ n2_ n3_ n4_; (try clear hb); (try clear hb2); (try clear hk); (try clear hi); (try clear ho0)))
         go_ret
         exact ⟨rf_, be3_ HB GE1163 GE1164 GE1165⟩

end Go.Proofs.YtdeaccbolnlgpaaDoor.X
