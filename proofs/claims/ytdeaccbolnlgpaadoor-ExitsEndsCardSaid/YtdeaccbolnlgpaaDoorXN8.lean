import Derived.Test.YtdeaccbolnlgpaaDoorX0
import Derived.Test.YtdeaccbolnlgpaaDoorXE1
import Derived.Test.YtdeaccbolnlgpaaDoorXNB
import Derived.Test.YtdeaccbolnlgpaaDoorXNA
import Derived.Test.YtdeaccbolnlgpaaDoorXAlive
import Derived.Test.YtdeaccbolnlgpaaDoorXG
import Derived.Test.YtdeaccbolnlgpaaDoorXHF
import Derived.Test.YtdeaccbolnlgpaaDoorXHL
import Derived.Test.YtdeaccbolnlgpaaDoorXHO
import Derived.Test.YtdeaccbolnlgpaaDoorXHS
namespace Go.Proofs.YtdeaccbolnlgpaaDoor.X
open Go.RowKit Go.Proofs.YtdeaccbolnlgpaaDoorW.PrintWords Go.Proofs.YtdeaccbolnlgpaaDoorW.PrintLast Go.Proofs.YtdeaccbolnlgpaaDoorW.PrintMore
attribute [local go_sem] max2_int min2_int max_two min_two max_three min_three max_four min_four   -- for this text's walks alone
set_option linter.unusedVariables false
set_option linter.unusedSimpArgs false

attribute [local go_sem high] eqA36
/-! ### cottonpadlaw06_ExitsEnds: function 8 -/
mutual
def cottonpadlaw06_ExitsEnds.j0 : Nat → List (S48) → Int → Bool → Bool → List (S62) → List (S81) → Option (Bool)
 | 0, _, _, _, _, _, _ => none
 | k + 1, x1, x2, x7, x46, x697000, x697001 => if x46 = true then (some x7) else (if (x697000.length : Int) = 0 then (none) else ((cottonpadlaw06_fixed.f x697000 x697001 x1 true).bind fun bt699 => ((cottonpadlaw06_fixed.f x697000 x697001 x1 false).bind fun bt709 => ((exits_Leaves.f x697000 x697001 x1 (Int.tmod (wrap64 (x2)) (x697000.length : Int))).bind fun bt719 => ((exits_Leaves.f bt699.1 bt699.2.1 bt699.2.2 (Int.tmod (wrap64 (x2)) (x697000.length : Int))).bind fun bt723 => ((exits_Leaves.f bt709.1 bt709.2.1 bt709.2.2 (Int.tmod (wrap64 (x2)) (x697000.length : Int))).bind fun bt727 => ((exits_Out.f x697000 x697001 x1).bind fun bt731 => ((exits_Out.f bt699.1 bt699.2.1 bt699.2.2).bind fun bt735 => ((exits_Out.f bt709.1 bt709.2.1 bt709.2.2).bind fun bt739 => (if bt719.2 = 0 then (if bt723.2 = 0 then (if bt727.2 = 0 then (if bt731.2.2 = 0 then (if bt735.2.2 = 0 then (if bt739.2.2 = 0 then (if (bt719.1.length : Int) = (bt723.1.length : Int) then (if (bt719.1.length : Int) = (bt727.1.length : Int) then ((cottonpadlaw06_span.f bt731.2.1 bt731.2.1).bind fun bt743 => (if (!(bt735.1 == bt743.1) || (!(bt735.2.1 == bt743.2))) = true then (cottonpadlaw06_ExitsEnds.j1 k x1 x7 bt699.2.2 bt709.2.2 bt719.1 bt723.1 bt727.1 true x697000 x697001 bt699.1 bt699.2.1 bt709.1 bt709.2.1) else ((cottonpadlaw06_span.f bt731.1 bt731.1).bind fun bt745 => (cottonpadlaw06_ExitsEnds.j1 k x1 x7 bt699.2.2 bt709.2.2 bt719.1 bt723.1 bt727.1 (!(bt739.1 == bt745.1) || (!(bt739.2.1 == bt745.2))) x697000 x697001 bt699.1 bt699.2.1 bt709.1 bt709.2.1)))) else (cottonpadlaw06_ExitsEnds.j1 k x1 x7 bt699.2.2 bt709.2.2 bt719.1 bt723.1 bt727.1 true x697000 x697001 bt699.1 bt699.2.1 bt709.1 bt709.2.1)) else (cottonpadlaw06_ExitsEnds.j1 k x1 x7 bt699.2.2 bt709.2.2 bt719.1 bt723.1 bt727.1 true x697000 x697001 bt699.1 bt699.2.1 bt709.1 bt709.2.1)) else (cottonpadlaw06_ExitsEnds.j1 k x1 x7 bt699.2.2 bt709.2.2 bt719.1 bt723.1 bt727.1 true x697000 x697001 bt699.1 bt699.2.1 bt709.1 bt709.2.1)) else (cottonpadlaw06_ExitsEnds.j1 k x1 x7 bt699.2.2 bt709.2.2 bt719.1 bt723.1 bt727.1 true x697000 x697001 bt699.1 bt699.2.1 bt709.1 bt709.2.1)) else (cottonpadlaw06_ExitsEnds.j1 k x1 x7 bt699.2.2 bt709.2.2 bt719.1 bt723.1 bt727.1 true x697000 x697001 bt699.1 bt699.2.1 bt709.1 bt709.2.1)) else (cottonpadlaw06_ExitsEnds.j1 k x1 x7 bt699.2.2 bt709.2.2 bt719.1 bt723.1 bt727.1 true x697000 x697001 bt699.1 bt699.2.1 bt709.1 bt709.2.1)) else (cottonpadlaw06_ExitsEnds.j1 k x1 x7 bt699.2.2 bt709.2.2 bt719.1 bt723.1 bt727.1 true x697000 x697001 bt699.1 bt699.2.1 bt709.1 bt709.2.1)) else (cottonpadlaw06_ExitsEnds.j1 k x1 x7 bt699.2.2 bt709.2.2 bt719.1 bt723.1 bt727.1 true x697000 x697001 bt699.1 bt699.2.1 bt709.1 bt709.2.1)))))))))))
def cottonpadlaw06_ExitsEnds.j1 : Nat → List (S48) → Bool → List (S48) → List (S48) → List (S36) → List (S36) → List (S36) → Bool → List (S62) → List (S81) → List (S62) → List (S81) → List (S62) → List (S81) → Option (Bool)
 | 0, _, _, _, _, _, _, _, _, _, _, _, _, _, _ => none
 | k + 1, x1, x7, x10, x12, x13, x15, x17, x158, x697000, x697001, x709000, x709001, x719000, x719001 => if x158 = true then (some false) else (cottonpadlaw06_ExitsEnds.l0 k x1 x7 x10 x12 x13 x15 x17 (x13.length : Int) 0 x697000 x697001 x709000 x709001 x719000 x719001)
def cottonpadlaw06_ExitsEnds.l0 : Nat → List (S48) → Bool → List (S48) → List (S48) → List (S36) → List (S36) → List (S36) → Int → Int → List (S62) → List (S81) → List (S62) → List (S81) → List (S62) → List (S81) → Option (Bool)
 | 0, _, _, _, _, _, _, _, _, _, _, _, _, _, _, _ => none
 | k + 1, x1, x7, x10, x12, x13, x15, x17, x160, x161, x697000, x697001, x709000, x709001, x719000, x719001 => if x161 < x160 then (if 0 ≤ x161 then (if x161 < (x15.length : Int) then (if x161 < (x13.length : Int) then ((cottonpadlaw06_span.f ((rd_T36 x13 x161).f1) ((rd_T36 x13 x161).f1)).bind fun bt762 => (if (!(((rd_T36 x15 x161).f0) == bt762.1) || (!(((rd_T36 x15 x161).f1) == bt762.2))) = true then (some false) else (if x161 < (x17.length : Int) then ((cottonpadlaw06_span.f ((rd_T36 x13 x161).f0) ((rd_T36 x13 x161).f0)).bind fun bt767 => (if (!(((rd_T36 x17 x161).f0) == bt767.1) || (!(((rd_T36 x17 x161).f1) == bt767.2))) = true then (some false) else (cottonpadlaw06_ExitsEnds.l0 k x1 x7 x10 x12 x13 x15 x17 x160 (wrap64 (x161 + 1)) x697000 x697001 x709000 x709001 x719000 x719001))) else (none)))) else (none)) else (none)) else (none)) else ((exits_Safe.f x697000 x697001 x1).bind fun bt747 => ((exits_Safe.f x709000 x709001 x10).bind fun bt751 => ((exits_Safe.f x719000 x719001 x12).bind fun bt755 => (if x7 = true then (if bt747.2.2.2 = 0 then (if bt751.2.2.2 = 0 then (if bt755.2.2.2 = 0 then (if bt751.1 = 1 then (some false) else (if bt755.1 = 1 then (some false) else (if ((bt747.1 == 2) == (bt751.1 == 2)) = true then (if ((bt747.1 == 0) == (bt755.1 == 0)) = true then (if bt747.2.1 = bt751.2.1 then (some (bt747.2.2.1 == bt751.2.2.1)) else (some false)) else (some false)) else (some false)))) else (some false)) else (some false)) else (some false)) else (some false)))))
end
def cottonpadlaw06_ExitsEnds.f (k : Nat) (l0_0 : List (S62)) (l0_1 : List (S81)) (l1 : List (S48)) (a2 : Int) : Option (Bool) := (cottonpadlaw06_alive_t.f).bind fun t697 => ((cottonpadlaw06_ready.f k l0_0 l0_1 l1).bind fun t698 => (if t698 = true then (cottonpadlaw06_ExitsEnds.j0 k l1 a2 t697 (!t697) l0_0 l0_1) else (cottonpadlaw06_ExitsEnds.j0 k l1 a2 t697 true l0_0 l0_1)))
theorem cottonpadlaw06_ExitsEnds.mono_l : ∀ k, (∀ y0 y1 y2 y3 y4 y5, LeO (cottonpadlaw06_ExitsEnds.j0 k y0 y1 y2 y3 y4 y5) (cottonpadlaw06_ExitsEnds.j0 (k + 1) y0 y1 y2 y3 y4 y5)) ∧ (∀ y0 y1 y2 y3 y4 y5 y6 y7 y8 y9 y10 y11 y12 y13, LeO (cottonpadlaw06_ExitsEnds.j1 k y0 y1 y2 y3 y4 y5 y6 y7 y8 y9 y10 y11 y12 y13) (cottonpadlaw06_ExitsEnds.j1 (k + 1) y0 y1 y2 y3 y4 y5 y6 y7 y8 y9 y10 y11 y12 y13)) ∧ (∀ y0 y1 y2 y3 y4 y5 y6 y7 y8 y9 y10 y11 y12 y13 y14, LeO (cottonpadlaw06_ExitsEnds.l0 k y0 y1 y2 y3 y4 y5 y6 y7 y8 y9 y10 y11 y12 y13 y14) (cottonpadlaw06_ExitsEnds.l0 (k + 1) y0 y1 y2 y3 y4 y5 y6 y7 y8 y9 y10 y11 y12 y13 y14))
 | 0 => ⟨fun _ _ _ _ _ _ r h => by simp [cottonpadlaw06_ExitsEnds.j0] at h, fun _ _ _ _ _ _ _ _ _ _ _ _ _ _ r h => by simp [cottonpadlaw06_ExitsEnds.j1] at h, fun _ _ _ _ _ _ _ _ _ _ _ _ _ _ _ r h => by simp [cottonpadlaw06_ExitsEnds.l0] at h⟩
 | k + 1 => by
  obtain ⟨ih0, ih1, ih2⟩ := cottonpadlaw06_ExitsEnds.mono_l k
  refine ⟨?_, ?_, ?_⟩
  ·intro y0 y1 y2 y3 y4 y5
   unfold cottonpadlaw06_ExitsEnds.j0
   repeat' (with_reducible first | exact ih0 .. | exact ih1 .. | exact ih2 .. | exact cottonpadlaw06_ready.mono .. | exact LeO.refl .. | exact LeO.none .. | refine LeO.ite ?_ ?_ | refine LeO.bind ?_ (fun _ => ?_))
  ·intro y0 y1 y2 y3 y4 y5 y6 y7 y8 y9 y10 y11 y12 y13
   unfold cottonpadlaw06_ExitsEnds.j1
   repeat' (with_reducible first | exact ih0 .. | exact ih1 .. | exact ih2 .. | exact cottonpadlaw06_ready.mono .. | exact LeO.refl .. | exact LeO.none .. | refine LeO.ite ?_ ?_ | refine LeO.bind ?_ (fun _ => ?_))
  ·intro y0 y1 y2 y3 y4 y5 y6 y7 y8 y9 y10 y11 y12 y13 y14
   unfold cottonpadlaw06_ExitsEnds.l0
   repeat' (with_reducible first | exact ih0 .. | exact ih1 .. | exact ih2 .. | exact cottonpadlaw06_ready.mono .. | exact LeO.refl .. | exact LeO.none .. | refine LeO.ite ?_ ?_ | refine LeO.bind ?_ (fun _ => ?_))
theorem cottonpadlaw06_ExitsEnds.mono : ∀ a0 a1 a2 a3 k, LeO (cottonpadlaw06_ExitsEnds.f k a0 a1 a2 a3) (cottonpadlaw06_ExitsEnds.f (k + 1) a0 a1 a2 a3) := by
 intro a0 a1 a2 a3 k
 obtain ⟨ih0, ih1, ih2⟩ := cottonpadlaw06_ExitsEnds.mono_l k
 unfold cottonpadlaw06_ExitsEnds.f
 repeat' (with_reducible first | exact ih0 .. | exact ih1 .. | exact ih2 .. | exact cottonpadlaw06_ready.mono .. | exact LeO.refl .. | exact LeO.none .. | refine LeO.ite ?_ ?_ | refine LeO.bind ?_ (fun _ => ?_))
def cottonpadlaw06_ExitsEnds.T13 : Bool × List (List Nat × List Nat) := (true, [([], []), ([0], [0]), ([1], [1]), ([2], [2]), ([3, 2], [2, 3]), ([2, 4], [2, 4]), ([5, 2], [5]), ([6], [6]), ([7, 6], [6, 7]), ([6, 8], [6, 8]), ([9, 6], [9]), ([10], [10]), ([11, 10], [10, 11]), ([10, 12], [10, 12]), ([13, 10], [13]), ([14], [14]), ([15, 14], [14, 15]), ([14, 16], [14, 16]), ([17, 14], [17]), ([18], [18]), ([19, 18], [18, 19]), ([18, 20], [18, 20]), ([21, 18], [21]), ([22], [22]), ([23, 22], [22, 23]), ([22], [22]), ([25, 22], [22, 25]), ([24, 26, 22], [22, 24, 26]), ([22, 27], [22, 27]), ([28, 22], [28]), ([29], [29]), ([30, 29], [29, 30]), ([29], [29]), ([32, 29], [29, 32]), ([31, 33, 29], [29, 31, 33]), ([29, 34], [29, 34]), ([35, 29], [35]), ([36], [36]), ([36], [36]), ([38, 36], [36, 38]), ([36], [36]), ([40, 36], [36, 40]), ([39, 41, 36, 36], [36, 39, 41]), ([37, 42, 36], [36, 37, 42]), ([36, 43], [36, 43]), ([44, 42], [44]), ([45], [45]), ([45], [45]), ([47, 45], [45, 47]), ([45], [45]), ([49, 45], [45, 49]), ([48, 50, 45, 45], [45, 48, 50]), ([46, 51, 45], [45, 46, 51]), ([45, 52], [45, 52])])
def cottonpadlaw06_ExitsEnds.B13 : List Nat := [0, 1, 3, 7, 15, 31, 63, 127, 255, 511, 1023, 2047, 4095, 8191, 16383, 32767, 65535, 131071, 262143, 524287, 1048575, 2097151, 4194303, 8388607, 16777215, 8388607, 41943039, 134217727, 268435455, 536870911, 1073741823, 2147483647, 1073741823, 5368709119, 17179869183, 34359738367, 68719476735, 137438953471, 137438953471, 412316860415, 137438953471, 1236950581247, 4260607557631, 8796093022207, 17592186044415, 35184372088831, 70368744177663, 70368744177663, 211106232532991, 70368744177663, 633318697598975, 2181431069507583, 4503599627370495, 9007199254740991]
theorem cottonpadlaw06_ExitsEnds.tab13 : rtab .any (opsOf Tryd.f8 13) = cottonpadlaw06_ExitsEnds.T13 := by kernel_rfl
theorem cottonpadlaw06_ExitsEnds.bits13 : waitsOk cottonpadlaw06_ExitsEnds.T13.2 cottonpadlaw06_ExitsEnds.B13 = true := by kernel_rfl
def cottonpadlaw06_ExitsEnds.T18 : Bool × List (List Nat × List Nat) := (true, [([], []), ([], []), ([0, 1], [0, 1]), ([2], [2]), ([], []), ([], []), ([4, 5], [4, 5]), ([6], [6]), ([7], [7]), ([], []), ([], []), ([9, 10], [9, 10]), ([11], [11]), ([12], [12]), ([8, 13], [8, 13]), ([3, 14], [3, 14]), ([15, 14], [15]), ([16], [16]), ([16], [16]), ([17, 18, 16], [16, 17, 18]), ([19, 16], [16, 19]), ([16], [16]), ([16], [16]), ([21, 22, 16], [16, 21, 22]), ([23, 16], [16, 23]), ([24, 16], [16, 24]), ([16], [16]), ([16], [16]), ([26, 27, 16], [16, 26, 27]), ([28, 16], [16, 28]), ([29, 16], [16, 29]), ([25, 30, 16, 16], [16, 25, 30]), ([20, 31, 16], [16, 20, 31]), ([16, 32], [16, 32])])
def cottonpadlaw06_ExitsEnds.B18 : List Nat := [0, 0, 3, 7, 0, 0, 48, 112, 240, 0, 0, 1536, 3584, 7680, 16368, 32767, 65535, 131071, 131071, 524287, 1048575, 131071, 131071, 6422527, 14811135, 31588351, 131071, 131071, 201457663, 469893119, 1006764031, 2145517567, 4294967295, 8589934591]
theorem cottonpadlaw06_ExitsEnds.tab18 : rtab .any (opsOf Tryd.f8 18) = cottonpadlaw06_ExitsEnds.T18 := by kernel_rfl
theorem cottonpadlaw06_ExitsEnds.bits18 : waitsOk cottonpadlaw06_ExitsEnds.T18.2 cottonpadlaw06_ExitsEnds.B18 = true := by kernel_rfl
set_option maxHeartbeats 8000000 in
set_option maxRecDepth 100000 in
theorem cottonpadlaw06_ExitsEnds.calls (k : Nat) (A0_0 : Option Addr) (c0_0 : Nat) (l0_0 : List (S62)) (A0_1 : Option Addr) (c0_1 : Nat) (l0_1 : List (S81)) (A1 : Option Addr) (c1 : Nat) (l1 : List (S48)) (a2 : Int) (r : Bool) (w : World) (hG : Globs w) (hrt : r = true) (hr0_0 : Kd.C k62 w A0_0 l0_0.length l0_0) (hc0_0 : l0_0.length ≤ c0_0) (hr0_1 : Kd.C k81 w A0_1 l0_1.length l0_1) (hc0_1 : l0_1.length ≤ c0_1) (hr1 : Kd.C k48 w A1 l1.length l1) (hc1 : l1.length ≤ c1) (h : cottonpadlaw06_ExitsEnds.f k l0_0 l0_1 l1 a2 = some r) :
  Calls Tryd.prog 8 #[.agg #[.slice A0_0 l0_0.length c0_0, .slice A0_1 l0_1.length c0_1], .slice A1 l1.length c1, .int .u8 a2] w fun e w' => e = .returned (.bool r) ∧ Below w.heap.size w w' := by
 have hu25 := Tryd.underlying25
 have hu36 := Tryd.underlying36
 have HR0_0 := Aside0.mk hr0_0
 have HC0_0 := Aside0.mk hc0_0
 clear hr0_0 hc0_0
 have HR0_1 := Aside0.mk hr0_1
 have HC0_1 := Aside0.mk hc0_1
 clear hr0_1 hc0_1
 have HR1 := Aside0.mk hr1
 have HC1 := Aside0.mk hc1
 clear hr1 hc1
 have HB := Aside0.mk (Below.refl w.heap.size w)
 have HG := Aside0.mk hG
 clear hG
 have HRT := Aside0.mk hrt
 clear hrt
 have H : ((cottonpadlaw06_alive_t.f).bind fun t697 => ((cottonpadlaw06_ready.f k l0_0 l0_1 l1).bind fun t698 => (if t698 = true then (cottonpadlaw06_ExitsEnds.j0 k l1 a2 t697 (!t697) l0_0 l0_1) else (cottonpadlaw06_ExitsEnds.j0 k l1 a2 t697 true l0_0 l0_1)))) = some r := h
 clear h
 replace H := Option.bind_eq_some_iff.mp H
 obtain ⟨t697, A40, H⟩ := H
 replace H : ((cottonpadlaw06_ready.f k l0_0 l0_1 l1).bind fun t698 => (if t698 = true then (cottonpadlaw06_ExitsEnds.j0 k l1 a2 t697 (!t697) l0_0 l0_1) else (cottonpadlaw06_ExitsEnds.j0 k l1 a2 t697 true l0_0 l0_1))) = some r := H
 have A4 := Aside0.mk A40
 clear A40
 have HC5 := Aside0.mk H
 clear H
 go_enter Tryd.func8, Tryd.ntmps8
 go_upto_region 2 with (first | ((with_reducible refine gate_dst (N := 3) rfl ?_); (try (refine gate_guard (by rfl) ?_; dsimp only)); refine box_event ?hg (N := 3) ?hd (cs := #[.slice A0_0 l0_0.length c0_0, .slice A0_1 l0_1.length c0_1]) (t := 25) ?hr ?_; (case hd => rfl); (case hg => rfl); (case hr => exact gs_); intro gb696 hg w6 hbox hb; have BK696 := Aside0.mk (hbox); have GW696 := hl_ hg (be_ HB); have GE696 := hl_ hg (be_ HB); replace HB := bs_ HB hb; clear hb hbox hg) | ((with_reducible refine gate_callee (f := 30) rfl ?_); refine goesL_ (some 38) rfl rfl Tryd.func30 (by kernel_rfl) rfl #[] rfl ls_ ?_; (with_reducible refine (cottonpadlaw06_alive_t.calls  t697 _ ?side1 A4.out).mono ?_); (case side1 => exact Globs.below HG.out (be1_ HB GE696)); rintro e w7 ⟨rfl, hb⟩; refine ⟨_, rfl, ?_⟩; replace BK696 := bb_ BK696 hb; replace HB := bs1_ HB GE696 hb; (try clear hb); (try clear hb2); (try clear hk); (try clear hi)))
 (try simp only [Act.put, List.setIfInBounds_toArray, List.set_cons_zero, List.set_cons_succ])
 go_cut [46] (fun v46 wc => ∃ (kq : Nat) (x46_4 : Bool), v46 = .bool x46_4 ∧ Aside0 (cottonpadlaw06_ExitsEnds.j0 kq l1 a2 t697 x46_4 l0_0 l0_1 = some r) ∧ Aside0 (kq ≤ k) ∧ Aside0 (wc.heap[gb696]? = some (.cells #[(.slice A0_0 l0_0.length c0_0), (.slice A0_1 l0_1.length c0_1)] 25 (0, 0))) ∧ Aside0 (Below w.heap.size w wc))
 case first =>
  have H := HC5.out
  clear HC5
  replace H := Option.bind_eq_some_iff.mp H
  obtain ⟨t698, A80, H⟩ := H
  replace H : (if t698 = true then (cottonpadlaw06_ExitsEnds.j0 k l1 a2 t697 (!t697) l0_0 l0_1) else (cottonpadlaw06_ExitsEnds.j0 k l1 a2 t697 true l0_0 l0_1)) = some r := H
  have A8 := Aside0.mk A80
  clear A80
  by_cases c9 : t698 = true
  ·subst c9
   have H1 : (cottonpadlaw06_ExitsEnds.j0 k l1 a2 t697 (!t697) l0_0 l0_1) = some r := by rw [if_pos rfl] at H; exact H
   clear H
   have H := H1
   clear H1
   have H' := Aside0.mk H
   clear H
   have hcz10_0 : w7.cell? ⟨gb696, 0, none⟩ = some (.slice A0_0 l0_0.length c0_0) := bc_ BK696 0
   have hcz10_1 : w7.cell? ⟨gb696, 1, none⟩ = some (.slice A0_1 l0_1.length c0_1) := bc_ BK696 1
   have hfz10_0 := blk_frozen BK696.out 0
   have hfz10_1 := blk_frozen BK696.out 1
   go_wp2_with (first | ((with_reducible refine gate_callee (f := 36) rfl ?_); refine goesL_ (some 41) rfl rfl Tryd.func36 (by kernel_rfl) rfl #[.agg #[.slice A0_0 l0_0.length c0_0, .slice A0_1 l0_1.length c0_1], .slice A1 l1.length c1] rfl ls_ ?_; (with_reducible refine (cottonpadlaw06_ready.calls k _ _ l0_0 _ _ l0_1 _ _ l1 true _ ?side1 ?side2 ?side3 ?side4 ?side5 ?side6 A8.out).mono ?_); (case side1 => exact kc_ HR0_0 HB); (case side2 => exact HC0_0.out); (case side3 => exact kc_ HR0_1 HB); (case side4 => exact HC0_1.out); (case side5 => exact kc_ HR1 HB); (case side6 => exact HC1.out); rintro e w11 ⟨rfl, hb⟩; refine ⟨_, rfl, ?_⟩; replace BK696 := bb_ BK696 hb; replace HB := bs1_ HB GE696 hb; (try clear hb); (try clear hb2); (try clear hk); (try clear hi)))
   go_meet
   case rel => exact ⟨_, (!t697), (by first | rfl | (simp; done) | (simp [*]; done)), H', ⟨by first | omega | exact Nat.le_refl _⟩, ⟨by refine bx_ ?_; exact BK696.out⟩, ⟨be1_ HB GE696⟩⟩
  ·replace c9 := Bool.eq_false_iff.mpr c9
   subst c9
   have H1 : (cottonpadlaw06_ExitsEnds.j0 k l1 a2 t697 true l0_0 l0_1) = some r := by rw [if_neg (show ¬ (false = true) by decide)] at H; exact H
   clear H
   have H := H1
   clear H1
   have H' := Aside0.mk H
   clear H
   have hcz12_0 : w7.cell? ⟨gb696, 0, none⟩ = some (.slice A0_0 l0_0.length c0_0) := bc_ BK696 0
   have hcz12_1 : w7.cell? ⟨gb696, 1, none⟩ = some (.slice A0_1 l0_1.length c0_1) := bc_ BK696 1
   have hfz12_0 := blk_frozen BK696.out 0
   have hfz12_1 := blk_frozen BK696.out 1
   go_wp2_with (first | ((with_reducible refine gate_callee (f := 36) rfl ?_); refine goesL_ (some 41) rfl rfl Tryd.func36 (by kernel_rfl) rfl #[.agg #[.slice A0_0 l0_0.length c0_0, .slice A0_1 l0_1.length c0_1], .slice A1 l1.length c1] rfl ls_ ?_; (with_reducible refine (cottonpadlaw06_ready.calls k _ _ l0_0 _ _ l0_1 _ _ l1 false _ ?side1 ?side2 ?side3 ?side4 ?side5 ?side6 A8.out).mono ?_); (case side1 => exact kc_ HR0_0 HB); (case side2 => exact HC0_0.out); (case side3 => exact kc_ HR0_1 HB); (case side4 => exact HC0_1.out); (case side5 => exact kc_ HR1 HB); (case side6 => exact HC1.out); rintro e w13 ⟨rfl, hb⟩; refine ⟨_, rfl, ?_⟩; replace BK696 := bb_ BK696 hb; replace HB := bs1_ HB GE696 hb; (try clear hb); (try clear hb2); (try clear hk); (try clear hi)))
   go_meet
   case rel => exact ⟨_, (true), (by first | rfl | (simp; done) | (simp [*]; done)), H', ⟨by first | omega | exact Nat.le_refl _⟩, ⟨by refine bx_ ?_; exact BK696.out⟩, ⟨be1_ HB GE696⟩⟩
 case rest =>
  clear HC5
  try clear c1
  try clear p2
  try clear c3
  try clear c8
  try clear c9
  try clear hcz10_0
  try clear hcz10_1
  try clear hcz12_0
  try clear hcz12_1
  try clear hfz10_0
  try clear hfz10_1
  try clear hfz12_0
  try clear hfz12_1
  obtain ⟨kq, x46_4, rfl, HA, HJ4, BK696, HB⟩ := hcut
  cases kq with
  | zero => exact absurd HA.out (by simp [cottonpadlaw06_ExitsEnds.j0])
  | succ kj4 =>
   have H := HA.out
   clear HA
   simp only [cottonpadlaw06_ExitsEnds.j0] at H
   by_cases c14 : x46_4 = true
   ·subst c14
    have H1 : (some t697) = some r := by rw [if_pos rfl] at H; exact H
    clear H
    have H := H1
    clear H1
    obtain rfl := Option.some.inj H
    go_wp2
    go_ret
    exact ⟨rf_, be1_ HB GE696⟩
   ·replace c14 := Bool.eq_false_iff.mpr c14
    subst c14
    have H1 : (if (l0_0.length : Int) = 0 then (none) else ((cottonpadlaw06_fixed.f l0_0 l0_1 l1 true).bind fun bt699 => ((cottonpadlaw06_fixed.f l0_0 l0_1 l1 false).bind fun bt709 => ((exits_Leaves.f l0_0 l0_1 l1 (Int.tmod (wrap64 (a2)) (l0_0.length : Int))).bind fun bt719 => ((exits_Leaves.f bt699.1 bt699.2.1 bt699.2.2 (Int.tmod (wrap64 (a2)) (l0_0.length : Int))).bind fun bt723 => ((exits_Leaves.f bt709.1 bt709.2.1 bt709.2.2 (Int.tmod (wrap64 (a2)) (l0_0.length : Int))).bind fun bt727 => ((exits_Out.f l0_0 l0_1 l1).bind fun bt731 => ((exits_Out.f bt699.1 bt699.2.1 bt699.2.2).bind fun bt735 => ((exits_Out.f bt709.1 bt709.2.1 bt709.2.2).bind fun bt739 => (if bt719.2 = 0 then (if bt723.2 = 0 then (if bt727.2 = 0 then (if bt731.2.2 = 0 then (if bt735.2.2 = 0 then (if bt739.2.2 = 0 then (if (bt719.1.length : Int) = (bt723.1.length : Int) then (if (bt719.1.length : Int) = (bt727.1.length : Int) then ((cottonpadlaw06_span.f bt731.2.1 bt731.2.1).bind fun bt743 => (if (!(bt735.1 == bt743.1) || (!(bt735.2.1 == bt743.2))) = true then (cottonpadlaw06_ExitsEnds.j1 kj4 l1 t697 bt699.2.2 bt709.2.2 bt719.1 bt723.1 bt727.1 true l0_0 l0_1 bt699.1 bt699.2.1 bt709.1 bt709.2.1) else ((cottonpadlaw06_span.f bt731.1 bt731.1).bind fun bt745 => (cottonpadlaw06_ExitsEnds.j1 kj4 l1 t697 bt699.2.2 bt709.2.2 bt719.1 bt723.1 bt727.1 (!(bt739.1 == bt745.1) || (!(bt739.2.1 == bt745.2))) l0_0 l0_1 bt699.1 bt699.2.1 bt709.1 bt709.2.1)))) else (cottonpadlaw06_ExitsEnds.j1 kj4 l1 t697 bt699.2.2 bt709.2.2 bt719.1 bt723.1 bt727.1 true l0_0 l0_1 bt699.1 bt699.2.1 bt709.1 bt709.2.1)) else (cottonpadlaw06_ExitsEnds.j1 kj4 l1 t697 bt699.2.2 bt709.2.2 bt719.1 bt723.1 bt727.1 true l0_0 l0_1 bt699.1 bt699.2.1 bt709.1 bt709.2.1)) else (cottonpadlaw06_ExitsEnds.j1 kj4 l1 t697 bt699.2.2 bt709.2.2 bt719.1 bt723.1 bt727.1 true l0_0 l0_1 bt699.1 bt699.2.1 bt709.1 bt709.2.1)) else (cottonpadlaw06_ExitsEnds.j1 kj4 l1 t697 bt699.2.2 bt709.2.2 bt719.1 bt723.1 bt727.1 true l0_0 l0_1 bt699.1 bt699.2.1 bt709.1 bt709.2.1)) else (cottonpadlaw06_ExitsEnds.j1 kj4 l1 t697 bt699.2.2 bt709.2.2 bt719.1 bt723.1 bt727.1 true l0_0 l0_1 bt699.1 bt699.2.1 bt709.1 bt709.2.1)) else (cottonpadlaw06_ExitsEnds.j1 kj4 l1 t697 bt699.2.2 bt709.2.2 bt719.1 bt723.1 bt727.1 true l0_0 l0_1 bt699.1 bt699.2.1 bt709.1 bt709.2.1)) else (cottonpadlaw06_ExitsEnds.j1 kj4 l1 t697 bt699.2.2 bt709.2.2 bt719.1 bt723.1 bt727.1 true l0_0 l0_1 bt699.1 bt699.2.1 bt709.1 bt709.2.1)) else (cottonpadlaw06_ExitsEnds.j1 kj4 l1 t697 bt699.2.2 bt709.2.2 bt719.1 bt723.1 bt727.1 true l0_0 l0_1 bt699.1 bt699.2.1 bt709.1 bt709.2.1))))))))))) = some r := by rw [if_neg (show ¬ (false = true) by decide)] at H; exact H
    clear H
    have H := H1
    clear H1
    by_cases c15 : (l0_0.length : Int) = 0
    ·rw [if_pos c15] at H
     exact absurd H (by simp)
    ·rw [if_neg c15] at H
     have c15b0 : ((l0_0.length : Int) == 0) = false := beq_eq_false_iff_ne.mpr c15
     have c15b1 : ((l0_0.length : Int) != 0) = true := bne_iff_ne.mpr c15
     have c15b2 : ¬ (l0_0 = []) := fun h_ => c15 (by rw [h_]; rfl)
     replace H := Option.bind_eq_some_iff.mp H
     obtain ⟨⟨t699, t702, t705⟩, A160, H⟩ := H
     replace H : ((cottonpadlaw06_fixed.f l0_0 l0_1 l1 false).bind fun bt709 => ((exits_Leaves.f l0_0 l0_1 l1 (Int.tmod (wrap64 (a2)) (l0_0.length : Int))).bind fun bt719 => ((exits_Leaves.f t699 t702 t705 (Int.tmod (wrap64 (a2)) (l0_0.length : Int))).bind fun bt723 => ((exits_Leaves.f bt709.1 bt709.2.1 bt709.2.2 (Int.tmod (wrap64 (a2)) (l0_0.length : Int))).bind fun bt727 => ((exits_Out.f l0_0 l0_1 l1).bind fun bt731 => ((exits_Out.f t699 t702 t705).bind fun bt735 => ((exits_Out.f bt709.1 bt709.2.1 bt709.2.2).bind fun bt739 => (if bt719.2 = 0 then (if bt723.2 = 0 then (if bt727.2 = 0 then (if bt731.2.2 = 0 then (if bt735.2.2 = 0 then (if bt739.2.2 = 0 then (if (bt719.1.length : Int) = (bt723.1.length : Int) then (if (bt719.1.length : Int) = (bt727.1.length : Int) then ((cottonpadlaw06_span.f bt731.2.1 bt731.2.1).bind fun bt743 => (if (!(bt735.1 == bt743.1) || (!(bt735.2.1 == bt743.2))) = true then (cottonpadlaw06_ExitsEnds.j1 kj4 l1 t697 t705 bt709.2.2 bt719.1 bt723.1 bt727.1 true l0_0 l0_1 t699 t702 bt709.1 bt709.2.1) else ((cottonpadlaw06_span.f bt731.1 bt731.1).bind fun bt745 => (cottonpadlaw06_ExitsEnds.j1 kj4 l1 t697 t705 bt709.2.2 bt719.1 bt723.1 bt727.1 (!(bt739.1 == bt745.1) || (!(bt739.2.1 == bt745.2))) l0_0 l0_1 t699 t702 bt709.1 bt709.2.1)))) else (cottonpadlaw06_ExitsEnds.j1 kj4 l1 t697 t705 bt709.2.2 bt719.1 bt723.1 bt727.1 true l0_0 l0_1 t699 t702 bt709.1 bt709.2.1)) else (cottonpadlaw06_ExitsEnds.j1 kj4 l1 t697 t705 bt709.2.2 bt719.1 bt723.1 bt727.1 true l0_0 l0_1 t699 t702 bt709.1 bt709.2.1)) else (cottonpadlaw06_ExitsEnds.j1 kj4 l1 t697 t705 bt709.2.2 bt719.1 bt723.1 bt727.1 true l0_0 l0_1 t699 t702 bt709.1 bt709.2.1)) else (cottonpadlaw06_ExitsEnds.j1 kj4 l1 t697 t705 bt709.2.2 bt719.1 bt723.1 bt727.1 true l0_0 l0_1 t699 t702 bt709.1 bt709.2.1)) else (cottonpadlaw06_ExitsEnds.j1 kj4 l1 t697 t705 bt709.2.2 bt719.1 bt723.1 bt727.1 true l0_0 l0_1 t699 t702 bt709.1 bt709.2.1)) else (cottonpadlaw06_ExitsEnds.j1 kj4 l1 t697 t705 bt709.2.2 bt719.1 bt723.1 bt727.1 true l0_0 l0_1 t699 t702 bt709.1 bt709.2.1)) else (cottonpadlaw06_ExitsEnds.j1 kj4 l1 t697 t705 bt709.2.2 bt719.1 bt723.1 bt727.1 true l0_0 l0_1 t699 t702 bt709.1 bt709.2.1)) else (cottonpadlaw06_ExitsEnds.j1 kj4 l1 t697 t705 bt709.2.2 bt719.1 bt723.1 bt727.1 true l0_0 l0_1 t699 t702 bt709.1 bt709.2.1))))))))) = some r := H
     have A16 := Aside0.mk A160
     clear A160
     replace H := Option.bind_eq_some_iff.mp H
     obtain ⟨⟨t709, t712, t715⟩, A170, H⟩ := H
     replace H : ((exits_Leaves.f l0_0 l0_1 l1 (Int.tmod (wrap64 (a2)) (l0_0.length : Int))).bind fun bt719 => ((exits_Leaves.f t699 t702 t705 (Int.tmod (wrap64 (a2)) (l0_0.length : Int))).bind fun bt723 => ((exits_Leaves.f t709 t712 t715 (Int.tmod (wrap64 (a2)) (l0_0.length : Int))).bind fun bt727 => ((exits_Out.f l0_0 l0_1 l1).bind fun bt731 => ((exits_Out.f t699 t702 t705).bind fun bt735 => ((exits_Out.f t709 t712 t715).bind fun bt739 => (if bt719.2 = 0 then (if bt723.2 = 0 then (if bt727.2 = 0 then (if bt731.2.2 = 0 then (if bt735.2.2 = 0 then (if bt739.2.2 = 0 then (if (bt719.1.length : Int) = (bt723.1.length : Int) then (if (bt719.1.length : Int) = (bt727.1.length : Int) then ((cottonpadlaw06_span.f bt731.2.1 bt731.2.1).bind fun bt743 => (if (!(bt735.1 == bt743.1) || (!(bt735.2.1 == bt743.2))) = true then (cottonpadlaw06_ExitsEnds.j1 kj4 l1 t697 t705 t715 bt719.1 bt723.1 bt727.1 true l0_0 l0_1 t699 t702 t709 t712) else ((cottonpadlaw06_span.f bt731.1 bt731.1).bind fun bt745 => (cottonpadlaw06_ExitsEnds.j1 kj4 l1 t697 t705 t715 bt719.1 bt723.1 bt727.1 (!(bt739.1 == bt745.1) || (!(bt739.2.1 == bt745.2))) l0_0 l0_1 t699 t702 t709 t712)))) else (cottonpadlaw06_ExitsEnds.j1 kj4 l1 t697 t705 t715 bt719.1 bt723.1 bt727.1 true l0_0 l0_1 t699 t702 t709 t712)) else (cottonpadlaw06_ExitsEnds.j1 kj4 l1 t697 t705 t715 bt719.1 bt723.1 bt727.1 true l0_0 l0_1 t699 t702 t709 t712)) else (cottonpadlaw06_ExitsEnds.j1 kj4 l1 t697 t705 t715 bt719.1 bt723.1 bt727.1 true l0_0 l0_1 t699 t702 t709 t712)) else (cottonpadlaw06_ExitsEnds.j1 kj4 l1 t697 t705 t715 bt719.1 bt723.1 bt727.1 true l0_0 l0_1 t699 t702 t709 t712)) else (cottonpadlaw06_ExitsEnds.j1 kj4 l1 t697 t705 t715 bt719.1 bt723.1 bt727.1 true l0_0 l0_1 t699 t702 t709 t712)) else (cottonpadlaw06_ExitsEnds.j1 kj4 l1 t697 t705 t715 bt719.1 bt723.1 bt727.1 true l0_0 l0_1 t699 t702 t709 t712)) else (cottonpadlaw06_ExitsEnds.j1 kj4 l1 t697 t705 t715 bt719.1 bt723.1 bt727.1 true l0_0 l0_1 t699 t702 t709 t712)) else (cottonpadlaw06_ExitsEnds.j1 kj4 l1 t697 t705 t715 bt719.1 bt723.1 bt727.1 true l0_0 l0_1 t699 t702 t709 t712)))))))) = some r := H
     have A17 := Aside0.mk A170
     clear A170
     replace H := Option.bind_eq_some_iff.mp H
     obtain ⟨⟨t719, t722⟩, A180, H⟩ := H
     replace H : ((exits_Leaves.f t699 t702 t705 (Int.tmod (wrap64 (a2)) (l0_0.length : Int))).bind fun bt723 => ((exits_Leaves.f t709 t712 t715 (Int.tmod (wrap64 (a2)) (l0_0.length : Int))).bind fun bt727 => ((exits_Out.f l0_0 l0_1 l1).bind fun bt731 => ((exits_Out.f t699 t702 t705).bind fun bt735 => ((exits_Out.f t709 t712 t715).bind fun bt739 => (if t722 = 0 then (if bt723.2 = 0 then (if bt727.2 = 0 then (if bt731.2.2 = 0 then (if bt735.2.2 = 0 then (if bt739.2.2 = 0 then (if (t719.length : Int) = (bt723.1.length : Int) then (if (t719.length : Int) = (bt727.1.length : Int) then ((cottonpadlaw06_span.f bt731.2.1 bt731.2.1).bind fun bt743 => (if (!(bt735.1 == bt743.1) || (!(bt735.2.1 == bt743.2))) = true then (cottonpadlaw06_ExitsEnds.j1 kj4 l1 t697 t705 t715 t719 bt723.1 bt727.1 true l0_0 l0_1 t699 t702 t709 t712) else ((cottonpadlaw06_span.f bt731.1 bt731.1).bind fun bt745 => (cottonpadlaw06_ExitsEnds.j1 kj4 l1 t697 t705 t715 t719 bt723.1 bt727.1 (!(bt739.1 == bt745.1) || (!(bt739.2.1 == bt745.2))) l0_0 l0_1 t699 t702 t709 t712)))) else (cottonpadlaw06_ExitsEnds.j1 kj4 l1 t697 t705 t715 t719 bt723.1 bt727.1 true l0_0 l0_1 t699 t702 t709 t712)) else (cottonpadlaw06_ExitsEnds.j1 kj4 l1 t697 t705 t715 t719 bt723.1 bt727.1 true l0_0 l0_1 t699 t702 t709 t712)) else (cottonpadlaw06_ExitsEnds.j1 kj4 l1 t697 t705 t715 t719 bt723.1 bt727.1 true l0_0 l0_1 t699 t702 t709 t712)) else (cottonpadlaw06_ExitsEnds.j1 kj4 l1 t697 t705 t715 t719 bt723.1 bt727.1 true l0_0 l0_1 t699 t702 t709 t712)) else (cottonpadlaw06_ExitsEnds.j1 kj4 l1 t697 t705 t715 t719 bt723.1 bt727.1 true l0_0 l0_1 t699 t702 t709 t712)) else (cottonpadlaw06_ExitsEnds.j1 kj4 l1 t697 t705 t715 t719 bt723.1 bt727.1 true l0_0 l0_1 t699 t702 t709 t712)) else (cottonpadlaw06_ExitsEnds.j1 kj4 l1 t697 t705 t715 t719 bt723.1 bt727.1 true l0_0 l0_1 t699 t702 t709 t712)) else (cottonpadlaw06_ExitsEnds.j1 kj4 l1 t697 t705 t715 t719 bt723.1 bt727.1 true l0_0 l0_1 t699 t702 t709 t712))))))) = some r := H
     have A18 := Aside0.mk A180
     clear A180
     replace H := Option.bind_eq_some_iff.mp H
     obtain ⟨⟨t723, t726⟩, A190, H⟩ := H
     replace H : ((exits_Leaves.f t709 t712 t715 (Int.tmod (wrap64 (a2)) (l0_0.length : Int))).bind fun bt727 => ((exits_Out.f l0_0 l0_1 l1).bind fun bt731 => ((exits_Out.f t699 t702 t705).bind fun bt735 => ((exits_Out.f t709 t712 t715).bind fun bt739 => (if t722 = 0 then (if t726 = 0 then (if bt727.2 = 0 then (if bt731.2.2 = 0 then (if bt735.2.2 = 0 then (if bt739.2.2 = 0 then (if (t719.length : Int) = (t723.length : Int) then (if (t719.length : Int) = (bt727.1.length : Int) then ((cottonpadlaw06_span.f bt731.2.1 bt731.2.1).bind fun bt743 => (if (!(bt735.1 == bt743.1) || (!(bt735.2.1 == bt743.2))) = true then (cottonpadlaw06_ExitsEnds.j1 kj4 l1 t697 t705 t715 t719 t723 bt727.1 true l0_0 l0_1 t699 t702 t709 t712) else ((cottonpadlaw06_span.f bt731.1 bt731.1).bind fun bt745 => (cottonpadlaw06_ExitsEnds.j1 kj4 l1 t697 t705 t715 t719 t723 bt727.1 (!(bt739.1 == bt745.1) || (!(bt739.2.1 == bt745.2))) l0_0 l0_1 t699 t702 t709 t712)))) else (cottonpadlaw06_ExitsEnds.j1 kj4 l1 t697 t705 t715 t719 t723 bt727.1 true l0_0 l0_1 t699 t702 t709 t712)) else (cottonpadlaw06_ExitsEnds.j1 kj4 l1 t697 t705 t715 t719 t723 bt727.1 true l0_0 l0_1 t699 t702 t709 t712)) else (cottonpadlaw06_ExitsEnds.j1 kj4 l1 t697 t705 t715 t719 t723 bt727.1 true l0_0 l0_1 t699 t702 t709 t712)) else (cottonpadlaw06_ExitsEnds.j1 kj4 l1 t697 t705 t715 t719 t723 bt727.1 true l0_0 l0_1 t699 t702 t709 t712)) else (cottonpadlaw06_ExitsEnds.j1 kj4 l1 t697 t705 t715 t719 t723 bt727.1 true l0_0 l0_1 t699 t702 t709 t712)) else (cottonpadlaw06_ExitsEnds.j1 kj4 l1 t697 t705 t715 t719 t723 bt727.1 true l0_0 l0_1 t699 t702 t709 t712)) else (cottonpadlaw06_ExitsEnds.j1 kj4 l1 t697 t705 t715 t719 t723 bt727.1 true l0_0 l0_1 t699 t702 t709 t712)) else (cottonpadlaw06_ExitsEnds.j1 kj4 l1 t697 t705 t715 t719 t723 bt727.1 true l0_0 l0_1 t699 t702 t709 t712)))))) = some r := H
     have A19 := Aside0.mk A190
     clear A190
     replace H := Option.bind_eq_some_iff.mp H
     obtain ⟨⟨t727, t730⟩, A200, H⟩ := H
     replace H : ((exits_Out.f l0_0 l0_1 l1).bind fun bt731 => ((exits_Out.f t699 t702 t705).bind fun bt735 => ((exits_Out.f t709 t712 t715).bind fun bt739 => (if t722 = 0 then (if t726 = 0 then (if t730 = 0 then (if bt731.2.2 = 0 then (if bt735.2.2 = 0 then (if bt739.2.2 = 0 then (if (t719.length : Int) = (t723.length : Int) then (if (t719.length : Int) = (t727.length : Int) then ((cottonpadlaw06_span.f bt731.2.1 bt731.2.1).bind fun bt743 => (if (!(bt735.1 == bt743.1) || (!(bt735.2.1 == bt743.2))) = true then (cottonpadlaw06_ExitsEnds.j1 kj4 l1 t697 t705 t715 t719 t723 t727 true l0_0 l0_1 t699 t702 t709 t712) else ((cottonpadlaw06_span.f bt731.1 bt731.1).bind fun bt745 => (cottonpadlaw06_ExitsEnds.j1 kj4 l1 t697 t705 t715 t719 t723 t727 (!(bt739.1 == bt745.1) || (!(bt739.2.1 == bt745.2))) l0_0 l0_1 t699 t702 t709 t712)))) else (cottonpadlaw06_ExitsEnds.j1 kj4 l1 t697 t705 t715 t719 t723 t727 true l0_0 l0_1 t699 t702 t709 t712)) else (cottonpadlaw06_ExitsEnds.j1 kj4 l1 t697 t705 t715 t719 t723 t727 true l0_0 l0_1 t699 t702 t709 t712)) else (cottonpadlaw06_ExitsEnds.j1 kj4 l1 t697 t705 t715 t719 t723 t727 true l0_0 l0_1 t699 t702 t709 t712)) else (cottonpadlaw06_ExitsEnds.j1 kj4 l1 t697 t705 t715 t719 t723 t727 true l0_0 l0_1 t699 t702 t709 t712)) else (cottonpadlaw06_ExitsEnds.j1 kj4 l1 t697 t705 t715 t719 t723 t727 true l0_0 l0_1 t699 t702 t709 t712)) else (cottonpadlaw06_ExitsEnds.j1 kj4 l1 t697 t705 t715 t719 t723 t727 true l0_0 l0_1 t699 t702 t709 t712)) else (cottonpadlaw06_ExitsEnds.j1 kj4 l1 t697 t705 t715 t719 t723 t727 true l0_0 l0_1 t699 t702 t709 t712)) else (cottonpadlaw06_ExitsEnds.j1 kj4 l1 t697 t705 t715 t719 t723 t727 true l0_0 l0_1 t699 t702 t709 t712))))) = some r := H
     have A20 := Aside0.mk A200
     clear A200
     replace H := Option.bind_eq_some_iff.mp H
     obtain ⟨⟨t731, t732, t733⟩, A210, H⟩ := H
     replace H : ((exits_Out.f t699 t702 t705).bind fun bt735 => ((exits_Out.f t709 t712 t715).bind fun bt739 => (if t722 = 0 then (if t726 = 0 then (if t730 = 0 then (if t733 = 0 then (if bt735.2.2 = 0 then (if bt739.2.2 = 0 then (if (t719.length : Int) = (t723.length : Int) then (if (t719.length : Int) = (t727.length : Int) then ((cottonpadlaw06_span.f t732 t732).bind fun bt743 => (if (!(bt735.1 == bt743.1) || (!(bt735.2.1 == bt743.2))) = true then (cottonpadlaw06_ExitsEnds.j1 kj4 l1 t697 t705 t715 t719 t723 t727 true l0_0 l0_1 t699 t702 t709 t712) else ((cottonpadlaw06_span.f t731 t731).bind fun bt745 => (cottonpadlaw06_ExitsEnds.j1 kj4 l1 t697 t705 t715 t719 t723 t727 (!(bt739.1 == bt745.1) || (!(bt739.2.1 == bt745.2))) l0_0 l0_1 t699 t702 t709 t712)))) else (cottonpadlaw06_ExitsEnds.j1 kj4 l1 t697 t705 t715 t719 t723 t727 true l0_0 l0_1 t699 t702 t709 t712)) else (cottonpadlaw06_ExitsEnds.j1 kj4 l1 t697 t705 t715 t719 t723 t727 true l0_0 l0_1 t699 t702 t709 t712)) else (cottonpadlaw06_ExitsEnds.j1 kj4 l1 t697 t705 t715 t719 t723 t727 true l0_0 l0_1 t699 t702 t709 t712)) else (cottonpadlaw06_ExitsEnds.j1 kj4 l1 t697 t705 t715 t719 t723 t727 true l0_0 l0_1 t699 t702 t709 t712)) else (cottonpadlaw06_ExitsEnds.j1 kj4 l1 t697 t705 t715 t719 t723 t727 true l0_0 l0_1 t699 t702 t709 t712)) else (cottonpadlaw06_ExitsEnds.j1 kj4 l1 t697 t705 t715 t719 t723 t727 true l0_0 l0_1 t699 t702 t709 t712)) else (cottonpadlaw06_ExitsEnds.j1 kj4 l1 t697 t705 t715 t719 t723 t727 true l0_0 l0_1 t699 t702 t709 t712)) else (cottonpadlaw06_ExitsEnds.j1 kj4 l1 t697 t705 t715 t719 t723 t727 true l0_0 l0_1 t699 t702 t709 t712)))) = some r := H
     have A21 := Aside0.mk A210
     clear A210
     replace H := Option.bind_eq_some_iff.mp H
     obtain ⟨⟨t735, t736, t737⟩, A220, H⟩ := H
     replace H : ((exits_Out.f t709 t712 t715).bind fun bt739 => (if t722 = 0 then (if t726 = 0 then (if t730 = 0 then (if t733 = 0 then (if t737 = 0 then (if bt739.2.2 = 0 then (if (t719.length : Int) = (t723.length : Int) then (if (t719.length : Int) = (t727.length : Int) then ((cottonpadlaw06_span.f t732 t732).bind fun bt743 => (if (!(t735 == bt743.1) || (!(t736 == bt743.2))) = true then (cottonpadlaw06_ExitsEnds.j1 kj4 l1 t697 t705 t715 t719 t723 t727 true l0_0 l0_1 t699 t702 t709 t712) else ((cottonpadlaw06_span.f t731 t731).bind fun bt745 => (cottonpadlaw06_ExitsEnds.j1 kj4 l1 t697 t705 t715 t719 t723 t727 (!(bt739.1 == bt745.1) || (!(bt739.2.1 == bt745.2))) l0_0 l0_1 t699 t702 t709 t712)))) else (cottonpadlaw06_ExitsEnds.j1 kj4 l1 t697 t705 t715 t719 t723 t727 true l0_0 l0_1 t699 t702 t709 t712)) else (cottonpadlaw06_ExitsEnds.j1 kj4 l1 t697 t705 t715 t719 t723 t727 true l0_0 l0_1 t699 t702 t709 t712)) else (cottonpadlaw06_ExitsEnds.j1 kj4 l1 t697 t705 t715 t719 t723 t727 true l0_0 l0_1 t699 t702 t709 t712)) else (cottonpadlaw06_ExitsEnds.j1 kj4 l1 t697 t705 t715 t719 t723 t727 true l0_0 l0_1 t699 t702 t709 t712)) else (cottonpadlaw06_ExitsEnds.j1 kj4 l1 t697 t705 t715 t719 t723 t727 true l0_0 l0_1 t699 t702 t709 t712)) else (cottonpadlaw06_ExitsEnds.j1 kj4 l1 t697 t705 t715 t719 t723 t727 true l0_0 l0_1 t699 t702 t709 t712)) else (cottonpadlaw06_ExitsEnds.j1 kj4 l1 t697 t705 t715 t719 t723 t727 true l0_0 l0_1 t699 t702 t709 t712)) else (cottonpadlaw06_ExitsEnds.j1 kj4 l1 t697 t705 t715 t719 t723 t727 true l0_0 l0_1 t699 t702 t709 t712))) = some r := H
     have A22 := Aside0.mk A220
     clear A220
     replace H := Option.bind_eq_some_iff.mp H
     obtain ⟨⟨t739, t740, t741⟩, A230, H⟩ := H
     replace H : (if t722 = 0 then (if t726 = 0 then (if t730 = 0 then (if t733 = 0 then (if t737 = 0 then (if t741 = 0 then (if (t719.length : Int) = (t723.length : Int) then (if (t719.length : Int) = (t727.length : Int) then ((cottonpadlaw06_span.f t732 t732).bind fun bt743 => (if (!(t735 == bt743.1) || (!(t736 == bt743.2))) = true then (cottonpadlaw06_ExitsEnds.j1 kj4 l1 t697 t705 t715 t719 t723 t727 true l0_0 l0_1 t699 t702 t709 t712) else ((cottonpadlaw06_span.f t731 t731).bind fun bt745 => (cottonpadlaw06_ExitsEnds.j1 kj4 l1 t697 t705 t715 t719 t723 t727 (!(t739 == bt745.1) || (!(t740 == bt745.2))) l0_0 l0_1 t699 t702 t709 t712)))) else (cottonpadlaw06_ExitsEnds.j1 kj4 l1 t697 t705 t715 t719 t723 t727 true l0_0 l0_1 t699 t702 t709 t712)) else (cottonpadlaw06_ExitsEnds.j1 kj4 l1 t697 t705 t715 t719 t723 t727 true l0_0 l0_1 t699 t702 t709 t712)) else (cottonpadlaw06_ExitsEnds.j1 kj4 l1 t697 t705 t715 t719 t723 t727 true l0_0 l0_1 t699 t702 t709 t712)) else (cottonpadlaw06_ExitsEnds.j1 kj4 l1 t697 t705 t715 t719 t723 t727 true l0_0 l0_1 t699 t702 t709 t712)) else (cottonpadlaw06_ExitsEnds.j1 kj4 l1 t697 t705 t715 t719 t723 t727 true l0_0 l0_1 t699 t702 t709 t712)) else (cottonpadlaw06_ExitsEnds.j1 kj4 l1 t697 t705 t715 t719 t723 t727 true l0_0 l0_1 t699 t702 t709 t712)) else (cottonpadlaw06_ExitsEnds.j1 kj4 l1 t697 t705 t715 t719 t723 t727 true l0_0 l0_1 t699 t702 t709 t712)) else (cottonpadlaw06_ExitsEnds.j1 kj4 l1 t697 t705 t715 t719 t723 t727 true l0_0 l0_1 t699 t702 t709 t712)) = some r := H
     have A23 := Aside0.mk A230
     clear A230
     have HC24 := Aside0.mk H
     clear H
     have hcz25_0 : wc.cell? ⟨gb696, 0, none⟩ = some (.slice A0_0 l0_0.length c0_0) := bc_ BK696 0
     have hcz25_1 : wc.cell? ⟨gb696, 1, none⟩ = some (.slice A0_1 l0_1.length c0_1) := bc_ BK696 1
     have hfz25_0 := blk_frozen BK696.out 0
     have hfz25_1 := blk_frozen BK696.out 1
     go_upto_region 13 with (first | ((with_reducible refine gate_callee (f := 44) rfl ?_); refine goesL_ (some 57) rfl rfl Tryd.func44 (by kernel_rfl) rfl #[.agg #[.slice A0_0 l0_0.length c0_0, .slice A0_1 l0_1.length c0_1], .slice A1 l1.length c1, .bool true] rfl ls_ ?_; (with_reducible refine (cottonpadlaw06_fixed.calls _ _ l0_0 _ _ l0_1 _ _ l1 true t699 t702 t705 _ ?side1 ?side2 ?side3 ?side4 ?side5 ?side6 A16.out).mono ?_); (case side1 => exact kc_ HR0_0 HB); (case side2 => exact HC0_0.out); (case side3 => exact kc_ HR0_1 HB); (case side4 => exact HC0_1.out); (case side5 => exact kc_ HR1 HB); (case side6 => exact HC1.out); rintro e w26 ⟨v700, v703, v706, rfl, ho0, ho1, ho2, hb⟩; refine ⟨_, rfl, ?_⟩; have HO701 := Aside0.mk (Kd.R_lower ho0 (below_size (be1_ HB GE696))); have HO704 := Aside0.mk (Kd.R_lower ho1 (below_size (be1_ HB GE696))); have HO707 := Aside0.mk (Kd.R_lower ho2 (below_size (be1_ HB GE696))); replace BK696 := bb_ BK696 hb; replace HB := bs1_ HB GE696 hb; (try clear hb); (try clear hb2); (try clear hk); (try clear hi); (try clear ho0); (try clear ho1); (try clear ho2)) | ((with_reducible refine gate_dst (N := 9) rfl ?_); (try (refine gate_guard (by rfl) ?_; dsimp only)); refine box_event ?hg (N := 9) ?hd (cs := #[.slice none 0 0, .slice none 0 0]) (t := 25) ?hr ?_; (case hd => rfl); (case hg => rfl); (case hr => exact gs_); intro gb708 hg w27 hbox hb; replace HO701 := rb_ HO701 hb; replace HO704 := rb_ HO704 hb; replace HO707 := rb_ HO707 hb; have BK708 := Aside0.mk (hbox); have GW708 := hl_ hg (be1_ HB GE696); have GE708 := hl_ hg (be1_ HB GE696); replace HB := bs1_ HB GE696 hb; have NB696_708 := Aside0.mk ((by rw [hg]; exact Nat.ne_of_lt (blk_lt (bk_ BK696)) : gb696 ≠ gb708)); have NB708_696 := Aside0.mk ((by rw [hg]; exact Nat.ne_of_gt (blk_lt (bk_ BK696)) : gb708 ≠ gb696)); replace BK696 := bb_ BK696 hb; clear hb hbox hg; obtain ⟨Ao28, co28, eo28⟩ := Kd.R_slice HO701.out; subst eo28; have hnb29 := NB708_696.out; have hnc29 := NB696_708.out; have hcz30_0 : w27.cell? ⟨gb708, 0, none⟩ = some (.slice none 0 0) := bc_ BK708 0; have hcz30_1 : w27.cell? ⟨gb708, 1, none⟩ = some (.slice none 0 0) := bc_ BK708 1; have hfz30_0 := blk_frozen BK708.out 0; have hfz30_1 := blk_frozen BK708.out 1; obtain ⟨Ao31, co31, eo31⟩ := Kd.R_slice HO704.out; subst eo31; have hcz32_0 : w27.cell? ⟨gb696, 0, none⟩ = some (.slice A0_0 l0_0.length c0_0) := bc_ BK696 0; have hcz32_1 : w27.cell? ⟨gb696, 1, none⟩ = some (.slice A0_1 l0_1.length c0_1) := bc_ BK696 1; have hfz32_0 := blk_frozen BK696.out 0; have hfz32_1 := blk_frozen BK696.out 1) | ((with_reducible refine gate_callee (f := 44) rfl ?_); refine goesL_ (some 63) rfl rfl Tryd.func44 (by kernel_rfl) rfl #[.agg #[.slice A0_0 l0_0.length c0_0, .slice A0_1 l0_1.length c0_1], .slice A1 l1.length c1, .bool false] rfl ls_ ?_; (with_reducible refine (cottonpadlaw06_fixed.calls _ _ l0_0 _ _ l0_1 _ _ l1 false t709 t712 t715 _ ?side1 ?side2 ?side3 ?side4 ?side5 ?side6 A17.out).mono ?_); (case side1 => exact Kd.C_below HR0_0.out (be2_ HB GE696 GE708)); (case side2 => exact HC0_0.out); (case side3 => exact Kd.C_below HR0_1.out (be2_ HB GE696 GE708)); (case side4 => exact HC0_1.out); (case side5 => exact Kd.C_below HR1.out (be2_ HB GE696 GE708)); (case side6 => exact HC1.out); rintro e w33 ⟨v710, v713, v716, rfl, ho0, ho1, ho2, hb⟩; refine ⟨_, rfl, ?_⟩; have HO711 := Aside0.mk (Kd.R_lower (Kd.R_new' ho0 (Kd.R_lt (by (with_reducible repeat (first | apply Kd.R_alloc | apply Kd.R_drewN | apply Kd.R_drew)); exact (Kd.R_mono (Kd.R_far (p := ⟨gb708, 1, none⟩) (Kd.R_far (p := ⟨gb708, 0, none⟩) (Kd.R_types HO701.out BK708.out (by decide)) (fun _ hk => hk.2) (.slice Ao28 t699.length co28)) (fun _ hk => hk.2) (.slice Ao31 t702.length co31)) (fun _ h_ => h_.1))))) (below_size (be2_ HB GE696 GE708))); replace HO701 := Aside0.mk (Kd.R_elder' (by (with_reducible repeat (first | apply Kd.R_alloc | apply Kd.R_drewN | apply Kd.R_drew)); exact (Kd.R_mono (Kd.R_far (p := ⟨gb708, 1, none⟩) (Kd.R_far (p := ⟨gb708, 0, none⟩) (Kd.R_types HO701.out BK708.out (by decide)) (fun _ hk => hk.2) (.slice Ao28 t699.length co28)) (fun _ hk => hk.2) (.slice Ao31 t702.length co31)) (fun _ h_ => h_.1))) (Kd.R_base ho0) hb); have HO714 := Aside0.mk (Kd.R_lower (Kd.R_new' ho1 (Kd.R_lt (by (with_reducible repeat (first | apply Kd.R_alloc | apply Kd.R_drewN | apply Kd.R_drew)); exact (Kd.R_mono (Kd.R_far (p := ⟨gb708, 1, none⟩) (Kd.R_far (p := ⟨gb708, 0, none⟩) (Kd.R_types HO704.out BK708.out (by decide)) (fun _ hk => hk.2) (.slice Ao28 t699.length co28)) (fun _ hk => hk.2) (.slice Ao31 t702.length co31)) (fun _ h_ => h_.1))))) (below_size (be2_ HB GE696 GE708))); replace HO704 := Aside0.mk (Kd.R_elder' (by (with_reducible repeat (first | apply Kd.R_alloc | apply Kd.R_drewN | apply Kd.R_drew)); exact (Kd.R_mono (Kd.R_far (p := ⟨gb708, 1, none⟩) (Kd.R_far (p := ⟨gb708, 0, none⟩) (Kd.R_types HO704.out BK708.out (by decide)) (fun _ hk => hk.2) (.slice Ao28 t699.length co28)) (fun _ hk => hk.2) (.slice Ao31 t702.length co31)) (fun _ h_ => h_.1))) (Kd.R_base ho1) hb); have HO717 := Aside0.mk (Kd.R_lower (Kd.R_new' ho2 (Kd.R_lt (by (with_reducible repeat (first | apply Kd.R_alloc | apply Kd.R_drewN | apply Kd.R_drew)); exact (Kd.R_mono (Kd.R_far (p := ⟨gb708, 1, none⟩) (Kd.R_far (p := ⟨gb708, 0, none⟩) (Kd.R_types HO707.out BK708.out (by decide)) (fun _ hk => hk.2) (.slice Ao28 t699.length co28)) (fun _ hk => hk.2) (.slice Ao31 t702.length co31)) (fun _ h_ => h_.1))))) (below_size (be2_ HB GE696 GE708))); replace HO707 := Aside0.mk (Kd.R_elder' (by (with_reducible repeat (first | apply Kd.R_alloc | apply Kd.R_drewN | apply Kd.R_drew)); exact (Kd.R_mono (Kd.R_far (p := ⟨gb708, 1, none⟩) (Kd.R_far (p := ⟨gb708, 0, none⟩) (Kd.R_types HO707.out BK708.out (by decide)) (fun _ hk => hk.2) (.slice Ao28 t699.length co28)) (fun _ hk => hk.2) (.slice Ao31 t702.length co31)) (fun _ h_ => h_.1))) (Kd.R_base ho2) hb); replace BK696 := Aside0.mk (blk_below (g := gb696) (o := .cells #[.slice A0_0 l0_0.length c0_0, .slice A0_1 l0_1.length c0_1] 25 (0, 0)) (by refine bx_ ?_; refine blk_far ?_ NB696_708.out _; refine bx_ ?_; refine blk_far ?_ NB696_708.out _; refine bx_ ?_; exact BK696.out) hb); replace BK708 := Aside0.mk (blk_below (g := gb708) (o := .cells #[.slice Ao28 t699.length co28, .slice Ao31 t702.length co31] 25 (0, 0)) (by refine bx_ ?_; refine blk_put (cs := #[.slice Ao28 t699.length co28, .slice none 0 0]) ?_ 1 _ rfl; refine bx_ ?_; refine blk_put (cs := #[.slice none 0 0, .slice none 0 0]) ?_ 0 _ rfl; refine bx_ ?_; exact BK708.out) hb); replace HB := bs2_ HB GE696 GE708 hb; (try clear hb); (try clear hb2); (try clear hk); (try clear hi); (try clear ho0); (try clear ho1); (try clear ho2)) | ((with_reducible refine gate_dst (N := 11) rfl ?_); (try (refine gate_guard (by rfl) ?_; dsimp only)); refine box_event ?hg (N := 11) ?hd (cs := #[.slice none 0 0, .slice none 0 0]) (t := 25) ?hr ?_; (case hd => rfl); (case hg => rfl); (case hr => exact gs_); intro gb718 hg w34 hbox hb; replace HO701 := rb_ HO701 hb; replace HO704 := rb_ HO704 hb; replace HO707 := rb_ HO707 hb; replace HO711 := rb_ HO711 hb; replace HO714 := rb_ HO714 hb; replace HO717 := rb_ HO717 hb; have BK718 := Aside0.mk (hbox); have GW718 := hl_ hg (be2_ HB GE696 GE708); have GE718 := hl_ hg (be2_ HB GE696 GE708); replace HB := bs2_ HB GE696 GE708 hb; have NB696_718 := Aside0.mk ((by rw [hg]; exact Nat.ne_of_lt (blk_lt (bk_ BK696)) : gb696 ≠ gb718)); have NB718_696 := Aside0.mk ((by rw [hg]; exact Nat.ne_of_gt (blk_lt (bk_ BK696)) : gb718 ≠ gb696)); replace BK696 := bb_ BK696 hb; have NB708_718 := Aside0.mk ((by rw [hg]; exact Nat.ne_of_lt (blk_lt (bk_ BK708)) : gb708 ≠ gb718)); have NB718_708 := Aside0.mk ((by rw [hg]; exact Nat.ne_of_gt (blk_lt (bk_ BK708)) : gb718 ≠ gb708)); replace BK708 := bb_ BK708 hb; clear hb hbox hg; obtain ⟨Ao35, co35, eo35⟩ := Kd.R_slice HO711.out; subst eo35; have hnb36 := NB718_696.out; have hnc36 := NB696_718.out; have hnb37 := NB718_708.out; have hnc37 := NB708_718.out; have hcz38_0 : w34.cell? ⟨gb718, 0, none⟩ = some (.slice none 0 0) := bc_ BK718 0; have hcz38_1 : w34.cell? ⟨gb718, 1, none⟩ = some (.slice none 0 0) := bc_ BK718 1; have hfz38_0 := blk_frozen BK718.out 0; have hfz38_1 := blk_frozen BK718.out 1; obtain ⟨Ao39, co39, eo39⟩ := Kd.R_slice HO714.out; subst eo39; have hcz40_0 : w34.cell? ⟨gb696, 0, none⟩ = some (.slice A0_0 l0_0.length c0_0) := bc_ BK696 0; have hcz40_1 : w34.cell? ⟨gb696, 1, none⟩ = some (.slice A0_1 l0_1.length c0_1) := bc_ BK696 1; have hfz40_0 := blk_frozen BK696.out 0; have hfz40_1 := blk_frozen BK696.out 1) | ((with_reducible refine gate_callee (f := 17) rfl ?_); refine goesL_ (some 70) rfl rfl Tryd.func17 (by kernel_rfl) rfl #[.agg #[.slice A0_0 l0_0.length c0_0, .slice A0_1 l0_1.length c0_1], .slice A1 l1.length c1, .int .i64 (Int.tmod (wrap64 (a2)) (l0_0.length : Int))] rfl ls_ ?_; (with_reducible refine (exits_Leaves.calls _ _ l0_0 _ _ l0_1 _ _ l1 (Int.tmod (wrap64 (a2)) (l0_0.length : Int)) t719 t722 _ ?side7 ?side1 ?side2 ?side3 ?side4 ?side5 ?side6 A18.out).mono ?_); (case side1 => exact Kd.C_below HR0_0.out (be3_ HB GE696 GE708 GE718)); (case side2 => exact HC0_0.out); (case side3 => exact Kd.C_below HR0_1.out (be3_ HB GE696 GE708 GE718)); (case side4 => exact HC0_1.out); (case side5 => exact Kd.C_below HR1.out (be3_ HB GE696 GE708 GE718)); (case side6 => exact HC1.out); (case side7 => exact GlobsE.below HG.out.1 (be3_ HB GE696 GE708 GE718)); rintro e w41 ⟨v720, rfl, ho0, hb⟩; refine ⟨_, rfl, ?_⟩; replace HO701 := Aside0.mk (Kd.R_below (by (with_reducible repeat (first | apply Kd.R_alloc | apply Kd.R_drewN | apply Kd.R_drew)); exact (Kd.R_mono (Kd.R_far (p := ⟨gb718, 1, none⟩) (Kd.R_far (p := ⟨gb718, 0, none⟩) (Kd.R_types HO701.out BK718.out (by decide)) (fun _ hk => hk.2) (.slice Ao35 t709.length co35)) (fun _ hk => hk.2) (.slice Ao39 t712.length co39)) (fun _ h_ => h_.1))) hb); replace HO704 := Aside0.mk (Kd.R_below (by (with_reducible repeat (first | apply Kd.R_alloc | apply Kd.R_drewN | apply Kd.R_drew)); exact (Kd.R_mono (Kd.R_far (p := ⟨gb718, 1, none⟩) (Kd.R_far (p := ⟨gb718, 0, none⟩) (Kd.R_types HO704.out BK718.out (by decide)) (fun _ hk => hk.2) (.slice Ao35 t709.length co35)) (fun _ hk => hk.2) (.slice Ao39 t712.length co39)) (fun _ h_ => h_.1))) hb); replace HO707 := Aside0.mk (Kd.R_below (by (with_reducible repeat (first | apply Kd.R_alloc | apply Kd.R_drewN | apply Kd.R_drew)); exact (Kd.R_mono (Kd.R_far (p := ⟨gb718, 1, none⟩) (Kd.R_far (p := ⟨gb718, 0, none⟩) (Kd.R_types HO707.out BK718.out (by decide)) (fun _ hk => hk.2) (.slice Ao35 t709.length co35)) (fun _ hk => hk.2) (.slice Ao39 t712.length co39)) (fun _ h_ => h_.1))) hb); replace HO711 := Aside0.mk (Kd.R_below (by (with_reducible repeat (first | apply Kd.R_alloc | apply Kd.R_drewN | apply Kd.R_drew)); exact (Kd.R_mono (Kd.R_far (p := ⟨gb718, 1, none⟩) (Kd.R_far (p := ⟨gb718, 0, none⟩) (Kd.R_types HO711.out BK718.out (by decide)) (fun _ hk => hk.2) (.slice Ao35 t709.length co35)) (fun _ hk => hk.2) (.slice Ao39 t712.length co39)) (fun _ h_ => h_.1))) hb); replace HO714 := Aside0.mk (Kd.R_below (by (with_reducible repeat (first | apply Kd.R_alloc | apply Kd.R_drewN | apply Kd.R_drew)); exact (Kd.R_mono (Kd.R_far (p := ⟨gb718, 1, none⟩) (Kd.R_far (p := ⟨gb718, 0, none⟩) (Kd.R_types HO714.out BK718.out (by decide)) (fun _ hk => hk.2) (.slice Ao35 t709.length co35)) (fun _ hk => hk.2) (.slice Ao39 t712.length co39)) (fun _ h_ => h_.1))) hb); replace HO717 := Aside0.mk (Kd.R_below (by (with_reducible repeat (first | apply Kd.R_alloc | apply Kd.R_drewN | apply Kd.R_drew)); exact (Kd.R_mono (Kd.R_far (p := ⟨gb718, 1, none⟩) (Kd.R_far (p := ⟨gb718, 0, none⟩) (Kd.R_types HO717.out BK718.out (by decide)) (fun _ hk => hk.2) (.slice Ao35 t709.length co35)) (fun _ hk => hk.2) (.slice Ao39 t712.length co39)) (fun _ h_ => h_.1))) hb); have HO721 := Aside0.mk (Kd.R_lower ho0 (below_size (be3_ HB GE696 GE708 GE718))); replace BK696 := Aside0.mk (blk_below (g := gb696) (o := .cells #[.slice A0_0 l0_0.length c0_0, .slice A0_1 l0_1.length c0_1] 25 (0, 0)) (by refine bx_ ?_; refine blk_far ?_ NB696_718.out _; refine bx_ ?_; refine blk_far ?_ NB696_718.out _; refine bx_ ?_; exact BK696.out) hb); replace BK708 := Aside0.mk (blk_below (g := gb708) (o := .cells #[.slice Ao28 t699.length co28, .slice Ao31 t702.length co31] 25 (0, 0)) (by refine bx_ ?_; refine blk_far ?_ NB708_718.out _; refine bx_ ?_; refine blk_far ?_ NB708_718.out _; refine bx_ ?_; exact BK708.out) hb); replace BK718 := Aside0.mk (blk_below (g := gb718) (o := .cells #[.slice Ao35 t709.length co35, .slice Ao39 t712.length co39] 25 (0, 0)) (by refine bx_ ?_; refine blk_put (cs := #[.slice Ao35 t709.length co35, .slice none 0 0]) ?_ 1 _ rfl; refine bx_ ?_; refine blk_put (cs := #[.slice none 0 0, .slice none 0 0]) ?_ 0 _ rfl; refine bx_ ?_; exact BK718.out) hb); replace HB := bs3_ HB GE696 GE708 GE718 hb; (try clear hb); (try clear hb2); (try clear hk); (try clear hi); (try clear ho0); have hcz42_0 : w41.cell? ⟨gb708, 0, none⟩ = some (.slice Ao28 t699.length co28) := bc_ BK708 0; have hcz42_1 : w41.cell? ⟨gb708, 1, none⟩ = some (.slice Ao31 t702.length co31) := bc_ BK708 1; have hfz42_0 := blk_frozen BK708.out 0; have hfz42_1 := blk_frozen BK708.out 1; obtain ⟨Ao43, co43, eo43⟩ := Kd.R_slice HO707.out; subst eo43) | ((with_reducible refine gate_callee (f := 17) rfl ?_); refine goesL_ (some 77) rfl rfl Tryd.func17 (by kernel_rfl) rfl #[.agg #[.slice Ao28 t699.length co28, .slice Ao31 t702.length co31], .slice Ao43 t705.length co43, .int .i64 (Int.tmod (wrap64 (a2)) (l0_0.length : Int))] rfl ls_ ?_; (with_reducible refine (exits_Leaves.calls _ _ t699 _ _ t702 _ _ t705 (Int.tmod (wrap64 (a2)) (l0_0.length : Int)) t723 t726 _ ?side7 ?side1 ?side2 ?side3 ?side4 ?side5 ?side6 A19.out).mono ?_); (case side1 => exact kd_ (Kd.R_reads' HO701.out).2.2); (case side2 => exact (Kd.R_reads' HO701.out).2.1); (case side3 => exact kd_ (Kd.R_reads' HO704.out).2.2); (case side4 => exact (Kd.R_reads' HO704.out).2.1); (case side5 => exact kd_ (Kd.R_reads' HO707.out).2.2); (case side6 => exact (Kd.R_reads' HO707.out).2.1); (case side7 => exact GlobsE.below HG.out.1 (be3_ HB GE696 GE708 GE718)); rintro e w44 ⟨v724, rfl, ho0, hb⟩; refine ⟨_, rfl, ?_⟩; replace HO701 := rb_ HO701 hb; replace HO704 := rb_ HO704 hb; replace HO707 := rb_ HO707 hb; replace HO711 := rb_ HO711 hb; replace HO714 := rb_ HO714 hb; replace HO717 := rb_ HO717 hb; have HO725 := Aside0.mk (Kd.R_lower (Kd.R_new' ho0 (Kd.R_lt (ro_ HO721))) (below_size (be3_ HB GE696 GE708 GE718))); replace HO721 := Aside0.mk (Kd.R_elder' (ro_ HO721) (Kd.R_base ho0) hb); replace BK696 := bb_ BK696 hb; replace BK708 := bb_ BK708 hb; replace BK718 := bb_ BK718 hb; replace HB := bs3_ HB GE696 GE708 GE718 hb; (try clear hb); (try clear hb2); (try clear hk); (try clear hi); (try clear ho0); have hcz45_0 : w44.cell? ⟨gb718, 0, none⟩ = some (.slice Ao35 t709.length co35) := bc_ BK718 0; have hcz45_1 : w44.cell? ⟨gb718, 1, none⟩ = some (.slice Ao39 t712.length co39) := bc_ BK718 1; have hfz45_0 := blk_frozen BK718.out 0; have hfz45_1 := blk_frozen BK718.out 1; obtain ⟨Ao46, co46, eo46⟩ := Kd.R_slice HO717.out; subst eo46) | ((with_reducible refine gate_callee (f := 17) rfl ?_); refine goesL_ (some 84) rfl rfl Tryd.func17 (by kernel_rfl) rfl #[.agg #[.slice Ao35 t709.length co35, .slice Ao39 t712.length co39], .slice Ao46 t715.length co46, .int .i64 (Int.tmod (wrap64 (a2)) (l0_0.length : Int))] rfl ls_ ?_; (with_reducible refine (exits_Leaves.calls _ _ t709 _ _ t712 _ _ t715 (Int.tmod (wrap64 (a2)) (l0_0.length : Int)) t727 t730 _ ?side7 ?side1 ?side2 ?side3 ?side4 ?side5 ?side6 A20.out).mono ?_); (case side1 => exact kd_ (Kd.R_reads' HO711.out).2.2); (case side2 => exact (Kd.R_reads' HO711.out).2.1); (case side3 => exact kd_ (Kd.R_reads' HO714.out).2.2); (case side4 => exact (Kd.R_reads' HO714.out).2.1); (case side5 => exact kd_ (Kd.R_reads' HO717.out).2.2); (case side6 => exact (Kd.R_reads' HO717.out).2.1); (case side7 => exact GlobsE.below HG.out.1 (be3_ HB GE696 GE708 GE718)); rintro e w47 ⟨v728, rfl, ho0, hb⟩; refine ⟨_, rfl, ?_⟩; replace HO701 := rb_ HO701 hb; replace HO704 := rb_ HO704 hb; replace HO707 := rb_ HO707 hb; replace HO711 := rb_ HO711 hb; replace HO714 := rb_ HO714 hb; replace HO717 := rb_ HO717 hb; have HO729 := Aside0.mk (Kd.R_lower (Kd.R_new' (Kd.R_new' ho0 (Kd.R_lt (ro_ HO721))) (Kd.R_lt (ro_ HO725))) (below_size (be3_ HB GE696 GE708 GE718))); replace HO721 := Aside0.mk (Kd.R_elder' (ro_ HO721) (Kd.R_base ho0) hb); replace HO725 := Aside0.mk (Kd.R_elder' (ro_ HO725) (Kd.R_base ho0) hb); replace BK696 := bb_ BK696 hb; replace BK708 := bb_ BK708 hb; replace BK718 := bb_ BK718 hb; replace HB := bs3_ HB GE696 GE708 GE718 hb; (try clear hb); (try clear hb2); (try clear hk); (try clear hi); (try clear ho0); have hcz48_0 : w47.cell? ⟨gb696, 0, none⟩ = some (.slice A0_0 l0_0.length c0_0) := bc_ BK696 0; have hcz48_1 : w47.cell? ⟨gb696, 1, none⟩ = some (.slice A0_1 l0_1.length c0_1) := bc_ BK696 1; have hfz48_0 := blk_frozen BK696.out 0; have hfz48_1 := blk_frozen BK696.out 1) | ((with_reducible refine gate_callee (f := 19) rfl ?_); refine goesL_ (some 90) rfl rfl Tryd.func19 (by kernel_rfl) rfl #[.agg #[.slice A0_0 l0_0.length c0_0, .slice A0_1 l0_1.length c0_1], .slice A1 l1.length c1] rfl ls_ ?_; (with_reducible refine (exits_Out.calls _ _ l0_0 _ _ l0_1 _ _ l1 t731 t732 t733 _ ?side7 ?side1 ?side2 ?side3 ?side4 ?side5 ?side6 A21.out).mono ?_); (case side1 => exact kc_ HR0_0 HB); (case side2 => exact HC0_0.out); (case side3 => exact kc_ HR0_1 HB); (case side4 => exact HC0_1.out); (case side5 => exact kc_ HR1 HB); (case side6 => exact HC1.out); (case side7 => exact GlobsE.below HG.out.1 (be3_ HB GE696 GE708 GE718)); rintro e w49 ⟨rfl, hb⟩; refine ⟨_, rfl, ?_⟩; replace HO701 := rb_ HO701 hb; replace HO704 := rb_ HO704 hb; replace HO707 := rb_ HO707 hb; replace HO711 := rb_ HO711 hb; replace HO714 := rb_ HO714 hb; replace HO717 := rb_ HO717 hb; replace HO721 := rb_ HO721 hb; replace HO725 := rb_ HO725 hb; replace HO729 := rb_ HO729 hb; replace BK696 := bb_ BK696 hb; replace BK708 := bb_ BK708 hb; replace BK718 := bb_ BK718 hb; replace HB := bs3_ HB GE696 GE708 GE718 hb; (try clear hb); (try clear hb2); (try clear hk); (try clear hi)) | ((with_reducible refine gate_dst (N := 19) rfl ?_); (try (refine gate_guard (by rfl) ?_; dsimp only)); refine box_event ?hg (N := 19) ?hd (cs := #[.int .i64 0, .int .i64 0]) (t := 36) ?hr ?_; (case hd => rfl); (case hg => rfl); (case hr => exact gs_); intro gb734 hg w50 hbox hb; replace HO701 := rb_ HO701 hb; replace HO704 := rb_ HO704 hb; replace HO707 := rb_ HO707 hb; replace HO711 := rb_ HO711 hb; replace HO714 := rb_ HO714 hb; replace HO717 := rb_ HO717 hb; replace HO721 := Aside0.mk (Kd.R_below (Kd.R_elderB (ro_ HO721) gb734 (Nat.le_of_eq hg.symm)) hb); replace HO725 := Aside0.mk (Kd.R_below (Kd.R_elderB (ro_ HO725) gb734 (Nat.le_of_eq hg.symm)) hb); replace HO729 := Aside0.mk (Kd.R_below (Kd.R_elderB (ro_ HO729) gb734 (Nat.le_of_eq hg.symm)) hb); have BK734 := Aside0.mk (hbox); have GW734 := hl_ hg (be3_ HB GE696 GE708 GE718); have GE734 := hl_ hg (be3_ HB GE696 GE708 GE718); replace HB := bs3_ HB GE696 GE708 GE718 hb; have NB696_734 := Aside0.mk ((by rw [hg]; exact Nat.ne_of_lt (blk_lt (bk_ BK696)) : gb696 ≠ gb734)); have NB734_696 := Aside0.mk ((by rw [hg]; exact Nat.ne_of_gt (blk_lt (bk_ BK696)) : gb734 ≠ gb696)); replace BK696 := bb_ BK696 hb; have NB708_734 := Aside0.mk ((by rw [hg]; exact Nat.ne_of_lt (blk_lt (bk_ BK708)) : gb708 ≠ gb734)); have NB734_708 := Aside0.mk ((by rw [hg]; exact Nat.ne_of_gt (blk_lt (bk_ BK708)) : gb734 ≠ gb708)); replace BK708 := bb_ BK708 hb; have NB718_734 := Aside0.mk ((by rw [hg]; exact Nat.ne_of_lt (blk_lt (bk_ BK718)) : gb718 ≠ gb734)); have NB734_718 := Aside0.mk ((by rw [hg]; exact Nat.ne_of_gt (blk_lt (bk_ BK718)) : gb734 ≠ gb718)); replace BK718 := bb_ BK718 hb; clear hb hbox hg; have hnb51 := NB734_696.out; have hnc51 := NB696_734.out; have hnb52 := NB734_708.out; have hnc52 := NB708_734.out; have hnb53 := NB734_718.out; have hnc53 := NB718_734.out; have hcz54_0 : w50.cell? ⟨gb734, 0, none⟩ = some (.int .i64 0) := bc_ BK734 0; have hcz54_1 : w50.cell? ⟨gb734, 1, none⟩ = some (.int .i64 0) := bc_ BK734 1; have hfz54_0 := blk_frozen BK734.out 0; have hfz54_1 := blk_frozen BK734.out 1; have hcz55_0 : w50.cell? ⟨gb708, 0, none⟩ = some (.slice Ao28 t699.length co28) := bc_ BK708 0; have hcz55_1 : w50.cell? ⟨gb708, 1, none⟩ = some (.slice Ao31 t702.length co31) := bc_ BK708 1; have hfz55_0 := blk_frozen BK708.out 0; have hfz55_1 := blk_frozen BK708.out 1) | ((with_reducible refine gate_callee (f := 19) rfl ?_); refine goesL_ (some 96) rfl rfl Tryd.func19 (by kernel_rfl) rfl #[.agg #[.slice Ao28 t699.length co28, .slice Ao31 t702.length co31], .slice Ao43 t705.length co43] rfl ls_ ?_; (with_reducible refine (exits_Out.calls _ _ t699 _ _ t702 _ _ t705 t735 t736 t737 _ ?side7 ?side1 ?side2 ?side3 ?side4 ?side5 ?side6 A22.out).mono ?_); (case side1 => refine (Kd.R_reads' (e := 62) (base := w.heap.size) (ok := fun k_ => (True ∧ some k_ ≠ (.slice Ao35 t709.length co35 : Value).ownBlock)) (n := t699.length) (c := co28) ?_).2.2; exact (by (with_reducible repeat (first | apply Kd.R_alloc | apply Kd.R_drewN | apply Kd.R_drew)); exact (Kd.R_mono (Kd.R_far (p := ⟨gb734, 1, none⟩) (Kd.R_far (p := ⟨gb734, 0, none⟩) (Kd.R_types HO701.out BK734.out (by decide)) (fun _ hk => hk.2) (.int .i64 t731)) (fun _ hk => hk.2) (.int .i64 t732)) (fun _ h_ => h_.1)))); (case side2 => exact (Kd.R_reads' HO701.out).2.1); (case side3 => refine (Kd.R_reads' (e := 81) (base := w.heap.size) (ok := fun k_ => (True ∧ some k_ ≠ (.slice Ao39 t712.length co39 : Value).ownBlock)) (n := t702.length) (c := co31) ?_).2.2; exact (by (with_reducible repeat (first | apply Kd.R_alloc | apply Kd.R_drewN | apply Kd.R_drew)); exact (Kd.R_mono (Kd.R_far (p := ⟨gb734, 1, none⟩) (Kd.R_far (p := ⟨gb734, 0, none⟩) (Kd.R_types HO704.out BK734.out (by decide)) (fun _ hk => hk.2) (.int .i64 t731)) (fun _ hk => hk.2) (.int .i64 t732)) (fun _ h_ => h_.1)))); (case side4 => exact (Kd.R_reads' HO704.out).2.1); (case side5 => refine (Kd.R_reads' (e := 48) (base := w.heap.size) (ok := fun k_ => (True ∧ some k_ ≠ (.slice Ao46 t715.length co46 : Value).ownBlock)) (n := t705.length) (c := co43) ?_).2.2; exact (by (with_reducible repeat (first | apply Kd.R_alloc | apply Kd.R_drewN | apply Kd.R_drew)); exact (Kd.R_mono (Kd.R_far (p := ⟨gb734, 1, none⟩) (Kd.R_far (p := ⟨gb734, 0, none⟩) (Kd.R_types HO707.out BK734.out (by decide)) (fun _ hk => hk.2) (.int .i64 t731)) (fun _ hk => hk.2) (.int .i64 t732)) (fun _ h_ => h_.1)))); (case side6 => exact (Kd.R_reads' HO707.out).2.1); (case side7 => exact GlobsE.below HG.out.1 (by repeat (first | (with_reducible first | exact HB.out | apply below_alloc | apply pw_below_drewN | apply below_drew1 | refine below_set ?_ GE696.out | refine below_set ?_ GE708.out | refine below_set ?_ GE718.out | refine below_set ?_ GE734.out) | exact HB.out))); rintro e w56 ⟨rfl, hb⟩; refine ⟨_, rfl, ?_⟩; replace HO701 := Aside0.mk (Kd.R_below (by (with_reducible repeat (first | apply Kd.R_alloc | apply Kd.R_drewN | apply Kd.R_drew)); exact (Kd.R_mono (Kd.R_far (p := ⟨gb734, 1, none⟩) (Kd.R_far (p := ⟨gb734, 0, none⟩) (Kd.R_types HO701.out BK734.out (by decide)) (fun _ hk => hk.2) (.int .i64 t731)) (fun _ hk => hk.2) (.int .i64 t732)) (fun _ h_ => h_.1))) hb); replace HO704 := Aside0.mk (Kd.R_below (by (with_reducible repeat (first | apply Kd.R_alloc | apply Kd.R_drewN | apply Kd.R_drew)); exact (Kd.R_mono (Kd.R_far (p := ⟨gb734, 1, none⟩) (Kd.R_far (p := ⟨gb734, 0, none⟩) (Kd.R_types HO704.out BK734.out (by decide)) (fun _ hk => hk.2) (.int .i64 t731)) (fun _ hk => hk.2) (.int .i64 t732)) (fun _ h_ => h_.1))) hb); replace HO707 := Aside0.mk (Kd.R_below (by (with_reducible repeat (first | apply Kd.R_alloc | apply Kd.R_drewN | apply Kd.R_drew)); exact (Kd.R_mono (Kd.R_far (p := ⟨gb734, 1, none⟩) (Kd.R_far (p := ⟨gb734, 0, none⟩) (Kd.R_types HO707.out BK734.out (by decide)) (fun _ hk => hk.2) (.int .i64 t731)) (fun _ hk => hk.2) (.int .i64 t732)) (fun _ h_ => h_.1))) hb); replace HO711 := Aside0.mk (Kd.R_below (by (with_reducible repeat (first | apply Kd.R_alloc | apply Kd.R_drewN | apply Kd.R_drew)); exact (Kd.R_mono (Kd.R_far (p := ⟨gb734, 1, none⟩) (Kd.R_far (p := ⟨gb734, 0, none⟩) (Kd.R_types HO711.out BK734.out (by decide)) (fun _ hk => hk.2) (.int .i64 t731)) (fun _ hk => hk.2) (.int .i64 t732)) (fun _ h_ => h_.1))) hb); replace HO714 := Aside0.mk (Kd.R_below (by (with_reducible repeat (first | apply Kd.R_alloc | apply Kd.R_drewN | apply Kd.R_drew)); exact (Kd.R_mono (Kd.R_far (p := ⟨gb734, 1, none⟩) (Kd.R_far (p := ⟨gb734, 0, none⟩) (Kd.R_types HO714.out BK734.out (by decide)) (fun _ hk => hk.2) (.int .i64 t731)) (fun _ hk => hk.2) (.int .i64 t732)) (fun _ h_ => h_.1))) hb); replace HO717 := Aside0.mk (Kd.R_below (by (with_reducible repeat (first | apply Kd.R_alloc | apply Kd.R_drewN | apply Kd.R_drew)); exact (Kd.R_mono (Kd.R_far (p := ⟨gb734, 1, none⟩) (Kd.R_far (p := ⟨gb734, 0, none⟩) (Kd.R_types HO717.out BK734.out (by decide)) (fun _ hk => hk.2) (.int .i64 t731)) (fun _ hk => hk.2) (.int .i64 t732)) (fun _ h_ => h_.1))) hb); replace HO721 := Aside0.mk (Kd.R_below (by (with_reducible repeat (first | apply Kd.R_alloc | apply Kd.R_drewN | apply Kd.R_drew)); exact (Kd.R_mono (Kd.R_far (p := ⟨gb734, 1, none⟩) (Kd.R_far (p := ⟨gb734, 0, none⟩) (Kd.R_mono HO721.out (fun k_ hk => (⟨hk, hk.2⟩ : _ ∧ k_ ≠ gb734))) (fun _ hk => hk.2) (.int .i64 t731)) (fun _ hk => hk.2) (.int .i64 t732)) (fun _ h_ => h_.1))) hb); replace HO725 := Aside0.mk (Kd.R_below (by (with_reducible repeat (first | apply Kd.R_alloc | apply Kd.R_drewN | apply Kd.R_drew)); exact (Kd.R_mono (Kd.R_far (p := ⟨gb734, 1, none⟩) (Kd.R_far (p := ⟨gb734, 0, none⟩) (Kd.R_mono HO725.out (fun k_ hk => (⟨hk, hk.2⟩ : _ ∧ k_ ≠ gb734))) (fun _ hk => hk.2) (.int .i64 t731)) (fun _ hk => hk.2) (.int .i64 t732)) (fun _ h_ => h_.1))) hb); replace HO729 := Aside0.mk (Kd.R_below (by (with_reducible repeat (first | apply Kd.R_alloc | apply Kd.R_drewN | apply Kd.R_drew)); exact (Kd.R_mono (Kd.R_far (p := ⟨gb734, 1, none⟩) (Kd.R_far (p := ⟨gb734, 0, none⟩) (Kd.R_mono HO729.out (fun k_ hk => (⟨hk, hk.2⟩ : _ ∧ k_ ≠ gb734))) (fun _ hk => hk.2) (.int .i64 t731)) (fun _ hk => hk.2) (.int .i64 t732)) (fun _ h_ => h_.1))) hb); replace BK696 := Aside0.mk (blk_below (g := gb696) (o := .cells #[.slice A0_0 l0_0.length c0_0, .slice A0_1 l0_1.length c0_1] 25 (0, 0)) (by refine bx_ ?_; refine blk_far ?_ NB696_734.out _; refine bx_ ?_; refine blk_far ?_ NB696_734.out _; refine bx_ ?_; exact BK696.out) hb); replace BK708 := Aside0.mk (blk_below (g := gb708) (o := .cells #[.slice Ao28 t699.length co28, .slice Ao31 t702.length co31] 25 (0, 0)) (by refine bx_ ?_; refine blk_far ?_ NB708_734.out _; refine bx_ ?_; refine blk_far ?_ NB708_734.out _; refine bx_ ?_; exact BK708.out) hb); replace BK718 := Aside0.mk (blk_below (g := gb718) (o := .cells #[.slice Ao35 t709.length co35, .slice Ao39 t712.length co39] 25 (0, 0)) (by refine bx_ ?_; refine blk_far ?_ NB718_734.out _; refine bx_ ?_; refine blk_far ?_ NB718_734.out _; refine bx_ ?_; exact BK718.out) hb); replace BK734 := Aside0.mk (blk_below (g := gb734) (o := .cells #[.int .i64 t731, .int .i64 t732] 36 (0, 0)) (by refine bx_ ?_; refine blk_put (cs := #[.int .i64 t731, .int .i64 0]) ?_ 1 _ rfl; refine bx_ ?_; refine blk_put (cs := #[.int .i64 0, .int .i64 0]) ?_ 0 _ rfl; refine bx_ ?_; exact BK734.out) hb); replace HB := Aside0.mk (below_step (by repeat (first | (with_reducible first | exact HB.out | apply below_alloc | apply pw_below_drewN | apply below_drew1 | refine below_set ?_ GE696.out | refine below_set ?_ GE708.out | refine below_set ?_ GE718.out | refine below_set ?_ GE734.out) | exact HB.out)) hb); (try clear hb); (try clear hb2); (try clear hk); (try clear hi)) | ((with_reducible refine gate_dst (N := 21) rfl ?_); (try (refine gate_guard (by rfl) ?_; dsimp only)); refine box_event ?hg (N := 21) ?hd (cs := #[.int .i64 0, .int .i64 0]) (t := 36) ?hr ?_; (case hd => rfl); (case hg => rfl); (case hr => exact gs_); intro gb738 hg w57 hbox hb; replace HO701 := rb_ HO701 hb; replace HO704 := rb_ HO704 hb; replace HO707 := rb_ HO707 hb; replace HO711 := rb_ HO711 hb; replace HO714 := rb_ HO714 hb; replace HO717 := rb_ HO717 hb; replace HO721 := Aside0.mk (Kd.R_below (Kd.R_elderB (ro_ HO721) gb738 (Nat.le_of_eq hg.symm)) hb); replace HO725 := Aside0.mk (Kd.R_below (Kd.R_elderB (ro_ HO725) gb738 (Nat.le_of_eq hg.symm)) hb); replace HO729 := Aside0.mk (Kd.R_below (Kd.R_elderB (ro_ HO729) gb738 (Nat.le_of_eq hg.symm)) hb); have BK738 := Aside0.mk (hbox); have GW738 := Aside0.mk ((by rw [hg]; exact (below_size (by repeat (first | (with_reducible first | exact HB.out | apply below_alloc | apply pw_below_drewN | apply below_drew1 | refine below_set ?_ GE696.out | refine below_set ?_ GE708.out | refine below_set ?_ GE718.out | refine below_set ?_ GE734.out) | exact HB.out))) : w.heap.size ≤ gb738)); have GE738 := Aside0.mk ((by rw [hg]; exact (below_size (by repeat (first | (with_reducible first | exact HB.out | apply below_alloc | apply pw_below_drewN | apply below_drew1 | refine below_set ?_ GE696.out | refine below_set ?_ GE708.out | refine below_set ?_ GE718.out | refine below_set ?_ GE734.out) | exact HB.out))) : w.heap.size ≤ gb738)); replace HB := Aside0.mk (below_step (by repeat (first | (with_reducible first | exact HB.out | apply below_alloc | apply pw_below_drewN | apply below_drew1 | refine below_set ?_ GE696.out | refine below_set ?_ GE708.out | refine below_set ?_ GE718.out | refine below_set ?_ GE734.out) | exact HB.out)) hb); have NB696_738 := Aside0.mk ((by rw [hg]; exact Nat.ne_of_lt (blk_lt (bk_ BK696)) : gb696 ≠ gb738)); have NB738_696 := Aside0.mk ((by rw [hg]; exact Nat.ne_of_gt (blk_lt (bk_ BK696)) : gb738 ≠ gb696)); replace BK696 := bb_ BK696 hb; have NB708_738 := Aside0.mk ((by rw [hg]; exact Nat.ne_of_lt (blk_lt (bk_ BK708)) : gb708 ≠ gb738)); have NB738_708 := Aside0.mk ((by rw [hg]; exact Nat.ne_of_gt (blk_lt (bk_ BK708)) : gb738 ≠ gb708)); replace BK708 := bb_ BK708 hb; have NB718_738 := Aside0.mk ((by rw [hg]; exact Nat.ne_of_lt (blk_lt (bk_ BK718)) : gb718 ≠ gb738)); have NB738_718 := Aside0.mk ((by rw [hg]; exact Nat.ne_of_gt (blk_lt (bk_ BK718)) : gb738 ≠ gb718)); replace BK718 := bb_ BK718 hb; have NB734_738 := Aside0.mk ((by rw [hg]; exact Nat.ne_of_lt (blk_lt (bk_ BK734)) : gb734 ≠ gb738)); have NB738_734 := Aside0.mk ((by rw [hg]; exact Nat.ne_of_gt (blk_lt (bk_ BK734)) : gb738 ≠ gb734)); replace BK734 := bb_ BK734 hb; clear hb hbox hg; have hnb58 := NB738_696.out; have hnc58 := NB696_738.out; have hnb59 := NB738_708.out; have hnc59 := NB708_738.out; have hnb60 := NB738_718.out; have hnc60 := NB718_738.out; have hnb61 := NB738_734.out; have hnc61 := NB734_738.out; have hcz62_0 : w57.cell? ⟨gb738, 0, none⟩ = some (.int .i64 0) := bc_ BK738 0; have hcz62_1 : w57.cell? ⟨gb738, 1, none⟩ = some (.int .i64 0) := bc_ BK738 1; have hfz62_0 := blk_frozen BK738.out 0; have hfz62_1 := blk_frozen BK738.out 1; have hcz63_0 : w57.cell? ⟨gb718, 0, none⟩ = some (.slice Ao35 t709.length co35) := bc_ BK718 0; have hcz63_1 : w57.cell? ⟨gb718, 1, none⟩ = some (.slice Ao39 t712.length co39) := bc_ BK718 1; have hfz63_0 := blk_frozen BK718.out 0; have hfz63_1 := blk_frozen BK718.out 1) | ((with_reducible refine gate_callee (f := 19) rfl ?_); refine goesL_ (some 102) rfl rfl Tryd.func19 (by kernel_rfl) rfl #[.agg #[.slice Ao35 t709.length co35, .slice Ao39 t712.length co39], .slice Ao46 t715.length co46] rfl ls_ ?_; (with_reducible refine (exits_Out.calls _ _ t709 _ _ t712 _ _ t715 t739 t740 t741 _ ?side7 ?side1 ?side2 ?side3 ?side4 ?side5 ?side6 A23.out).mono ?_); (case side1 => refine (Kd.R_reads' (e := 62) (base := w.heap.size) (ok := fun k_ => (True ∧ some k_ ≠ (.slice Ao28 t699.length co28 : Value).ownBlock)) (n := t709.length) (c := co35) ?_).2.2; exact (by (with_reducible repeat (first | apply Kd.R_alloc | apply Kd.R_drewN | apply Kd.R_drew)); exact (Kd.R_mono (Kd.R_far (p := ⟨gb738, 1, none⟩) (Kd.R_far (p := ⟨gb738, 0, none⟩) (Kd.R_types HO711.out BK738.out (by decide)) (fun _ hk => hk.2) (.int .i64 t735)) (fun _ hk => hk.2) (.int .i64 t736)) (fun _ h_ => h_.1)))); (case side2 => exact (Kd.R_reads' HO711.out).2.1); (case side3 => refine (Kd.R_reads' (e := 81) (base := w.heap.size) (ok := fun k_ => (True ∧ some k_ ≠ (.slice Ao31 t702.length co31 : Value).ownBlock)) (n := t712.length) (c := co39) ?_).2.2; exact (by (with_reducible repeat (first | apply Kd.R_alloc | apply Kd.R_drewN | apply Kd.R_drew)); exact (Kd.R_mono (Kd.R_far (p := ⟨gb738, 1, none⟩) (Kd.R_far (p := ⟨gb738, 0, none⟩) (Kd.R_types HO714.out BK738.out (by decide)) (fun _ hk => hk.2) (.int .i64 t735)) (fun _ hk => hk.2) (.int .i64 t736)) (fun _ h_ => h_.1)))); (case side4 => exact (Kd.R_reads' HO714.out).2.1); (case side5 => refine (Kd.R_reads' (e := 48) (base := w.heap.size) (ok := fun k_ => (True ∧ some k_ ≠ (.slice Ao43 t705.length co43 : Value).ownBlock)) (n := t715.length) (c := co46) ?_).2.2; exact (by (with_reducible repeat (first | apply Kd.R_alloc | apply Kd.R_drewN | apply Kd.R_drew)); exact (Kd.R_mono (Kd.R_far (p := ⟨gb738, 1, none⟩) (Kd.R_far (p := ⟨gb738, 0, none⟩) (Kd.R_types HO717.out BK738.out (by decide)) (fun _ hk => hk.2) (.int .i64 t735)) (fun _ hk => hk.2) (.int .i64 t736)) (fun _ h_ => h_.1)))); (case side6 => exact (Kd.R_reads' HO717.out).2.1); (case side7 => exact GlobsE.below HG.out.1 (by repeat (first | (with_reducible first | exact HB.out | apply below_alloc | apply pw_below_drewN | apply below_drew1 | refine below_set ?_ GE696.out | refine below_set ?_ GE708.out | refine below_set ?_ GE718.out | refine below_set ?_ GE734.out | refine below_set ?_ GE738.out) | exact HB.out))); rintro e w64 ⟨rfl, hb⟩; refine ⟨_, rfl, ?_⟩; replace HO701 := Aside0.mk (Kd.R_below (by (with_reducible repeat (first | apply Kd.R_alloc | apply Kd.R_drewN | apply Kd.R_drew)); exact (Kd.R_mono (Kd.R_far (p := ⟨gb738, 1, none⟩) (Kd.R_far (p := ⟨gb738, 0, none⟩) (Kd.R_types HO701.out BK738.out (by decide)) (fun _ hk => hk.2) (.int .i64 t735)) (fun _ hk => hk.2) (.int .i64 t736)) (fun _ h_ => h_.1))) hb); replace HO704 := Aside0.mk (Kd.R_below (by (with_reducible repeat (first | apply Kd.R_alloc | apply Kd.R_drewN | apply Kd.R_drew)); exact (Kd.R_mono (Kd.R_far (p := ⟨gb738, 1, none⟩) (Kd.R_far (p := ⟨gb738, 0, none⟩) (Kd.R_types HO704.out BK738.out (by decide)) (fun _ hk => hk.2) (.int .i64 t735)) (fun _ hk => hk.2) (.int .i64 t736)) (fun _ h_ => h_.1))) hb); replace HO707 := Aside0.mk (Kd.R_below (by (with_reducible repeat (first | apply Kd.R_alloc | apply Kd.R_drewN | apply Kd.R_drew)); exact (Kd.R_mono (Kd.R_far (p := ⟨gb738, 1, none⟩) (Kd.R_far (p := ⟨gb738, 0, none⟩) (Kd.R_types HO707.out BK738.out (by decide)) (fun _ hk => hk.2) (.int .i64 t735)) (fun _ hk => hk.2) (.int .i64 t736)) (fun _ h_ => h_.1))) hb); replace HO711 := Aside0.mk (Kd.R_below (by (with_reducible repeat (first | apply Kd.R_alloc | apply Kd.R_drewN | apply Kd.R_drew)); exact (Kd.R_mono (Kd.R_far (p := ⟨gb738, 1, none⟩) (Kd.R_far (p := ⟨gb738, 0, none⟩) (Kd.R_types HO711.out BK738.out (by decide)) (fun _ hk => hk.2) (.int .i64 t735)) (fun _ hk => hk.2) (.int .i64 t736)) (fun _ h_ => h_.1))) hb); replace HO714 := Aside0.mk (Kd.R_below (by (with_reducible repeat (first | apply Kd.R_alloc | apply Kd.R_drewN | apply Kd.R_drew)); exact (Kd.R_mono (Kd.R_far (p := ⟨gb738, 1, none⟩) (Kd.R_far (p := ⟨gb738, 0, none⟩) (Kd.R_types HO714.out BK738.out (by decide)) (fun _ hk => hk.2) (.int .i64 t735)) (fun _ hk => hk.2) (.int .i64 t736)) (fun _ h_ => h_.1))) hb); replace HO717 := Aside0.mk (Kd.R_below (by (with_reducible repeat (first | apply Kd.R_alloc | apply Kd.R_drewN | apply Kd.R_drew)); exact (Kd.R_mono (Kd.R_far (p := ⟨gb738, 1, none⟩) (Kd.R_far (p := ⟨gb738, 0, none⟩) (Kd.R_types HO717.out BK738.out (by decide)) (fun _ hk => hk.2) (.int .i64 t735)) (fun _ hk => hk.2) (.int .i64 t736)) (fun _ h_ => h_.1))) hb); replace HO721 := Aside0.mk (Kd.R_below (by (with_reducible repeat (first | apply Kd.R_alloc | apply Kd.R_drewN | apply Kd.R_drew)); exact (Kd.R_mono (Kd.R_far (p := ⟨gb738, 1, none⟩) (Kd.R_far (p := ⟨gb738, 0, none⟩) (Kd.R_mono HO721.out (fun k_ hk => (⟨hk, hk.2⟩ : _ ∧ k_ ≠ gb738))) (fun _ hk => hk.2) (.int .i64 t735)) (fun _ hk => hk.2) (.int .i64 t736)) (fun _ h_ => h_.1))) hb); replace HO725 := Aside0.mk (Kd.R_below (by (with_reducible repeat (first | apply Kd.R_alloc | apply Kd.R_drewN | apply Kd.R_drew)); exact (Kd.R_mono (Kd.R_far (p := ⟨gb738, 1, none⟩) (Kd.R_far (p := ⟨gb738, 0, none⟩) (Kd.R_mono HO725.out (fun k_ hk => (⟨hk, hk.2⟩ : _ ∧ k_ ≠ gb738))) (fun _ hk => hk.2) (.int .i64 t735)) (fun _ hk => hk.2) (.int .i64 t736)) (fun _ h_ => h_.1))) hb); replace HO729 := Aside0.mk (Kd.R_below (by (with_reducible repeat (first | apply Kd.R_alloc | apply Kd.R_drewN | apply Kd.R_drew)); exact (Kd.R_mono (Kd.R_far (p := ⟨gb738, 1, none⟩) (Kd.R_far (p := ⟨gb738, 0, none⟩) (Kd.R_mono HO729.out (fun k_ hk => (⟨hk, hk.2⟩ : _ ∧ k_ ≠ gb738))) (fun _ hk => hk.2) (.int .i64 t735)) (fun _ hk => hk.2) (.int .i64 t736)) (fun _ h_ => h_.1))) hb); replace BK696 := Aside0.mk (blk_below (g := gb696) (o := .cells #[.slice A0_0 l0_0.length c0_0, .slice A0_1 l0_1.length c0_1] 25 (0, 0)) (by refine bx_ ?_; refine blk_far ?_ NB696_738.out _; refine bx_ ?_; refine blk_far ?_ NB696_738.out _; refine bx_ ?_; exact BK696.out) hb); replace BK708 := Aside0.mk (blk_below (g := gb708) (o := .cells #[.slice Ao28 t699.length co28, .slice Ao31 t702.length co31] 25 (0, 0)) (by refine bx_ ?_; refine blk_far ?_ NB708_738.out _; refine bx_ ?_; refine blk_far ?_ NB708_738.out _; refine bx_ ?_; exact BK708.out) hb); replace BK718 := Aside0.mk (blk_below (g := gb718) (o := .cells #[.slice Ao35 t709.length co35, .slice Ao39 t712.length co39] 25 (0, 0)) (by refine bx_ ?_; refine blk_far ?_ NB718_738.out _; refine bx_ ?_; refine blk_far ?_ NB718_738.out _; refine bx_ ?_; exact BK718.out) hb); replace BK734 := Aside0.mk (blk_below (g := gb734) (o := .cells #[.int .i64 t731, .int .i64 t732] 36 (0, 0)) (by refine bx_ ?_; refine blk_far ?_ NB734_738.out _; refine bx_ ?_; refine blk_far ?_ NB734_738.out _; refine bx_ ?_; exact BK734.out) hb); replace BK738 := Aside0.mk (blk_below (g := gb738) (o := .cells #[.int .i64 t735, .int .i64 t736] 36 (0, 0)) (by refine bx_ ?_; refine blk_put (cs := #[.int .i64 t735, .int .i64 0]) ?_ 1 _ rfl; refine bx_ ?_; refine blk_put (cs := #[.int .i64 0, .int .i64 0]) ?_ 0 _ rfl; refine bx_ ?_; exact BK738.out) hb); replace HB := Aside0.mk (below_step (by repeat (first | (with_reducible first | exact HB.out | apply below_alloc | apply pw_below_drewN | apply below_drew1 | refine below_set ?_ GE696.out | refine below_set ?_ GE708.out | refine below_set ?_ GE718.out | refine below_set ?_ GE734.out | refine below_set ?_ GE738.out) | exact HB.out)) hb); (try clear hb); (try clear hb2); (try clear hk); (try clear hi)) | ((with_reducible refine gate_dst (N := 23) rfl ?_); (try (refine gate_guard (by rfl) ?_; dsimp only)); refine box_event ?hg (N := 23) ?hd (cs := #[.int .i64 0, .int .i64 0]) (t := 36) ?hr ?_; (case hd => rfl); (case hg => rfl); (case hr => exact gs_); intro gb742 hg w65 hbox hb; replace HO701 := rb_ HO701 hb; replace HO704 := rb_ HO704 hb; replace HO707 := rb_ HO707 hb; replace HO711 := rb_ HO711 hb; replace HO714 := rb_ HO714 hb; replace HO717 := rb_ HO717 hb; replace HO721 := Aside0.mk (Kd.R_below (Kd.R_elderB (ro_ HO721) gb742 (Nat.le_of_eq hg.symm)) hb); replace HO725 := Aside0.mk (Kd.R_below (Kd.R_elderB (ro_ HO725) gb742 (Nat.le_of_eq hg.symm)) hb); replace HO729 := Aside0.mk (Kd.R_below (Kd.R_elderB (ro_ HO729) gb742 (Nat.le_of_eq hg.symm)) hb); have BK742 := Aside0.mk (hbox); have GW742 := Aside0.mk ((by rw [hg]; exact (below_size (by repeat (first | (with_reducible first | exact HB.out | apply below_alloc | apply pw_below_drewN | apply below_drew1 | refine below_set ?_ GE696.out | refine below_set ?_ GE708.out | refine below_set ?_ GE718.out | refine below_set ?_ GE734.out | refine below_set ?_ GE738.out) | exact HB.out))) : w.heap.size ≤ gb742)); have GE742 := Aside0.mk ((by rw [hg]; exact (below_size (by repeat (first | (with_reducible first | exact HB.out | apply below_alloc | apply pw_below_drewN | apply below_drew1 | refine below_set ?_ GE696.out | refine below_set ?_ GE708.out | refine below_set ?_ GE718.out | refine below_set ?_ GE734.out | refine below_set ?_ GE738.out) | exact HB.out))) : w.heap.size ≤ gb742)); replace HB := Aside0.mk (below_step (by repeat (first | (with_reducible first | exact HB.out | apply below_alloc | apply pw_below_drewN | apply below_drew1 | refine below_set ?_ GE696.out | refine below_set ?_ GE708.out | refine below_set ?_ GE718.out | refine below_set ?_ GE734.out | refine below_set ?_ GE738.out) | exact HB.out)) hb); have NB696_742 := Aside0.mk ((by rw [hg]; exact Nat.ne_of_lt (blk_lt (bk_ BK696)) : gb696 ≠ gb742)); have NB742_696 := Aside0.mk ((by rw [hg]; exact Nat.ne_of_gt (blk_lt (bk_ BK696)) : gb742 ≠ gb696)); replace BK696 := bb_ BK696 hb; have NB708_742 := Aside0.mk ((by rw [hg]; exact Nat.ne_of_lt (blk_lt (bk_ BK708)) : gb708 ≠ gb742)); have NB742_708 := Aside0.mk ((by rw [hg]; exact Nat.ne_of_gt (blk_lt (bk_ BK708)) : gb742 ≠ gb708)); replace BK708 := bb_ BK708 hb; have NB718_742 := Aside0.mk ((by rw [hg]; exact Nat.ne_of_lt (blk_lt (bk_ BK718)) : gb718 ≠ gb742)); have NB742_718 := Aside0.mk ((by rw [hg]; exact Nat.ne_of_gt (blk_lt (bk_ BK718)) : gb742 ≠ gb718)); replace BK718 := bb_ BK718 hb; have NB734_742 := Aside0.mk ((by rw [hg]; exact Nat.ne_of_lt (blk_lt (bk_ BK734)) : gb734 ≠ gb742)); have NB742_734 := Aside0.mk ((by rw [hg]; exact Nat.ne_of_gt (blk_lt (bk_ BK734)) : gb742 ≠ gb734)); replace BK734 := bb_ BK734 hb; have NB738_742 := Aside0.mk ((by rw [hg]; exact Nat.ne_of_lt (blk_lt (bk_ BK738)) : gb738 ≠ gb742)); have NB742_738 := Aside0.mk ((by rw [hg]; exact Nat.ne_of_gt (blk_lt (bk_ BK738)) : gb742 ≠ gb738)); replace BK738 := bb_ BK738 hb; clear hb hbox hg; have hnb66 := NB742_696.out; have hnc66 := NB696_742.out; have hnb67 := NB742_708.out; have hnc67 := NB708_742.out; have hnb68 := NB742_718.out; have hnc68 := NB718_742.out; have hnb69 := NB742_734.out; have hnc69 := NB734_742.out; have hnb70 := NB742_738.out; have hnc70 := NB738_742.out; have hcz71_0 : w65.cell? ⟨gb742, 0, none⟩ = some (.int .i64 0) := bc_ BK742 0; have hcz71_1 : w65.cell? ⟨gb742, 1, none⟩ = some (.int .i64 0) := bc_ BK742 1; have hfz71_0 := blk_frozen BK742.out 0; have hfz71_1 := blk_frozen BK742.out 1))
     (try simp only [Act.put, List.setIfInBounds_toArray, List.set_cons_zero, List.set_cons_succ])
     go_cut [158] (fun v158 wc => ∃ (kq : Nat) (x158_23 : Bool), v158 = .bool x158_23 ∧ Aside0 (cottonpadlaw06_ExitsEnds.j1 kq l1 t697 t705 t715 t719 t723 t727 x158_23 l0_0 l0_1 t699 t702 t709 t712 = some r) ∧ Aside0 (kq ≤ kj4) ∧ Aside0 (Kd.R k48 48 wc w.heap.size (fun k_ => some k_ ≠ ((.slice Ao46 t715.length co46) : Value).ownBlock) (.slice Ao43 t705.length co43) t705) ∧ Aside0 (Kd.R k48 48 wc w.heap.size (fun k_ => some k_ ≠ ((.slice Ao43 t705.length co43) : Value).ownBlock) (.slice Ao46 t715.length co46) t715) ∧ Aside0 (Kd.R k36 36 wc w.heap.size (fun k_ => some k_ ≠ (v724 : Value).ownBlock ∧ some k_ ≠ (v728 : Value).ownBlock ∧ k_ ≠ gb734 ∧ k_ ≠ gb738 ∧ k_ ≠ gb742) v720 t719) ∧ Aside0 (Kd.R k36 36 wc w.heap.size (fun k_ => some k_ ≠ (v720 : Value).ownBlock ∧ some k_ ≠ (v728 : Value).ownBlock ∧ k_ ≠ gb734 ∧ k_ ≠ gb738 ∧ k_ ≠ gb742) v724 t723) ∧ Aside0 (Kd.R k36 36 wc w.heap.size (fun k_ => some k_ ≠ (v720 : Value).ownBlock ∧ some k_ ≠ (v724 : Value).ownBlock ∧ k_ ≠ gb734 ∧ k_ ≠ gb738 ∧ k_ ≠ gb742) v728 t727) ∧ Aside0 (Kd.R k62 62 wc w.heap.size (fun k_ => some k_ ≠ ((.slice Ao35 t709.length co35) : Value).ownBlock) (.slice Ao28 t699.length co28) t699) ∧ Aside0 (Kd.R k81 81 wc w.heap.size (fun k_ => some k_ ≠ ((.slice Ao39 t712.length co39) : Value).ownBlock) (.slice Ao31 t702.length co31) t702) ∧ Aside0 (Kd.R k62 62 wc w.heap.size (fun k_ => some k_ ≠ ((.slice Ao28 t699.length co28) : Value).ownBlock) (.slice Ao35 t709.length co35) t709) ∧ Aside0 (Kd.R k81 81 wc w.heap.size (fun k_ => some k_ ≠ ((.slice Ao31 t702.length co31) : Value).ownBlock) (.slice Ao39 t712.length co39) t712) ∧ Aside0 (wc.heap[gb696]? = some (.cells #[(.slice A0_0 l0_0.length c0_0), (.slice A0_1 l0_1.length c0_1)] 25 (0, 0))) ∧ Aside0 (wc.heap[gb708]? = some (.cells #[(.slice Ao28 t699.length co28), (.slice Ao31 t702.length co31)] 25 (0, 0))) ∧ Aside0 (wc.heap[gb718]? = some (.cells #[(.slice Ao35 t709.length co35), (.slice Ao39 t712.length co39)] 25 (0, 0))) ∧ Aside0 (wc.heap[gb734]? = some (.cells #[.int .i64 t731, .int .i64 t732] 36 (0, 0))) ∧ Aside0 (wc.heap[gb738]? = some (.cells #[.int .i64 t735, .int .i64 t736] 36 (0, 0))) ∧ Aside0 (wc.heap[gb742]? = some (.cells #[.int .i64 t739, .int .i64 t740] 36 (0, 0))) ∧ Aside0 (Below w.heap.size w wc))
     case first =>
      as_aux_lemma =>
       have H := HC24.out
       clear HC24
       by_cases c72 : t722 = 0
       ·rw [if_pos c72] at H
        have c72b0 : (t722 == 0) = true := beq_iff_eq.mpr c72
        have c72b1 : (t722 != 0) = false := bne_eq_false_iff_eq.mpr c72
        clear c72
        (first | rw [c72b0] | (simp only [i64_w, i32_w]; rw [c72b0]) | skip)
        by_cases c73 : t726 = 0
        ·rw [if_pos c73] at H
         have c73b0 : (t726 == 0) = true := beq_iff_eq.mpr c73
         have c73b1 : (t726 != 0) = false := bne_eq_false_iff_eq.mpr c73
         clear c73
         by_cases c74 : t730 = 0
         ·rw [if_pos c74] at H
          have c74b0 : (t730 == 0) = true := beq_iff_eq.mpr c74
          have c74b1 : (t730 != 0) = false := bne_eq_false_iff_eq.mpr c74
          clear c74
          by_cases c75 : t733 = 0
          ·rw [if_pos c75] at H
           have c75b0 : (t733 == 0) = true := beq_iff_eq.mpr c75
           have c75b1 : (t733 != 0) = false := bne_eq_false_iff_eq.mpr c75
           clear c75
           by_cases c76 : t737 = 0
           ·rw [if_pos c76] at H
            have c76b0 : (t737 == 0) = true := beq_iff_eq.mpr c76
            have c76b1 : (t737 != 0) = false := bne_eq_false_iff_eq.mpr c76
            clear c76
            by_cases c77 : t741 = 0
            ·rw [if_pos c77] at H
             have c77b0 : (t741 == 0) = true := beq_iff_eq.mpr c77
             have c77b1 : (t741 != 0) = false := bne_eq_false_iff_eq.mpr c77
             clear c77
             by_cases c78 : (t719.length : Int) = (t723.length : Int)
             ·rw [if_pos c78] at H
              have c78b0 : ((t719.length : Int) == (t723.length : Int)) = true := beq_iff_eq.mpr c78
              have c78b1 : ((t719.length : Int) != (t723.length : Int)) = false := bne_eq_false_iff_eq.mpr c78
              have c78b2 : (t719.length == t723.length) = true := by first | simpa using c78 | (simp at c78 ⊢; omega)
              clear c78
              by_cases c79 : (t719.length : Int) = (t727.length : Int)
              ·rw [if_pos c79] at H
               have c79b0 : ((t719.length : Int) == (t727.length : Int)) = true := beq_iff_eq.mpr c79
               have c79b1 : ((t719.length : Int) != (t727.length : Int)) = false := bne_eq_false_iff_eq.mpr c79
               have c79b2 : (t719.length == t727.length) = true := by first | simpa using c79 | (simp at c79 ⊢; omega)
               clear c79
               replace H := Option.bind_eq_some_iff.mp H
               obtain ⟨⟨t743, t744⟩, A800, H⟩ := H
               replace H : (if (!(t735 == t743) || (!(t736 == t744))) = true then (cottonpadlaw06_ExitsEnds.j1 kj4 l1 t697 t705 t715 t719 t723 t727 true l0_0 l0_1 t699 t702 t709 t712) else ((cottonpadlaw06_span.f t731 t731).bind fun bt745 => (cottonpadlaw06_ExitsEnds.j1 kj4 l1 t697 t705 t715 t719 t723 t727 (!(t739 == bt745.1) || (!(t740 == bt745.2))) l0_0 l0_1 t699 t702 t709 t712))) = some r := H
               have A80 := Aside0.mk A800
               clear A800
               by_cases c81 : (!(t735 == t743) || (!(t736 == t744))) = true
               ·rw [if_pos c81] at H
                have c81b0 : (!(t735 == t743) || (!(t736 == t744))) = true := c81
                clear c81
                exact absurd H (by rw [HRT.out]; cases kj4 <;> simp [cottonpadlaw06_ExitsEnds.j1])
               ·rw [if_neg c81] at H
                have c81b0 : (!(t735 == t743) || (!(t736 == t744))) = false := by simpa using c81
                clear c81
                replace H := Option.bind_eq_some_iff.mp H
                obtain ⟨⟨t745, t746⟩, A820, H⟩ := H
                replace H : (cottonpadlaw06_ExitsEnds.j1 kj4 l1 t697 t705 t715 t719 t723 t727 (!(t739 == t745) || (!(t740 == t746))) l0_0 l0_1 t699 t702 t709 t712) = some r := H
                have A82 := Aside0.mk A820
                clear A820
                have H' := Aside0.mk H
                clear H
                try go_wp2
                have n0_ : Aside0 (Kd.R k62 62 ((w65.setCell ⟨gb742, 0, none⟩ (.int .i64 t739)).setCell ⟨gb742, 1, none⟩ (.int .i64 t740)) w.heap.size (fun k_ => some k_ ≠ (.slice Ao35 t709.length co35 : Value).ownBlock) (.slice Ao28 t699.length co28) t699) := ⟨by (with_reducible repeat (first | apply Kd.R_alloc | apply Kd.R_drewN | apply Kd.R_drew)); exact Kd.R_mono (Kd.R_far (p := ⟨gb742, 1, none⟩) (Kd.R_far (p := ⟨gb742, 0, none⟩) (Kd.R_types HO701.out BK742.out (by decide)) (fun _ hk => hk.2) (.int .i64 t739)) (fun _ hk => hk.2) (.int .i64 t740)) (fun _ hk => hk.1.2)⟩
                have n1_ : Aside0 (Kd.R k81 81 ((w65.setCell ⟨gb742, 0, none⟩ (.int .i64 t739)).setCell ⟨gb742, 1, none⟩ (.int .i64 t740)) w.heap.size (fun k_ => some k_ ≠ (.slice Ao39 t712.length co39 : Value).ownBlock) (.slice Ao31 t702.length co31) t702) := ⟨by (with_reducible repeat (first | apply Kd.R_alloc | apply Kd.R_drewN | apply Kd.R_drew)); exact Kd.R_mono (Kd.R_far (p := ⟨gb742, 1, none⟩) (Kd.R_far (p := ⟨gb742, 0, none⟩) (Kd.R_types HO704.out BK742.out (by decide)) (fun _ hk => hk.2) (.int .i64 t739)) (fun _ hk => hk.2) (.int .i64 t740)) (fun _ hk => hk.1.2)⟩
                have n2_ : Aside0 (Kd.R k48 48 ((w65.setCell ⟨gb742, 0, none⟩ (.int .i64 t739)).setCell ⟨gb742, 1, none⟩ (.int .i64 t740)) w.heap.size (fun k_ => some k_ ≠ (.slice Ao46 t715.length co46 : Value).ownBlock) (.slice Ao43 t705.length co43) t705) := ⟨by (with_reducible repeat (first | apply Kd.R_alloc | apply Kd.R_drewN | apply Kd.R_drew)); exact Kd.R_mono (Kd.R_far (p := ⟨gb742, 1, none⟩) (Kd.R_far (p := ⟨gb742, 0, none⟩) (Kd.R_types HO707.out BK742.out (by decide)) (fun _ hk => hk.2) (.int .i64 t739)) (fun _ hk => hk.2) (.int .i64 t740)) (fun _ hk => hk.1.2)⟩
                have n3_ : Aside0 (Kd.R k62 62 ((w65.setCell ⟨gb742, 0, none⟩ (.int .i64 t739)).setCell ⟨gb742, 1, none⟩ (.int .i64 t740)) w.heap.size (fun k_ => some k_ ≠ (.slice Ao28 t699.length co28 : Value).ownBlock) (.slice Ao35 t709.length co35) t709) := ⟨by (with_reducible repeat (first | apply Kd.R_alloc | apply Kd.R_drewN | apply Kd.R_drew)); exact Kd.R_mono (Kd.R_far (p := ⟨gb742, 1, none⟩) (Kd.R_far (p := ⟨gb742, 0, none⟩) (Kd.R_types HO711.out BK742.out (by decide)) (fun _ hk => hk.2) (.int .i64 t739)) (fun _ hk => hk.2) (.int .i64 t740)) (fun _ hk => hk.1.2)⟩
                have n4_ : Aside0 (Kd.R k81 81 ((w65.setCell ⟨gb742, 0, none⟩ (.int .i64 t739)).setCell ⟨gb742, 1, none⟩ (.int .i64 t740)) w.heap.size (fun k_ => some k_ ≠ (.slice Ao31 t702.length co31 : Value).ownBlock) (.slice Ao39 t712.length co39) t712) := ⟨by (with_reducible repeat (first | apply Kd.R_alloc | apply Kd.R_drewN | apply Kd.R_drew)); exact Kd.R_mono (Kd.R_far (p := ⟨gb742, 1, none⟩) (Kd.R_far (p := ⟨gb742, 0, none⟩) (Kd.R_types HO714.out BK742.out (by decide)) (fun _ hk => hk.2) (.int .i64 t739)) (fun _ hk => hk.2) (.int .i64 t740)) (fun _ hk => hk.1.2)⟩
                have n5_ : Aside0 (Kd.R k48 48 ((w65.setCell ⟨gb742, 0, none⟩ (.int .i64 t739)).setCell ⟨gb742, 1, none⟩ (.int .i64 t740)) w.heap.size (fun k_ => some k_ ≠ (.slice Ao43 t705.length co43 : Value).ownBlock) (.slice Ao46 t715.length co46) t715) := ⟨by (with_reducible repeat (first | apply Kd.R_alloc | apply Kd.R_drewN | apply Kd.R_drew)); exact Kd.R_mono (Kd.R_far (p := ⟨gb742, 1, none⟩) (Kd.R_far (p := ⟨gb742, 0, none⟩) (Kd.R_types HO717.out BK742.out (by decide)) (fun _ hk => hk.2) (.int .i64 t739)) (fun _ hk => hk.2) (.int .i64 t740)) (fun _ hk => hk.1.2)⟩
                have n6_ : Aside0 (Kd.R k36 36 ((w65.setCell ⟨gb742, 0, none⟩ (.int .i64 t739)).setCell ⟨gb742, 1, none⟩ (.int .i64 t740)) w.heap.size (fun k_ => some k_ ≠ (v724 : Value).ownBlock ∧ some k_ ≠ (v728 : Value).ownBlock ∧ k_ ≠ gb734 ∧ k_ ≠ gb738 ∧ k_ ≠ gb742) v720 t719) := ⟨by (with_reducible repeat (first | apply Kd.R_alloc | apply Kd.R_drewN | apply Kd.R_drew)); exact Kd.R_mono (Kd.R_far (p := ⟨gb742, 1, none⟩) (Kd.R_far (p := ⟨gb742, 0, none⟩) (Kd.R_mono HO721.out (fun k_ hk => (⟨hk, hk.2⟩ : _ ∧ k_ ≠ gb742))) (fun _ hk => hk.2) (.int .i64 t739)) (fun _ hk => hk.2) (.int .i64 t740)) (fun _ hk => ⟨hk.1.1.1.1.1.2, ⟨hk.1.1.1.1.2, ⟨hk.1.1.1.2, ⟨hk.1.1.2, hk.1.2⟩⟩⟩⟩)⟩
                have n7_ : Aside0 (Kd.R k36 36 ((w65.setCell ⟨gb742, 0, none⟩ (.int .i64 t739)).setCell ⟨gb742, 1, none⟩ (.int .i64 t740)) w.heap.size (fun k_ => some k_ ≠ (v720 : Value).ownBlock ∧ some k_ ≠ (v728 : Value).ownBlock ∧ k_ ≠ gb734 ∧ k_ ≠ gb738 ∧ k_ ≠ gb742) v724 t723) := ⟨by (with_reducible repeat (first | apply Kd.R_alloc | apply Kd.R_drewN | apply Kd.R_drew)); exact Kd.R_mono (Kd.R_far (p := ⟨gb742, 1, none⟩) (Kd.R_far (p := ⟨gb742, 0, none⟩) (Kd.R_mono HO725.out (fun k_ hk => (⟨hk, hk.2⟩ : _ ∧ k_ ≠ gb742))) (fun _ hk => hk.2) (.int .i64 t739)) (fun _ hk => hk.2) (.int .i64 t740)) (fun _ hk => ⟨hk.1.1.1.1.1.2, ⟨hk.1.1.1.1.2, ⟨hk.1.1.1.2, ⟨hk.1.1.2, hk.1.2⟩⟩⟩⟩)⟩
                have n8_ : Aside0 (Kd.R k36 36 ((w65.setCell ⟨gb742, 0, none⟩ (.int .i64 t739)).setCell ⟨gb742, 1, none⟩ (.int .i64 t740)) w.heap.size (fun k_ => some k_ ≠ (v720 : Value).ownBlock ∧ some k_ ≠ (v724 : Value).ownBlock ∧ k_ ≠ gb734 ∧ k_ ≠ gb738 ∧ k_ ≠ gb742) v728 t727) := ⟨by (with_reducible repeat (first | apply Kd.R_alloc | apply Kd.R_drewN | apply Kd.R_drew)); exact Kd.R_mono (Kd.R_far (p := ⟨gb742, 1, none⟩) (Kd.R_far (p := ⟨gb742, 0, none⟩) (Kd.R_mono HO729.out (fun k_ hk => (⟨hk, hk.2⟩ : _ ∧ k_ ≠ gb742))) (fun _ hk => hk.2) (.int .i64 t739)) (fun _ hk => hk.2) (.int .i64 t740)) (fun _ hk => ⟨hk.1.1.1.1.1.2, ⟨hk.1.1.1.1.2, ⟨hk.1.1.1.2, ⟨hk.1.1.2, hk.1.2⟩⟩⟩⟩)⟩
                have n9_ : Aside0 (((w65.setCell ⟨gb742, 0, none⟩ (.int .i64 t739)).setCell ⟨gb742, 1, none⟩ (.int .i64 t740)).heap[gb696]? = some (.cells #[.slice A0_0 l0_0.length c0_0, .slice A0_1 l0_1.length c0_1] 25 (0, 0))) := ⟨by refine bx_ ?_; refine blk_far ?_ NB696_742.out _; refine bx_ ?_; refine blk_far ?_ NB696_742.out _; refine bx_ ?_; exact BK696.out⟩
                have n10_ : Aside0 (((w65.setCell ⟨gb742, 0, none⟩ (.int .i64 t739)).setCell ⟨gb742, 1, none⟩ (.int .i64 t740)).heap[gb708]? = some (.cells #[.slice Ao28 t699.length co28, .slice Ao31 t702.length co31] 25 (0, 0))) := ⟨by refine bx_ ?_; refine blk_far ?_ NB708_742.out _; refine bx_ ?_; refine blk_far ?_ NB708_742.out _; refine bx_ ?_; exact BK708.out⟩
                have n11_ : Aside0 (((w65.setCell ⟨gb742, 0, none⟩ (.int .i64 t739)).setCell ⟨gb742, 1, none⟩ (.int .i64 t740)).heap[gb718]? = some (.cells #[.slice Ao35 t709.length co35, .slice Ao39 t712.length co39] 25 (0, 0))) := ⟨by refine bx_ ?_; refine blk_far ?_ NB718_742.out _; refine bx_ ?_; refine blk_far ?_ NB718_742.out _; refine bx_ ?_; exact BK718.out⟩
                have n12_ : Aside0 (((w65.setCell ⟨gb742, 0, none⟩ (.int .i64 t739)).setCell ⟨gb742, 1, none⟩ (.int .i64 t740)).heap[gb734]? = some (.cells #[.int .i64 t731, .int .i64 t732] 36 (0, 0))) := ⟨by refine bx_ ?_; refine blk_far ?_ NB734_742.out _; refine bx_ ?_; refine blk_far ?_ NB734_742.out _; refine bx_ ?_; exact BK734.out⟩
                have n13_ : Aside0 (((w65.setCell ⟨gb742, 0, none⟩ (.int .i64 t739)).setCell ⟨gb742, 1, none⟩ (.int .i64 t740)).heap[gb738]? = some (.cells #[.int .i64 t735, .int .i64 t736] 36 (0, 0))) := ⟨by refine bx_ ?_; refine blk_far ?_ NB738_742.out _; refine bx_ ?_; refine blk_far ?_ NB738_742.out _; refine bx_ ?_; exact BK738.out⟩
                have n14_ : Aside0 (((w65.setCell ⟨gb742, 0, none⟩ (.int .i64 t739)).setCell ⟨gb742, 1, none⟩ (.int .i64 t740)).heap[gb742]? = some (.cells #[.int .i64 t739, .int .i64 t740] 36 (0, 0))) := ⟨by refine bx_ ?_; refine blk_put (cs := #[.int .i64 t739, .int .i64 0]) ?_ 1 _ rfl; refine bx_ ?_; refine blk_put (cs := #[.int .i64 0, .int .i64 0]) ?_ 0 _ rfl; refine bx_ ?_; exact BK742.out⟩
                have n15_ : Aside0 (Below w.heap.size w ((w65.setCell ⟨gb742, 0, none⟩ (.int .i64 t739)).setCell ⟨gb742, 1, none⟩ (.int .i64 t740))) := ⟨by repeat (first | (with_reducible first | exact HB.out | apply below_alloc | apply pw_below_drewN | apply below_drew1 | refine below_set ?_ GE696.out | refine below_set ?_ GE708.out | refine below_set ?_ GE718.out | refine below_set ?_ GE734.out | refine below_set ?_ GE738.out | refine below_set ?_ GE742.out) | exact HB.out)⟩
                (try clear HO701)
                (try clear HO704)
                (try clear HO707)
                (try clear HO711)
                (try clear HO714)
                (try clear HO717)
                (try clear HO721)
                (try clear HO725)
                (try clear HO729)
                (try clear BK696)
                (try clear BK708)
                (try clear BK718)
                (try clear BK734)
                (try clear BK738)
                (try clear BK742)
                (try clear HB)
                generalize ((w65.setCell ⟨gb742, 0, none⟩ (.int .i64 t739)).setCell ⟨gb742, 1, none⟩ (.int .i64 t740)) = w83 at n0_ n1_ n2_ n3_ n4_ n5_ n6_ n7_ n8_ n9_ n10_ n11_ n12_ n13_ n14_ n15_ ⊢
                have HO701 := n0_
                have HO704 := n1_
                have HO707 := n2_
                have HO711 := n3_
                have HO714 := n4_
                have HO717 := n5_
                have HO721 := n6_
                have HO725 := n7_
                have HO729 := n8_
                have BK696 := n9_
                have BK708 := n10_
                have BK718 := n11_
                have BK734 := n12_
                have BK738 := n13_
                have BK742 := n14_
                have HB := n15_
                clear n0_ n1_ n2_ n3_ n4_ n5_ n6_ n7_ n8_ n9_ n10_ n11_ n12_ n13_ n14_ n15_
                replace HO701 := Aside0.mk (Kd.R_drew HO701.out)
                replace HO704 := Aside0.mk (Kd.R_drew HO704.out)
                replace HO707 := Aside0.mk (Kd.R_drew HO707.out)
                replace HO711 := Aside0.mk (Kd.R_drew HO711.out)
                replace HO714 := Aside0.mk (Kd.R_drew HO714.out)
                replace HO717 := Aside0.mk (Kd.R_drew HO717.out)
                replace HO721 := Aside0.mk (Kd.R_drew HO721.out)
                replace HO725 := Aside0.mk (Kd.R_drew HO725.out)
                replace HO729 := Aside0.mk (Kd.R_drew HO729.out)
                replace BK696 := Aside0.mk (blk_drew BK696.out)
                replace BK708 := Aside0.mk (blk_drew BK708.out)
                replace BK718 := Aside0.mk (blk_drew BK718.out)
                replace BK734 := Aside0.mk (blk_drew BK734.out)
                replace BK738 := Aside0.mk (blk_drew BK738.out)
                replace BK742 := Aside0.mk (blk_drew BK742.out)
                replace HB := Aside0.mk (below_drew1 HB.out)
                obtain ⟨Ao85, co85, eo85⟩ := Kd.R_slice HO721.out
                (first | subst eo85 | (injection eo85 with f1_ f2_ f3_; have f4_ := f1_.symm; have f5_ := f3_.symm; clear f1_ f2_ f3_; subst f4_; subst f5_))
                obtain ⟨Ao86, co86, eo86⟩ := Kd.R_slice HO725.out
                (first | subst eo86 | (injection eo86 with f1_ f2_ f3_; have f4_ := f1_.symm; have f5_ := f3_.symm; clear f1_ f2_ f3_; subst f4_; subst f5_))
                obtain ⟨Ao87, co87, eo87⟩ := Kd.R_slice HO729.out
                (first | subst eo87 | (injection eo87 with f1_ f2_ f3_; have f4_ := f1_.symm; have f5_ := f3_.symm; clear f1_ f2_ f3_; subst f4_; subst f5_))
                refine start_ (n := 54) (S := fun w' => w'.cell? ⟨gb738, 0, none⟩ = some (.int .i64 t735) ∧ w'.cell? ⟨gb738, 1, none⟩ = some (.int .i64 t736) ∧ w'.cell? ⟨gb734, 0, none⟩ = some (.int .i64 t731) ∧ w'.cell? ⟨gb734, 1, none⟩ = some (.int .i64 t732) ∧ w'.cell? ⟨gb742, 0, none⟩ = some (.int .i64 t739) ∧ w'.cell? ⟨gb742, 1, none⟩ = some (.int .i64 t740)) (ds := []) (bm_ 54 0) (by kernel_rfl) rfl rfl ⟨bc_ BK738 0, bc_ BK738 1, bc_ BK734 0, bc_ BK734 1, bc_ BK742 0, bc_ BK742 1⟩ (fun hHeld => ?_); refine with_tabW cottonpadlaw06_ExitsEnds.tab13 cottonpadlaw06_ExitsEnds.bits13 (fun HT_ HW_ => ?_)
                generalize w83.drew = w84 at HO701 HO704 HO707 HO711 HO714 HO717 HO721 HO725 HO729 BK696 BK708 BK718 BK734 BK738 BK742 HB hHeld ⊢
                refine pr_ 0 105 54 1 HT_ rfl rfl ?_
                refine pr_ 1 106 54 3 HT_ rfl rfl ?_
                refine pr_ 2 107 54 7 HT_ rfl rfl ?_
                refine pr_ 3 108 54 15 HT_ rfl rfl ?_
                refine pr_ 4 109 54 31 HT_ rfl rfl ?_
                refine pr_ 5 110 54 63 HT_ rfl rfl ?_
                refine pr_ 6 111 54 127 HT_ rfl rfl ?_
                refine pr_ 7 112 54 255 HT_ rfl rfl ?_
                refine pr_ 8 113 54 511 HT_ rfl rfl ?_
                refine pr_ 9 114 54 1023 HT_ rfl rfl ?_
                refine pr_ 10 115 54 2047 HT_ rfl rfl ?_
                refine pr_ 11 116 54 4095 HT_ rfl rfl ?_
                refine pr_ 12 117 54 8191 HT_ rfl rfl ?_
                refine pr_ 13 118 54 16383 HT_ rfl rfl ?_
                refine pr_ 14 119 54 32767 HT_ rfl rfl ?_
                refine pr_ 15 120 54 65535 HT_ rfl rfl ?_
                refine pr_ 16 121 54 131071 HT_ rfl rfl ?_
                refine pr_ 17 122 54 262143 HT_ rfl rfl ?_
                refine pr_ 18 123 54 524287 HT_ rfl rfl ?_
                refine pr_ 19 124 54 1048575 HT_ rfl rfl ?_
                refine pr_ 20 125 54 2097151 HT_ rfl rfl ?_
                refine pr_ 21 126 54 4194303 HT_ rfl rfl ?_
                refine pr_ 22 127 54 8388607 HT_ rfl rfl ?_
                refine pr_ 23 128 54 16777215 HT_ rfl rfl ?_
                refine pr_ 24 129 54 33554431 HT_ rfl rfl ?_
                refine pr_ 25 130 54 67108863 HT_ rfl rfl ?_
                refine pr_ 26 131 54 134217727 HT_ rfl rfl ?_
                refine pr_ 27 132 54 268435455 HT_ rfl rfl ?_
                refine pr_ 28 133 54 536870911 HT_ rfl rfl ?_
                refine pr_ 29 134 54 1073741823 HT_ rfl rfl ?_
                refine pr_ 30 135 54 2147483647 HT_ rfl rfl ?_
                refine pr_ 31 136 54 4294967295 HT_ rfl rfl ?_
                refine pr_ 32 137 54 8589934591 HT_ rfl rfl ?_
                refine pr_ 33 138 54 17179869183 HT_ rfl rfl ?_
                refine pr_ 34 139 54 34359738367 HT_ rfl rfl ?_
                refine pr_ 35 140 54 68719476735 HT_ rfl rfl ?_
                refine pr_ 36 141 54 137438953471 HT_ rfl rfl ?_
                refine pr_ 38 143 54 412316860415 HT_ rfl rfl ?_
                refine pr_ 40 145 54 1511828488191 HT_ rfl rfl ?_
                refine ta_ 37 142 54 1649267441663 HT_ HW_ rfl rfl hHeld ?_
                refine ta_ 39 144 54 2199023255551 HT_ HW_ rfl rfl hHeld ?_
                refine ta_ 41 146 54 4398046511103 HT_ HW_ rfl rfl hHeld ?_
                refine one_ (i := 42) (N := some 147) (bm_ 54 8796093022207) rfl rfl (one_of HT_.out (by kernel_rfl)) (by decide) (fun K hK => ?_)
                refine goes_ Tryd.func32 (by kernel_rfl) rfl #[.int .i64 t732, .int .i64 t732] (by rfl) rfl rfl ls_ ?_
                with_reducible refine (cottonpadlaw06_span.calls t732 t732 t743 t744 _ A80.out).mono ?_
                rintro e w88 ⟨rfl, hb⟩
                refine ⟨_, rfl, ?_⟩
                replace HO701 := rb_ HO701 hb
                replace HO704 := rb_ HO704 hb
                replace HO707 := rb_ HO707 hb
                replace HO711 := rb_ HO711 hb
                replace HO714 := rb_ HO714 hb
                replace HO717 := rb_ HO717 hb
                replace HO721 := rb_ HO721 hb
                replace HO725 := rb_ HO725 hb
                replace HO729 := rb_ HO729 hb
                replace BK696 := bb_ BK696 hb
                replace BK708 := bb_ BK708 hb
                replace BK718 := bb_ BK718 hb
                replace BK734 := bb_ BK734 hb
                replace BK738 := bb_ BK738 hb
                replace BK742 := bb_ BK742 hb
                replace HB := Aside0.mk (below_step (by repeat (first | (with_reducible first | exact HB.out | apply below_alloc | apply pw_below_drewN | apply below_drew1 | refine below_set ?_ GE696.out | refine below_set ?_ GE708.out | refine below_set ?_ GE718.out | refine below_set ?_ GE734.out | refine below_set ?_ GE738.out | refine below_set ?_ GE742.out) | exact HB.out)) hb)
                (try clear hb)
                (try clear hb2)
                (try clear hk)
                (try clear hi)
                refine hK.out _ _ ⟨bc_ BK738 0, bc_ BK738 1, bc_ BK734 0, bc_ BK734 1, bc_ BK742 0, bc_ BK742 1⟩ (fun hHeld => ?_)
                clear hK K
                refine norm_ (a' := ?_) ?_ ?_
                rotate_left
                ·show Act.put _ (some 147) _ = _
                 simp only [Act.put, List.setIfInBounds_toArray, List.set_cons_zero, List.set_cons_succ, i64_w, i32_w]
                 rfl
                refine pr_ 43 148 54 17592186044415 HT_ rfl rfl ?_
                refine pr_ 44 149 54 35184372088831 HT_ rfl rfl ?_
                refine pr_ 45 150 54 70368744177663 HT_ rfl rfl ?_
                refine pr_ 47 152 54 211106232532991 HT_ rfl rfl ?_
                refine pr_ 49 154 54 774056185954303 HT_ rfl rfl ?_
                refine ta_ 46 151 54 844424930131967 HT_ HW_ rfl rfl hHeld ?_
                refine ta_ 48 153 54 1125899906842623 HT_ HW_ rfl rfl hHeld ?_
                refine ta_ 50 155 54 2251799813685247 HT_ HW_ rfl rfl hHeld ?_
                refine one_ (i := 51) (N := some 156) (bm_ 54 4503599627370495) rfl rfl (one_of HT_.out (by kernel_rfl)) (by decide) (fun K hK => ?_)
                refine goes_ Tryd.func32 (by kernel_rfl) rfl #[.int .i64 t731, .int .i64 t731] (by rfl) rfl rfl ls_ ?_
                with_reducible refine (cottonpadlaw06_span.calls t731 t731 t745 t746 _ A82.out).mono ?_
                rintro e w89 ⟨rfl, hb⟩
                refine ⟨_, rfl, ?_⟩
                replace HO701 := rb_ HO701 hb
                replace HO704 := rb_ HO704 hb
                replace HO707 := rb_ HO707 hb
                replace HO711 := rb_ HO711 hb
                replace HO714 := rb_ HO714 hb
                replace HO717 := rb_ HO717 hb
                replace HO721 := rb_ HO721 hb
                replace HO725 := rb_ HO725 hb
                replace HO729 := rb_ HO729 hb
                replace BK696 := bb_ BK696 hb
                replace BK708 := bb_ BK708 hb
                replace BK718 := bb_ BK718 hb
                replace BK734 := bb_ BK734 hb
                replace BK738 := bb_ BK738 hb
                replace BK742 := bb_ BK742 hb
                replace HB := Aside0.mk (below_step (by repeat (first | (with_reducible first | exact HB.out | apply below_alloc | apply pw_below_drewN | apply below_drew1 | refine below_set ?_ GE696.out | refine below_set ?_ GE708.out | refine below_set ?_ GE718.out | refine below_set ?_ GE734.out | refine below_set ?_ GE738.out | refine below_set ?_ GE742.out) | exact HB.out)) hb)
                (try clear hb)
                (try clear hb2)
                (try clear hk)
                (try clear hi)
                refine hK.out _ _ ⟨bc_ BK738 0, bc_ BK738 1, bc_ BK734 0, bc_ BK734 1, bc_ BK742 0, bc_ BK742 1⟩ (fun hHeld => ?_)
                clear hK K
                refine norm_ (a' := ?_) ?_ ?_
                rotate_left
                ·show Act.put _ (some 156) _ = _
                 simp only [Act.put, List.setIfInBounds_toArray, List.set_cons_zero, List.set_cons_succ, i64_w, i32_w]
                 rfl
                refine pr_ 52 157 54 9007199254740991 HT_ rfl rfl ?_
                refine pr_ 53 158 54 18014398509481983 HT_ rfl rfl ?_
                refine done_ (done_of HT_.out (by kernel_rfl)) ?_
                try go_wp2
                go_meet
                case rel => exact ⟨_, ((!(t739 == t745) || (!(t740 == t746)))), (by first | rfl | (simp; done) | (simp [*]; done)), H', ⟨by have := HJ4.out; first | omega | exact Nat.le_refl _⟩, ⟨by (with_reducible repeat (first | apply Kd.R_alloc | apply Kd.R_drewN | apply Kd.R_drew)); exact HO707.out⟩, ⟨by (with_reducible repeat (first | apply Kd.R_alloc | apply Kd.R_drewN | apply Kd.R_drew)); exact HO717.out⟩, ⟨by (with_reducible repeat (first | apply Kd.R_alloc | apply Kd.R_drewN | apply Kd.R_drew)); exact HO721.out⟩, ⟨by (with_reducible repeat (first | apply Kd.R_alloc | apply Kd.R_drewN | apply Kd.R_drew)); exact HO725.out⟩, ⟨by (with_reducible repeat (first | apply Kd.R_alloc | apply Kd.R_drewN | apply Kd.R_drew)); exact HO729.out⟩, ⟨by (with_reducible repeat (first | apply Kd.R_alloc | apply Kd.R_drewN | apply Kd.R_drew)); exact HO701.out⟩, ⟨by (with_reducible repeat (first | apply Kd.R_alloc | apply Kd.R_drewN | apply Kd.R_drew)); exact HO704.out⟩, ⟨by (with_reducible repeat (first | apply Kd.R_alloc | apply Kd.R_drewN | apply Kd.R_drew)); exact HO711.out⟩, ⟨by (with_reducible repeat (first | apply Kd.R_alloc | apply Kd.R_drewN | apply Kd.R_drew)); exact HO714.out⟩, ⟨by refine bx_ ?_; exact BK696.out⟩, ⟨by refine bx_ ?_; exact BK708.out⟩, ⟨by refine bx_ ?_; exact BK718.out⟩, ⟨by refine bx_ ?_; exact BK734.out⟩, ⟨by refine bx_ ?_; exact BK738.out⟩, ⟨by refine bx_ ?_; exact BK742.out⟩, ⟨by repeat (first | (with_reducible first | exact HB.out | apply below_alloc | apply pw_below_drewN | apply below_drew1 | refine below_set ?_ GE696.out | refine below_set ?_ GE708.out | refine below_set ?_ GE718.out | refine below_set ?_ GE734.out | refine below_set ?_ GE738.out | refine below_set ?_ GE742.out) | exact HB.out)⟩⟩
              ·rw [if_neg c79] at H
               have c79b0 : ((t719.length : Int) == (t727.length : Int)) = false := beq_eq_false_iff_ne.mpr c79
               have c79b1 : ((t719.length : Int) != (t727.length : Int)) = true := bne_iff_ne.mpr c79
               have c79b2 : (t719.length == t727.length) = false := by first | simpa using c79 | (simp at c79 ⊢; omega)
               exact absurd H (by rw [HRT.out]; cases kj4 <;> simp [cottonpadlaw06_ExitsEnds.j1])
             ·rw [if_neg c78] at H
              have c78b0 : ((t719.length : Int) == (t723.length : Int)) = false := beq_eq_false_iff_ne.mpr c78
              have c78b1 : ((t719.length : Int) != (t723.length : Int)) = true := bne_iff_ne.mpr c78
              have c78b2 : (t719.length == t723.length) = false := by first | simpa using c78 | (simp at c78 ⊢; omega)
              exact absurd H (by rw [HRT.out]; cases kj4 <;> simp [cottonpadlaw06_ExitsEnds.j1])
            ·rw [if_neg c77] at H
             have c77b0 : (t741 == 0) = false := beq_eq_false_iff_ne.mpr c77
             have c77b1 : (t741 != 0) = true := bne_iff_ne.mpr c77
             exact absurd H (by rw [HRT.out]; cases kj4 <;> simp [cottonpadlaw06_ExitsEnds.j1])
           ·rw [if_neg c76] at H
            have c76b0 : (t737 == 0) = false := beq_eq_false_iff_ne.mpr c76
            have c76b1 : (t737 != 0) = true := bne_iff_ne.mpr c76
            exact absurd H (by rw [HRT.out]; cases kj4 <;> simp [cottonpadlaw06_ExitsEnds.j1])
          ·rw [if_neg c75] at H
           have c75b0 : (t733 == 0) = false := beq_eq_false_iff_ne.mpr c75
           have c75b1 : (t733 != 0) = true := bne_iff_ne.mpr c75
           exact absurd H (by rw [HRT.out]; cases kj4 <;> simp [cottonpadlaw06_ExitsEnds.j1])
         ·rw [if_neg c74] at H
          have c74b0 : (t730 == 0) = false := beq_eq_false_iff_ne.mpr c74
          have c74b1 : (t730 != 0) = true := bne_iff_ne.mpr c74
          exact absurd H (by rw [HRT.out]; cases kj4 <;> simp [cottonpadlaw06_ExitsEnds.j1])
        ·rw [if_neg c73] at H
         have c73b0 : (t726 == 0) = false := beq_eq_false_iff_ne.mpr c73
         have c73b1 : (t726 != 0) = true := bne_iff_ne.mpr c73
         exact absurd H (by rw [HRT.out]; cases kj4 <;> simp [cottonpadlaw06_ExitsEnds.j1])
       ·rw [if_neg c72] at H
        have c72b0 : (t722 == 0) = false := beq_eq_false_iff_ne.mpr c72
        have c72b1 : (t722 != 0) = true := bne_iff_ne.mpr c72
        (first | rw [c72b0] | (simp only [i64_w, i32_w]; rw [c72b0]) | skip)
        exact absurd H (by rw [HRT.out]; cases kj4 <;> simp [cottonpadlaw06_ExitsEnds.j1])
     case rest =>
      as_aux_lemma =>
       clear HC24
       try clear p2
       try clear c3
       try clear c7
       try clear c32
       try clear c72
       try clear c72b0
       try clear c72b1
       try clear c73
       try clear c73b0
       try clear c73b1
       try clear c74
       try clear c74b0
       try clear c74b1
       try clear c75
       try clear c75b0
       try clear c75b1
       try clear c76
       try clear c76b0
       try clear c76b1
       try clear c77
       try clear c77b0
       try clear c77b1
       try clear c78
       try clear c78b0
       try clear c78b1
       try clear c78b2
       try clear c79
       try clear c79b0
       try clear c79b1
       try clear c79b2
       obtain ⟨kq, x158_23, rfl, HA, HJ23, HO_10, HO_12, HO_13, HO_15, HO_17, HO_709000, HO_709001, HO_719000, HO_719001, BK696, BK708, BK718, BK734, BK738, BK742, HB⟩ := hcut
       cases kq with
       | zero => exact absurd HA.out (by simp [cottonpadlaw06_ExitsEnds.j1])
       | succ kj23 =>
        have H := HA.out
        clear HA
        simp only [cottonpadlaw06_ExitsEnds.j1] at H
        by_cases c90 : x158_23 = true
        ·subst c90
         have H1 : (some false) = some r := by rw [if_pos rfl] at H; exact H
         clear H
         have H := H1
         clear H1
         exact absurd (H.trans (congrArg some HRT.out)) (by simp)
        ·replace c90 := Bool.eq_false_iff.mpr c90
         subst c90
         have H1 : (cottonpadlaw06_ExitsEnds.l0 kj23 l1 t697 t705 t715 t719 t723 t727 (t719.length : Int) 0 l0_0 l0_1 t699 t702 t709 t712) = some r := by rw [if_neg (show ¬ (false = true) by decide)] at H; exact H
         clear H
         have H := H1
         clear H1
         have H' := Aside0.mk H
         clear H
         obtain ⟨Ao91, co91, eo91⟩ := Kd.R_slice HO_13.out
         subst eo91
         go_wp2
         go_loopg [161] kj23 (fun kq v161 w' => ∃ (x161_3 : Int), v161 = .int .i64 x161_3 ∧ Aside0 (cottonpadlaw06_ExitsEnds.l0 kq l1 t697 t705 t715 t719 t723 t727 (t719.length : Int) x161_3 l0_0 l0_1 t699 t702 t709 t712 = some r) ∧ Aside0 (kq ≤ kj23) ∧ Aside0 (Kd.R k48 48 w' w.heap.size (fun k_ => some k_ ≠ ((.slice Ao46 t715.length co46) : Value).ownBlock) (.slice Ao43 t705.length co43) t705) ∧ Aside0 (Kd.R k48 48 w' w.heap.size (fun k_ => some k_ ≠ ((.slice Ao43 t705.length co43) : Value).ownBlock) (.slice Ao46 t715.length co46) t715) ∧ Aside0 (Kd.R k36 36 w' w.heap.size (fun k_ => some k_ ≠ (v724 : Value).ownBlock ∧ some k_ ≠ (v728 : Value).ownBlock ∧ k_ ≠ gb734 ∧ k_ ≠ gb738 ∧ k_ ≠ gb742) (.slice Ao91 t719.length co91) t719) ∧ Aside0 (Kd.R k36 36 w' w.heap.size (fun k_ => some k_ ≠ ((.slice Ao91 t719.length co91) : Value).ownBlock ∧ some k_ ≠ (v728 : Value).ownBlock ∧ k_ ≠ gb734 ∧ k_ ≠ gb738 ∧ k_ ≠ gb742) v724 t723) ∧ Aside0 (Kd.R k36 36 w' w.heap.size (fun k_ => some k_ ≠ ((.slice Ao91 t719.length co91) : Value).ownBlock ∧ some k_ ≠ (v724 : Value).ownBlock ∧ k_ ≠ gb734 ∧ k_ ≠ gb738 ∧ k_ ≠ gb742) v728 t727) ∧ Aside0 (Kd.R k62 62 w' w.heap.size (fun k_ => some k_ ≠ ((.slice Ao35 t709.length co35) : Value).ownBlock) (.slice Ao28 t699.length co28) t699) ∧ Aside0 (Kd.R k81 81 w' w.heap.size (fun k_ => some k_ ≠ ((.slice Ao39 t712.length co39) : Value).ownBlock) (.slice Ao31 t702.length co31) t702) ∧ Aside0 (Kd.R k62 62 w' w.heap.size (fun k_ => some k_ ≠ ((.slice Ao28 t699.length co28) : Value).ownBlock) (.slice Ao35 t709.length co35) t709) ∧ Aside0 (Kd.R k81 81 w' w.heap.size (fun k_ => some k_ ≠ ((.slice Ao31 t702.length co31) : Value).ownBlock) (.slice Ao39 t712.length co39) t712) ∧ Aside0 (w'.heap[gb696]? = some (.cells #[(.slice A0_0 l0_0.length c0_0), (.slice A0_1 l0_1.length c0_1)] 25 (0, 0))) ∧ Aside0 (w'.heap[gb708]? = some (.cells #[(.slice Ao28 t699.length co28), (.slice Ao31 t702.length co31)] 25 (0, 0))) ∧ Aside0 (w'.heap[gb718]? = some (.cells #[(.slice Ao35 t709.length co35), (.slice Ao39 t712.length co39)] 25 (0, 0))) ∧ Aside0 (w'.heap[gb734]? = some (.cells #[.int .i64 t731, .int .i64 t732] 36 (0, 0))) ∧ Aside0 (w'.heap[gb738]? = some (.cells #[.int .i64 t735, .int .i64 t736] 36 (0, 0))) ∧ Aside0 (w'.heap[gb742]? = some (.cells #[.int .i64 t739, .int .i64 t740] 36 (0, 0))) ∧ Aside0 (Below w.heap.size w w'))
         case atStart => exact ⟨(0), (by first | rfl | (simp; done) | (simp [*]; done)), H', ⟨Nat.le_refl _⟩, ⟨by (with_reducible repeat (first | apply Kd.R_alloc | apply Kd.R_drewN | apply Kd.R_drew)); exact HO_10.out⟩, ⟨by (with_reducible repeat (first | apply Kd.R_alloc | apply Kd.R_drewN | apply Kd.R_drew)); exact HO_12.out⟩, ⟨by (with_reducible repeat (first | apply Kd.R_alloc | apply Kd.R_drewN | apply Kd.R_drew)); exact HO_13.out⟩, ⟨by (with_reducible repeat (first | apply Kd.R_alloc | apply Kd.R_drewN | apply Kd.R_drew)); exact HO_15.out⟩, ⟨by (with_reducible repeat (first | apply Kd.R_alloc | apply Kd.R_drewN | apply Kd.R_drew)); exact HO_17.out⟩, ⟨by (with_reducible repeat (first | apply Kd.R_alloc | apply Kd.R_drewN | apply Kd.R_drew)); exact HO_709000.out⟩, ⟨by (with_reducible repeat (first | apply Kd.R_alloc | apply Kd.R_drewN | apply Kd.R_drew)); exact HO_709001.out⟩, ⟨by (with_reducible repeat (first | apply Kd.R_alloc | apply Kd.R_drewN | apply Kd.R_drew)); exact HO_719000.out⟩, ⟨by (with_reducible repeat (first | apply Kd.R_alloc | apply Kd.R_drewN | apply Kd.R_drew)); exact HO_719001.out⟩, ⟨by refine bx_ ?_; exact BK696.out⟩, ⟨by refine bx_ ?_; exact BK708.out⟩, ⟨by refine bx_ ?_; exact BK718.out⟩, ⟨by refine bx_ ?_; exact BK734.out⟩, ⟨by refine bx_ ?_; exact BK738.out⟩, ⟨by refine bx_ ?_; exact BK742.out⟩, ⟨by repeat (first | (with_reducible first | exact HB.out | apply below_alloc | apply pw_below_drewN | apply below_drew1 | refine below_set ?_ GE696.out | refine below_set ?_ GE708.out | refine below_set ?_ GE718.out | refine below_set ?_ GE734.out | refine below_set ?_ GE738.out | refine below_set ?_ GE742.out) | exact HB.out)⟩⟩
         case round =>
          as_aux_lemma =>
           clear H'
           try clear p2
           try clear c3
           try clear c7
           try clear c9
           try clear c32
           try clear c72
           try clear c72b0
           try clear c72b1
           try clear c73
           try clear c73b0
           try clear c73b1
           try clear c74
           try clear c74b0
           try clear c74b1
           try clear c75
           try clear c75b0
           try clear c75b1
           try clear c76
           try clear c76b0
           try clear c76b1
           try clear c77
           try clear c77b0
           try clear c77b1
           try clear c78
           try clear c78b0
           try clear c78b1
           try clear c78b2
           try clear c79
           try clear c79b0
           try clear c79b1
           try clear c79b2
           try clear c90
           try clear p2
           obtain ⟨x161_3, rfl, HA, HK3, HO_10, HO_12, HO_13, HO_15, HO_17, HO_709000, HO_709001, HO_719000, HO_719001, BK696, BK708, BK718, BK734, BK738, BK742, HB⟩ := hrel
           cases gk with
           | zero => exact absurd HA.out (by simp [cottonpadlaw06_ExitsEnds.l0])
           | succ k3 =>
            have H := HA.out
            clear HA
            simp only [cottonpadlaw06_ExitsEnds.l0] at H
            by_cases c92 : x161_3 < (t719.length : Int)
            ·rw [if_pos c92] at H
             have c92b0 : decide (x161_3 < (t719.length : Int)) = true := decide_eq_true c92
             clear c92
             by_cases c93 : 0 ≤ x161_3
             ·rw [if_pos c93] at H
              have c93b0 : decide (0 ≤ x161_3) = true := decide_eq_true c93
              clear c93
              by_cases c94 : x161_3 < (t723.length : Int)
              ·rw [if_pos c94] at H
               have c94b0 : decide (x161_3 < (t723.length : Int)) = true := decide_eq_true c94
               clear c94
               by_cases c95 : x161_3 < (t719.length : Int)
               ·rw [if_pos c95] at H
                have c95b0 : decide (x161_3 < (t719.length : Int)) = true := decide_eq_true c95
                clear c95
                replace H := Option.bind_eq_some_iff.mp H
                obtain ⟨⟨t762, t763⟩, A960, H⟩ := H
                replace H : (if (!(((rd_T36 t723 x161_3).f0) == t762) || (!(((rd_T36 t723 x161_3).f1) == t763))) = true then (some false) else (if x161_3 < (t727.length : Int) then ((cottonpadlaw06_span.f ((rd_T36 t719 x161_3).f0) ((rd_T36 t719 x161_3).f0)).bind fun bt767 => (if (!(((rd_T36 t727 x161_3).f0) == bt767.1) || (!(((rd_T36 t727 x161_3).f1) == bt767.2))) = true then (some false) else (cottonpadlaw06_ExitsEnds.l0 k3 l1 t697 t705 t715 t719 t723 t727 (t719.length : Int) (wrap64 (x161_3 + 1)) l0_0 l0_1 t699 t702 t709 t712))) else (none))) = some r := H
                have A96 := Aside0.mk A960
                clear A960
                by_cases c97 : (!(((rd_T36 t723 x161_3).f0) == t762) || (!(((rd_T36 t723 x161_3).f1) == t763))) = true
                ·rw [if_pos c97] at H
                 have c97b0 : (!(((rd_T36 t723 x161_3).f0) == t762) || (!(((rd_T36 t723 x161_3).f1) == t763))) = true := c97
                 clear c97
                 exact absurd (H.trans (congrArg some HRT.out)) (by simp)
                ·rw [if_neg c97] at H
                 have c97b0 : (!(((rd_T36 t723 x161_3).f0) == t762) || (!(((rd_T36 t723 x161_3).f1) == t763))) = false := by simpa using c97
                 clear c97
                 by_cases c98 : x161_3 < (t727.length : Int)
                 ·rw [if_pos c98] at H
                  have c98b0 : decide (x161_3 < (t727.length : Int)) = true := decide_eq_true c98
                  clear c98
                  replace H := Option.bind_eq_some_iff.mp H
                  obtain ⟨⟨t767, t768⟩, A990, H⟩ := H
                  replace H : (if (!(((rd_T36 t727 x161_3).f0) == t767) || (!(((rd_T36 t727 x161_3).f1) == t768))) = true then (some false) else (cottonpadlaw06_ExitsEnds.l0 k3 l1 t697 t705 t715 t719 t723 t727 (t719.length : Int) (wrap64 (x161_3 + 1)) l0_0 l0_1 t699 t702 t709 t712)) = some r := H
                  have A99 := Aside0.mk A990
                  clear A990
                  by_cases c100 : (!(((rd_T36 t727 x161_3).f0) == t767) || (!(((rd_T36 t727 x161_3).f1) == t768))) = true
                  ·rw [if_pos c100] at H
                   have c100b0 : (!(((rd_T36 t727 x161_3).f0) == t767) || (!(((rd_T36 t727 x161_3).f1) == t768))) = true := c100
                   clear c100
                   exact absurd (H.trans (congrArg some HRT.out)) (by simp)
                  ·rw [if_neg c100] at H
                   have c100b0 : (!(((rd_T36 t727 x161_3).f0) == t767) || (!(((rd_T36 t727 x161_3).f1) == t768))) = false := by simpa using c100
                   clear c100
                   have H' := Aside0.mk H
                   clear H
                   try go_wp2
                   replace HO_10 := Aside0.mk (Kd.R_drew HO_10.out)
                   replace HO_12 := Aside0.mk (Kd.R_drew HO_12.out)
                   replace HO_13 := Aside0.mk (Kd.R_drew HO_13.out)
                   replace HO_15 := Aside0.mk (Kd.R_drew HO_15.out)
                   replace HO_17 := Aside0.mk (Kd.R_drew HO_17.out)
                   replace HO_709000 := Aside0.mk (Kd.R_drew HO_709000.out)
                   replace HO_709001 := Aside0.mk (Kd.R_drew HO_709001.out)
                   replace HO_719000 := Aside0.mk (Kd.R_drew HO_719000.out)
                   replace HO_719001 := Aside0.mk (Kd.R_drew HO_719001.out)
                   replace BK696 := Aside0.mk (blk_drew BK696.out)
                   replace BK708 := Aside0.mk (blk_drew BK708.out)
                   replace BK718 := Aside0.mk (blk_drew BK718.out)
                   replace BK734 := Aside0.mk (blk_drew BK734.out)
                   replace BK738 := Aside0.mk (blk_drew BK738.out)
                   replace BK742 := Aside0.mk (blk_drew BK742.out)
                   replace HB := Aside0.mk (below_drew1 HB.out)
                   obtain ⟨Ao102, co102, eo102⟩ := Kd.R_slice HO_15.out
                   (first | subst eo102 | (injection eo102 with f1_ f2_ f3_; have f4_ := f1_.symm; have f5_ := f3_.symm; clear f1_ f2_ f3_; subst f4_; subst f5_))
                   have p759 : 0 ≤ (x161_3 : Int) := of_decide_eq_true as_
                   have q759 : x161_3 < (t723.length : Int) := of_decide_eq_true as_
                   obtain ⟨ad759, e759, hx759_0, hx759_1⟩ := at_T36 (Kd.R_reads' HO_15.out).2.2 x161_3 p759 q759
                   cases e759
                   replace p759 := eq_true p759
                   replace q759 := eq_true q759
                   have p760 : 0 ≤ (x161_3 : Int) := of_decide_eq_true as_
                   have q760 : x161_3 < (t719.length : Int) := of_decide_eq_true as_
                   obtain ⟨ad760, e760, hx760_0, hx760_1⟩ := at_T36 (Kd.R_reads' HO_13.out).2.2 x161_3 p760 q760
                   cases e760
                   replace p760 := eq_true p760
                   replace q760 := eq_true q760
                   have p761 : 0 ≤ (x161_3 : Int) := of_decide_eq_true as_
                   have q761 : x161_3 < (t719.length : Int) := of_decide_eq_true as_
                   obtain ⟨ad761, e761, hx761_0, hx761_1⟩ := at_T36 (Kd.R_reads' HO_13.out).2.2 x161_3 p761 q761
                   obtain rfl : ad760 = ad761 := (by injection e761)
                   replace p761 := eq_true p761
                   replace q761 := eq_true q761
                   obtain ⟨Ao204, co204, eo204⟩ := Kd.R_slice HO_17.out
                   (first | subst eo204 | (injection eo204 with f1_ f2_ f3_; have f4_ := f1_.symm; have f5_ := f3_.symm; clear f1_ f2_ f3_; subst f4_; subst f5_))
                   have p764 : 0 ≤ (x161_3 : Int) := of_decide_eq_true as_
                   have q764 : x161_3 < (t727.length : Int) := of_decide_eq_true as_
                   obtain ⟨ad764, e764, hx764_0, hx764_1⟩ := at_T36 (Kd.R_reads' HO_17.out).2.2 x161_3 p764 q764
                   cases e764
                   replace p764 := eq_true p764
                   replace q764 := eq_true q764
                   have p765 : 0 ≤ (x161_3 : Int) := of_decide_eq_true as_
                   have q765 : x161_3 < (t719.length : Int) := of_decide_eq_true as_
                   obtain ⟨ad765, e765, hx765_0, hx765_1⟩ := at_T36 (Kd.R_reads' HO_13.out).2.2 x161_3 p765 q765
                   obtain rfl : ad760 = ad765 := (by injection e765)
                   replace p765 := eq_true p765
                   replace q765 := eq_true q765
                   have p766 : 0 ≤ (x161_3 : Int) := of_decide_eq_true as_
                   have q766 : x161_3 < (t719.length : Int) := of_decide_eq_true as_
                   obtain ⟨ad766, e766, hx766_0, hx766_1⟩ := at_T36 (Kd.R_reads' HO_13.out).2.2 x161_3 p766 q766
                   obtain rfl : ad760 = ad766 := (by injection e766)
                   replace p766 := eq_true p766
                   replace q766 := eq_true q766
                   refine start_ (n := 34) (S := fun w' => w'.cell? (ad759.add ((x161_3).toNat * 2)) = some (.int .i64 ((rd_T36 t723 x161_3).f0)) ∧ w'.cell? ⟨(ad759.add ((x161_3).toNat * 2)).block, (ad759.add ((x161_3).toNat * 2)).off + 1, none⟩ = some (.int .i64 ((rd_T36 t723 x161_3).f1)) ∧ w'.cell? (ad760.add ((x161_3).toNat * 2)) = some (.int .i64 ((rd_T36 t719 x161_3).f0)) ∧ w'.cell? ⟨(ad760.add ((x161_3).toNat * 2)).block, (ad760.add ((x161_3).toNat * 2)).off + 1, none⟩ = some (.int .i64 ((rd_T36 t719 x161_3).f1)) ∧ w'.cell? (ad760.add ((x161_3).toNat * 2)) = some (.int .i64 ((rd_T36 t719 x161_3).f0)) ∧ w'.cell? ⟨(ad760.add ((x161_3).toNat * 2)).block, (ad760.add ((x161_3).toNat * 2)).off + 1, none⟩ = some (.int .i64 ((rd_T36 t719 x161_3).f1)) ∧ w'.cell? (ad764.add ((x161_3).toNat * 2)) = some (.int .i64 ((rd_T36 t727 x161_3).f0)) ∧ w'.cell? ⟨(ad764.add ((x161_3).toNat * 2)).block, (ad764.add ((x161_3).toNat * 2)).off + 1, none⟩ = some (.int .i64 ((rd_T36 t727 x161_3).f1)) ∧ w'.cell? (ad760.add ((x161_3).toNat * 2)) = some (.int .i64 ((rd_T36 t719 x161_3).f0)) ∧ w'.cell? ⟨(ad760.add ((x161_3).toNat * 2)).block, (ad760.add ((x161_3).toNat * 2)).off + 1, none⟩ = some (.int .i64 ((rd_T36 t719 x161_3).f1)) ∧ w'.cell? (ad760.add ((x161_3).toNat * 2)) = some (.int .i64 ((rd_T36 t719 x161_3).f0)) ∧ w'.cell? ⟨(ad760.add ((x161_3).toNat * 2)).block, (ad760.add ((x161_3).toNat * 2)).off + 1, none⟩ = some (.int .i64 ((rd_T36 t719 x161_3).f1))) (ds := []) (bm_ 34 0) (by kernel_rfl) rfl rfl ⟨hx759_0, hx759_1, hx760_0, hx760_1, hx761_0, hx761_1, hx764_0, hx764_1, hx765_0, hx765_1, hx766_0, hx766_1⟩ (fun hHeld => ?_); refine with_tabW cottonpadlaw06_ExitsEnds.tab18 cottonpadlaw06_ExitsEnds.bits18 (fun HT_ HW_ => ?_)
                   generalize wr.drew = w101 at HO_10 HO_12 HO_13 HO_15 HO_17 HO_709000 HO_709001 HO_719000 HO_719001 BK696 BK708 BK718 BK734 BK738 BK742 HB hx759_0 hx759_1 hx760_0 hx760_1 hx761_0 hx761_1 hx764_0 hx764_1 hx765_0 hx765_1 hx766_0 hx766_1 hHeld ⊢
                   refine pr_ 0 164 34 1 HT_ rfl rfl ?_
                   refine pr_ 1 165 34 3 HT_ rfl rfl ?_
                   refine pr_ 2 166 34 7 HT_ rfl rfl ?_
                   refine pr_ 4 168 34 23 HT_ rfl rfl ?_
                   refine pr_ 5 169 34 55 HT_ rfl rfl ?_
                   refine pr_ 6 170 34 119 HT_ rfl rfl ?_
                   refine pr_ 7 171 34 247 HT_ rfl rfl ?_
                   refine pr_ 9 173 34 759 HT_ rfl rfl ?_
                   refine pr_ 10 174 34 1783 HT_ rfl rfl ?_
                   refine pr_ 11 175 34 3831 HT_ rfl rfl ?_
                   refine pr_ 12 176 34 7927 HT_ rfl rfl ?_
                   refine ta_ 3 167 34 7935 HT_ HW_ rfl rfl hHeld ?_
                   refine ta_ 8 172 34 8191 HT_ HW_ rfl rfl hHeld ?_
                   refine ta_ 13 177 34 16383 HT_ HW_ rfl rfl hHeld ?_
                   refine one_ (i := 14) (N := some 178) (bm_ 34 32767) rfl rfl (one_of HT_.out (by kernel_rfl)) (by decide) (fun K hK => ?_)
                   refine goes_ Tryd.func32 (by kernel_rfl) rfl #[.int .i64 ((rd_T36 t719 x161_3).f1), .int .i64 ((rd_T36 t719 x161_3).f1)] (by rfl) rfl rfl ls_ ?_
                   with_reducible refine (cottonpadlaw06_span.calls ((rd_T36 t719 x161_3).f1) ((rd_T36 t719 x161_3).f1) t762 t763 _ A96.out).mono ?_
                   rintro e w103 ⟨rfl, hb⟩
                   have HS0_ := (hb.cell (World.block_lt_of_cell? _ _ (hHeld.1))).trans (hHeld.1)
                   have HS1_ := (hb.cell (World.block_lt_of_cell? _ _ (hHeld.2.1))).trans (hHeld.2.1)
                   have HS2_ := (hb.cell (World.block_lt_of_cell? _ _ (hHeld.2.2.1))).trans (hHeld.2.2.1)
                   have HS3_ := (hb.cell (World.block_lt_of_cell? _ _ (hHeld.2.2.2.1))).trans (hHeld.2.2.2.1)
                   have HS4_ := (hb.cell (World.block_lt_of_cell? _ _ (hHeld.2.2.2.2.1))).trans (hHeld.2.2.2.2.1)
                   have HS5_ := (hb.cell (World.block_lt_of_cell? _ _ (hHeld.2.2.2.2.2.1))).trans (hHeld.2.2.2.2.2.1)
                   have HS6_ := (hb.cell (World.block_lt_of_cell? _ _ (hHeld.2.2.2.2.2.2.1))).trans (hHeld.2.2.2.2.2.2.1)
                   have HS7_ := (hb.cell (World.block_lt_of_cell? _ _ (hHeld.2.2.2.2.2.2.2.1))).trans (hHeld.2.2.2.2.2.2.2.1)
                   have HS8_ := (hb.cell (World.block_lt_of_cell? _ _ (hHeld.2.2.2.2.2.2.2.2.1))).trans (hHeld.2.2.2.2.2.2.2.2.1)
                   have HS9_ := (hb.cell (World.block_lt_of_cell? _ _ (hHeld.2.2.2.2.2.2.2.2.2.1))).trans (hHeld.2.2.2.2.2.2.2.2.2.1)
                   have HS10_ := (hb.cell (World.block_lt_of_cell? _ _ (hHeld.2.2.2.2.2.2.2.2.2.2.1))).trans (hHeld.2.2.2.2.2.2.2.2.2.2.1)
                   have HS11_ := (hb.cell (World.block_lt_of_cell? _ _ (hHeld.2.2.2.2.2.2.2.2.2.2.2))).trans (hHeld.2.2.2.2.2.2.2.2.2.2.2)
                   refine ⟨_, rfl, ?_⟩
                   replace HO_10 := rb_ HO_10 hb
                   replace HO_12 := rb_ HO_12 hb
                   replace HO_13 := rb_ HO_13 hb
                   replace HO_15 := rb_ HO_15 hb
                   replace HO_17 := rb_ HO_17 hb
                   replace HO_709000 := rb_ HO_709000 hb
                   replace HO_709001 := rb_ HO_709001 hb
                   replace HO_719000 := rb_ HO_719000 hb
                   replace HO_719001 := rb_ HO_719001 hb
                   replace BK696 := bb_ BK696 hb
                   replace BK708 := bb_ BK708 hb
                   replace BK718 := bb_ BK718 hb
                   replace BK734 := bb_ BK734 hb
                   replace BK738 := bb_ BK738 hb
                   replace BK742 := bb_ BK742 hb
                   replace HB := Aside0.mk (below_step (by repeat (first | (with_reducible first | exact HB.out | apply below_alloc | apply pw_below_drewN | apply below_drew1 | refine below_set ?_ GE696.out | refine below_set ?_ GE708.out | refine below_set ?_ GE718.out | refine below_set ?_ GE734.out | refine below_set ?_ GE738.out | refine below_set ?_ GE742.out) | exact HB.out)) hb)
                   (try clear hb)
                   (try clear hb2)
                   (try clear hk)
                   (try clear hi)
                   obtain ⟨Ao104, co104, eo104⟩ := Kd.R_slice HO_17.out
                   (first | subst eo104 | (injection eo104 with f1_ f2_ f3_; have f4_ := f1_.symm; have f5_ := f3_.symm; clear f1_ f2_ f3_; subst f4_; subst f5_))
                   refine hK.out _ _ ⟨HS0_, HS1_, HS2_, HS3_, HS4_, HS5_, HS6_, HS7_, HS8_, HS9_, HS10_, HS11_⟩ (fun hHeld => ?_)
                   clear hK K
                   refine norm_ (a' := ?_) ?_ ?_
                   rotate_left
                   ·show Act.put _ (some 178) _ = _
                    simp only [Act.put, List.setIfInBounds_toArray, List.set_cons_zero, List.set_cons_succ, i64_w, i32_w]
                    rfl
                   refine pr_ 15 179 34 65535 HT_ rfl rfl ?_
                   refine pr_ 16 180 34 131071 HT_ rfl rfl ?_
                   refine pr_ 17 181 34 262143 HT_ rfl rfl ?_
                   refine pr_ 18 182 34 524287 HT_ rfl rfl ?_
                   refine pr_ 19 183 34 1048575 HT_ rfl rfl ?_
                   refine pr_ 21 185 34 3145727 HT_ rfl rfl ?_
                   refine pr_ 22 186 34 7340031 HT_ rfl rfl ?_
                   refine pr_ 23 187 34 15728639 HT_ rfl rfl ?_
                   refine pr_ 24 188 34 32505855 HT_ rfl rfl ?_
                   refine pr_ 26 190 34 99614719 HT_ rfl rfl ?_
                   refine pr_ 27 191 34 233832447 HT_ rfl rfl ?_
                   refine pr_ 28 192 34 502267903 HT_ rfl rfl ?_
                   refine pr_ 29 193 34 1039138815 HT_ rfl rfl ?_
                   refine ta_ 20 184 34 1040187391 HT_ HW_ rfl rfl hHeld ?_
                   refine ta_ 25 189 34 1073741823 HT_ HW_ rfl rfl hHeld ?_
                   refine ta_ 30 194 34 2147483647 HT_ HW_ rfl rfl hHeld ?_
                   refine one_ (i := 31) (N := some 195) (bm_ 34 4294967295) rfl rfl (one_of HT_.out (by kernel_rfl)) (by decide) (fun K hK => ?_)
                   refine goes_ Tryd.func32 (by kernel_rfl) rfl #[.int .i64 ((rd_T36 t719 x161_3).f0), .int .i64 ((rd_T36 t719 x161_3).f0)] (by rfl) rfl rfl ls_ ?_
                   with_reducible refine (cottonpadlaw06_span.calls ((rd_T36 t719 x161_3).f0) ((rd_T36 t719 x161_3).f0) t767 t768 _ A99.out).mono ?_
                   rintro e w105 ⟨rfl, hb⟩
                   have HS0_ := (hb.cell (World.block_lt_of_cell? _ _ (hHeld.1))).trans (hHeld.1)
                   have HS1_ := (hb.cell (World.block_lt_of_cell? _ _ (hHeld.2.1))).trans (hHeld.2.1)
                   have HS2_ := (hb.cell (World.block_lt_of_cell? _ _ (hHeld.2.2.1))).trans (hHeld.2.2.1)
                   have HS3_ := (hb.cell (World.block_lt_of_cell? _ _ (hHeld.2.2.2.1))).trans (hHeld.2.2.2.1)
                   have HS4_ := (hb.cell (World.block_lt_of_cell? _ _ (hHeld.2.2.2.2.1))).trans (hHeld.2.2.2.2.1)
                   have HS5_ := (hb.cell (World.block_lt_of_cell? _ _ (hHeld.2.2.2.2.2.1))).trans (hHeld.2.2.2.2.2.1)
                   have HS6_ := (hb.cell (World.block_lt_of_cell? _ _ (hHeld.2.2.2.2.2.2.1))).trans (hHeld.2.2.2.2.2.2.1)
                   have HS7_ := (hb.cell (World.block_lt_of_cell? _ _ (hHeld.2.2.2.2.2.2.2.1))).trans (hHeld.2.2.2.2.2.2.2.1)
                   have HS8_ := (hb.cell (World.block_lt_of_cell? _ _ (hHeld.2.2.2.2.2.2.2.2.1))).trans (hHeld.2.2.2.2.2.2.2.2.1)
                   have HS9_ := (hb.cell (World.block_lt_of_cell? _ _ (hHeld.2.2.2.2.2.2.2.2.2.1))).trans (hHeld.2.2.2.2.2.2.2.2.2.1)
                   have HS10_ := (hb.cell (World.block_lt_of_cell? _ _ (hHeld.2.2.2.2.2.2.2.2.2.2.1))).trans (hHeld.2.2.2.2.2.2.2.2.2.2.1)
                   have HS11_ := (hb.cell (World.block_lt_of_cell? _ _ (hHeld.2.2.2.2.2.2.2.2.2.2.2))).trans (hHeld.2.2.2.2.2.2.2.2.2.2.2)
                   refine ⟨_, rfl, ?_⟩
                   replace HO_10 := rb_ HO_10 hb
                   replace HO_12 := rb_ HO_12 hb
                   replace HO_13 := rb_ HO_13 hb
                   replace HO_15 := rb_ HO_15 hb
                   replace HO_17 := rb_ HO_17 hb
                   replace HO_709000 := rb_ HO_709000 hb
                   replace HO_709001 := rb_ HO_709001 hb
                   replace HO_719000 := rb_ HO_719000 hb
                   replace HO_719001 := rb_ HO_719001 hb
                   replace BK696 := bb_ BK696 hb
                   replace BK708 := bb_ BK708 hb
                   replace BK718 := bb_ BK718 hb
                   replace BK734 := bb_ BK734 hb
                   replace BK738 := bb_ BK738 hb
                   replace BK742 := bb_ BK742 hb
                   replace HB := Aside0.mk (below_step (by repeat (first | (with_reducible first | exact HB.out | apply below_alloc | apply pw_below_drewN | apply below_drew1 | refine below_set ?_ GE696.out | refine below_set ?_ GE708.out | refine below_set ?_ GE718.out | refine below_set ?_ GE734.out | refine below_set ?_ GE738.out | refine below_set ?_ GE742.out) | exact HB.out)) hb)
                   (try clear hb)
                   (try clear hb2)
                   (try clear hk)
                   (try clear hi)
                   refine hK.out _ _ ⟨HS0_, HS1_, HS2_, HS3_, HS4_, HS5_, HS6_, HS7_, HS8_, HS9_, HS10_, HS11_⟩ (fun hHeld => ?_)
                   clear hK K
                   refine norm_ (a' := ?_) ?_ ?_
                   rotate_left
                   ·show Act.put _ (some 195) _ = _
                    simp only [Act.put, List.setIfInBounds_toArray, List.set_cons_zero, List.set_cons_succ, i64_w, i32_w]
                    rfl
                   refine pr_ 32 196 34 8589934591 HT_ rfl rfl ?_
                   refine pr_ 33 197 34 17179869183 HT_ rfl rfl ?_
                   refine done_ (done_of HT_.out (by kernel_rfl)) ?_
                   try go_wp2
                   go_roundg k3
                   case measure => have := HJ4.out; have := HJ23.out; have := HK3.out; omega
                   case rel => exact ⟨(wrap64 (x161_3 + 1)), (by first | rfl | (simp; done) | (simp [*]; done)), H', ⟨by have := HJ4.out; have := HJ23.out; have := HK3.out; omega⟩, ⟨by (with_reducible repeat (first | apply Kd.R_alloc | apply Kd.R_drewN | apply Kd.R_drew)); exact HO_10.out⟩, ⟨by (with_reducible repeat (first | apply Kd.R_alloc | apply Kd.R_drewN | apply Kd.R_drew)); exact HO_12.out⟩, ⟨by (with_reducible repeat (first | apply Kd.R_alloc | apply Kd.R_drewN | apply Kd.R_drew)); exact HO_13.out⟩, ⟨by (with_reducible repeat (first | apply Kd.R_alloc | apply Kd.R_drewN | apply Kd.R_drew)); exact HO_15.out⟩, ⟨by (with_reducible repeat (first | apply Kd.R_alloc | apply Kd.R_drewN | apply Kd.R_drew)); exact HO_17.out⟩, ⟨by (with_reducible repeat (first | apply Kd.R_alloc | apply Kd.R_drewN | apply Kd.R_drew)); exact HO_709000.out⟩, ⟨by (with_reducible repeat (first | apply Kd.R_alloc | apply Kd.R_drewN | apply Kd.R_drew)); exact HO_709001.out⟩, ⟨by (with_reducible repeat (first | apply Kd.R_alloc | apply Kd.R_drewN | apply Kd.R_drew)); exact HO_719000.out⟩, ⟨by (with_reducible repeat (first | apply Kd.R_alloc | apply Kd.R_drewN | apply Kd.R_drew)); exact HO_719001.out⟩, ⟨by refine bx_ ?_; exact BK696.out⟩, ⟨by refine bx_ ?_; exact BK708.out⟩, ⟨by refine bx_ ?_; exact BK718.out⟩, ⟨by refine bx_ ?_; exact BK734.out⟩, ⟨by refine bx_ ?_; exact BK738.out⟩, ⟨by refine bx_ ?_; exact BK742.out⟩, ⟨by repeat (first | (with_reducible first | exact HB.out | apply below_alloc | apply pw_below_drewN | apply below_drew1 | refine below_set ?_ GE696.out | refine below_set ?_ GE708.out | refine below_set ?_ GE718.out | refine below_set ?_ GE734.out | refine below_set ?_ GE738.out | refine below_set ?_ GE742.out) | exact HB.out)⟩⟩
                 ·rw [if_neg c98] at H
                  exact absurd H (by simp)
               ·rw [if_neg c95] at H
                exact absurd H (by simp)
              ·rw [if_neg c94] at H
               exact absurd H (by simp)
             ·rw [if_neg c93] at H
              exact absurd H (by simp)
            ·rw [if_neg c92] at H
             have c92b0 : decide (x161_3 < (t719.length : Int)) = false := decide_eq_false c92
             clear c92
             replace H := Option.bind_eq_some_iff.mp H
             obtain ⟨⟨t747, t748, t749, t750⟩, A1060, H⟩ := H
             replace H : ((exits_Safe.f t699 t702 t705).bind fun bt751 => ((exits_Safe.f t709 t712 t715).bind fun bt755 => (if t697 = true then (if t750 = 0 then (if bt751.2.2.2 = 0 then (if bt755.2.2.2 = 0 then (if bt751.1 = 1 then (some false) else (if bt755.1 = 1 then (some false) else (if ((t747 == 2) == (bt751.1 == 2)) = true then (if ((t747 == 0) == (bt755.1 == 0)) = true then (if t748 = bt751.2.1 then (some (t749 == bt751.2.2.1)) else (some false)) else (some false)) else (some false)))) else (some false)) else (some false)) else (some false)) else (some false)))) = some r := H
             have A106 := Aside0.mk A1060
             clear A1060
             replace H := Option.bind_eq_some_iff.mp H
             obtain ⟨⟨t751, t752, t753, t754⟩, A1070, H⟩ := H
             replace H : ((exits_Safe.f t709 t712 t715).bind fun bt755 => (if t697 = true then (if t750 = 0 then (if t754 = 0 then (if bt755.2.2.2 = 0 then (if t751 = 1 then (some false) else (if bt755.1 = 1 then (some false) else (if ((t747 == 2) == (t751 == 2)) = true then (if ((t747 == 0) == (bt755.1 == 0)) = true then (if t748 = t752 then (some (t749 == t753)) else (some false)) else (some false)) else (some false)))) else (some false)) else (some false)) else (some false)) else (some false))) = some r := H
             have A107 := Aside0.mk A1070
             clear A1070
             replace H := Option.bind_eq_some_iff.mp H
             obtain ⟨⟨t755, t756, t757, t758⟩, A1080, H⟩ := H
             replace H : (if t697 = true then (if t750 = 0 then (if t754 = 0 then (if t758 = 0 then (if t751 = 1 then (some false) else (if t755 = 1 then (some false) else (if ((t747 == 2) == (t751 == 2)) = true then (if ((t747 == 0) == (t755 == 0)) = true then (if t748 = t752 then (some (t749 == t753)) else (some false)) else (some false)) else (some false)))) else (some false)) else (some false)) else (some false)) else (some false)) = some r := H
             have A108 := Aside0.mk A1080
             clear A1080
             by_cases c109 : t697 = true
             ·subst c109
              have H1 : (if t750 = 0 then (if t754 = 0 then (if t758 = 0 then (if t751 = 1 then (some false) else (if t755 = 1 then (some false) else (if ((t747 == 2) == (t751 == 2)) = true then (if ((t747 == 0) == (t755 == 0)) = true then (if t748 = t752 then (some (t749 == t753)) else (some false)) else (some false)) else (some false)))) else (some false)) else (some false)) else (some false)) = some r := by rw [if_pos rfl] at H; exact H
              clear H
              have H := H1
              clear H1
              by_cases c110 : t750 = 0
              ·rw [if_pos c110] at H
               have c110b0 : (t750 == 0) = true := beq_iff_eq.mpr c110
               have c110b1 : (t750 != 0) = false := bne_eq_false_iff_eq.mpr c110
               clear c110
               by_cases c111 : t754 = 0
               ·rw [if_pos c111] at H
                have c111b0 : (t754 == 0) = true := beq_iff_eq.mpr c111
                have c111b1 : (t754 != 0) = false := bne_eq_false_iff_eq.mpr c111
                clear c111
                by_cases c112 : t758 = 0
                ·rw [if_pos c112] at H
                 have c112b0 : (t758 == 0) = true := beq_iff_eq.mpr c112
                 have c112b1 : (t758 != 0) = false := bne_eq_false_iff_eq.mpr c112
                 clear c112
                 by_cases c113 : t751 = 1
                 ·rw [if_pos c113] at H
                  have c113b0 : (t751 == 1) = true := beq_iff_eq.mpr c113
                  have c113b1 : (t751 != 1) = false := bne_eq_false_iff_eq.mpr c113
                  clear c113
                  exact absurd (H.trans (congrArg some HRT.out)) (by simp)
                 ·rw [if_neg c113] at H
                  have c113b0 : (t751 == 1) = false := beq_eq_false_iff_ne.mpr c113
                  have c113b1 : (t751 != 1) = true := bne_iff_ne.mpr c113
                  by_cases c114 : t755 = 1
                  ·rw [if_pos c114] at H
                   have c114b0 : (t755 == 1) = true := beq_iff_eq.mpr c114
                   have c114b1 : (t755 != 1) = false := bne_eq_false_iff_eq.mpr c114
                   clear c114
                   exact absurd (H.trans (congrArg some HRT.out)) (by simp)
                  ·rw [if_neg c114] at H
                   have c114b0 : (t755 == 1) = false := beq_eq_false_iff_ne.mpr c114
                   have c114b1 : (t755 != 1) = true := bne_iff_ne.mpr c114
                   by_cases c115 : ((t747 == 2) == (t751 == 2)) = true
                   ·rw [if_pos c115] at H
                    have c115b0 : ((t747 == 2) == (t751 == 2)) = true := c115
                    (try (have c115b1 : decide ((t747 == 2) = (t751 == 2)) = true := by simpa using c115))
                    (try (have c115b2 : ((t747 == 2) == (t751 == 2)) = true := by simpa using c115))
                    clear c115
                    by_cases c116 : ((t747 == 0) == (t755 == 0)) = true
                    ·rw [if_pos c116] at H
                     have c116b0 : ((t747 == 0) == (t755 == 0)) = true := c116
                     (try (have c116b1 : decide ((t747 == 0) = (t755 == 0)) = true := by simpa using c116))
                     (try (have c116b2 : ((t747 == 0) == (t755 == 0)) = true := by simpa using c116))
                     clear c116
                     by_cases c117 : t748 = t752
                     ·rw [if_pos c117] at H
                      have c117b0 : (t748 == t752) = true := beq_iff_eq.mpr c117
                      have c117b1 : (t748 != t752) = false := bne_eq_false_iff_eq.mpr c117
                      clear c117
                      obtain rfl := Option.some.inj H
                      have hnb118 := NB696_708.out
                      have hnc118 := NB708_696.out
                      have hnb119 := NB696_718.out
                      have hnc119 := NB718_696.out
                      have hnb120 := NB696_734.out
                      have hnc120 := NB734_696.out
                      have hnb121 := NB696_738.out
                      have hnc121 := NB738_696.out
                      have hnb122 := NB696_742.out
                      have hnc122 := NB742_696.out
                      have hcz123_0 : wr.cell? ⟨gb696, 0, none⟩ = some (.slice A0_0 l0_0.length c0_0) := bc_ BK696 0
                      have hcz123_1 : wr.cell? ⟨gb696, 1, none⟩ = some (.slice A0_1 l0_1.length c0_1) := bc_ BK696 1
                      have hfz123_0 := blk_frozen BK696.out 0
                      have hfz123_1 := blk_frozen BK696.out 1
                      go_wp2_with (first | ((with_reducible refine gate_callee (f := 26) rfl ?_); refine goesL_ (some 202) rfl rfl Tryd.func26 (by kernel_rfl) rfl #[.agg #[.slice A0_0 l0_0.length c0_0, .slice A0_1 l0_1.length c0_1], .slice A1 l1.length c1] rfl ls_ ?_; (with_reducible refine (exits_Safe.calls _ _ l0_0 _ _ l0_1 _ _ l1 t747 t748 t749 t750 _ ?side7 ?side1 ?side2 ?side3 ?side4 ?side5 ?side6 A106.out).mono ?_); (case side1 => exact kc_ HR0_0 HB); (case side2 => exact HC0_0.out); (case side3 => exact kc_ HR0_1 HB); (case side4 => exact HC0_1.out); (case side5 => exact kc_ HR1 HB); (case side6 => exact HC1.out); (case side7 => exact Globs.below HG.out (by repeat (first | (with_reducible first | exact HB.out | apply below_alloc | apply pw_below_drewN | apply below_drew1 | refine below_set ?_ GE696.out | refine below_set ?_ GE708.out | refine below_set ?_ GE718.out | refine below_set ?_ GE734.out | refine below_set ?_ GE738.out | refine below_set ?_ GE742.out) | exact HB.out))); rintro e w124 ⟨rfl, hb⟩; refine ⟨_, rfl, ?_⟩; replace HO_10 := rb_ HO_10 hb; replace HO_12 := rb_ HO_12 hb; replace HO_13 := rb_ HO_13 hb; replace HO_15 := rb_ HO_15 hb; replace HO_17 := rb_ HO_17 hb; replace HO_709000 := rb_ HO_709000 hb; replace HO_709001 := rb_ HO_709001 hb; replace HO_719000 := rb_ HO_719000 hb; replace HO_719001 := rb_ HO_719001 hb; replace BK696 := bb_ BK696 hb; replace BK708 := bb_ BK708 hb; replace BK718 := bb_ BK718 hb; replace BK734 := bb_ BK734 hb; replace BK738 := bb_ BK738 hb; replace BK742 := bb_ BK742 hb; replace HB := Aside0.mk (below_step (by repeat (first | (with_reducible first | exact HB.out | apply below_alloc | apply pw_below_drewN | apply below_drew1 | refine below_set ?_ GE696.out | refine below_set ?_ GE708.out | refine below_set ?_ GE718.out | refine below_set ?_ GE734.out | refine below_set ?_ GE738.out | refine below_set ?_ GE742.out) | exact HB.out)) hb); (try clear hb); (try clear hb2); (try clear hk); (try clear hi); have hnb125 := NB708_718.out; have hnc125 := NB718_708.out; have hnb126 := NB708_734.out; have hnc126 := NB734_708.out; have hnb127 := NB708_738.out; have hnc127 := NB738_708.out; have hnb128 := NB708_742.out; have hnc128 := NB742_708.out; have hcz129_0 : w124.cell? ⟨gb708, 0, none⟩ = some (.slice Ao28 t699.length co28) := bc_ BK708 0; have hcz129_1 : w124.cell? ⟨gb708, 1, none⟩ = some (.slice Ao31 t702.length co31) := bc_ BK708 1; have hfz129_0 := blk_frozen BK708.out 0; have hfz129_1 := blk_frozen BK708.out 1) | ((with_reducible refine gate_callee (f := 26) rfl ?_); refine goesL_ (some 210) rfl rfl Tryd.func26 (by kernel_rfl) rfl #[.agg #[.slice Ao28 t699.length co28, .slice Ao31 t702.length co31], .slice Ao43 t705.length co43] rfl ls_ ?_; (with_reducible refine (exits_Safe.calls _ _ t699 _ _ t702 _ _ t705 t751 t752 t753 t754 _ ?side7 ?side1 ?side2 ?side3 ?side4 ?side5 ?side6 A107.out).mono ?_); (case side1 => exact kd_ (Kd.R_reads' HO_709000.out).2.2); (case side2 => exact (Kd.R_reads' HO_709000.out).2.1); (case side3 => exact kd_ (Kd.R_reads' HO_709001.out).2.2); (case side4 => exact (Kd.R_reads' HO_709001.out).2.1); (case side5 => exact kd_ (Kd.R_reads' HO_10.out).2.2); (case side6 => exact (Kd.R_reads' HO_10.out).2.1); (case side7 => exact Globs.below HG.out (by repeat (first | (with_reducible first | exact HB.out | apply below_alloc | apply pw_below_drewN | apply below_drew1 | refine below_set ?_ GE696.out | refine below_set ?_ GE708.out | refine below_set ?_ GE718.out | refine below_set ?_ GE734.out | refine below_set ?_ GE738.out | refine below_set ?_ GE742.out) | exact HB.out))); rintro e w130 ⟨rfl, hb⟩; refine ⟨_, rfl, ?_⟩; replace HO_10 := rb_ HO_10 hb; replace HO_12 := rb_ HO_12 hb; replace HO_13 := rb_ HO_13 hb; replace HO_15 := rb_ HO_15 hb; replace HO_17 := rb_ HO_17 hb; replace HO_709000 := rb_ HO_709000 hb; replace HO_709001 := rb_ HO_709001 hb; replace HO_719000 := rb_ HO_719000 hb; replace HO_719001 := rb_ HO_719001 hb; replace BK696 := bb_ BK696 hb; replace BK708 := bb_ BK708 hb; replace BK718 := bb_ BK718 hb; replace BK734 := bb_ BK734 hb; replace BK738 := bb_ BK738 hb; replace BK742 := bb_ BK742 hb; replace HB := Aside0.mk (below_step (by repeat (first | (with_reducible first | exact HB.out | apply below_alloc | apply pw_below_drewN | apply below_drew1 | refine below_set ?_ GE696.out | refine below_set ?_ GE708.out | refine below_set ?_ GE718.out | refine below_set ?_ GE734.out | refine below_set ?_ GE738.out | refine below_set ?_ GE742.out) | exact HB.out)) hb); (try clear hb); (try clear hb2); (try clear hk); (try clear hi); have hnb131 := NB718_734.out; have hnc131 := NB734_718.out; have hnb132 := NB718_738.out; have hnc132 := NB738_718.out; have hnb133 := NB718_742.out; have hnc133 := NB742_718.out; have hcz134_0 : w130.cell? ⟨gb718, 0, none⟩ = some (.slice Ao35 t709.length co35) := bc_ BK718 0; have hcz134_1 : w130.cell? ⟨gb718, 1, none⟩ = some (.slice Ao39 t712.length co39) := bc_ BK718 1; have hfz134_0 := blk_frozen BK718.out 0; have hfz134_1 := blk_frozen BK718.out 1) | ((with_reducible refine gate_callee (f := 26) rfl ?_); refine goesL_ (some 218) rfl rfl Tryd.func26 (by kernel_rfl) rfl #[.agg #[.slice Ao35 t709.length co35, .slice Ao39 t712.length co39], .slice Ao46 t715.length co46] rfl ls_ ?_; (with_reducible refine (exits_Safe.calls _ _ t709 _ _ t712 _ _ t715 t755 t756 t757 t758 _ ?side7 ?side1 ?side2 ?side3 ?side4 ?side5 ?side6 A108.out).mono ?_); (case side1 => exact kd_ (Kd.R_reads' HO_719000.out).2.2); (case side2 => exact (Kd.R_reads' HO_719000.out).2.1); (case side3 => exact kd_ (Kd.R_reads' HO_719001.out).2.2); (case side4 => exact (Kd.R_reads' HO_719001.out).2.1); (case side5 => exact kd_ (Kd.R_reads' HO_12.out).2.2); (case side6 => exact (Kd.R_reads' HO_12.out).2.1); (case side7 => exact Globs.below HG.out (by repeat (first | (with_reducible first | exact HB.out | apply below_alloc | apply pw_below_drewN | apply below_drew1 | refine below_set ?_ GE696.out | refine below_set ?_ GE708.out | refine below_set ?_ GE718.out | refine below_set ?_ GE734.out | refine below_set ?_ GE738.out | refine below_set ?_ GE742.out) | exact HB.out))); rintro e w135 ⟨rfl, hb⟩; refine ⟨_, rfl, ?_⟩; replace HO_10 := rb_ HO_10 hb; replace HO_12 := rb_ HO_12 hb; replace HO_13 := rb_ HO_13 hb; replace HO_15 := rb_ HO_15 hb; replace HO_17 := rb_ HO_17 hb; replace HO_709000 := rb_ HO_709000 hb; replace HO_709001 := rb_ HO_709001 hb; replace HO_719000 := rb_ HO_719000 hb; replace HO_719001 := rb_ HO_719001 hb; replace BK696 := bb_ BK696 hb; replace BK708 := bb_ BK708 hb; replace BK718 := bb_ BK718 hb; replace BK734 := bb_ BK734 hb; replace BK738 := bb_ BK738 hb; replace BK742 := bb_ BK742 hb; replace HB := Aside0.mk (below_step (by repeat (first | (with_reducible first | exact HB.out | apply below_alloc | apply pw_below_drewN | apply below_drew1 | refine below_set ?_ GE696.out | refine below_set ?_ GE708.out | refine below_set ?_ GE718.out | refine below_set ?_ GE734.out | refine below_set ?_ GE738.out | refine below_set ?_ GE742.out) | exact HB.out)) hb); (try clear hb); (try clear hb2); (try clear hk); (try clear hi)))
                      go_ret
                      exact ⟨rf_, by repeat (first | (with_reducible first | exact HB.out | apply below_alloc | apply pw_below_drewN | apply below_drew1 | refine below_set ?_ GE696.out | refine below_set ?_ GE708.out | refine below_set ?_ GE718.out | refine below_set ?_ GE734.out | refine below_set ?_ GE738.out | refine below_set ?_ GE742.out) | exact HB.out)⟩
                     ·rw [if_neg c117] at H
                      have c117b0 : (t748 == t752) = false := beq_eq_false_iff_ne.mpr c117
                      have c117b1 : (t748 != t752) = true := bne_iff_ne.mpr c117
                      exact absurd (H.trans (congrArg some HRT.out)) (by simp)
                    ·rw [if_neg c116] at H
                     have c116b0 : ((t747 == 0) == (t755 == 0)) = false := by simpa using c116
                     (try (have c116b1 : decide ((t747 == 0) = (t755 == 0)) = false := by simpa using c116))
                     (try (have c116b2 : ((t747 == 0) == (t755 == 0)) = false := by simpa using c116))
                     (try (have c116b3 : ¬ ((t747 == 0) = (t755 == 0)) := by simpa using c116))
                     clear c116
                     exact absurd (H.trans (congrArg some HRT.out)) (by simp)
                   ·rw [if_neg c115] at H
                    have c115b0 : ((t747 == 2) == (t751 == 2)) = false := by simpa using c115
                    (try (have c115b1 : decide ((t747 == 2) = (t751 == 2)) = false := by simpa using c115))
                    (try (have c115b2 : ((t747 == 2) == (t751 == 2)) = false := by simpa using c115))
                    (try (have c115b3 : ¬ ((t747 == 2) = (t751 == 2)) := by simpa using c115))
                    clear c115
                    exact absurd (H.trans (congrArg some HRT.out)) (by simp)
                ·rw [if_neg c112] at H
                 have c112b0 : (t758 == 0) = false := beq_eq_false_iff_ne.mpr c112
                 have c112b1 : (t758 != 0) = true := bne_iff_ne.mpr c112
                 exact absurd (H.trans (congrArg some HRT.out)) (by simp)
               ·rw [if_neg c111] at H
                have c111b0 : (t754 == 0) = false := beq_eq_false_iff_ne.mpr c111
                have c111b1 : (t754 != 0) = true := bne_iff_ne.mpr c111
                exact absurd (H.trans (congrArg some HRT.out)) (by simp)
              ·rw [if_neg c110] at H
               have c110b0 : (t750 == 0) = false := beq_eq_false_iff_ne.mpr c110
               have c110b1 : (t750 != 0) = true := bne_iff_ne.mpr c110
               exact absurd (H.trans (congrArg some HRT.out)) (by simp)
             ·replace c109 := Bool.eq_false_iff.mpr c109
              subst c109
              have H1 : (some false) = some r := by rw [if_neg (show ¬ (false = true) by decide)] at H; exact H
              clear H
              have H := H1
              clear H1
              exact absurd (H.trans (congrArg some HRT.out)) (by simp)

end Go.Proofs.YtdeaccbolnlgpaaDoor.X
