import Derived.Test.YtdeaccbolnlgpaaDoorXS2
import Derived.Test.YtdeaccbolnlgpaaDoorXV2
import Derived.Test.YtdeaccbolnlgpaaDoorX0
import Derived.Test.YtdeaccbolnlgpaaDoorXE1
import Derived.Test.YtdeaccbolnlgpaaDoorXN23
import Derived.Test.YtdeaccbolnlgpaaDoorXNA
import Derived.Test.YtdeaccbolnlgpaaDoorXAlive
import Derived.Test.YtdeaccbolnlgpaaDoorXG
import Derived.Test.YtdeaccbolnlgpaaDoorXHL
import Derived.Test.YtdeaccbolnlgpaaDoorXHO
import Derived.Test.YtdeaccbolnlgpaaDoorXHS
namespace Go.Proofs.YtdeaccbolnlgpaaDoor.X
open Go.RowKit Go.Proofs.YtdeaccbolnlgpaaDoorW.PrintWords Go.Proofs.YtdeaccbolnlgpaaDoorW.PrintLast Go.Proofs.YtdeaccbolnlgpaaDoorW.PrintMore
attribute [local go_sem] max2_int min2_int max_two min_two max_three min_three max_four min_four   -- for this text's walks alone
set_option linter.unusedVariables false
set_option linter.unusedSimpArgs false

attribute [local go_sem high] eqA36
/-! ### cottonpadlaw06_ExitsLostA: function 11 -/
mutual
def cottonpadlaw06_ExitsLostA.j0 : Nat → List (S48) → Bool → Bool → List (S62) → List (S81) → Option (Bool)
 | 0, _, _, _, _, _ => none
 | k + 1, x1, x7, x41, x809000, x809001 => if x41 = true then (some x7) else (if (x1.length : Int) > 0 then (some false) else (if 0 ≤ (x809000.length : Int) then (if ((x809000.length : Int) : Int).toNat ≤ 35184372088832 then (cottonpadlaw06_ExitsLostA.l0 k x1 x7 x1 (List.replicate ((x809000.length : Int) : Int).toNat 0) x1 (x1.length : Int) 0 x809000 x809001) else (none)) else (none)))
def cottonpadlaw06_ExitsLostA.l0 : Nat → List (S48) → Bool → List (S48) → List Int → List (S48) → Int → Int → List (S62) → List (S81) → Option (Bool)
 | 0, _, _, _, _, _, _, _, _, _ => none
 | k + 1, x1, x7, x8, x10, x65, x66, x67, x809000, x809001 => if x67 < x66 then (if 0 ≤ x67 then (if x67 < (x65.length : Int) then (if 0 ≤ ((rd_T48 x65 x67).f0) then (if ((rd_T48 x65 x67).f0) < (x809001.length : Int) then (if 0 ≤ ((rd_T81 x809001 ((rd_T48 x65 x67).f0)).f0) then (if ((rd_T81 x809001 ((rd_T48 x65 x67).f0)).f0) < (x10.length : Int) then (cottonpadlaw06_ExitsLostA.l0 k x1 x7 x8 (x10.set (((rd_T81 x809001 ((rd_T48 x65 x67).f0)).f0) : Int).toNat (wrap64 ((rd x10 ((rd_T81 x809001 ((rd_T48 x65 x67).f0)).f0)) + 1))) x65 x66 (wrap64 (x67 + 1)) x809000 x809001) else (none)) else (none)) else (none)) else (none)) else (none)) else (none)) else (cottonpadlaw06_ExitsLostA.l1 k x1 x7 x8 x10 0 x809000 (x809000.length : Int) 0 x809000 x809001)
def cottonpadlaw06_ExitsLostA.l1 : Nat → List (S48) → Bool → List (S48) → List Int → Int → List (S62) → Int → Int → List (S62) → List (S81) → Option (Bool)
 | 0, _, _, _, _, _, _, _, _, _, _ => none
 | k + 1, x1, x7, x8, x10, x13, x85, x86, x87, x809000, x809001 => if x87 < x86 then (if 0 ≤ x87 then (if x87 < (x85.length : Int) then ((exits_Leaves.f x809000 x809001 x1 x87).bind fun bt821 => ((exits_Leaves.f x809000 x809001 x8 x87).bind fun bt825 => (if bt821.2 = 0 then (if bt825.2 = 0 then ((cottonpadref06_SameSpans.f k bt821.1 bt825.1).bind fun t829 => (if t829 = true then (if x87 < (x10.length : Int) then (cottonpadlaw06_ExitsLostA.j3 k x1 x7 x8 x10 x13 bt821.1 x85 x86 x87 ((bt821.1.length : Int) != (rd x10 x87)) x809000 x809001 ((rd_T62 x85 x87).f0) ((rd_T62 x85 x87).f1) ((rd_T62 x85 x87).f2.f0) ((rd_T62 x85 x87).f2.f1) ((rd_T62 x85 x87).f3.f0) ((rd_T62 x85 x87).f3.f1)) else (none)) else (cottonpadlaw06_ExitsLostA.j3 k x1 x7 x8 x10 x13 bt821.1 x85 x86 x87 true x809000 x809001 ((rd_T62 x85 x87).f0) ((rd_T62 x85 x87).f1) ((rd_T62 x85 x87).f2.f0) ((rd_T62 x85 x87).f2.f1) ((rd_T62 x85 x87).f3.f0) ((rd_T62 x85 x87).f3.f1)))) else (cottonpadlaw06_ExitsLostA.j3 k x1 x7 x8 x10 x13 bt821.1 x85 x86 x87 true x809000 x809001 ((rd_T62 x85 x87).f0) ((rd_T62 x85 x87).f1) ((rd_T62 x85 x87).f2.f0) ((rd_T62 x85 x87).f2.f1) ((rd_T62 x85 x87).f3.f0) ((rd_T62 x85 x87).f3.f1))) else (cottonpadlaw06_ExitsLostA.j3 k x1 x7 x8 x10 x13 bt821.1 x85 x86 x87 true x809000 x809001 ((rd_T62 x85 x87).f0) ((rd_T62 x85 x87).f1) ((rd_T62 x85 x87).f2.f0) ((rd_T62 x85 x87).f2.f1) ((rd_T62 x85 x87).f3.f0) ((rd_T62 x85 x87).f3.f1))))) else (none)) else (none)) else ((exits_Out.f x809000 x809001 x1).bind fun bt837 => ((exits_Out.f x809000 x809001 x8).bind fun bt841 => ((exits_Safe.f x809000 x809001 x1).bind fun bt845 => ((exits_Safe.f x809000 x809001 x8).bind fun bt849 => (if x7 = true then (if x13 = (x1.length : Int) then (if bt837.2.2 = 0 then (if bt841.2.2 = 0 then (if (bt837.1 == bt841.1 && (bt837.2.1 == bt841.2.1)) = true then (if bt845.2.2.2 = 0 then (if bt849.2.2.2 = 0 then (if bt845.1 = bt849.1 then (if bt845.2.1 = bt849.2.1 then (some (bt845.2.2.1 == bt849.2.2.1)) else (some false)) else (some false)) else (some false)) else (some false)) else (some false)) else (some false)) else (some false)) else (some false)) else (some false))))))
def cottonpadlaw06_ExitsLostA.j3 : Nat → List (S48) → Bool → List (S48) → List Int → Int → List (S36) → List (S62) → Int → Int → Bool → List (S62) → List (S81) → Int → Int → Int → Int → Int → Int → Option (Bool)
 | 0, _, _, _, _, _, _, _, _, _, _, _, _, _, _, _, _, _, _ => none
 | k + 1, x1, x7, x8, x10, x13, x16, x85, x86, x87, x126, x809000, x809001, x821000, x821001, x821002, x821003, x821004, x821005 => if x126 = true then (some false) else (cottonpadlaw06_ExitsLostA.l2 k x1 x7 x8 x10 x13 x16 x85 x86 x87 (x16.length : Int) 0 x809000 x809001 x821000 x821001 x821002 x821003 x821004 x821005)
def cottonpadlaw06_ExitsLostA.l2 : Nat → List (S48) → Bool → List (S48) → List Int → Int → List (S36) → List (S62) → Int → Int → Int → Int → List (S62) → List (S81) → Int → Int → Int → Int → Int → Int → Option (Bool)
 | 0, _, _, _, _, _, _, _, _, _, _, _, _, _, _, _, _, _, _, _ => none
 | k + 1, x1, x7, x8, x10, x13, x16, x85, x86, x87, x128, x129, x809000, x809001, x821000, x821001, x821002, x821003, x821004, x821005 => if x129 < x128 then (if x129 > 0 then (if 0 ≤ x129 then (if x129 < (x16.length : Int) then (if 0 ≤ (wrap64 (x129 - 1)) then (if (wrap64 (x129 - 1)) < (x16.length : Int) then (if ((rd_T36 x16 x129).f0) < (wrap64 (((rd_T36 x16 (wrap64 (x129 - 1))).f0) + x821001)) then (some false) else (if ((rd_T36 x16 x129).f1) < (wrap64 (((rd_T36 x16 (wrap64 (x129 - 1))).f1) + x821001)) then (some false) else (cottonpadlaw06_ExitsLostA.l2 k x1 x7 x8 x10 x13 x16 x85 x86 x87 x128 (wrap64 (x129 + 1)) x809000 x809001 x821000 x821001 x821002 x821003 x821004 x821005))) else (none)) else (none)) else (none)) else (none)) else (cottonpadlaw06_ExitsLostA.l2 k x1 x7 x8 x10 x13 x16 x85 x86 x87 x128 (wrap64 (x129 + 1)) x809000 x809001 x821000 x821001 x821002 x821003 x821004 x821005)) else (if x821000 = (-1) then (cottonpadlaw06_ExitsLostA.l1 k x1 x7 x8 x10 (wrap64 (x13 + (x16.length : Int))) x85 x86 (wrap64 (x87 + 1)) x809000 x809001) else (if 0 ≤ x821000 then (if x821000 < (x10.length : Int) then (cottonpadlaw06_ExitsLostA.l1 k x1 x7 x8 (x10.set (x821000 : Int).toNat (wrap64 ((rd x10 x821000) + (x16.length : Int)))) x13 x85 x86 (wrap64 (x87 + 1)) x809000 x809001) else (none)) else (none)))
end
def cottonpadlaw06_ExitsLostA.f (k : Nat) (l0_0 : List (S62)) (l0_1 : List (S81)) (l1 : List (S48)) (a2 : Int) : Option (Bool) := (cottonpadlaw06_alive_t.f).bind fun t809 => ((cottonpadlaw06_ready.f k l0_0 l0_1 l1).bind fun t810 => (if t810 = true then (cottonpadlaw06_ExitsLostA.j0 k l1 t809 (!t809) l0_0 l0_1) else (cottonpadlaw06_ExitsLostA.j0 k l1 t809 true l0_0 l0_1)))
theorem cottonpadlaw06_ExitsLostA.mono_l : ∀ k, (∀ y0 y1 y2 y3 y4, LeO (cottonpadlaw06_ExitsLostA.j0 k y0 y1 y2 y3 y4) (cottonpadlaw06_ExitsLostA.j0 (k + 1) y0 y1 y2 y3 y4)) ∧ (∀ y0 y1 y2 y3 y4 y5 y6 y7 y8, LeO (cottonpadlaw06_ExitsLostA.l0 k y0 y1 y2 y3 y4 y5 y6 y7 y8) (cottonpadlaw06_ExitsLostA.l0 (k + 1) y0 y1 y2 y3 y4 y5 y6 y7 y8)) ∧ (∀ y0 y1 y2 y3 y4 y5 y6 y7 y8 y9, LeO (cottonpadlaw06_ExitsLostA.l1 k y0 y1 y2 y3 y4 y5 y6 y7 y8 y9) (cottonpadlaw06_ExitsLostA.l1 (k + 1) y0 y1 y2 y3 y4 y5 y6 y7 y8 y9)) ∧ (∀ y0 y1 y2 y3 y4 y5 y6 y7 y8 y9 y10 y11 y12 y13 y14 y15 y16 y17, LeO (cottonpadlaw06_ExitsLostA.j3 k y0 y1 y2 y3 y4 y5 y6 y7 y8 y9 y10 y11 y12 y13 y14 y15 y16 y17) (cottonpadlaw06_ExitsLostA.j3 (k + 1) y0 y1 y2 y3 y4 y5 y6 y7 y8 y9 y10 y11 y12 y13 y14 y15 y16 y17)) ∧ (∀ y0 y1 y2 y3 y4 y5 y6 y7 y8 y9 y10 y11 y12 y13 y14 y15 y16 y17 y18, LeO (cottonpadlaw06_ExitsLostA.l2 k y0 y1 y2 y3 y4 y5 y6 y7 y8 y9 y10 y11 y12 y13 y14 y15 y16 y17 y18) (cottonpadlaw06_ExitsLostA.l2 (k + 1) y0 y1 y2 y3 y4 y5 y6 y7 y8 y9 y10 y11 y12 y13 y14 y15 y16 y17 y18))
 | 0 => ⟨fun _ _ _ _ _ r h => by simp [cottonpadlaw06_ExitsLostA.j0] at h, fun _ _ _ _ _ _ _ _ _ r h => by simp [cottonpadlaw06_ExitsLostA.l0] at h, fun _ _ _ _ _ _ _ _ _ _ r h => by simp [cottonpadlaw06_ExitsLostA.l1] at h, fun _ _ _ _ _ _ _ _ _ _ _ _ _ _ _ _ _ _ r h => by simp [cottonpadlaw06_ExitsLostA.j3] at h, fun _ _ _ _ _ _ _ _ _ _ _ _ _ _ _ _ _ _ _ r h => by simp [cottonpadlaw06_ExitsLostA.l2] at h⟩
 | k + 1 => by
  obtain ⟨ih0, ih1, ih2, ih3, ih4⟩ := cottonpadlaw06_ExitsLostA.mono_l k
  refine ⟨?_, ?_, ?_, ?_, ?_⟩
  ·intro y0 y1 y2 y3 y4
   unfold cottonpadlaw06_ExitsLostA.j0
   repeat' (with_reducible first | exact ih0 .. | exact ih1 .. | exact ih2 .. | exact ih3 .. | exact ih4 .. | exact cottonpadlaw06_ready.mono .. | exact cottonpadref06_SameSpans.mono .. | exact LeO.refl .. | exact LeO.none .. | refine LeO.ite ?_ ?_ | refine LeO.bind ?_ (fun _ => ?_))
  ·intro y0 y1 y2 y3 y4 y5 y6 y7 y8
   unfold cottonpadlaw06_ExitsLostA.l0
   repeat' (with_reducible first | exact ih0 .. | exact ih1 .. | exact ih2 .. | exact ih3 .. | exact ih4 .. | exact cottonpadlaw06_ready.mono .. | exact cottonpadref06_SameSpans.mono .. | exact LeO.refl .. | exact LeO.none .. | refine LeO.ite ?_ ?_ | refine LeO.bind ?_ (fun _ => ?_))
  ·intro y0 y1 y2 y3 y4 y5 y6 y7 y8 y9
   unfold cottonpadlaw06_ExitsLostA.l1
   repeat' (with_reducible first | exact ih0 .. | exact ih1 .. | exact ih2 .. | exact ih3 .. | exact ih4 .. | exact cottonpadlaw06_ready.mono .. | exact cottonpadref06_SameSpans.mono .. | exact LeO.refl .. | exact LeO.none .. | refine LeO.ite ?_ ?_ | refine LeO.bind ?_ (fun _ => ?_))
  ·intro y0 y1 y2 y3 y4 y5 y6 y7 y8 y9 y10 y11 y12 y13 y14 y15 y16 y17
   unfold cottonpadlaw06_ExitsLostA.j3
   repeat' (with_reducible first | exact ih0 .. | exact ih1 .. | exact ih2 .. | exact ih3 .. | exact ih4 .. | exact cottonpadlaw06_ready.mono .. | exact cottonpadref06_SameSpans.mono .. | exact LeO.refl .. | exact LeO.none .. | refine LeO.ite ?_ ?_ | refine LeO.bind ?_ (fun _ => ?_))
  ·intro y0 y1 y2 y3 y4 y5 y6 y7 y8 y9 y10 y11 y12 y13 y14 y15 y16 y17 y18
   unfold cottonpadlaw06_ExitsLostA.l2
   repeat' (with_reducible first | exact ih0 .. | exact ih1 .. | exact ih2 .. | exact ih3 .. | exact ih4 .. | exact cottonpadlaw06_ready.mono .. | exact cottonpadref06_SameSpans.mono .. | exact LeO.refl .. | exact LeO.none .. | refine LeO.ite ?_ ?_ | refine LeO.bind ?_ (fun _ => ?_))
theorem cottonpadlaw06_ExitsLostA.mono : ∀ a0 a1 a2 a3 k, LeO (cottonpadlaw06_ExitsLostA.f k a0 a1 a2 a3) (cottonpadlaw06_ExitsLostA.f (k + 1) a0 a1 a2 a3) := by
 intro a0 a1 a2 a3 k
 obtain ⟨ih0, ih1, ih2, ih3, ih4⟩ := cottonpadlaw06_ExitsLostA.mono_l k
 unfold cottonpadlaw06_ExitsLostA.f
 repeat' (with_reducible first | exact ih0 .. | exact ih1 .. | exact ih2 .. | exact ih3 .. | exact ih4 .. | exact cottonpadlaw06_ready.mono .. | exact cottonpadref06_SameSpans.mono .. | exact LeO.refl .. | exact LeO.none .. | refine LeO.ite ?_ ?_ | refine LeO.bind ?_ (fun _ => ?_))
def cottonpadlaw06_ExitsLostA.T25 : Bool × List (List Nat × List Nat) := (true, [([], []), ([0], [0]), ([1], [1]), ([2], [2]), ([2], [2]), ([3, 4, 2], [2, 3, 4]), ([5, 2], [2, 5]), ([6, 2], [2, 6]), ([2], [2]), ([2], [2]), ([9, 2], [2, 9]), ([8, 10, 2], [2, 8, 10]), ([11, 2], [2, 11]), ([12, 2], [2, 12]), ([2], [2]), ([14, 2], [2, 14]), ([13, 15, 2], [2, 13, 15]), ([7, 16, 2], [2, 7, 16]), ([17, 2, 2], [2, 17]), ([18], [18]), ([18], [18]), ([19, 20, 18], [18, 19, 20]), ([21, 18], [18, 21]), ([22, 18], [18, 22]), ([18], [18]), ([18], [18]), ([25, 18], [18, 25]), ([24, 26, 18], [18, 24, 26]), ([27, 18], [18, 27]), ([28, 18], [18, 28]), ([18], [18]), ([30, 18], [18, 30]), ([29, 31, 18], [18, 29, 31]), ([23, 32, 18], [18, 23, 32]), ([18, 33, 2], [2, 18, 33]), ([2, 34], [2, 34])])
def cottonpadlaw06_ExitsLostA.B25 : List Nat := [0, 1, 3, 7, 7, 31, 63, 127, 7, 7, 519, 1799, 3847, 7943, 7, 16391, 65287, 131071, 262143, 524287, 524287, 2097151, 4194303, 8388607, 524287, 524287, 34078719, 117964799, 252182527, 520617983, 524287, 1074266111, 4278714367, 8589934591, 17179869183, 34359738367]
theorem cottonpadlaw06_ExitsLostA.tab25 : rtab .any (opsOf Tryd.f11 25) = cottonpadlaw06_ExitsLostA.T25 := by kernel_rfl
theorem cottonpadlaw06_ExitsLostA.bits25 : waitsOk cottonpadlaw06_ExitsLostA.T25.2 cottonpadlaw06_ExitsLostA.B25 = true := by kernel_rfl
set_option maxHeartbeats 8000000 in
set_option maxRecDepth 100000 in
theorem cottonpadlaw06_ExitsLostA.calls (k : Nat) (A0_0 : Option Addr) (c0_0 : Nat) (l0_0 : List (S62)) (A0_1 : Option Addr) (c0_1 : Nat) (l0_1 : List (S81)) (A1 : Option Addr) (c1 : Nat) (l1 : List (S48)) (a2 : Int) (r : Bool) (w : World) (hG : Globs w) (hrt : r = true) (hr0_0 : Kd.C k62 w A0_0 l0_0.length l0_0) (hc0_0 : l0_0.length ≤ c0_0) (hr0_1 : Kd.C k81 w A0_1 l0_1.length l0_1) (hc0_1 : l0_1.length ≤ c0_1) (hr1 : Kd.C k48 w A1 l1.length l1) (hc1 : l1.length ≤ c1) (h : cottonpadlaw06_ExitsLostA.f k l0_0 l0_1 l1 a2 = some r) :
  Calls Tryd.prog 11 #[.agg #[.slice A0_0 l0_0.length c0_0, .slice A0_1 l0_1.length c0_1], .slice A1 l1.length c1, .int .u8 a2] w fun e w' => e = .returned (.bool r) ∧ Below w.heap.size w w' := by
 have hu25 := Tryd.underlying25
 have hu48 := Tryd.underlying48
 have hu62 := Tryd.underlying62
 have hu36 := Tryd.underlying36
 have HR0_0 := Aside0.mk hr0_0
 have HC0_0 := Aside0.mk hc0_0
 clear hr0_0 hc0_0
 have HR0_1 := Aside0.mk hr0_1
 have HC0_1 := Aside0.mk hc0_1
 clear hr0_1 hc0_1
 have HR1 := Aside0.mk hr1
 have HC1 := Aside0.mk hc1
 clear hr1 hc1
 have HB := Aside0.mk (Below.refl w.heap.size w)
 have HG := Aside0.mk hG
 clear hG
 have HRT := Aside0.mk hrt
 clear hrt
 have H : ((cottonpadlaw06_alive_t.f).bind fun t809 => ((cottonpadlaw06_ready.f k l0_0 l0_1 l1).bind fun t810 => (if t810 = true then (cottonpadlaw06_ExitsLostA.j0 k l1 t809 (!t809) l0_0 l0_1) else (cottonpadlaw06_ExitsLostA.j0 k l1 t809 true l0_0 l0_1)))) = some r := h
 clear h
 replace H := Option.bind_eq_some_iff.mp H
 obtain ⟨t809, A40, H⟩ := H
 replace H : ((cottonpadlaw06_ready.f k l0_0 l0_1 l1).bind fun t810 => (if t810 = true then (cottonpadlaw06_ExitsLostA.j0 k l1 t809 (!t809) l0_0 l0_1) else (cottonpadlaw06_ExitsLostA.j0 k l1 t809 true l0_0 l0_1))) = some r := H
 have A4 := Aside0.mk A40
 clear A40
 have HC5 := Aside0.mk H
 clear H
 go_enter Tryd.func11, Tryd.ntmps11
 go_upto_region 2 with (first | ((with_reducible refine gate_dst (N := 3) rfl ?_); (try (refine gate_guard (by rfl) ?_; dsimp only)); refine box_event ?hg (N := 3) ?hd (cs := #[.slice A0_0 l0_0.length c0_0, .slice A0_1 l0_1.length c0_1]) (t := 25) ?hr ?_; (case hd => rfl); (case hg => rfl); (case hr => exact gs_); intro gb808 hg w6 hbox hb; have BK808 := Aside0.mk (hbox); have GW808 := hl_ hg (be_ HB); have GE808 := hl_ hg (be_ HB); replace HB := bs_ HB hb; clear hb hbox hg) | ((with_reducible refine gate_callee (f := 30) rfl ?_); refine goesL_ (some 33) rfl rfl Tryd.func30 (by decide +kernel) rfl #[] rfl ls_ ?_; (with_reducible refine (cottonpadlaw06_alive_t.calls  t809 _ ?side1 A4.out).mono ?_); (case side1 => exact Globs.below HG.out (be1_ HB GE808)); rintro e w7 ⟨rfl, hb⟩; refine ⟨_, rfl, ?_⟩; replace BK808 := bb_ BK808 hb; replace HB := bs1_ HB GE808 hb; (try clear hb); (try clear hb2); (try clear hk); (try clear hi)))
 (try simp only [Act.put, List.setIfInBounds_toArray, List.set_cons_zero, List.set_cons_succ])
 go_cut [41] (fun v41 wc => ∃ (kq : Nat) (x41_4 : Bool), v41 = .bool x41_4 ∧ Aside0 (cottonpadlaw06_ExitsLostA.j0 kq l1 t809 x41_4 l0_0 l0_1 = some r) ∧ Aside0 (kq ≤ k) ∧ Aside0 (wc.heap[gb808]? = some (.cells #[(.slice A0_0 l0_0.length c0_0), (.slice A0_1 l0_1.length c0_1)] 25 (0, 0))) ∧ Aside0 (Below w.heap.size w wc))
 case first =>
  have H := HC5.out
  clear HC5
  replace H := Option.bind_eq_some_iff.mp H
  obtain ⟨t810, A80, H⟩ := H
  replace H : (if t810 = true then (cottonpadlaw06_ExitsLostA.j0 k l1 t809 (!t809) l0_0 l0_1) else (cottonpadlaw06_ExitsLostA.j0 k l1 t809 true l0_0 l0_1)) = some r := H
  have A8 := Aside0.mk A80
  clear A80
  by_cases c9 : t810 = true
  ·subst c9
   have H1 : (cottonpadlaw06_ExitsLostA.j0 k l1 t809 (!t809) l0_0 l0_1) = some r := by rw [if_pos rfl] at H; exact H
   clear H
   have H := H1
   clear H1
   have H' := Aside0.mk H
   clear H
   have hcz10_0 : w7.cell? ⟨gb808, 0, none⟩ = some (.slice A0_0 l0_0.length c0_0) := bc_ BK808 0
   have hcz10_1 : w7.cell? ⟨gb808, 1, none⟩ = some (.slice A0_1 l0_1.length c0_1) := bc_ BK808 1
   have hfz10_0 := blk_frozen BK808.out 0
   have hfz10_1 := blk_frozen BK808.out 1
   go_wp2_with (first | ((with_reducible refine gate_callee (f := 36) rfl ?_); refine goesL_ (some 36) rfl rfl Tryd.func36 (by decide +kernel) rfl #[.agg #[.slice A0_0 l0_0.length c0_0, .slice A0_1 l0_1.length c0_1], .slice A1 l1.length c1] rfl ls_ ?_; (with_reducible refine (cottonpadlaw06_ready.calls k _ _ l0_0 _ _ l0_1 _ _ l1 true _ ?side1 ?side2 ?side3 ?side4 ?side5 ?side6 A8.out).mono ?_); (case side1 => exact kc_ HR0_0 HB); (case side2 => exact HC0_0.out); (case side3 => exact kc_ HR0_1 HB); (case side4 => exact HC0_1.out); (case side5 => exact kc_ HR1 HB); (case side6 => exact HC1.out); rintro e w11 ⟨rfl, hb⟩; refine ⟨_, rfl, ?_⟩; replace BK808 := bb_ BK808 hb; replace HB := bs1_ HB GE808 hb; (try clear hb); (try clear hb2); (try clear hk); (try clear hi)))
   go_meet
   case rel => exact ⟨_, (!t809), (by first | rfl | (simp; done) | (simp [*]; done)), H', ⟨by first | omega | exact Nat.le_refl _⟩, ⟨by refine bx_ ?_; exact BK808.out⟩, ⟨be1_ HB GE808⟩⟩
  ·replace c9 := Bool.eq_false_iff.mpr c9
   subst c9
   have H1 : (cottonpadlaw06_ExitsLostA.j0 k l1 t809 true l0_0 l0_1) = some r := by rw [if_neg (show ¬ (false = true) by decide)] at H; exact H
   clear H
   have H := H1
   clear H1
   have H' := Aside0.mk H
   clear H
   have hcz12_0 : w7.cell? ⟨gb808, 0, none⟩ = some (.slice A0_0 l0_0.length c0_0) := bc_ BK808 0
   have hcz12_1 : w7.cell? ⟨gb808, 1, none⟩ = some (.slice A0_1 l0_1.length c0_1) := bc_ BK808 1
   have hfz12_0 := blk_frozen BK808.out 0
   have hfz12_1 := blk_frozen BK808.out 1
   go_wp2_with (first | ((with_reducible refine gate_callee (f := 36) rfl ?_); refine goesL_ (some 36) rfl rfl Tryd.func36 (by decide +kernel) rfl #[.agg #[.slice A0_0 l0_0.length c0_0, .slice A0_1 l0_1.length c0_1], .slice A1 l1.length c1] rfl ls_ ?_; (with_reducible refine (cottonpadlaw06_ready.calls k _ _ l0_0 _ _ l0_1 _ _ l1 false _ ?side1 ?side2 ?side3 ?side4 ?side5 ?side6 A8.out).mono ?_); (case side1 => exact kc_ HR0_0 HB); (case side2 => exact HC0_0.out); (case side3 => exact kc_ HR0_1 HB); (case side4 => exact HC0_1.out); (case side5 => exact kc_ HR1 HB); (case side6 => exact HC1.out); rintro e w13 ⟨rfl, hb⟩; refine ⟨_, rfl, ?_⟩; replace BK808 := bb_ BK808 hb; replace HB := bs1_ HB GE808 hb; (try clear hb); (try clear hb2); (try clear hk); (try clear hi)))
   go_meet
   case rel => exact ⟨_, (true), (by first | rfl | (simp; done) | (simp [*]; done)), H', ⟨by first | omega | exact Nat.le_refl _⟩, ⟨by refine bx_ ?_; exact BK808.out⟩, ⟨be1_ HB GE808⟩⟩
 case rest =>
  clear HC5
  try clear c1
  try clear p2
  try clear c3
  try clear c9
  try clear c11
  try clear hcz10_0
  try clear hcz10_1
  try clear hcz12_0
  try clear hcz12_1
  try clear hfz10_0
  try clear hfz10_1
  try clear hfz12_0
  try clear hfz12_1
  obtain ⟨kq, x41_4, rfl, HA, HJ4, BK808, HB⟩ := hcut
  cases kq with
  | zero => exact absurd HA.out (by simp [cottonpadlaw06_ExitsLostA.j0])
  | succ kj4 =>
   have H := HA.out
   clear HA
   simp only [cottonpadlaw06_ExitsLostA.j0] at H
   by_cases c14 : x41_4 = true
   ·subst c14
    have H1 : (some t809) = some r := by rw [if_pos rfl] at H; exact H
    clear H
    have H := H1
    clear H1
    obtain rfl := Option.some.inj H
    go_wp2
    go_ret
    exact ⟨rf_, be1_ HB GE808⟩
   ·replace c14 := Bool.eq_false_iff.mpr c14
    subst c14
    have H1 : (if (l1.length : Int) > 0 then (some false) else (if 0 ≤ (l0_0.length : Int) then (if ((l0_0.length : Int) : Int).toNat ≤ 35184372088832 then (cottonpadlaw06_ExitsLostA.l0 kj4 l1 t809 l1 (List.replicate ((l0_0.length : Int) : Int).toNat 0) l1 (l1.length : Int) 0 l0_0 l0_1) else (none)) else (none))) = some r := by rw [if_neg (show ¬ (false = true) by decide)] at H; exact H
    clear H
    have H := H1
    clear H1
    by_cases c15 : (l1.length : Int) > 0
    ·rw [if_pos c15] at H
     have c15b0 : decide (0 < (l1.length : Int)) = true := decide_eq_true c15
     have c15b1 : decide (0 < l1.length) = true := decide_eq_true (by omega)
     clear c15
     exact absurd (H.trans (congrArg some HRT.out)) (by simp)
    ·rw [if_neg c15] at H
     have c15b0 : decide (0 < (l1.length : Int)) = false := decide_eq_false c15
     have c15b1 : decide (0 < l1.length) = false := decide_eq_false (by omega)
     clear c15
     by_cases c16 : 0 ≤ (l0_0.length : Int)
     ·rw [if_pos c16] at H
      have c16b0 := eq_true c16
      have c16b1 : decide (0 ≤ (l0_0.length : Int)) = true := decide_eq_true c16
      clear c16
      by_cases c17 : ((l0_0.length : Int) : Int).toNat ≤ 35184372088832
      ·rw [if_pos c17] at H
       have c17b0 := eq_true c17
       have c17b1 : decide (((l0_0.length : Int) : Int).toNat ≤ 35184372088832) = true := decide_eq_true c17
       clear c17
       obtain ⟨y811, hy811⟩ : ∃ y_ : List Int, y_ = (List.replicate ((l0_0.length : Int) : Int).toNat 0) := ⟨_, rfl⟩
       replace H : (cottonpadlaw06_ExitsLostA.l0 kj4 l1 t809 l1 y811 l1 (l1.length : Int) 0 l0_0 l0_1) = some r := by first | (rw [hy811]; with_reducible exact H) | (have H2_ := (Option.bind_some _ _).symm.trans H; rw [hy811]; with_reducible exact H2_) | (have H2_ := (Option.bind_some _ _).symm.trans H; with_reducible exact H2_) | with_reducible exact H | (rw [hy811]; exact H) | exact H
       have Ny811 := Aside0.mk hy811
       clear hy811
       have H' := Aside0.mk H
       clear H
       have hcz18_0 : wc.cell? ⟨gb808, 0, none⟩ = some (.slice A0_0 l0_0.length c0_0) := bc_ BK808 0
       have hcz18_1 : wc.cell? ⟨gb808, 1, none⟩ = some (.slice A0_1 l0_1.length c0_1) := bc_ BK808 1
       have hfz18_0 := blk_frozen BK808.out 0
       have hfz18_1 := blk_frozen BK808.out 1
       go_wp2_with (first | ((with_reducible refine gate_dst (N := 64) rfl ?_); (try (refine gate_guard (by rfl) ?_; dsimp only)); refine Kd.R_make (Kd.int .i64) _ 3 rfl (N := 64) rfl 67 _ _ rfl (l0_0.length : Int) rfl rfl Tryd.underlying67 (.int .i64 0) 8 info3 rfl (by decide) (by omega) 0 (ok := fun _ => True) (okp := fun _ => True) rfl (fun _ hk => hk) trivial (of_decide_eq_true as_) (Nat.le_trans (Nat.mul_le_mul_right _ (of_decide_eq_true as_ : (l0_0.length : Int).toNat ≤ 35184372088832)) (by omega)) (Below.refl _ _) (Nat.le_refl _) ?_; intro v812 w19 ho20 hb hg_ hnew_; clear hg_ hnew_; (first | rw [← Ny811.out] at ho20 | (simp only [Int.reduceToNat] at ho20; rw [← Ny811.out] at ho20)); have HO813 := Aside0.mk (Kd.R_lower ho20 (below_size (be1_ HB GE808))); replace BK808 := bb_ BK808 hb; replace HB := bs1_ HB GE808 hb; clear hb ho20))
       go_loopg [67] kj4 (fun kq v67 w' => ∃ (x10_2 : List Int) (x67_2 : Int), v67 = .int .i64 x67_2 ∧ Aside0 (cottonpadlaw06_ExitsLostA.l0 kq l1 t809 l1 x10_2 l1 (l1.length : Int) x67_2 l0_0 l0_1 = some r) ∧ Aside0 (kq ≤ kj4) ∧ Aside0 (Kd.R (Kd.int .i64) 3 w' w.heap.size (fun _ => True) v812 x10_2) ∧ Aside0 (w'.heap[gb808]? = some (.cells #[(.slice A0_0 l0_0.length c0_0), (.slice A0_1 l0_1.length c0_1)] 25 (0, 0))) ∧ Aside0 (Below w.heap.size w w'))
       case atStart => exact ⟨(y811), (0), (by first | rfl | (simp; done) | (simp [*]; done)), H', ⟨Nat.le_refl _⟩, ⟨by (with_reducible repeat (first | apply Kd.R_alloc | apply Kd.R_drewN | apply Kd.R_drew)); exact HO813.out⟩, ⟨by refine bx_ ?_; exact BK808.out⟩, ⟨be1_ HB GE808⟩⟩
       case round =>
         clear H'
         try clear c1
         try clear p2
         try clear c3
         try clear c9
         try clear c11
         try clear c14
         try clear c15
         try clear c15b0
         try clear c15b1
         try clear c16
         try clear c16b0
         try clear c16b1
         try clear c17
         try clear c17b0
         try clear c17b1
         try clear hcz10_0
         try clear hcz10_1
         try clear hcz12_0
         try clear hcz12_1
         try clear hcz18_0
         try clear hcz18_1
         try clear hfz10_0
         try clear hfz10_1
         try clear hfz12_0
         try clear hfz12_1
         try clear hfz18_0
         try clear hfz18_1
         try clear p2
         obtain ⟨x10_2, x67_2, rfl, HA, HK2, HO_10, BK808, HB⟩ := hrel
         cases gk with
         | zero => exact absurd HA.out (by simp [cottonpadlaw06_ExitsLostA.l0])
         | succ k2 =>
          have H := HA.out
          clear HA
          simp only [cottonpadlaw06_ExitsLostA.l0] at H
          by_cases c21 : x67_2 < (l1.length : Int)
          ·rw [if_pos c21] at H
           have c21b0 : decide (x67_2 < (l1.length : Int)) = true := decide_eq_true c21
           clear c21
           by_cases c22 : 0 ≤ x67_2
           ·rw [if_pos c22] at H
            have c22b0 : decide (0 ≤ x67_2) = true := decide_eq_true c22
            clear c22
            by_cases c23 : x67_2 < (l1.length : Int)
            ·rw [if_pos c23] at H
             have c23b0 : decide (x67_2 < (l1.length : Int)) = true := decide_eq_true c23
             clear c23
             by_cases c24 : 0 ≤ ((rd_T48 l1 x67_2).f0)
             ·rw [if_pos c24] at H
              have c24b0 : decide (0 ≤ ((rd_T48 l1 x67_2).f0)) = true := decide_eq_true c24
              clear c24
              by_cases c25 : ((rd_T48 l1 x67_2).f0) < (l0_1.length : Int)
              ·rw [if_pos c25] at H
               have c25b0 : decide (((rd_T48 l1 x67_2).f0) < (l0_1.length : Int)) = true := decide_eq_true c25
               clear c25
               by_cases c26 : 0 ≤ ((rd_T81 l0_1 ((rd_T48 l1 x67_2).f0)).f0)
               ·rw [if_pos c26] at H
                have c26b0 : decide (0 ≤ ((rd_T81 l0_1 ((rd_T48 l1 x67_2).f0)).f0)) = true := decide_eq_true c26
                clear c26
                by_cases c27 : ((rd_T81 l0_1 ((rd_T48 l1 x67_2).f0)).f0) < (x10_2.length : Int)
                ·rw [if_pos c27] at H
                 have c27b0 : decide (((rd_T81 l0_1 ((rd_T48 l1 x67_2).f0)).f0) < (x10_2.length : Int)) = true := decide_eq_true c27
                 clear c27
                 obtain ⟨y818, hy818⟩ : ∃ y_ : List Int, y_ = (x10_2.set (((rd_T81 l0_1 ((rd_T48 l1 x67_2).f0)).f0) : Int).toNat (wrap64 ((rd x10_2 ((rd_T81 l0_1 ((rd_T48 l1 x67_2).f0)).f0)) + 1))) := ⟨_, rfl⟩
                 replace H : (cottonpadlaw06_ExitsLostA.l0 k2 l1 t809 l1 y818 l1 (l1.length : Int) (wrap64 (x67_2 + 1)) l0_0 l0_1) = some r := by first | (rw [hy818]; with_reducible exact H) | (have H2_ := (Option.bind_some _ _).symm.trans H; rw [hy818]; with_reducible exact H2_) | (have H2_ := (Option.bind_some _ _).symm.trans H; with_reducible exact H2_) | with_reducible exact H | (rw [hy818]; exact H) | exact H
                 have Ny818 := Aside0.mk hy818
                 clear hy818
                 have H' := Aside0.mk H
                 clear H
                 have p814 : 0 ≤ (x67_2 : Int) := of_decide_eq_true as_
                 have q814 : x67_2 < (l1.length : Int) := of_decide_eq_true as_
                 obtain ⟨ad814, e814, hx814_0, hx814_1, hx814_2, hx814_3, hx814_4⟩ := at_T48 HR1.out x67_2 p814 q814
                 cases e814
                 try replace hx814_0 := ce_ HB hx814_0
                 try replace hx814_1 := ce_ HB hx814_1
                 try replace hx814_2 := ce_ HB hx814_2
                 try replace hx814_3 := ce_ HB hx814_3
                 try replace hx814_4 := ce_ HB hx814_4
                 replace p814 := eq_true p814
                 replace q814 := eq_true q814
                 go_wp2_with (first | ((with_reducible refine gate_dst (N := 12) rfl ?_); (try (refine gate_guard (by rfl) ?_; dsimp only)); refine box_event ?hg (N := 12) ?hd (cs := #[.int .i64 0, .int .i64 0, .int .i64 0, .int .i64 0, .int .i64 0]) (t := 48) ?hr ?_; (case hd => rfl); (case hg => rfl); (case hr => exact gs_); intro gb815 hg w29 hbox hb; replace HO_10 := rb_ HO_10 hb; have BK815 := Aside0.mk (hbox); have GW815 := hl_ hg (be1_ HB GE808); have GE815 := hl_ hg (be1_ HB GE808); replace HB := bs1_ HB GE808 hb; have NB808_815 := Aside0.mk ((by rw [hg]; exact Nat.ne_of_lt (blk_lt (bk_ BK808)) : gb808 ≠ gb815)); have NB815_808 := Aside0.mk ((by rw [hg]; exact Nat.ne_of_gt (blk_lt (bk_ BK808)) : gb815 ≠ gb808)); replace BK808 := bb_ BK808 hb; clear hb hbox hg; have hnb30 := NB815_808.out; have hnc30 := NB808_815.out; have hcz31_0 : w29.cell? ⟨gb815, 0, none⟩ = some (.int .i64 0) := bc_ BK815 0; have hcz31_1 : w29.cell? ⟨gb815, 1, none⟩ = some (.int .i64 0) := bc_ BK815 1; have hcz31_2 : w29.cell? ⟨gb815, 2, none⟩ = some (.int .i64 0) := bc_ BK815 2; have hcz31_3 : w29.cell? ⟨gb815, 3, none⟩ = some (.int .i64 0) := bc_ BK815 3; have hcz31_4 : w29.cell? ⟨gb815, 4, none⟩ = some (.int .i64 0) := bc_ BK815 4; have hfz31_0 := blk_frozen BK815.out 0; have hfz31_1 := blk_frozen BK815.out 1; have hfz31_2 := blk_frozen BK815.out 2; have hfz31_3 := blk_frozen BK815.out 3; have hfz31_4 := blk_frozen BK815.out 4) | ((with_reducible refine gate_store (t := 48) (p := 12) rfl ?_); refine store_event (t := 48) (p := 12) (v := ?vo_w32) (w1 := (((((w29.setCell ⟨gb815, 0, none⟩ (.int .i64 ((rd_T48 l1 x67_2).f0))).setCell ⟨gb815, 1, none⟩ (.int .i64 ((rd_T48 l1 x67_2).f1.f0))).setCell ⟨gb815, 2, none⟩ (.int .i64 ((rd_T48 l1 x67_2).f1.f1))).setCell ⟨gb815, 3, none⟩ (.int .i64 ((rd_T48 l1 x67_2).f2.f0))).setCell ⟨gb815, 4, none⟩ (.int .i64 ((rd_T48 l1 x67_2).f2.f1)))) ?hg ?ho ?hn ?hr ?_; (case ho => rfl); (case hg => rfl); (case hn => rfl); (case hr => exact gs_); intro w32 hw; replace HO_10 : Aside0 (Kd.R (Kd.int .i64) 3 w32 w.heap.size (fun _ => True) v812 x10_2) := ⟨(by rw [hw]; exact (by refine rx_ ?_; exact Kd.R_mono (Kd.R_far (p := ⟨gb815, 4, none⟩) (Kd.R_far (p := ⟨gb815, 3, none⟩) (Kd.R_far (p := ⟨gb815, 2, none⟩) (Kd.R_far (p := ⟨gb815, 1, none⟩) (Kd.R_far (p := ⟨gb815, 0, none⟩) (Kd.R_types HO_10.out BK815.out (by decide)) (fun _ hk => hk.2) (.int .i64 ((rd_T48 l1 x67_2).f0))) (fun _ hk => hk.2) (.int .i64 ((rd_T48 l1 x67_2).f1.f0))) (fun _ hk => hk.2) (.int .i64 ((rd_T48 l1 x67_2).f1.f1))) (fun _ hk => hk.2) (.int .i64 ((rd_T48 l1 x67_2).f2.f0))) (fun _ hk => hk.2) (.int .i64 ((rd_T48 l1 x67_2).f2.f1))) (fun _ hk => trivial)))⟩; replace BK808 : Aside0 (w32.heap[gb808]? = some (.cells #[.slice A0_0 l0_0.length c0_0, .slice A0_1 l0_1.length c0_1] 25 (0, 0))) := ⟨(by rw [hw]; exact (by refine bx_ ?_; refine blk_far ?_ NB808_815.out _; refine bx_ ?_; refine blk_far ?_ NB808_815.out _; refine bx_ ?_; refine blk_far ?_ NB808_815.out _; refine bx_ ?_; refine blk_far ?_ NB808_815.out _; refine bx_ ?_; refine blk_far ?_ NB808_815.out _; refine bx_ ?_; exact BK808.out))⟩; replace BK815 : Aside0 (w32.heap[gb815]? = some (.cells #[.int .i64 ((rd_T48 l1 x67_2).f0), .int .i64 ((rd_T48 l1 x67_2).f1.f0), .int .i64 ((rd_T48 l1 x67_2).f1.f1), .int .i64 ((rd_T48 l1 x67_2).f2.f0), .int .i64 ((rd_T48 l1 x67_2).f2.f1)] 48 (0, 0))) := ⟨(by rw [hw]; exact (by refine bx_ ?_; refine blk_put (cs := #[.int .i64 ((rd_T48 l1 x67_2).f0), .int .i64 ((rd_T48 l1 x67_2).f1.f0), .int .i64 ((rd_T48 l1 x67_2).f1.f1), .int .i64 ((rd_T48 l1 x67_2).f2.f0), .int .i64 0]) ?_ 4 _ rfl; refine bx_ ?_; refine blk_put (cs := #[.int .i64 ((rd_T48 l1 x67_2).f0), .int .i64 ((rd_T48 l1 x67_2).f1.f0), .int .i64 ((rd_T48 l1 x67_2).f1.f1), .int .i64 0, .int .i64 0]) ?_ 3 _ rfl; refine bx_ ?_; refine blk_put (cs := #[.int .i64 ((rd_T48 l1 x67_2).f0), .int .i64 ((rd_T48 l1 x67_2).f1.f0), .int .i64 0, .int .i64 0, .int .i64 0]) ?_ 2 _ rfl; refine bx_ ?_; refine blk_put (cs := #[.int .i64 ((rd_T48 l1 x67_2).f0), .int .i64 0, .int .i64 0, .int .i64 0, .int .i64 0]) ?_ 1 _ rfl; refine bx_ ?_; refine blk_put (cs := #[.int .i64 0, .int .i64 0, .int .i64 0, .int .i64 0, .int .i64 0]) ?_ 0 _ rfl; refine bx_ ?_; exact BK815.out))⟩; replace HB : Aside0 (Below w.heap.size w w32) := ⟨(by rw [hw]; exact (be2_ HB GE808 GE815))⟩; clear hw; have hcz33_0 : w32.cell? ⟨gb808, 0, none⟩ = some (.slice A0_0 l0_0.length c0_0) := bc_ BK808 0; have hcz33_1 : w32.cell? ⟨gb808, 1, none⟩ = some (.slice A0_1 l0_1.length c0_1) := bc_ BK808 1; have hfz33_0 := blk_frozen BK808.out 0; have hfz33_1 := blk_frozen BK808.out 1; have hcz34_0 : w32.cell? ⟨gb815, 0, none⟩ = some (.int .i64 ((rd_T48 l1 x67_2).f0)) := bc_ BK815 0; have hcz34_1 : w32.cell? ⟨gb815, 1, none⟩ = some (.int .i64 ((rd_T48 l1 x67_2).f1.f0)) := bc_ BK815 1; have hcz34_2 : w32.cell? ⟨gb815, 2, none⟩ = some (.int .i64 ((rd_T48 l1 x67_2).f1.f1)) := bc_ BK815 2; have hcz34_3 : w32.cell? ⟨gb815, 3, none⟩ = some (.int .i64 ((rd_T48 l1 x67_2).f2.f0)) := bc_ BK815 3; have hcz34_4 : w32.cell? ⟨gb815, 4, none⟩ = some (.int .i64 ((rd_T48 l1 x67_2).f2.f1)) := bc_ BK815 4; have hfz34_0 := blk_frozen BK815.out 0; have hfz34_1 := blk_frozen BK815.out 1; have hfz34_2 := blk_frozen BK815.out 2; have hfz34_3 := blk_frozen BK815.out 3; have hfz34_4 := blk_frozen BK815.out 4; have p816 : 0 ≤ (((rd_T48 l1 x67_2).f0) : Int) := of_decide_eq_true as_; have q816 : ((rd_T48 l1 x67_2).f0) < (l0_1.length : Int) := of_decide_eq_true as_; obtain ⟨ad816, e816, hx816_0, hx816_1, hx816_2, hx816_3⟩ := at_T81 HR0_1.out ((rd_T48 l1 x67_2).f0) p816 q816; cases e816; try replace hx816_0 := ce_ HB hx816_0; try replace hx816_1 := ce_ HB hx816_1; try replace hx816_2 := ce_ HB hx816_2; try replace hx816_3 := ce_ HB hx816_3; replace p816 := eq_true p816; replace q816 := eq_true q816; obtain ⟨Ao35, co35, eo35⟩ := Kd.R_slice HO_10.out; subst eo35; have p817 : 0 ≤ (((rd_T81 l0_1 ((rd_T48 l1 x67_2).f0)).f0) : Int) := of_decide_eq_true as_; have q817 : ((rd_T81 l0_1 ((rd_T48 l1 x67_2).f0)).f0) < (x10_2.length : Int) := of_decide_eq_true as_; obtain ⟨ad817, e817, hx817_0⟩ := Kd.at_int (Kd.R_reads' HO_10.out).2.2 ((rd_T81 l0_1 ((rd_T48 l1 x67_2).f0)).f0) p817 q817; cases e817; replace p817 := eq_true p817; replace q817 := eq_true q817; have p28 : 0 ≤ (((rd_T81 l0_1 ((rd_T48 l1 x67_2).f0)).f0) : Int) := of_decide_eq_true as_; have q28 : (((rd_T81 l0_1 ((rd_T48 l1 x67_2).f0)).f0) : Int) < ((x10_2.length : Int) : Int) := of_decide_eq_true as_; obtain ⟨go28, co28, eo28, gb28, gl28, cl28, HG28⟩ := Kd.R_form HO_10.out (by omega); (first | cases eo28 | (injection eo28 with ea_ en_ ec_; (first | subst ea_ | (injection ea_ with ea_; subst ea_)); subst ec_; clear en_)); have GB28 := Aside0.mk gb28; have GG28 := Aside0.mk HG28; clear gb28 gl28 HG28; (first | simp only [add_plain] at hx817_0 | skip); obtain ⟨hx28_0, hf28_0⟩ := Kd.R_celln 0 HO_10.out (((rd_T81 l0_1 ((rd_T48 l1 x67_2).f0)).f0) : Int) p28 q28; replace p28 := eq_true p28; replace q28 := eq_true q28; obtain ⟨hy36_, hz36_⟩ := Kd.R_celln 0 HO_10.out (((rd_T81 l0_1 ((rd_T48 l1 x67_2).f0)).f0) : Int) (of_decide_eq_true as_) (of_decide_eq_true as_); have HP36 := Kd.R_putg HO_10.out (((rd_T81 l0_1 ((rd_T48 l1 x67_2).f0)).f0) : Int) (wrap64 ((rd x10_2 ((rd_T81 l0_1 ((rd_T48 l1 x67_2).f0)).f0)) + 1))) | ((with_reducible refine gate_store (t := 3) (p := 82) rfl ?_); refine store_event (t := 3) (p := 82) (v := ?vo_w37) (w1 := (w32.setCell ⟨go28, (((rd_T81 l0_1 ((rd_T48 l1 x67_2).f0)).f0) : Int).toNat, none⟩ (.int .i64 (wrap64 ((rd x10_2 ((rd_T81 l0_1 ((rd_T48 l1 x67_2).f0)).f0)) + 1))))) ?hg ?ho ?hn ?hr ?_; (case ho => rfl); (case hg => rfl); (case hn => rfl); (case hr => exact gs_); intro w37 hw; have hg : w32.grownBy w37 (some go28) := (by rw [hw]; exact HP36.2); have hp_ : Kd.R (Kd.int .i64) 3 w37 w.heap.size (fun _ => True) (.slice (some ⟨go28, 0, none⟩) x10_2.length co35) y818 := (by rw [hw, Ny818.out]; exact HP36.1); clear HP36; replace BK808 := Aside0.mk (blk_grown (g := gb808) (o := .cells #[.slice A0_0 l0_0.length c0_0, .slice (some ad816) l0_1.length c0_1] 25 (0, 0)) (bk_ BK808) hg (Kd.R_ne HO_10.out BK808.out (by decide))); replace BK815 := Aside0.mk (blk_grown (g := gb815) (o := .cells #[.int .i64 ((rd_T48 l1 x67_2).f0), .int .i64 ((rd_T48 l1 x67_2).f1.f0), .int .i64 ((rd_T48 l1 x67_2).f1.f1), .int .i64 ((rd_T48 l1 x67_2).f2.f0), .int .i64 ((rd_T48 l1 x67_2).f2.f1)] 48 (0, 0)) (bk_ BK815) hg (Kd.R_ne HO_10.out BK815.out (by decide))); replace HO_10 := Aside0.mk (hp_); replace HB := Aside0.mk ((by rw [hw]; exact below_set (HB.out) GB28.out : Below w.heap.size w w37)); clear hg hw hp_))
                 go_roundg k2
                 case measure => have := HJ4.out; have := HK2.out; omega
                 case rel => exact ⟨(y818), (wrap64 (x67_2 + 1)), (by first | rfl | (simp; done) | (simp [*]; done)), H', ⟨by have := HJ4.out; have := HK2.out; omega⟩, ⟨by (with_reducible repeat (first | apply Kd.R_alloc | apply Kd.R_drewN | apply Kd.R_drew)); exact HO_10.out⟩, ⟨by refine bx_ ?_; exact BK808.out⟩, ⟨be2_ HB GE808 GE815⟩⟩
                ·rw [if_neg c27] at H
                 exact absurd H (by simp)
               ·rw [if_neg c26] at H
                exact absurd H (by simp)
              ·rw [if_neg c25] at H
               exact absurd H (by simp)
             ·rw [if_neg c24] at H
              exact absurd H (by simp)
            ·rw [if_neg c23] at H
             exact absurd H (by simp)
           ·rw [if_neg c22] at H
            exact absurd H (by simp)
          ·rw [if_neg c21] at H
           have c21b0 : decide (x67_2 < (l1.length : Int)) = false := decide_eq_false c21
           clear c21
           have H' := Aside0.mk H
           clear H
           have hcz38_0 : wr.cell? ⟨gb808, 0, none⟩ = some (.slice A0_0 l0_0.length c0_0) := bc_ BK808 0
           have hcz38_1 : wr.cell? ⟨gb808, 1, none⟩ = some (.slice A0_1 l0_1.length c0_1) := bc_ BK808 1
           have hfz38_0 := blk_frozen BK808.out 0
           have hfz38_1 := blk_frozen BK808.out 1
           go_wp2
           go_loopg [13, 87] k2 (fun kq v13 v87 w' => ∃ (x10_3 : List Int) (x13_3 : Int) (x87_3 : Int), v13 = .int .i64 x13_3 ∧ v87 = .int .i64 x87_3 ∧ Aside0 (cottonpadlaw06_ExitsLostA.l1 kq l1 t809 l1 x10_3 x13_3 l0_0 (l0_0.length : Int) x87_3 l0_0 l0_1 = some r) ∧ Aside0 (kq ≤ k2) ∧ Aside0 (Kd.R (Kd.int .i64) 3 w' w.heap.size (fun _ => True) v812 x10_3) ∧ Aside0 (w'.heap[gb808]? = some (.cells #[(.slice A0_0 l0_0.length c0_0), (.slice A0_1 l0_1.length c0_1)] 25 (0, 0))) ∧ Aside0 (Below w.heap.size w w'))
           case atStart => exact ⟨(x10_2), (0), (0), (by first | rfl | (simp; done) | (simp [*]; done)), (by first | rfl | (simp; done) | (simp [*]; done)), H', ⟨Nat.le_refl _⟩, ⟨by (with_reducible repeat (first | apply Kd.R_alloc | apply Kd.R_drewN | apply Kd.R_drew)); exact HO_10.out⟩, ⟨by refine bx_ ?_; exact BK808.out⟩, ⟨be1_ HB GE808⟩⟩
           case round =>
             clear H'
             try clear c1
             try clear c2
             try clear p2
             try clear q2
             try clear hx2
             try clear c3
             try clear p6
             try clear p8
             try clear q8
             try clear hx8
             try clear c9
             try clear c11
             try clear c14
             try clear c15
             try clear c15b0
             try clear c15b1
             try clear c16
             try clear c16b0
             try clear c16b1
             try clear c17
             try clear c17b0
             try clear c17b1
             try clear c21
             try clear c21b0
             try clear c22
             try clear c22b0
             try clear c23
             try clear c23b0
             try clear c24
             try clear c24b0
             try clear c25
             try clear c25b0
             try clear c26
             try clear c26b0
             try clear c27
             try clear c27b0
             try clear p28
             try clear q28
             try clear hx28
             try clear hf28
             try clear c30
             try clear c36
             try clear hcz10_0
             try clear hcz10_1
             try clear hcz12_0
             try clear hcz12_1
             try clear hcz18_0
             try clear hcz18_1
             try clear hcz31_0
             try clear hcz31_1
             try clear hcz31_2
             try clear hcz31_3
             try clear hcz31_4
             try clear hcz33_0
             try clear hcz33_1
             try clear hcz34_0
             try clear hcz34_1
             try clear hcz34_2
             try clear hcz34_3
             try clear hcz34_4
             try clear hcz38_0
             try clear hcz38_1
             try clear hfz10_0
             try clear hfz10_1
             try clear hfz12_0
             try clear hfz12_1
             try clear hfz18_0
             try clear hfz18_1
             try clear hfz31_0
             try clear hfz31_1
             try clear hfz31_2
             try clear hfz31_3
             try clear hfz31_4
             try clear hfz33_0
             try clear hfz33_1
             try clear hfz34_0
             try clear hfz34_1
             try clear hfz34_2
             try clear hfz34_3
             try clear hfz34_4
             try clear hfz38_0
             try clear hfz38_1
             try clear hx28_0
             try clear hx814_0
             try clear hx814_1
             try clear hx814_2
             try clear hx814_3
             try clear hx814_4
             try clear hx816_0
             try clear hx816_1
             try clear hx816_2
             try clear hx816_3
             try clear hx817_0
             try clear p2
             try clear p28
             try clear p814
             try clear p816
             try clear p817
             try clear q28
             try clear q814
             try clear q816
             try clear q817
             obtain ⟨x10_3, x13_3, x87_3, rfl, rfl, HA, HK3, HO_10, BK808, HB⟩ := hrel
             cases gk with
             | zero => exact absurd HA.out (by simp [cottonpadlaw06_ExitsLostA.l1])
             | succ k3 =>
              have H := HA.out
              clear HA
              simp only [cottonpadlaw06_ExitsLostA.l1] at H
              by_cases c39 : x87_3 < (l0_0.length : Int)
              ·rw [if_pos c39] at H
               have c39b0 : decide (x87_3 < (l0_0.length : Int)) = true := decide_eq_true c39
               clear c39
               by_cases c40 : 0 ≤ x87_3
               ·rw [if_pos c40] at H
                have c40b0 : decide (0 ≤ x87_3) = true := decide_eq_true c40
                clear c40
                by_cases c41 : x87_3 < (l0_0.length : Int)
                ·rw [if_pos c41] at H
                 have c41b0 : decide (x87_3 < (l0_0.length : Int)) = true := decide_eq_true c41
                 clear c41
                 replace H := Option.bind_eq_some_iff.mp H
                 obtain ⟨⟨t821, t824⟩, A420, H⟩ := H
                 replace H : ((exits_Leaves.f l0_0 l0_1 l1 x87_3).bind fun bt825 => (if t824 = 0 then (if bt825.2 = 0 then ((cottonpadref06_SameSpans.f k3 t821 bt825.1).bind fun t829 => (if t829 = true then (if x87_3 < (x10_3.length : Int) then (cottonpadlaw06_ExitsLostA.j3 k3 l1 t809 l1 x10_3 x13_3 t821 l0_0 (l0_0.length : Int) x87_3 ((t821.length : Int) != (rd x10_3 x87_3)) l0_0 l0_1 ((rd_T62 l0_0 x87_3).f0) ((rd_T62 l0_0 x87_3).f1) ((rd_T62 l0_0 x87_3).f2.f0) ((rd_T62 l0_0 x87_3).f2.f1) ((rd_T62 l0_0 x87_3).f3.f0) ((rd_T62 l0_0 x87_3).f3.f1)) else (none)) else (cottonpadlaw06_ExitsLostA.j3 k3 l1 t809 l1 x10_3 x13_3 t821 l0_0 (l0_0.length : Int) x87_3 true l0_0 l0_1 ((rd_T62 l0_0 x87_3).f0) ((rd_T62 l0_0 x87_3).f1) ((rd_T62 l0_0 x87_3).f2.f0) ((rd_T62 l0_0 x87_3).f2.f1) ((rd_T62 l0_0 x87_3).f3.f0) ((rd_T62 l0_0 x87_3).f3.f1)))) else (cottonpadlaw06_ExitsLostA.j3 k3 l1 t809 l1 x10_3 x13_3 t821 l0_0 (l0_0.length : Int) x87_3 true l0_0 l0_1 ((rd_T62 l0_0 x87_3).f0) ((rd_T62 l0_0 x87_3).f1) ((rd_T62 l0_0 x87_3).f2.f0) ((rd_T62 l0_0 x87_3).f2.f1) ((rd_T62 l0_0 x87_3).f3.f0) ((rd_T62 l0_0 x87_3).f3.f1))) else (cottonpadlaw06_ExitsLostA.j3 k3 l1 t809 l1 x10_3 x13_3 t821 l0_0 (l0_0.length : Int) x87_3 true l0_0 l0_1 ((rd_T62 l0_0 x87_3).f0) ((rd_T62 l0_0 x87_3).f1) ((rd_T62 l0_0 x87_3).f2.f0) ((rd_T62 l0_0 x87_3).f2.f1) ((rd_T62 l0_0 x87_3).f3.f0) ((rd_T62 l0_0 x87_3).f3.f1)))) = some r := H
                 have A42 := Aside0.mk A420
                 clear A420
                 replace H := Option.bind_eq_some_iff.mp H
                 obtain ⟨⟨t825, t828⟩, A430, H⟩ := H
                 replace H : (if t824 = 0 then (if t828 = 0 then ((cottonpadref06_SameSpans.f k3 t821 t825).bind fun t829 => (if t829 = true then (if x87_3 < (x10_3.length : Int) then (cottonpadlaw06_ExitsLostA.j3 k3 l1 t809 l1 x10_3 x13_3 t821 l0_0 (l0_0.length : Int) x87_3 ((t821.length : Int) != (rd x10_3 x87_3)) l0_0 l0_1 ((rd_T62 l0_0 x87_3).f0) ((rd_T62 l0_0 x87_3).f1) ((rd_T62 l0_0 x87_3).f2.f0) ((rd_T62 l0_0 x87_3).f2.f1) ((rd_T62 l0_0 x87_3).f3.f0) ((rd_T62 l0_0 x87_3).f3.f1)) else (none)) else (cottonpadlaw06_ExitsLostA.j3 k3 l1 t809 l1 x10_3 x13_3 t821 l0_0 (l0_0.length : Int) x87_3 true l0_0 l0_1 ((rd_T62 l0_0 x87_3).f0) ((rd_T62 l0_0 x87_3).f1) ((rd_T62 l0_0 x87_3).f2.f0) ((rd_T62 l0_0 x87_3).f2.f1) ((rd_T62 l0_0 x87_3).f3.f0) ((rd_T62 l0_0 x87_3).f3.f1)))) else (cottonpadlaw06_ExitsLostA.j3 k3 l1 t809 l1 x10_3 x13_3 t821 l0_0 (l0_0.length : Int) x87_3 true l0_0 l0_1 ((rd_T62 l0_0 x87_3).f0) ((rd_T62 l0_0 x87_3).f1) ((rd_T62 l0_0 x87_3).f2.f0) ((rd_T62 l0_0 x87_3).f2.f1) ((rd_T62 l0_0 x87_3).f3.f0) ((rd_T62 l0_0 x87_3).f3.f1))) else (cottonpadlaw06_ExitsLostA.j3 k3 l1 t809 l1 x10_3 x13_3 t821 l0_0 (l0_0.length : Int) x87_3 true l0_0 l0_1 ((rd_T62 l0_0 x87_3).f0) ((rd_T62 l0_0 x87_3).f1) ((rd_T62 l0_0 x87_3).f2.f0) ((rd_T62 l0_0 x87_3).f2.f1) ((rd_T62 l0_0 x87_3).f3.f0) ((rd_T62 l0_0 x87_3).f3.f1))) = some r := H
                 have A43 := Aside0.mk A430
                 clear A430
                 have HC44 := Aside0.mk H
                 clear H
                 have p819 : 0 ≤ (x87_3 : Int) := of_decide_eq_true as_
                 have q819 : x87_3 < (l0_0.length : Int) := of_decide_eq_true as_
                 obtain ⟨ad819, e819, hx819_0, hx819_1, hx819_2, hx819_3, hx819_4, hx819_5⟩ := at_T62 HR0_0.out x87_3 p819 q819
                 cases e819
                 try replace hx819_0 := ce_ HB hx819_0
                 try replace hx819_1 := ce_ HB hx819_1
                 try replace hx819_2 := ce_ HB hx819_2
                 try replace hx819_3 := ce_ HB hx819_3
                 try replace hx819_4 := ce_ HB hx819_4
                 try replace hx819_5 := ce_ HB hx819_5
                 replace p819 := eq_true p819
                 replace q819 := eq_true q819
                 go_upto_region 20 with (first | ((with_reducible refine gate_dst (N := 15) rfl ?_); (try (refine gate_guard (by rfl) ?_; dsimp only)); refine box_event ?hg (N := 15) ?hd (cs := #[.int .i64 0, .int .i64 0, .int .i64 0, .int .i64 0, .int .i64 0, .int .i64 0]) (t := 62) ?hr ?_; (case hd => rfl); (case hg => rfl); (case hr => exact gs_); intro gb820 hg w45 hbox hb; replace HO_10 := rb_ HO_10 hb; have BK820 := Aside0.mk (hbox); have GW820 := hl_ hg (be1_ HB GE808); have GE820 := hl_ hg (be1_ HB GE808); replace HB := bs1_ HB GE808 hb; have NB808_820 := Aside0.mk ((by rw [hg]; exact Nat.ne_of_lt (blk_lt (bk_ BK808)) : gb808 ≠ gb820)); have NB820_808 := Aside0.mk ((by rw [hg]; exact Nat.ne_of_gt (blk_lt (bk_ BK808)) : gb820 ≠ gb808)); replace BK808 := bb_ BK808 hb; clear hb hbox hg; have hnb46 := NB820_808.out; have hnc46 := NB808_820.out; have hcz47_0 : w45.cell? ⟨gb820, 0, none⟩ = some (.int .i64 0) := bc_ BK820 0; have hcz47_1 : w45.cell? ⟨gb820, 1, none⟩ = some (.int .i64 0) := bc_ BK820 1; have hcz47_2 : w45.cell? ⟨gb820, 2, none⟩ = some (.int .i64 0) := bc_ BK820 2; have hcz47_3 : w45.cell? ⟨gb820, 3, none⟩ = some (.int .i64 0) := bc_ BK820 3; have hcz47_4 : w45.cell? ⟨gb820, 4, none⟩ = some (.int .i64 0) := bc_ BK820 4; have hcz47_5 : w45.cell? ⟨gb820, 5, none⟩ = some (.int .i64 0) := bc_ BK820 5; have hfz47_0 := blk_frozen BK820.out 0; have hfz47_1 := blk_frozen BK820.out 1; have hfz47_2 := blk_frozen BK820.out 2; have hfz47_3 := blk_frozen BK820.out 3; have hfz47_4 := blk_frozen BK820.out 4; have hfz47_5 := blk_frozen BK820.out 5; have hcz48_0 : w45.cell? ⟨gb808, 0, none⟩ = some (.slice (some ad819) l0_0.length c0_0) := bc_ BK808 0; have hcz48_1 : w45.cell? ⟨gb808, 1, none⟩ = some (.slice A0_1 l0_1.length c0_1) := bc_ BK808 1; have hfz48_0 := blk_frozen BK808.out 0; have hfz48_1 := blk_frozen BK808.out 1) | ((with_reducible refine gate_callee (f := 17) rfl ?_); refine goesL_ (some 96) rfl rfl Tryd.func17 (by decide +kernel) rfl #[.agg #[.slice (some ad819) l0_0.length c0_0, .slice A0_1 l0_1.length c0_1], .slice A1 l1.length c1, .int .i64 x87_3] rfl ls_ ?_; (with_reducible refine (exits_Leaves.calls _ _ l0_0 _ _ l0_1 _ _ l1 x87_3 t821 t824 _ ?side7 ?side1 ?side2 ?side3 ?side4 ?side5 ?side6 A42.out).mono ?_); (case side1 => exact Kd.C_below HR0_0.out (be2_ HB GE808 GE820)); (case side2 => exact HC0_0.out); (case side3 => exact Kd.C_below HR0_1.out (be2_ HB GE808 GE820)); (case side4 => exact HC0_1.out); (case side5 => exact Kd.C_below HR1.out (be2_ HB GE808 GE820)); (case side6 => exact HC1.out); (case side7 => exact GlobsE.below HG.out.1 (be2_ HB GE808 GE820)); rintro e w49 ⟨v822, rfl, ho0, hb⟩; refine ⟨_, rfl, ?_⟩; replace HO_10 := Aside0.mk (Kd.R_below (by (with_reducible repeat (first | apply Kd.R_alloc | apply Kd.R_drewN | apply Kd.R_drew)); exact (Kd.R_mono (Kd.R_far (p := ⟨gb820, 5, none⟩) (Kd.R_far (p := ⟨gb820, 4, none⟩) (Kd.R_far (p := ⟨gb820, 3, none⟩) (Kd.R_far (p := ⟨gb820, 2, none⟩) (Kd.R_far (p := ⟨gb820, 1, none⟩) (Kd.R_far (p := ⟨gb820, 0, none⟩) (Kd.R_types HO_10.out BK820.out (by decide)) (fun _ hk => hk.2) (.int .i64 ((rd_T62 l0_0 x87_3).f0))) (fun _ hk => hk.2) (.int .i64 ((rd_T62 l0_0 x87_3).f1))) (fun _ hk => hk.2) (.int .i64 ((rd_T62 l0_0 x87_3).f2.f0))) (fun _ hk => hk.2) (.int .i64 ((rd_T62 l0_0 x87_3).f2.f1))) (fun _ hk => hk.2) (.int .i64 ((rd_T62 l0_0 x87_3).f3.f0))) (fun _ hk => hk.2) (.int .i64 ((rd_T62 l0_0 x87_3).f3.f1))) (fun _ h_ => h_.1))) hb); have HO823 := Aside0.mk (Kd.R_lower ho0 (below_size (be2_ HB GE808 GE820))); replace BK808 := Aside0.mk (blk_below (g := gb808) (o := .cells #[.slice (some ad819) l0_0.length c0_0, .slice A0_1 l0_1.length c0_1] 25 (0, 0)) (by refine bx_ ?_; refine blk_far ?_ NB808_820.out _; refine bx_ ?_; refine blk_far ?_ NB808_820.out _; refine bx_ ?_; refine blk_far ?_ NB808_820.out _; refine bx_ ?_; refine blk_far ?_ NB808_820.out _; refine bx_ ?_; refine blk_far ?_ NB808_820.out _; refine bx_ ?_; refine blk_far ?_ NB808_820.out _; refine bx_ ?_; exact BK808.out) hb); replace BK820 := Aside0.mk (blk_below (g := gb820) (o := .cells #[.int .i64 ((rd_T62 l0_0 x87_3).f0), .int .i64 ((rd_T62 l0_0 x87_3).f1), .int .i64 ((rd_T62 l0_0 x87_3).f2.f0), .int .i64 ((rd_T62 l0_0 x87_3).f2.f1), .int .i64 ((rd_T62 l0_0 x87_3).f3.f0), .int .i64 ((rd_T62 l0_0 x87_3).f3.f1)] 62 (0, 0)) (by refine bx_ ?_; refine blk_put (cs := #[.int .i64 ((rd_T62 l0_0 x87_3).f0), .int .i64 ((rd_T62 l0_0 x87_3).f1), .int .i64 ((rd_T62 l0_0 x87_3).f2.f0), .int .i64 ((rd_T62 l0_0 x87_3).f2.f1), .int .i64 ((rd_T62 l0_0 x87_3).f3.f0), .int .i64 0]) ?_ 5 _ rfl; refine bx_ ?_; refine blk_put (cs := #[.int .i64 ((rd_T62 l0_0 x87_3).f0), .int .i64 ((rd_T62 l0_0 x87_3).f1), .int .i64 ((rd_T62 l0_0 x87_3).f2.f0), .int .i64 ((rd_T62 l0_0 x87_3).f2.f1), .int .i64 0, .int .i64 0]) ?_ 4 _ rfl; refine bx_ ?_; refine blk_put (cs := #[.int .i64 ((rd_T62 l0_0 x87_3).f0), .int .i64 ((rd_T62 l0_0 x87_3).f1), .int .i64 ((rd_T62 l0_0 x87_3).f2.f0), .int .i64 0, .int .i64 0, .int .i64 0]) ?_ 3 _ rfl; refine bx_ ?_; refine blk_put (cs := #[.int .i64 ((rd_T62 l0_0 x87_3).f0), .int .i64 ((rd_T62 l0_0 x87_3).f1), .int .i64 0, .int .i64 0, .int .i64 0, .int .i64 0]) ?_ 2 _ rfl; refine bx_ ?_; refine blk_put (cs := #[.int .i64 ((rd_T62 l0_0 x87_3).f0), .int .i64 0, .int .i64 0, .int .i64 0, .int .i64 0, .int .i64 0]) ?_ 1 _ rfl; refine bx_ ?_; refine blk_put (cs := #[.int .i64 0, .int .i64 0, .int .i64 0, .int .i64 0, .int .i64 0, .int .i64 0]) ?_ 0 _ rfl; refine bx_ ?_; exact BK820.out) hb); replace HB := bs2_ HB GE808 GE820 hb; (try clear hb); (try clear hb2); (try clear hk); (try clear hi); (try clear ho0); have hcz50_0 : w49.cell? ⟨gb808, 0, none⟩ = some (.slice (some ad819) l0_0.length c0_0) := bc_ BK808 0; have hcz50_1 : w49.cell? ⟨gb808, 1, none⟩ = some (.slice A0_1 l0_1.length c0_1) := bc_ BK808 1; have hfz50_0 := blk_frozen BK808.out 0; have hfz50_1 := blk_frozen BK808.out 1) | ((with_reducible refine gate_callee (f := 17) rfl ?_); refine goesL_ (some 103) rfl rfl Tryd.func17 (by decide +kernel) rfl #[.agg #[.slice (some ad819) l0_0.length c0_0, .slice A0_1 l0_1.length c0_1], .slice A1 l1.length c1, .int .i64 x87_3] rfl ls_ ?_; (with_reducible refine (exits_Leaves.calls _ _ l0_0 _ _ l0_1 _ _ l1 x87_3 t825 t828 _ ?side7 ?side1 ?side2 ?side3 ?side4 ?side5 ?side6 A43.out).mono ?_); (case side1 => exact kc_ HR0_0 HB); (case side2 => exact HC0_0.out); (case side3 => exact kc_ HR0_1 HB); (case side4 => exact HC0_1.out); (case side5 => exact kc_ HR1 HB); (case side6 => exact HC1.out); (case side7 => exact GlobsE.below HG.out.1 (be2_ HB GE808 GE820)); rintro e w51 ⟨v826, rfl, ho0, hb⟩; refine ⟨_, rfl, ?_⟩; replace HO_10 := rb_ HO_10 hb; have HO827 := Aside0.mk (Kd.R_lower (Kd.R_new' ho0 (Kd.R_lt (ro_ HO823))) (below_size (be2_ HB GE808 GE820))); replace HO823 := Aside0.mk (Kd.R_elder' (ro_ HO823) (Kd.R_base ho0) hb); replace BK808 := bb_ BK808 hb; replace BK820 := bb_ BK820 hb; replace HB := bs2_ HB GE808 GE820 hb; (try clear hb); (try clear hb2); (try clear hk); (try clear hi); (try clear ho0)))
                 (try simp only [Act.put, List.setIfInBounds_toArray, List.set_cons_zero, List.set_cons_succ])
                 go_cut [126] (fun v126 wc => ∃ (kq : Nat) (x126_43 : Bool), v126 = .bool x126_43 ∧ Aside0 (cottonpadlaw06_ExitsLostA.j3 kq l1 t809 l1 x10_3 x13_3 t821 l0_0 (l0_0.length : Int) x87_3 x126_43 l0_0 l0_1 ((rd_T62 l0_0 x87_3).f0) ((rd_T62 l0_0 x87_3).f1) ((rd_T62 l0_0 x87_3).f2.f0) ((rd_T62 l0_0 x87_3).f2.f1) ((rd_T62 l0_0 x87_3).f3.f0) ((rd_T62 l0_0 x87_3).f3.f1) = some r) ∧ Aside0 (kq ≤ k3) ∧ Aside0 (Kd.R (Kd.int .i64) 3 wc w.heap.size (fun _ => True) v812 x10_3) ∧ Aside0 (Kd.R k36 36 wc w.heap.size (fun _ => True) v822 t821) ∧ Aside0 (wc.heap[gb808]? = some (.cells #[(.slice (some ad819) l0_0.length c0_0), (.slice A0_1 l0_1.length c0_1)] 25 (0, 0))) ∧ Aside0 (wc.heap[gb820]? = some (.cells #[.int .i64 ((rd_T62 l0_0 x87_3).f0), .int .i64 ((rd_T62 l0_0 x87_3).f1), .int .i64 ((rd_T62 l0_0 x87_3).f2.f0), .int .i64 ((rd_T62 l0_0 x87_3).f2.f1), .int .i64 ((rd_T62 l0_0 x87_3).f3.f0), .int .i64 ((rd_T62 l0_0 x87_3).f3.f1)] 62 (0, 0))) ∧ Aside0 (Below w.heap.size w wc))
                 case first =>
                   have H := HC44.out
                   clear HC44
                   by_cases c52 : t824 = 0
                   ·rw [if_pos c52] at H
                    have c52b0 : (t824 == 0) = true := beq_iff_eq.mpr c52
                    have c52b1 : (t824 != 0) = false := bne_eq_false_iff_eq.mpr c52
                    clear c52
                    (first | rw [c52b0] | (simp only [i64_w, i32_w]; rw [c52b0]) | skip)
                    by_cases c53 : t828 = 0
                    ·rw [if_pos c53] at H
                     have c53b0 : (t828 == 0) = true := beq_iff_eq.mpr c53
                     have c53b1 : (t828 != 0) = false := bne_eq_false_iff_eq.mpr c53
                     clear c53
                     replace H := Option.bind_eq_some_iff.mp H
                     obtain ⟨t829, A540, H⟩ := H
                     replace H : (if t829 = true then (if x87_3 < (x10_3.length : Int) then (cottonpadlaw06_ExitsLostA.j3 k3 l1 t809 l1 x10_3 x13_3 t821 l0_0 (l0_0.length : Int) x87_3 ((t821.length : Int) != (rd x10_3 x87_3)) l0_0 l0_1 ((rd_T62 l0_0 x87_3).f0) ((rd_T62 l0_0 x87_3).f1) ((rd_T62 l0_0 x87_3).f2.f0) ((rd_T62 l0_0 x87_3).f2.f1) ((rd_T62 l0_0 x87_3).f3.f0) ((rd_T62 l0_0 x87_3).f3.f1)) else (none)) else (cottonpadlaw06_ExitsLostA.j3 k3 l1 t809 l1 x10_3 x13_3 t821 l0_0 (l0_0.length : Int) x87_3 true l0_0 l0_1 ((rd_T62 l0_0 x87_3).f0) ((rd_T62 l0_0 x87_3).f1) ((rd_T62 l0_0 x87_3).f2.f0) ((rd_T62 l0_0 x87_3).f2.f1) ((rd_T62 l0_0 x87_3).f3.f0) ((rd_T62 l0_0 x87_3).f3.f1))) = some r := H
                     have A54 := Aside0.mk A540
                     clear A540
                     by_cases c55 : t829 = true
                     ·subst c55
                      have H1 : (if x87_3 < (x10_3.length : Int) then (cottonpadlaw06_ExitsLostA.j3 k3 l1 t809 l1 x10_3 x13_3 t821 l0_0 (l0_0.length : Int) x87_3 ((t821.length : Int) != (rd x10_3 x87_3)) l0_0 l0_1 ((rd_T62 l0_0 x87_3).f0) ((rd_T62 l0_0 x87_3).f1) ((rd_T62 l0_0 x87_3).f2.f0) ((rd_T62 l0_0 x87_3).f2.f1) ((rd_T62 l0_0 x87_3).f3.f0) ((rd_T62 l0_0 x87_3).f3.f1)) else (none)) = some r := by rw [if_pos rfl] at H; exact H
                      clear H
                      have H := H1
                      clear H1
                      by_cases c56 : x87_3 < (x10_3.length : Int)
                      ·rw [if_pos c56] at H
                       have c56b0 : decide (x87_3 < (x10_3.length : Int)) = true := decide_eq_true c56
                       clear c56
                       have H' := Aside0.mk H
                       clear H
                       obtain ⟨Ao57, co57, eo57⟩ := Kd.R_slice HO823.out
                       subst eo57
                       obtain ⟨Ao58, co58, eo58⟩ := Kd.R_slice HO827.out
                       subst eo58
                       go_wp2_with (first | (go_at_call 23; (with_reducible refine (cottonpadref06_SameSpans.calls k3 _ _ t821 _ _ t825 true _ ?side1 ?side2 ?side3 ?side4 A54.out).mono ?_); (case side1 => exact kd_ (Kd.R_reads' HO823.out).2.2); (case side2 => exact (Kd.R_reads' HO823.out).2.1); (case side3 => exact kd_ (Kd.R_reads' HO827.out).2.2); (case side4 => exact (Kd.R_reads' HO827.out).2.1); rintro e w' ⟨rfl, ⟨nd, rfl⟩⟩; obtain ⟨Ao59, co59, eo59⟩ := Kd.R_slice HO_10.out; subst eo59; have p830 : 0 ≤ (x87_3 : Int) := of_decide_eq_true as_; have q830 : x87_3 < (x10_3.length : Int) := of_decide_eq_true as_; obtain ⟨ad830, e830, hx830_0⟩ := Kd.at_int (Kd.R_reads' HO_10.out).2.2 x87_3 p830 q830; cases e830; replace p830 := eq_true p830; replace q830 := eq_true q830))
                       go_meet
                       case rel => exact ⟨_, (((t821.length : Int) != (rd x10_3 x87_3))), (by first | rfl | (simp; done) | (simp [*]; done)), H', ⟨by have := HJ4.out; have := HK2.out; have := HK3.out; first | omega | exact Nat.le_refl _⟩, ⟨by (with_reducible repeat (first | apply Kd.R_alloc | apply Kd.R_drewN | apply Kd.R_drew)); exact HO_10.out⟩, ⟨by (with_reducible repeat (first | apply Kd.R_alloc | apply Kd.R_drewN | apply Kd.R_drew)); exact Kd.R_mono HO823.out (fun _ hk => trivial)⟩, ⟨by refine bx_ ?_; exact BK808.out⟩, ⟨by refine bx_ ?_; exact BK820.out⟩, ⟨be2_ HB GE808 GE820⟩⟩
                      ·rw [if_neg c56] at H
                       exact absurd H (by simp)
                     ·replace c55 := Bool.eq_false_iff.mpr c55
                      subst c55
                      have H1 : (cottonpadlaw06_ExitsLostA.j3 k3 l1 t809 l1 x10_3 x13_3 t821 l0_0 (l0_0.length : Int) x87_3 true l0_0 l0_1 ((rd_T62 l0_0 x87_3).f0) ((rd_T62 l0_0 x87_3).f1) ((rd_T62 l0_0 x87_3).f2.f0) ((rd_T62 l0_0 x87_3).f2.f1) ((rd_T62 l0_0 x87_3).f3.f0) ((rd_T62 l0_0 x87_3).f3.f1)) = some r := by rw [if_neg (show ¬ (false = true) by decide)] at H; exact H
                      clear H
                      have H := H1
                      clear H1
                      exact absurd H (by rw [HRT.out]; cases k3 <;> simp [cottonpadlaw06_ExitsLostA.j3])
                    ·rw [if_neg c53] at H
                     have c53b0 : (t828 == 0) = false := beq_eq_false_iff_ne.mpr c53
                     have c53b1 : (t828 != 0) = true := bne_iff_ne.mpr c53
                     exact absurd H (by rw [HRT.out]; cases k3 <;> simp [cottonpadlaw06_ExitsLostA.j3])
                   ·rw [if_neg c52] at H
                    have c52b0 : (t824 == 0) = false := beq_eq_false_iff_ne.mpr c52
                    have c52b1 : (t824 != 0) = true := bne_iff_ne.mpr c52
                    (first | rw [c52b0] | (simp only [i64_w, i32_w]; rw [c52b0]) | skip)
                    exact absurd H (by rw [HRT.out]; cases k3 <;> simp [cottonpadlaw06_ExitsLostA.j3])
                 case rest =>
                   clear HC44
                   try clear c1
                   try clear c2
                   try clear p2
                   try clear q2
                   try clear hx2
                   try clear c3
                   try clear c4
                   try clear c5
                   try clear p6
                   try clear p8
                   try clear q8
                   try clear hx8
                   try clear c9
                   try clear c11
                   try clear c14
                   try clear c15
                   try clear c15b0
                   try clear c15b1
                   try clear c16
                   try clear c16b0
                   try clear c16b1
                   try clear c17
                   try clear c17b0
                   try clear c17b1
                   try clear c21
                   try clear c21b0
                   try clear c22
                   try clear c22b0
                   try clear c23
                   try clear c23b0
                   try clear c24
                   try clear c24b0
                   try clear c25
                   try clear c25b0
                   try clear c26
                   try clear c26b0
                   try clear c27
                   try clear c27b0
                   try clear p28
                   try clear q28
                   try clear hx28
                   try clear hf28
                   try clear c30
                   try clear c36
                   try clear c39
                   try clear c39b0
                   try clear c40
                   try clear c40b0
                   try clear c41
                   try clear c41b0
                   try clear c46
                   try clear c52
                   try clear c52b0
                   try clear c52b1
                   try clear c53
                   try clear c53b0
                   try clear c53b1
                   try clear c55
                   try clear c56
                   try clear c56b0
                   try clear hcz10_0
                   try clear hcz10_1
                   try clear hcz12_0
                   try clear hcz12_1
                   try clear hcz18_0
                   try clear hcz18_1
                   try clear hcz31_0
                   try clear hcz31_1
                   try clear hcz31_2
                   try clear hcz31_3
                   try clear hcz31_4
                   try clear hcz33_0
                   try clear hcz33_1
                   try clear hcz34_0
                   try clear hcz34_1
                   try clear hcz34_2
                   try clear hcz34_3
                   try clear hcz34_4
                   try clear hcz38_0
                   try clear hcz38_1
                   try clear hcz47_0
                   try clear hcz47_1
                   try clear hcz47_2
                   try clear hcz47_3
                   try clear hcz47_4
                   try clear hcz47_5
                   try clear hcz48_0
                   try clear hcz48_1
                   try clear hcz50_0
                   try clear hcz50_1
                   try clear hfz10_0
                   try clear hfz10_1
                   try clear hfz12_0
                   try clear hfz12_1
                   try clear hfz18_0
                   try clear hfz18_1
                   try clear hfz31_0
                   try clear hfz31_1
                   try clear hfz31_2
                   try clear hfz31_3
                   try clear hfz31_4
                   try clear hfz33_0
                   try clear hfz33_1
                   try clear hfz34_0
                   try clear hfz34_1
                   try clear hfz34_2
                   try clear hfz34_3
                   try clear hfz34_4
                   try clear hfz38_0
                   try clear hfz38_1
                   try clear hfz47_0
                   try clear hfz47_1
                   try clear hfz47_2
                   try clear hfz47_3
                   try clear hfz47_4
                   try clear hfz47_5
                   try clear hfz48_0
                   try clear hfz48_1
                   try clear hfz50_0
                   try clear hfz50_1
                   try clear hx28_0
                   try clear hx814_0
                   try clear hx814_1
                   try clear hx814_2
                   try clear hx814_3
                   try clear hx814_4
                   try clear hx816_0
                   try clear hx816_1
                   try clear hx816_2
                   try clear hx816_3
                   try clear hx817_0
                   try clear hx819_0
                   try clear hx819_1
                   try clear hx819_2
                   try clear hx819_3
                   try clear hx819_4
                   try clear hx819_5
                   try clear hx830_0
                   try clear p2
                   try clear p28
                   try clear p6
                   try clear p8
                   try clear p814
                   try clear p816
                   try clear p817
                   try clear p819
                   try clear p830
                   try clear q2
                   try clear q28
                   try clear q8
                   try clear q814
                   try clear q816
                   try clear q817
                   try clear q819
                   try clear q830
                   obtain ⟨kq, x126_43, rfl, HA, HJ43, HO_10, HO_16, BK808, BK820, HB⟩ := hcut
                   cases kq with
                   | zero => exact absurd HA.out (by simp [cottonpadlaw06_ExitsLostA.j3])
                   | succ kj43 =>
                    have H := HA.out
                    clear HA
                    simp only [cottonpadlaw06_ExitsLostA.j3] at H
                    by_cases c60 : x126_43 = true
                    ·subst c60
                     have H1 : (some false) = some r := by rw [if_pos rfl] at H; exact H
                     clear H
                     have H := H1
                     clear H1
                     exact absurd (H.trans (congrArg some HRT.out)) (by simp)
                    ·replace c60 := Bool.eq_false_iff.mpr c60
                     subst c60
                     have H1 : (cottonpadlaw06_ExitsLostA.l2 kj43 l1 t809 l1 x10_3 x13_3 t821 l0_0 (l0_0.length : Int) x87_3 (t821.length : Int) 0 l0_0 l0_1 ((rd_T62 l0_0 x87_3).f0) ((rd_T62 l0_0 x87_3).f1) ((rd_T62 l0_0 x87_3).f2.f0) ((rd_T62 l0_0 x87_3).f2.f1) ((rd_T62 l0_0 x87_3).f3.f0) ((rd_T62 l0_0 x87_3).f3.f1)) = some r := by rw [if_neg (show ¬ (false = true) by decide)] at H; exact H
                     clear H
                     have H := H1
                     clear H1
                     have H' := Aside0.mk H
                     clear H
                     obtain ⟨Ao61, co61, eo61⟩ := Kd.R_slice HO_16.out
                     subst eo61
                     go_wp2
                     go_loopg [129] kj43 (fun kq v129 w' => ∃ (x129_5 : Int), v129 = .int .i64 x129_5 ∧ Aside0 (cottonpadlaw06_ExitsLostA.l2 kq l1 t809 l1 x10_3 x13_3 t821 l0_0 (l0_0.length : Int) x87_3 (t821.length : Int) x129_5 l0_0 l0_1 ((rd_T62 l0_0 x87_3).f0) ((rd_T62 l0_0 x87_3).f1) ((rd_T62 l0_0 x87_3).f2.f0) ((rd_T62 l0_0 x87_3).f2.f1) ((rd_T62 l0_0 x87_3).f3.f0) ((rd_T62 l0_0 x87_3).f3.f1) = some r) ∧ Aside0 (kq ≤ kj43) ∧ Aside0 (Kd.R (Kd.int .i64) 3 w' w.heap.size (fun _ => True) v812 x10_3) ∧ Aside0 (Kd.R k36 36 w' w.heap.size (fun _ => True) (.slice Ao61 t821.length co61) t821) ∧ Aside0 (w'.heap[gb808]? = some (.cells #[(.slice (some ad819) l0_0.length c0_0), (.slice A0_1 l0_1.length c0_1)] 25 (0, 0))) ∧ Aside0 (w'.heap[gb820]? = some (.cells #[.int .i64 ((rd_T62 l0_0 x87_3).f0), .int .i64 ((rd_T62 l0_0 x87_3).f1), .int .i64 ((rd_T62 l0_0 x87_3).f2.f0), .int .i64 ((rd_T62 l0_0 x87_3).f2.f1), .int .i64 ((rd_T62 l0_0 x87_3).f3.f0), .int .i64 ((rd_T62 l0_0 x87_3).f3.f1)] 62 (0, 0))) ∧ Aside0 (Below w.heap.size w w'))
                     case atStart => exact ⟨(0), (by first | rfl | (simp; done) | (simp [*]; done)), H', ⟨Nat.le_refl _⟩, ⟨by (with_reducible repeat (first | apply Kd.R_alloc | apply Kd.R_drewN | apply Kd.R_drew)); exact HO_10.out⟩, ⟨by (with_reducible repeat (first | apply Kd.R_alloc | apply Kd.R_drewN | apply Kd.R_drew)); exact HO_16.out⟩, ⟨by refine bx_ ?_; exact BK808.out⟩, ⟨by refine bx_ ?_; exact BK820.out⟩, ⟨be2_ HB GE808 GE820⟩⟩
                     case round =>
                       clear H'
                       try clear c1
                       try clear c2
                       try clear p2
                       try clear q2
                       try clear hx2
                       try clear c3
                       try clear c4
                       try clear c5
                       try clear c6
                       try clear p6
                       try clear p8
                       try clear q8
                       try clear hx8
                       try clear c9
                       try clear c11
                       try clear c14
                       try clear c15
                       try clear c15b0
                       try clear c15b1
                       try clear c16
                       try clear c16b0
                       try clear c16b1
                       try clear c17
                       try clear c17b0
                       try clear c17b1
                       try clear c21
                       try clear c21b0
                       try clear c22
                       try clear c22b0
                       try clear c23
                       try clear c23b0
                       try clear c24
                       try clear c24b0
                       try clear c25
                       try clear c25b0
                       try clear c26
                       try clear c26b0
                       try clear c27
                       try clear c27b0
                       try clear p28
                       try clear q28
                       try clear hx28
                       try clear hf28
                       try clear c30
                       try clear c36
                       try clear c39
                       try clear c39b0
                       try clear c40
                       try clear c40b0
                       try clear c41
                       try clear c41b0
                       try clear c46
                       try clear c52
                       try clear c52b0
                       try clear c52b1
                       try clear c53
                       try clear c53b0
                       try clear c53b1
                       try clear c55
                       try clear c56
                       try clear c56b0
                       try clear c60
                       try clear hcz10_0
                       try clear hcz10_1
                       try clear hcz12_0
                       try clear hcz12_1
                       try clear hcz18_0
                       try clear hcz18_1
                       try clear hcz31_0
                       try clear hcz31_1
                       try clear hcz31_2
                       try clear hcz31_3
                       try clear hcz31_4
                       try clear hcz33_0
                       try clear hcz33_1
                       try clear hcz34_0
                       try clear hcz34_1
                       try clear hcz34_2
                       try clear hcz34_3
                       try clear hcz34_4
                       try clear hcz38_0
                       try clear hcz38_1
                       try clear hcz47_0
                       try clear hcz47_1
                       try clear hcz47_2
                       try clear hcz47_3
                       try clear hcz47_4
                       try clear hcz47_5
                       try clear hcz48_0
                       try clear hcz48_1
                       try clear hcz50_0
                       try clear hcz50_1
                       try clear hfz10_0
                       try clear hfz10_1
                       try clear hfz12_0
                       try clear hfz12_1
                       try clear hfz18_0
                       try clear hfz18_1
                       try clear hfz31_0
                       try clear hfz31_1
                       try clear hfz31_2
                       try clear hfz31_3
                       try clear hfz31_4
                       try clear hfz33_0
                       try clear hfz33_1
                       try clear hfz34_0
                       try clear hfz34_1
                       try clear hfz34_2
                       try clear hfz34_3
                       try clear hfz34_4
                       try clear hfz38_0
                       try clear hfz38_1
                       try clear hfz47_0
                       try clear hfz47_1
                       try clear hfz47_2
                       try clear hfz47_3
                       try clear hfz47_4
                       try clear hfz47_5
                       try clear hfz48_0
                       try clear hfz48_1
                       try clear hfz50_0
                       try clear hfz50_1
                       try clear hx28_0
                       try clear hx814_0
                       try clear hx814_1
                       try clear hx814_2
                       try clear hx814_3
                       try clear hx814_4
                       try clear hx816_0
                       try clear hx816_1
                       try clear hx816_2
                       try clear hx816_3
                       try clear hx817_0
                       try clear hx819_0
                       try clear hx819_1
                       try clear hx819_2
                       try clear hx819_3
                       try clear hx819_4
                       try clear hx819_5
                       try clear hx830_0
                       try clear p2
                       try clear p28
                       try clear p6
                       try clear p8
                       try clear p814
                       try clear p816
                       try clear p817
                       try clear p819
                       try clear p830
                       try clear q2
                       try clear q28
                       try clear q8
                       try clear q814
                       try clear q816
                       try clear q817
                       try clear q819
                       try clear q830
                       obtain ⟨x129_5, rfl, HA, HK5, HO_10, HO_16, BK808, BK820, HB⟩ := hrel
                       cases gk with
                       | zero => exact absurd HA.out (by simp [cottonpadlaw06_ExitsLostA.l2])
                       | succ k5 =>
                        have H := HA.out
                        clear HA
                        simp only [cottonpadlaw06_ExitsLostA.l2] at H
                        by_cases c62 : x129_5 < (t821.length : Int)
                        ·rw [if_pos c62] at H
                         have c62b0 : decide (x129_5 < (t821.length : Int)) = true := decide_eq_true c62
                         clear c62
                         by_cases c63 : x129_5 > 0
                         ·rw [if_pos c63] at H
                          have c63b0 : decide (0 < x129_5) = true := decide_eq_true c63
                          clear c63
                          by_cases c64 : 0 ≤ x129_5
                          ·rw [if_pos c64] at H
                           have c64b0 : decide (0 ≤ x129_5) = true := decide_eq_true c64
                           clear c64
                           by_cases c65 : x129_5 < (t821.length : Int)
                           ·rw [if_pos c65] at H
                            have c65b0 : decide (x129_5 < (t821.length : Int)) = true := decide_eq_true c65
                            clear c65
                            obtain ⟨ji66, hji66⟩ : ∃ j_ : Int, (wrap64 (x129_5 - 1)) = j_ := ⟨_, rfl⟩
                            replace H : (if 0 ≤ (ji66) then (if (ji66) < (t821.length : Int) then (if ((rd_T36 t821 x129_5).f0) < (wrap64 (((rd_T36 t821 (ji66)).f0) + ((rd_T62 l0_0 x87_3).f1))) then (some false) else (if ((rd_T36 t821 x129_5).f1) < (wrap64 (((rd_T36 t821 (ji66)).f1) + ((rd_T62 l0_0 x87_3).f1))) then (some false) else (cottonpadlaw06_ExitsLostA.l2 k5 l1 t809 l1 x10_3 x13_3 t821 l0_0 (l0_0.length : Int) x87_3 (t821.length : Int) (wrap64 (x129_5 + 1)) l0_0 l0_1 ((rd_T62 l0_0 x87_3).f0) ((rd_T62 l0_0 x87_3).f1) ((rd_T62 l0_0 x87_3).f2.f0) ((rd_T62 l0_0 x87_3).f2.f1) ((rd_T62 l0_0 x87_3).f3.f0) ((rd_T62 l0_0 x87_3).f3.f1)))) else (none)) else (none)) = some r := by first | (rw [hji66] at H; exact H) | (simp only [hji66] at H ⊢; exact H)
                            have hji66w : (IntKind.i64.wrap (x129_5 - 1)) = ji66 := (i64_w _).trans hji66
                            by_cases c67 : 0 ≤ (ji66)
                            ·rw [if_pos c67] at H
                             have c67b0 : decide (0 ≤ (ji66)) = true := decide_eq_true c67
                             clear c67
                             by_cases c68 : (ji66) < (t821.length : Int)
                             ·rw [if_pos c68] at H
                              have c68b0 : decide ((ji66) < (t821.length : Int)) = true := decide_eq_true c68
                              clear c68
                              by_cases c69 : ((rd_T36 t821 x129_5).f0) < (wrap64 (((rd_T36 t821 (ji66)).f0) + ((rd_T62 l0_0 x87_3).f1)))
                              ·rw [if_pos c69] at H
                               have c69b0 : decide (((rd_T36 t821 x129_5).f0) < (wrap64 (((rd_T36 t821 (ji66)).f0) + ((rd_T62 l0_0 x87_3).f1)))) = true := decide_eq_true c69
                               clear c69
                               exact absurd (H.trans (congrArg some HRT.out)) (by simp)
                              ·rw [if_neg c69] at H
                               have c69b0 : decide (((rd_T36 t821 x129_5).f0) < (wrap64 (((rd_T36 t821 (ji66)).f0) + ((rd_T62 l0_0 x87_3).f1)))) = false := decide_eq_false c69
                               clear c69
                               by_cases c70 : ((rd_T36 t821 x129_5).f1) < (wrap64 (((rd_T36 t821 (ji66)).f1) + ((rd_T62 l0_0 x87_3).f1)))
                               ·rw [if_pos c70] at H
                                have c70b0 : decide (((rd_T36 t821 x129_5).f1) < (wrap64 (((rd_T36 t821 (ji66)).f1) + ((rd_T62 l0_0 x87_3).f1)))) = true := decide_eq_true c70
                                clear c70
                                exact absurd (H.trans (congrArg some HRT.out)) (by simp)
                               ·rw [if_neg c70] at H
                                have c70b0 : decide (((rd_T36 t821 x129_5).f1) < (wrap64 (((rd_T36 t821 (ji66)).f1) + ((rd_T62 l0_0 x87_3).f1)))) = false := decide_eq_false c70
                                clear c70
                                have H' := Aside0.mk H
                                clear H
                                try go_wp2
                                replace HO_10 := Aside0.mk (Kd.R_drew HO_10.out)
                                replace HO_16 := Aside0.mk (Kd.R_drew HO_16.out)
                                replace BK808 := Aside0.mk (blk_drew BK808.out)
                                replace BK820 := Aside0.mk (blk_drew BK820.out)
                                replace HB := Aside0.mk (below_drew1 HB.out)
                                have p831 : 0 ≤ (x129_5 : Int) := of_decide_eq_true as_
                                have q831 : x129_5 < (t821.length : Int) := of_decide_eq_true as_
                                obtain ⟨ad831, e831, hx831_0, hx831_1⟩ := at_T36 (Kd.R_reads' HO_16.out).2.2 x129_5 p831 q831
                                cases e831
                                replace p831 := eq_true p831
                                replace q831 := eq_true q831
                                have p832 : 0 ≤ ((ji66) : Int) := of_decide_eq_true as_
                                have q832 : (ji66) < (t821.length : Int) := of_decide_eq_true as_
                                obtain ⟨ad832, e832, hx832_0, hx832_1⟩ := at_T36 (Kd.R_reads' HO_16.out).2.2 (ji66) p832 q832
                                obtain rfl : ad831 = ad832 := (by injection e832)
                                replace p832 := eq_true p832
                                replace q832 := eq_true q832
                                have p833 : 0 ≤ (x129_5 : Int) := of_decide_eq_true as_
                                have q833 : x129_5 < (t821.length : Int) := of_decide_eq_true as_
                                obtain ⟨ad833, e833, hx833_0, hx833_1⟩ := at_T36 (Kd.R_reads' HO_16.out).2.2 x129_5 p833 q833
                                obtain rfl : ad831 = ad833 := (by injection e833)
                                replace p833 := eq_true p833
                                replace q833 := eq_true q833
                                have p834 : 0 ≤ ((ji66) : Int) := of_decide_eq_true as_
                                have q834 : (ji66) < (t821.length : Int) := of_decide_eq_true as_
                                obtain ⟨ad834, e834, hx834_0, hx834_1⟩ := at_T36 (Kd.R_reads' HO_16.out).2.2 (ji66) p834 q834
                                obtain rfl : ad831 = ad834 := (by injection e834)
                                replace p834 := eq_true p834
                                replace q834 := eq_true q834
                                refine start_ (n := 36) (S := fun w' => w'.cell? ⟨gb820, 0, none⟩ = some (.int .i64 ((rd_T62 l0_0 x87_3).f0)) ∧ w'.cell? ⟨gb820, 1, none⟩ = some (.int .i64 ((rd_T62 l0_0 x87_3).f1)) ∧ w'.cell? ⟨gb820, 2, none⟩ = some (.int .i64 ((rd_T62 l0_0 x87_3).f2.f0)) ∧ w'.cell? ⟨gb820, 3, none⟩ = some (.int .i64 ((rd_T62 l0_0 x87_3).f2.f1)) ∧ w'.cell? ⟨gb820, 4, none⟩ = some (.int .i64 ((rd_T62 l0_0 x87_3).f3.f0)) ∧ w'.cell? ⟨gb820, 5, none⟩ = some (.int .i64 ((rd_T62 l0_0 x87_3).f3.f1)) ∧ w'.cell? (ad831.add ((x129_5).toNat * 2)) = some (.int .i64 ((rd_T36 t821 x129_5).f0)) ∧ w'.cell? ⟨(ad831.add ((x129_5).toNat * 2)).block, (ad831.add ((x129_5).toNat * 2)).off + 1, none⟩ = some (.int .i64 ((rd_T36 t821 x129_5).f1)) ∧ w'.cell? (ad831.add (((ji66)).toNat * 2)) = some (.int .i64 ((rd_T36 t821 (ji66)).f0)) ∧ w'.cell? ⟨(ad831.add (((ji66)).toNat * 2)).block, (ad831.add (((ji66)).toNat * 2)).off + 1, none⟩ = some (.int .i64 ((rd_T36 t821 (ji66)).f1)) ∧ w'.cell? (ad831.add ((x129_5).toNat * 2)) = some (.int .i64 ((rd_T36 t821 x129_5).f0)) ∧ w'.cell? ⟨(ad831.add ((x129_5).toNat * 2)).block, (ad831.add ((x129_5).toNat * 2)).off + 1, none⟩ = some (.int .i64 ((rd_T36 t821 x129_5).f1)) ∧ w'.cell? (ad831.add (((ji66)).toNat * 2)) = some (.int .i64 ((rd_T36 t821 (ji66)).f0)) ∧ w'.cell? ⟨(ad831.add (((ji66)).toNat * 2)).block, (ad831.add (((ji66)).toNat * 2)).off + 1, none⟩ = some (.int .i64 ((rd_T36 t821 (ji66)).f1))) (ds := []) (bm_ 36 0) (by decide +kernel) rfl rfl ⟨bc_ BK820 0, bc_ BK820 1, bc_ BK820 2, bc_ BK820 3, bc_ BK820 4, bc_ BK820 5, hx831_0, hx831_1, hx832_0, hx832_1, hx833_0, hx833_1, hx834_0, hx834_1⟩ (fun hHeld => ?_); refine with_tabW cottonpadlaw06_ExitsLostA.tab25 cottonpadlaw06_ExitsLostA.bits25 (fun HT_ HW_ => ?_)
                                generalize wr.drew = w71 at HO_10 HO_16 BK808 BK820 HB hx831_0 hx831_1 hx832_0 hx832_1 hx833_0 hx833_1 hx834_0 hx834_1 hHeld ⊢
                                refine pr2_ 0 132 36 1 HT_ rfl rfl ?_
                                refine pr2_ 1 133 36 3 HT_ rfl rfl ?_
                                refine pr2_ 2 134 36 7 HT_ rfl rfl ?_
                                refine pr2_ 3 135 36 15 HT_ rfl rfl ?_
                                refine pr2_ 4 136 36 31 HT_ rfl rfl ?_
                                refine pr2_ 5 137 36 63 HT_ rfl rfl ?_
                                refine pr2_ 6 138 36 127 HT_ rfl rfl ?_
                                refine pr2_ 8 140 36 383 HT_ rfl rfl ?_
                                refine pr2_ 9 141 36 895 HT_ rfl rfl ?_
                                refine pr2_ 10 142 36 1919 HT_ rfl rfl ?_
                                refine pr2_ 11 143 36 3967 HT_ rfl rfl ?_
                                refine pr2_ 12 144 36 8063 HT_ rfl rfl ?_
                                refine pr2_ 14 146 36 24447 HT_ rfl rfl ?_
                                refine ta2_ 7 139 36 24575 HT_ HW_ rfl rfl hHeld ?_
                                refine ta2_ 13 145 36 32767 HT_ HW_ rfl rfl hHeld ?_
                                refine ta2_ 15 147 36 65535 HT_ HW_ rfl rfl hHeld ?_
                                refine pr2_ 16 148 36 131071 HT_ rfl rfl ?_
                                refine pr2_ 17 149 36 262143 HT_ rfl rfl ?_
                                refine pr2_ 18 150 36 524287 HT_ rfl rfl ?_
                                refine pr2_ 19 151 36 1048575 HT_ rfl rfl ?_
                                refine pr2_ 20 152 36 2097151 HT_ rfl rfl ?_
                                refine pr2_ 21 153 36 4194303 HT_ rfl rfl ?_
                                refine pr2_ 22 154 36 8388607 HT_ rfl rfl ?_
                                refine pr2_ 24 156 36 25165823 HT_ rfl rfl ?_
                                refine pr2_ 25 157 36 58720255 HT_ rfl rfl ?_
                                refine pr2_ 26 158 36 125829119 HT_ rfl rfl ?_
                                refine pr2_ 27 159 36 260046847 HT_ rfl rfl ?_
                                refine pr2_ 28 160 36 528482303 HT_ rfl rfl ?_
                                refine pr2_ 30 162 36 1602224127 HT_ rfl rfl ?_
                                refine ta2_ 23 155 36 1610612735 HT_ HW_ rfl rfl hHeld ?_
                                refine ta2_ 29 161 36 2147483647 HT_ HW_ rfl rfl hHeld ?_
                                refine ta2_ 31 163 36 4294967295 HT_ HW_ rfl rfl hHeld ?_
                                refine pr2_ 32 164 36 8589934591 HT_ rfl rfl ?_
                                refine pr2_ 33 165 36 17179869183 HT_ rfl rfl ?_
                                refine pr2_ 34 166 36 34359738367 HT_ rfl rfl ?_
                                refine pr2_ 35 167 36 68719476735 HT_ rfl rfl ?_
                                refine done_ (done_of HT_.out (by decide +kernel)) ?_
                                try go_wp2
                                go_roundg k5
                                case measure => have := HJ4.out; have := HK2.out; have := HK3.out; have := HJ43.out; have := HK5.out; omega
                                case rel => exact ⟨(wrap64 (x129_5 + 1)), (by first | rfl | (simp; done) | (simp [*]; done)), H', ⟨by have := HJ4.out; have := HK2.out; have := HK3.out; have := HJ43.out; have := HK5.out; omega⟩, ⟨by (with_reducible repeat (first | apply Kd.R_alloc | apply Kd.R_drewN | apply Kd.R_drew)); exact HO_10.out⟩, ⟨by (with_reducible repeat (first | apply Kd.R_alloc | apply Kd.R_drewN | apply Kd.R_drew)); exact HO_16.out⟩, ⟨by refine bx_ ?_; exact BK808.out⟩, ⟨by refine bx_ ?_; exact BK820.out⟩, ⟨be2_ HB GE808 GE820⟩⟩
                             ·rw [if_neg c68] at H
                              exact absurd H (by simp)
                            ·rw [if_neg c67] at H
                             exact absurd H (by simp)
                           ·rw [if_neg c65] at H
                            exact absurd H (by simp)
                          ·rw [if_neg c64] at H
                           exact absurd H (by simp)
                         ·rw [if_neg c63] at H
                          have c63b0 : decide (0 < x129_5) = false := decide_eq_false c63
                          clear c63
                          have H' := Aside0.mk H
                          clear H
                          try go_wp2
                          replace HO_10 := Aside0.mk (Kd.R_drew HO_10.out)
                          replace HO_16 := Aside0.mk (Kd.R_drew HO_16.out)
                          replace BK808 := Aside0.mk (blk_drew BK808.out)
                          replace BK820 := Aside0.mk (blk_drew BK820.out)
                          replace HB := Aside0.mk (below_drew1 HB.out)
                          refine start_ (n := 36) (S := fun w' => True) (ds := []) (bm_ 36 0) (by decide +kernel) rfl rfl trivial (fun hHeld => ?_); refine with_tabW cottonpadlaw06_ExitsLostA.tab25 cottonpadlaw06_ExitsLostA.bits25 (fun HT_ HW_ => ?_)
                          generalize wr.drew = w72 at HO_10 HO_16 BK808 BK820 HB hHeld ⊢
                          refine pr2_ 0 132 36 1 HT_ rfl rfl ?_
                          refine pr2_ 1 133 36 3 HT_ rfl rfl ?_
                          refine pr2_ 2 134 36 7 HT_ rfl rfl ?_
                          refine pn2_ 3 135 36 15 HT_ rfl rfl ?_
                          refine pn2_ 4 136 36 31 HT_ rfl rfl ?_
                          refine pn2_ 5 137 36 63 HT_ rfl rfl ?_
                          refine pn2_ 6 138 36 127 HT_ rfl rfl ?_
                          refine pn2_ 7 139 36 255 HT_ rfl rfl ?_
                          refine pn2_ 8 140 36 511 HT_ rfl rfl ?_
                          refine pn2_ 9 141 36 1023 HT_ rfl rfl ?_
                          refine pn2_ 10 142 36 2047 HT_ rfl rfl ?_
                          refine pn2_ 11 143 36 4095 HT_ rfl rfl ?_
                          refine pn2_ 12 144 36 8191 HT_ rfl rfl ?_
                          refine pn2_ 13 145 36 16383 HT_ rfl rfl ?_
                          refine pn2_ 14 146 36 32767 HT_ rfl rfl ?_
                          refine pn2_ 15 147 36 65535 HT_ rfl rfl ?_
                          refine pn2_ 16 148 36 131071 HT_ rfl rfl ?_
                          refine pn2_ 17 149 36 262143 HT_ rfl rfl ?_
                          refine pn2_ 18 150 36 524287 HT_ rfl rfl ?_
                          refine pn2_ 19 151 36 1048575 HT_ rfl rfl ?_
                          refine pn2_ 20 152 36 2097151 HT_ rfl rfl ?_
                          refine pn2_ 21 153 36 4194303 HT_ rfl rfl ?_
                          refine pn2_ 22 154 36 8388607 HT_ rfl rfl ?_
                          refine pn2_ 23 155 36 16777215 HT_ rfl rfl ?_
                          refine pn2_ 24 156 36 33554431 HT_ rfl rfl ?_
                          refine pn2_ 25 157 36 67108863 HT_ rfl rfl ?_
                          refine pn2_ 26 158 36 134217727 HT_ rfl rfl ?_
                          refine pn2_ 27 159 36 268435455 HT_ rfl rfl ?_
                          refine pn2_ 28 160 36 536870911 HT_ rfl rfl ?_
                          refine pn2_ 29 161 36 1073741823 HT_ rfl rfl ?_
                          refine pn2_ 30 162 36 2147483647 HT_ rfl rfl ?_
                          refine pn2_ 31 163 36 4294967295 HT_ rfl rfl ?_
                          refine pn2_ 32 164 36 8589934591 HT_ rfl rfl ?_
                          refine pn2_ 33 165 36 17179869183 HT_ rfl rfl ?_
                          refine pn2_ 34 166 36 34359738367 HT_ rfl rfl ?_
                          refine pr2_ 35 167 36 68719476735 HT_ rfl rfl ?_
                          refine done_ (done_of HT_.out (by decide +kernel)) ?_
                          try go_wp2
                          go_roundg k5
                          case measure => have := HJ4.out; have := HK2.out; have := HK3.out; have := HJ43.out; have := HK5.out; omega
                          case rel => exact ⟨(wrap64 (x129_5 + 1)), (by first | rfl | (simp; done) | (simp [*]; done)), H', ⟨by have := HJ4.out; have := HK2.out; have := HK3.out; have := HJ43.out; have := HK5.out; omega⟩, ⟨by (with_reducible repeat (first | apply Kd.R_alloc | apply Kd.R_drewN | apply Kd.R_drew)); exact HO_10.out⟩, ⟨by (with_reducible repeat (first | apply Kd.R_alloc | apply Kd.R_drewN | apply Kd.R_drew)); exact HO_16.out⟩, ⟨by refine bx_ ?_; exact BK808.out⟩, ⟨by refine bx_ ?_; exact BK820.out⟩, ⟨be2_ HB GE808 GE820⟩⟩
                        ·rw [if_neg c62] at H
                         have c62b0 : decide (x129_5 < (t821.length : Int)) = false := decide_eq_false c62
                         clear c62
                         by_cases c73 : ((rd_T62 l0_0 x87_3).f0) = (-1)
                         ·rw [if_pos c73] at H
                          have c73b0 : (((rd_T62 l0_0 x87_3).f0) == (-1)) = true := beq_iff_eq.mpr c73
                          have c73b1 : (((rd_T62 l0_0 x87_3).f0) != (-1)) = false := bne_eq_false_iff_eq.mpr c73
                          clear c73
                          have H' := Aside0.mk H
                          clear H
                          have hnb74 := NB820_808.out
                          have hnc74 := NB808_820.out
                          have hcz75_0 : wr.cell? ⟨gb820, 0, none⟩ = some (.int .i64 ((rd_T62 l0_0 x87_3).f0)) := bc_ BK820 0
                          have hcz75_1 : wr.cell? ⟨gb820, 1, none⟩ = some (.int .i64 ((rd_T62 l0_0 x87_3).f1)) := bc_ BK820 1
                          have hcz75_2 : wr.cell? ⟨gb820, 2, none⟩ = some (.int .i64 ((rd_T62 l0_0 x87_3).f2.f0)) := bc_ BK820 2
                          have hcz75_3 : wr.cell? ⟨gb820, 3, none⟩ = some (.int .i64 ((rd_T62 l0_0 x87_3).f2.f1)) := bc_ BK820 3
                          have hcz75_4 : wr.cell? ⟨gb820, 4, none⟩ = some (.int .i64 ((rd_T62 l0_0 x87_3).f3.f0)) := bc_ BK820 4
                          have hcz75_5 : wr.cell? ⟨gb820, 5, none⟩ = some (.int .i64 ((rd_T62 l0_0 x87_3).f3.f1)) := bc_ BK820 5
                          have hfz75_0 := blk_frozen BK820.out 0
                          have hfz75_1 := blk_frozen BK820.out 1
                          have hfz75_2 := blk_frozen BK820.out 2
                          have hfz75_3 := blk_frozen BK820.out 3
                          have hfz75_4 := blk_frozen BK820.out 4
                          have hfz75_5 := blk_frozen BK820.out 5
                          go_wp2
                          go_roundg k5
                          case measure => have := HJ4.out; have := HK2.out; have := HK3.out; have := HJ43.out; have := HK5.out; omega
                          case rel => exact ⟨(x10_3), (wrap64 (x13_3 + (t821.length : Int))), (wrap64 (x87_3 + 1)), (by first | rfl | (simp; done) | (simp [*]; done)), (by first | rfl | (simp; done) | (simp [*]; done)), H', ⟨by have := HJ4.out; have := HK2.out; have := HK3.out; have := HJ43.out; have := HK5.out; omega⟩, ⟨by (with_reducible repeat (first | apply Kd.R_alloc | apply Kd.R_drewN | apply Kd.R_drew)); exact HO_10.out⟩, ⟨by refine bx_ ?_; exact BK808.out⟩, ⟨be2_ HB GE808 GE820⟩⟩
                         ·rw [if_neg c73] at H
                          have c73b0 : (((rd_T62 l0_0 x87_3).f0) == (-1)) = false := beq_eq_false_iff_ne.mpr c73
                          have c73b1 : (((rd_T62 l0_0 x87_3).f0) != (-1)) = true := bne_iff_ne.mpr c73
                          by_cases c76 : 0 ≤ ((rd_T62 l0_0 x87_3).f0)
                          ·rw [if_pos c76] at H
                           have c76b0 : decide (0 ≤ ((rd_T62 l0_0 x87_3).f0)) = true := decide_eq_true c76
                           clear c76
                           by_cases c77 : ((rd_T62 l0_0 x87_3).f0) < (x10_3.length : Int)
                           ·rw [if_pos c77] at H
                            have c77b0 : decide (((rd_T62 l0_0 x87_3).f0) < (x10_3.length : Int)) = true := decide_eq_true c77
                            clear c77
                            obtain ⟨y836, hy836⟩ : ∃ y_ : List Int, y_ = (x10_3.set (((rd_T62 l0_0 x87_3).f0) : Int).toNat (wrap64 ((rd x10_3 ((rd_T62 l0_0 x87_3).f0)) + (t821.length : Int)))) := ⟨_, rfl⟩
                            replace H : (cottonpadlaw06_ExitsLostA.l1 k5 l1 t809 l1 y836 x13_3 l0_0 (l0_0.length : Int) (wrap64 (x87_3 + 1)) l0_0 l0_1) = some r := by first | (rw [hy836]; with_reducible exact H) | (have H2_ := (Option.bind_some _ _).symm.trans H; rw [hy836]; with_reducible exact H2_) | (have H2_ := (Option.bind_some _ _).symm.trans H; with_reducible exact H2_) | with_reducible exact H | (rw [hy836]; exact H) | exact H
                            have Ny836 := Aside0.mk hy836
                            clear hy836
                            have H' := Aside0.mk H
                            clear H
                            have hnb79 := NB820_808.out
                            have hnc79 := NB808_820.out
                            have hcz80_0 : wr.cell? ⟨gb820, 0, none⟩ = some (.int .i64 ((rd_T62 l0_0 x87_3).f0)) := bc_ BK820 0
                            have hcz80_1 : wr.cell? ⟨gb820, 1, none⟩ = some (.int .i64 ((rd_T62 l0_0 x87_3).f1)) := bc_ BK820 1
                            have hcz80_2 : wr.cell? ⟨gb820, 2, none⟩ = some (.int .i64 ((rd_T62 l0_0 x87_3).f2.f0)) := bc_ BK820 2
                            have hcz80_3 : wr.cell? ⟨gb820, 3, none⟩ = some (.int .i64 ((rd_T62 l0_0 x87_3).f2.f1)) := bc_ BK820 3
                            have hcz80_4 : wr.cell? ⟨gb820, 4, none⟩ = some (.int .i64 ((rd_T62 l0_0 x87_3).f3.f0)) := bc_ BK820 4
                            have hcz80_5 : wr.cell? ⟨gb820, 5, none⟩ = some (.int .i64 ((rd_T62 l0_0 x87_3).f3.f1)) := bc_ BK820 5
                            have hfz80_0 := blk_frozen BK820.out 0
                            have hfz80_1 := blk_frozen BK820.out 1
                            have hfz80_2 := blk_frozen BK820.out 2
                            have hfz80_3 := blk_frozen BK820.out 3
                            have hfz80_4 := blk_frozen BK820.out 4
                            have hfz80_5 := blk_frozen BK820.out 5
                            obtain ⟨Ao81, co81, eo81⟩ := Kd.R_slice HO_10.out
                            subst eo81
                            have p835 : 0 ≤ (((rd_T62 l0_0 x87_3).f0) : Int) := of_decide_eq_true as_
                            have q835 : ((rd_T62 l0_0 x87_3).f0) < (x10_3.length : Int) := of_decide_eq_true as_
                            obtain ⟨ad835, e835, hx835_0⟩ := Kd.at_int (Kd.R_reads' HO_10.out).2.2 ((rd_T62 l0_0 x87_3).f0) p835 q835
                            cases e835
                            replace p835 := eq_true p835
                            replace q835 := eq_true q835
                            have p78 : 0 ≤ (((rd_T62 l0_0 x87_3).f0) : Int) := of_decide_eq_true as_
                            have q78 : (((rd_T62 l0_0 x87_3).f0) : Int) < ((x10_3.length : Int) : Int) := of_decide_eq_true as_
                            obtain ⟨go78, co78, eo78, gb78, gl78, cl78, HG78⟩ := Kd.R_form HO_10.out (by omega)
                            (first | cases eo78 | (injection eo78 with ea_ en_ ec_; (first | subst ea_ | (injection ea_ with ea_; subst ea_)); subst ec_; clear en_))
                            have GB78 := Aside0.mk gb78
                            have GG78 := Aside0.mk HG78
                            clear gb78 gl78 HG78
                            (first | simp only [add_plain] at hx835_0 | skip)
                            obtain ⟨hx78_0, hf78_0⟩ := Kd.R_celln 0 HO_10.out (((rd_T62 l0_0 x87_3).f0) : Int) p78 q78
                            replace p78 := eq_true p78
                            replace q78 := eq_true q78
                            have HP82 := Kd.R_putg HO_10.out (((rd_T62 l0_0 x87_3).f0) : Int) (wrap64 ((rd x10_3 ((rd_T62 l0_0 x87_3).f0)) + (t821.length : Int)))
                            go_wp2_with (first | ((with_reducible refine gate_store (t := 3) (p := 184) rfl ?_); refine store_event (t := 3) (p := 184) (v := ?vo_w83) (w1 := (wr.setCell ⟨go78, (((rd_T62 l0_0 x87_3).f0) : Int).toNat, none⟩ (.int .i64 (wrap64 ((rd x10_3 ((rd_T62 l0_0 x87_3).f0)) + (t821.length : Int)))))) ?hg ?ho ?hn ?hr ?_; (case ho => rfl); (case hg => rfl); (case hn => rfl); (case hr => exact gs_); intro w83 hw; have hg : wr.grownBy w83 (some go78) := (by rw [hw]; exact HP82.2); have hp_ : Kd.R (Kd.int .i64) 3 w83 w.heap.size (fun _ => True) (.slice (some ⟨go78, 0, none⟩) x10_3.length co81) y836 := (by rw [hw, Ny836.out]; exact HP82.1); clear HP82; replace HO_16 := Aside0.mk (Kd.R_over' (v := (.slice (some ⟨go78, 0, none⟩) x10_3.length co81)) (ro_ HO_16) (Kd.R_typed HO_10.out) (by decide) hg); replace BK808 := Aside0.mk (blk_grown (g := gb808) (o := .cells #[.slice (some ad819) l0_0.length c0_0, .slice A0_1 l0_1.length c0_1] 25 (0, 0)) (bk_ BK808) hg (Kd.R_ne HO_10.out BK808.out (by decide))); replace BK820 := Aside0.mk (blk_grown (g := gb820) (o := .cells #[.int .i64 ((rd_T62 l0_0 x87_3).f0), .int .i64 ((rd_T62 l0_0 x87_3).f1), .int .i64 ((rd_T62 l0_0 x87_3).f2.f0), .int .i64 ((rd_T62 l0_0 x87_3).f2.f1), .int .i64 ((rd_T62 l0_0 x87_3).f3.f0), .int .i64 ((rd_T62 l0_0 x87_3).f3.f1)] 62 (0, 0)) (bk_ BK820) hg (Kd.R_ne HO_10.out BK820.out (by decide))); replace HO_10 := Aside0.mk (hp_); replace HB := Aside0.mk ((by rw [hw]; exact below_set (HB.out) GB78.out : Below w.heap.size w w83)); clear hg hw hp_))
                            go_roundg k5
                            case measure => have := HJ4.out; have := HK2.out; have := HK3.out; have := HJ43.out; have := HK5.out; omega
                            case rel => exact ⟨(y836), (x13_3), (wrap64 (x87_3 + 1)), (by first | rfl | (simp; done) | (simp [*]; done)), (by first | rfl | (simp; done) | (simp [*]; done)), H', ⟨by have := HJ4.out; have := HK2.out; have := HK3.out; have := HJ43.out; have := HK5.out; omega⟩, ⟨by (with_reducible repeat (first | apply Kd.R_alloc | apply Kd.R_drewN | apply Kd.R_drew)); exact HO_10.out⟩, ⟨by refine bx_ ?_; exact BK808.out⟩, ⟨be2_ HB GE808 GE820⟩⟩
                           ·rw [if_neg c77] at H
                            exact absurd H (by simp)
                          ·rw [if_neg c76] at H
                           exact absurd H (by simp)
                ·rw [if_neg c41] at H
                 exact absurd H (by simp)
               ·rw [if_neg c40] at H
                exact absurd H (by simp)
              ·rw [if_neg c39] at H
               have c39b0 : decide (x87_3 < (l0_0.length : Int)) = false := decide_eq_false c39
               clear c39
               replace H := Option.bind_eq_some_iff.mp H
               obtain ⟨⟨t837, t838, t839⟩, A840, H⟩ := H
               replace H : ((exits_Out.f l0_0 l0_1 l1).bind fun bt841 => ((exits_Safe.f l0_0 l0_1 l1).bind fun bt845 => ((exits_Safe.f l0_0 l0_1 l1).bind fun bt849 => (if t809 = true then (if x13_3 = (l1.length : Int) then (if t839 = 0 then (if bt841.2.2 = 0 then (if (t837 == bt841.1 && (t838 == bt841.2.1)) = true then (if bt845.2.2.2 = 0 then (if bt849.2.2.2 = 0 then (if bt845.1 = bt849.1 then (if bt845.2.1 = bt849.2.1 then (some (bt845.2.2.1 == bt849.2.2.1)) else (some false)) else (some false)) else (some false)) else (some false)) else (some false)) else (some false)) else (some false)) else (some false)) else (some false))))) = some r := H
               have A84 := Aside0.mk A840
               clear A840
               replace H := Option.bind_eq_some_iff.mp H
               obtain ⟨⟨t841, t842, t843⟩, A850, H⟩ := H
               replace H : ((exits_Safe.f l0_0 l0_1 l1).bind fun bt845 => ((exits_Safe.f l0_0 l0_1 l1).bind fun bt849 => (if t809 = true then (if x13_3 = (l1.length : Int) then (if t839 = 0 then (if t843 = 0 then (if (t837 == t841 && (t838 == t842)) = true then (if bt845.2.2.2 = 0 then (if bt849.2.2.2 = 0 then (if bt845.1 = bt849.1 then (if bt845.2.1 = bt849.2.1 then (some (bt845.2.2.1 == bt849.2.2.1)) else (some false)) else (some false)) else (some false)) else (some false)) else (some false)) else (some false)) else (some false)) else (some false)) else (some false)))) = some r := H
               have A85 := Aside0.mk A850
               clear A850
               replace H := Option.bind_eq_some_iff.mp H
               obtain ⟨⟨t845, t846, t847, t848⟩, A860, H⟩ := H
               replace H : ((exits_Safe.f l0_0 l0_1 l1).bind fun bt849 => (if t809 = true then (if x13_3 = (l1.length : Int) then (if t839 = 0 then (if t843 = 0 then (if (t837 == t841 && (t838 == t842)) = true then (if t848 = 0 then (if bt849.2.2.2 = 0 then (if t845 = bt849.1 then (if t846 = bt849.2.1 then (some (t847 == bt849.2.2.1)) else (some false)) else (some false)) else (some false)) else (some false)) else (some false)) else (some false)) else (some false)) else (some false)) else (some false))) = some r := H
               have A86 := Aside0.mk A860
               clear A860
               replace H := Option.bind_eq_some_iff.mp H
               obtain ⟨⟨t849, t850, t851, t852⟩, A870, H⟩ := H
               replace H : (if t809 = true then (if x13_3 = (l1.length : Int) then (if t839 = 0 then (if t843 = 0 then (if (t837 == t841 && (t838 == t842)) = true then (if t848 = 0 then (if t852 = 0 then (if t845 = t849 then (if t846 = t850 then (some (t847 == t851)) else (some false)) else (some false)) else (some false)) else (some false)) else (some false)) else (some false)) else (some false)) else (some false)) else (some false)) = some r := H
               have A87 := Aside0.mk A870
               clear A870
               by_cases c88 : t809 = true
               ·subst c88
                have H1 : (if x13_3 = (l1.length : Int) then (if t839 = 0 then (if t843 = 0 then (if (t837 == t841 && (t838 == t842)) = true then (if t848 = 0 then (if t852 = 0 then (if t845 = t849 then (if t846 = t850 then (some (t847 == t851)) else (some false)) else (some false)) else (some false)) else (some false)) else (some false)) else (some false)) else (some false)) else (some false)) = some r := by rw [if_pos rfl] at H; exact H
                clear H
                have H := H1
                clear H1
                by_cases c89 : x13_3 = (l1.length : Int)
                ·rw [if_pos c89] at H
                 have c89b0 : (x13_3 == (l1.length : Int)) = true := beq_iff_eq.mpr c89
                 have c89b1 : (x13_3 != (l1.length : Int)) = false := bne_eq_false_iff_eq.mpr c89
                 clear c89
                 by_cases c90 : t839 = 0
                 ·rw [if_pos c90] at H
                  have c90b0 : (t839 == 0) = true := beq_iff_eq.mpr c90
                  have c90b1 : (t839 != 0) = false := bne_eq_false_iff_eq.mpr c90
                  clear c90
                  by_cases c91 : t843 = 0
                  ·rw [if_pos c91] at H
                   have c91b0 : (t843 == 0) = true := beq_iff_eq.mpr c91
                   have c91b1 : (t843 != 0) = false := bne_eq_false_iff_eq.mpr c91
                   clear c91
                   by_cases c92 : (t837 == t841 && (t838 == t842)) = true
                   ·rw [if_pos c92] at H
                    have c92b0 : (t837 == t841 && (t838 == t842)) = true := c92
                    (try (have c92b1 : decide (t837 = t841 && (t838 == t842)) = true := by simpa using c92))
                    (try (have c92b2 : (t837 == t841 && (t838 == t842)) = true := by simpa using c92))
                    clear c92
                    by_cases c93 : t848 = 0
                    ·rw [if_pos c93] at H
                     have c93b0 : (t848 == 0) = true := beq_iff_eq.mpr c93
                     have c93b1 : (t848 != 0) = false := bne_eq_false_iff_eq.mpr c93
                     clear c93
                     by_cases c94 : t852 = 0
                     ·rw [if_pos c94] at H
                      have c94b0 : (t852 == 0) = true := beq_iff_eq.mpr c94
                      have c94b1 : (t852 != 0) = false := bne_eq_false_iff_eq.mpr c94
                      clear c94
                      by_cases c95 : t845 = t849
                      ·rw [if_pos c95] at H
                       have c95b0 : (t845 == t849) = true := beq_iff_eq.mpr c95
                       have c95b1 : (t845 != t849) = false := bne_eq_false_iff_eq.mpr c95
                       clear c95
                       by_cases c96 : t846 = t850
                       ·rw [if_pos c96] at H
                        have c96b0 : (t846 == t850) = true := beq_iff_eq.mpr c96
                        have c96b1 : (t846 != t850) = false := bne_eq_false_iff_eq.mpr c96
                        clear c96
                        obtain rfl := Option.some.inj H
                        have hcz97_0 : wr.cell? ⟨gb808, 0, none⟩ = some (.slice A0_0 l0_0.length c0_0) := bc_ BK808 0
                        have hcz97_1 : wr.cell? ⟨gb808, 1, none⟩ = some (.slice A0_1 l0_1.length c0_1) := bc_ BK808 1
                        have hfz97_0 := blk_frozen BK808.out 0
                        have hfz97_1 := blk_frozen BK808.out 1
                        go_wp2_with (first | ((with_reducible refine gate_callee (f := 19) rfl ?_); refine goesL_ (some 189) rfl rfl Tryd.func19 (by decide +kernel) rfl #[.agg #[.slice A0_0 l0_0.length c0_0, .slice A0_1 l0_1.length c0_1], .slice A1 l1.length c1] rfl ls_ ?_; (with_reducible refine (exits_Out.calls _ _ l0_0 _ _ l0_1 _ _ l1 t837 t838 t839 _ ?side7 ?side1 ?side2 ?side3 ?side4 ?side5 ?side6 A84.out).mono ?_); (case side1 => exact kc_ HR0_0 HB); (case side2 => exact HC0_0.out); (case side3 => exact kc_ HR0_1 HB); (case side4 => exact HC0_1.out); (case side5 => exact kc_ HR1 HB); (case side6 => exact HC1.out); (case side7 => exact GlobsE.below HG.out.1 (be1_ HB GE808)); rintro e w98 ⟨rfl, hb⟩; refine ⟨_, rfl, ?_⟩; replace HO_10 := rb_ HO_10 hb; replace BK808 := bb_ BK808 hb; replace HB := bs1_ HB GE808 hb; (try clear hb); (try clear hb2); (try clear hk); (try clear hi)) | ((with_reducible refine gate_dst (N := 21) rfl ?_); (try (refine gate_guard (by rfl) ?_; dsimp only)); refine box_event ?hg (N := 21) ?hd (cs := #[.int .i64 0, .int .i64 0]) (t := 36) ?hr ?_; (case hd => rfl); (case hg => rfl); (case hr => exact gs_); intro gb840 hg w99 hbox hb; replace HO_10 := rb_ HO_10 hb; have BK840 := Aside0.mk (hbox); have GW840 := hl_ hg (be1_ HB GE808); have GE840 := hl_ hg (be1_ HB GE808); replace HB := bs1_ HB GE808 hb; have NB808_840 := Aside0.mk ((by rw [hg]; exact Nat.ne_of_lt (blk_lt (bk_ BK808)) : gb808 ≠ gb840)); have NB840_808 := Aside0.mk ((by rw [hg]; exact Nat.ne_of_gt (blk_lt (bk_ BK808)) : gb840 ≠ gb808)); replace BK808 := bb_ BK808 hb; clear hb hbox hg; have hnb100 := NB840_808.out; have hnc100 := NB808_840.out; have hcz101_0 : w99.cell? ⟨gb840, 0, none⟩ = some (.int .i64 0) := bc_ BK840 0; have hcz101_1 : w99.cell? ⟨gb840, 1, none⟩ = some (.int .i64 0) := bc_ BK840 1; have hfz101_0 := blk_frozen BK840.out 0; have hfz101_1 := blk_frozen BK840.out 1; have hcz102_0 : w99.cell? ⟨gb808, 0, none⟩ = some (.slice A0_0 l0_0.length c0_0) := bc_ BK808 0; have hcz102_1 : w99.cell? ⟨gb808, 1, none⟩ = some (.slice A0_1 l0_1.length c0_1) := bc_ BK808 1; have hfz102_0 := blk_frozen BK808.out 0; have hfz102_1 := blk_frozen BK808.out 1) | ((with_reducible refine gate_callee (f := 19) rfl ?_); refine goesL_ (some 195) rfl rfl Tryd.func19 (by decide +kernel) rfl #[.agg #[.slice A0_0 l0_0.length c0_0, .slice A0_1 l0_1.length c0_1], .slice A1 l1.length c1] rfl ls_ ?_; (with_reducible refine (exits_Out.calls _ _ l0_0 _ _ l0_1 _ _ l1 t841 t842 t843 _ ?side7 ?side1 ?side2 ?side3 ?side4 ?side5 ?side6 A85.out).mono ?_); (case side1 => exact Kd.C_below HR0_0.out (be2_ HB GE808 GE840)); (case side2 => exact HC0_0.out); (case side3 => exact Kd.C_below HR0_1.out (be2_ HB GE808 GE840)); (case side4 => exact HC0_1.out); (case side5 => exact Kd.C_below HR1.out (be2_ HB GE808 GE840)); (case side6 => exact HC1.out); (case side7 => exact GlobsE.below HG.out.1 (be2_ HB GE808 GE840)); rintro e w103 ⟨rfl, hb⟩; refine ⟨_, rfl, ?_⟩; replace HO_10 := Aside0.mk (Kd.R_below (by (with_reducible repeat (first | apply Kd.R_alloc | apply Kd.R_drewN | apply Kd.R_drew)); exact (Kd.R_mono (Kd.R_far (p := ⟨gb840, 1, none⟩) (Kd.R_far (p := ⟨gb840, 0, none⟩) (Kd.R_types HO_10.out BK840.out (by decide)) (fun _ hk => hk.2) (.int .i64 t837)) (fun _ hk => hk.2) (.int .i64 t838)) (fun _ h_ => h_.1))) hb); replace BK808 := Aside0.mk (blk_below (g := gb808) (o := .cells #[.slice A0_0 l0_0.length c0_0, .slice A0_1 l0_1.length c0_1] 25 (0, 0)) (by refine bx_ ?_; refine blk_far ?_ NB808_840.out _; refine bx_ ?_; refine blk_far ?_ NB808_840.out _; refine bx_ ?_; exact BK808.out) hb); replace BK840 := Aside0.mk (blk_below (g := gb840) (o := .cells #[.int .i64 t837, .int .i64 t838] 36 (0, 0)) (by refine bx_ ?_; refine blk_put (cs := #[.int .i64 t837, .int .i64 0]) ?_ 1 _ rfl; refine bx_ ?_; refine blk_put (cs := #[.int .i64 0, .int .i64 0]) ?_ 0 _ rfl; refine bx_ ?_; exact BK840.out) hb); replace HB := bs2_ HB GE808 GE840 hb; (try clear hb); (try clear hb2); (try clear hk); (try clear hi)) | ((with_reducible refine gate_dst (N := 23) rfl ?_); (try (refine gate_guard (by rfl) ?_; dsimp only)); refine box_event ?hg (N := 23) ?hd (cs := #[.int .i64 0, .int .i64 0]) (t := 36) ?hr ?_; (case hd => rfl); (case hg => rfl); (case hr => exact gs_); intro gb844 hg w104 hbox hb; replace HO_10 := rb_ HO_10 hb; have BK844 := Aside0.mk (hbox); have GW844 := hl_ hg (be2_ HB GE808 GE840); have GE844 := hl_ hg (be2_ HB GE808 GE840); replace HB := bs2_ HB GE808 GE840 hb; have NB808_844 := Aside0.mk ((by rw [hg]; exact Nat.ne_of_lt (blk_lt (bk_ BK808)) : gb808 ≠ gb844)); have NB844_808 := Aside0.mk ((by rw [hg]; exact Nat.ne_of_gt (blk_lt (bk_ BK808)) : gb844 ≠ gb808)); replace BK808 := bb_ BK808 hb; have NB840_844 := Aside0.mk ((by rw [hg]; exact Nat.ne_of_lt (blk_lt (bk_ BK840)) : gb840 ≠ gb844)); have NB844_840 := Aside0.mk ((by rw [hg]; exact Nat.ne_of_gt (blk_lt (bk_ BK840)) : gb844 ≠ gb840)); replace BK840 := bb_ BK840 hb; clear hb hbox hg; have hnb105 := NB844_808.out; have hnc105 := NB808_844.out; have hnb106 := NB844_840.out; have hnc106 := NB840_844.out; have hcz107_0 : w104.cell? ⟨gb844, 0, none⟩ = some (.int .i64 0) := bc_ BK844 0; have hcz107_1 : w104.cell? ⟨gb844, 1, none⟩ = some (.int .i64 0) := bc_ BK844 1; have hfz107_0 := blk_frozen BK844.out 0; have hfz107_1 := blk_frozen BK844.out 1; have hcz108_0 : w104.cell? ⟨gb808, 0, none⟩ = some (.slice A0_0 l0_0.length c0_0) := bc_ BK808 0; have hcz108_1 : w104.cell? ⟨gb808, 1, none⟩ = some (.slice A0_1 l0_1.length c0_1) := bc_ BK808 1; have hfz108_0 := blk_frozen BK808.out 0; have hfz108_1 := blk_frozen BK808.out 1) | ((with_reducible refine gate_callee (f := 26) rfl ?_); refine goesL_ (some 201) rfl rfl Tryd.func26 (by decide +kernel) rfl #[.agg #[.slice A0_0 l0_0.length c0_0, .slice A0_1 l0_1.length c0_1], .slice A1 l1.length c1] rfl ls_ ?_; (with_reducible refine (exits_Safe.calls _ _ l0_0 _ _ l0_1 _ _ l1 t845 t846 t847 t848 _ ?side7 ?side1 ?side2 ?side3 ?side4 ?side5 ?side6 A86.out).mono ?_); (case side1 => exact Kd.C_below HR0_0.out (be3_ HB GE808 GE840 GE844)); (case side2 => exact HC0_0.out); (case side3 => exact Kd.C_below HR0_1.out (be3_ HB GE808 GE840 GE844)); (case side4 => exact HC0_1.out); (case side5 => exact Kd.C_below HR1.out (be3_ HB GE808 GE840 GE844)); (case side6 => exact HC1.out); (case side7 => exact Globs.below HG.out (be3_ HB GE808 GE840 GE844)); rintro e w109 ⟨rfl, hb⟩; refine ⟨_, rfl, ?_⟩; replace HO_10 := Aside0.mk (Kd.R_below (by (with_reducible repeat (first | apply Kd.R_alloc | apply Kd.R_drewN | apply Kd.R_drew)); exact (Kd.R_mono (Kd.R_far (p := ⟨gb844, 1, none⟩) (Kd.R_far (p := ⟨gb844, 0, none⟩) (Kd.R_types HO_10.out BK844.out (by decide)) (fun _ hk => hk.2) (.int .i64 t841)) (fun _ hk => hk.2) (.int .i64 t842)) (fun _ h_ => h_.1))) hb); replace BK808 := Aside0.mk (blk_below (g := gb808) (o := .cells #[.slice A0_0 l0_0.length c0_0, .slice A0_1 l0_1.length c0_1] 25 (0, 0)) (by refine bx_ ?_; refine blk_far ?_ NB808_844.out _; refine bx_ ?_; refine blk_far ?_ NB808_844.out _; refine bx_ ?_; exact BK808.out) hb); replace BK840 := Aside0.mk (blk_below (g := gb840) (o := .cells #[.int .i64 t837, .int .i64 t838] 36 (0, 0)) (by refine bx_ ?_; refine blk_far ?_ NB840_844.out _; refine bx_ ?_; refine blk_far ?_ NB840_844.out _; refine bx_ ?_; exact BK840.out) hb); replace BK844 := Aside0.mk (blk_below (g := gb844) (o := .cells #[.int .i64 t841, .int .i64 t842] 36 (0, 0)) (by refine bx_ ?_; refine blk_put (cs := #[.int .i64 t841, .int .i64 0]) ?_ 1 _ rfl; refine bx_ ?_; refine blk_put (cs := #[.int .i64 0, .int .i64 0]) ?_ 0 _ rfl; refine bx_ ?_; exact BK844.out) hb); replace HB := bs3_ HB GE808 GE840 GE844 hb; (try clear hb); (try clear hb2); (try clear hk); (try clear hi); have hcz110_0 : w109.cell? ⟨gb808, 0, none⟩ = some (.slice A0_0 l0_0.length c0_0) := bc_ BK808 0; have hcz110_1 : w109.cell? ⟨gb808, 1, none⟩ = some (.slice A0_1 l0_1.length c0_1) := bc_ BK808 1; have hfz110_0 := blk_frozen BK808.out 0; have hfz110_1 := blk_frozen BK808.out 1) | ((with_reducible refine gate_callee (f := 26) rfl ?_); refine goesL_ (some 209) rfl rfl Tryd.func26 (by decide +kernel) rfl #[.agg #[.slice A0_0 l0_0.length c0_0, .slice A0_1 l0_1.length c0_1], .slice A1 l1.length c1] rfl ls_ ?_; (with_reducible refine (exits_Safe.calls _ _ l0_0 _ _ l0_1 _ _ l1 t849 t850 t851 t852 _ ?side7 ?side1 ?side2 ?side3 ?side4 ?side5 ?side6 A87.out).mono ?_); (case side1 => exact kc_ HR0_0 HB); (case side2 => exact HC0_0.out); (case side3 => exact kc_ HR0_1 HB); (case side4 => exact HC0_1.out); (case side5 => exact kc_ HR1 HB); (case side6 => exact HC1.out); (case side7 => exact Globs.below HG.out (be3_ HB GE808 GE840 GE844)); rintro e w111 ⟨rfl, hb⟩; refine ⟨_, rfl, ?_⟩; replace HO_10 := rb_ HO_10 hb; replace BK808 := bb_ BK808 hb; replace BK840 := bb_ BK840 hb; replace BK844 := bb_ BK844 hb; replace HB := bs3_ HB GE808 GE840 GE844 hb; (try clear hb); (try clear hb2); (try clear hk); (try clear hi); have hcz112_0 : w111.cell? ⟨gb840, 0, none⟩ = some (.int .i64 t837) := bc_ BK840 0; have hcz112_1 : w111.cell? ⟨gb840, 1, none⟩ = some (.int .i64 t838) := bc_ BK840 1; have hfz112_0 := blk_frozen BK840.out 0; have hfz112_1 := blk_frozen BK840.out 1; have hcz113_0 : w111.cell? ⟨gb844, 0, none⟩ = some (.int .i64 t841) := bc_ BK844 0; have hcz113_1 : w111.cell? ⟨gb844, 1, none⟩ = some (.int .i64 t842) := bc_ BK844 1; have hfz113_0 := blk_frozen BK844.out 0; have hfz113_1 := blk_frozen BK844.out 1))
                        go_ret
                        exact ⟨rf_, be3_ HB GE808 GE840 GE844⟩
                       ·rw [if_neg c96] at H
                        have c96b0 : (t846 == t850) = false := beq_eq_false_iff_ne.mpr c96
                        have c96b1 : (t846 != t850) = true := bne_iff_ne.mpr c96
                        exact absurd (H.trans (congrArg some HRT.out)) (by simp)
                      ·rw [if_neg c95] at H
                       have c95b0 : (t845 == t849) = false := beq_eq_false_iff_ne.mpr c95
                       have c95b1 : (t845 != t849) = true := bne_iff_ne.mpr c95
                       exact absurd (H.trans (congrArg some HRT.out)) (by simp)
                     ·rw [if_neg c94] at H
                      have c94b0 : (t852 == 0) = false := beq_eq_false_iff_ne.mpr c94
                      have c94b1 : (t852 != 0) = true := bne_iff_ne.mpr c94
                      exact absurd (H.trans (congrArg some HRT.out)) (by simp)
                    ·rw [if_neg c93] at H
                     have c93b0 : (t848 == 0) = false := beq_eq_false_iff_ne.mpr c93
                     have c93b1 : (t848 != 0) = true := bne_iff_ne.mpr c93
                     exact absurd (H.trans (congrArg some HRT.out)) (by simp)
                   ·rw [if_neg c92] at H
                    have c92b0 : (t837 == t841 && (t838 == t842)) = false := by simpa using c92
                    (try (have c92b1 : decide (t837 = t841 && (t838 == t842)) = false := by simpa using c92))
                    (try (have c92b2 : (t837 == t841 && (t838 == t842)) = false := by simpa using c92))
                    (try (have c92b3 : ¬ (t837 = t841 && (t838 == t842)) := by simpa using c92))
                    clear c92
                    exact absurd (H.trans (congrArg some HRT.out)) (by simp)
                  ·rw [if_neg c91] at H
                   have c91b0 : (t843 == 0) = false := beq_eq_false_iff_ne.mpr c91
                   have c91b1 : (t843 != 0) = true := bne_iff_ne.mpr c91
                   exact absurd (H.trans (congrArg some HRT.out)) (by simp)
                 ·rw [if_neg c90] at H
                  have c90b0 : (t839 == 0) = false := beq_eq_false_iff_ne.mpr c90
                  have c90b1 : (t839 != 0) = true := bne_iff_ne.mpr c90
                  exact absurd (H.trans (congrArg some HRT.out)) (by simp)
                ·rw [if_neg c89] at H
                 have c89b0 : (x13_3 == (l1.length : Int)) = false := beq_eq_false_iff_ne.mpr c89
                 have c89b1 : (x13_3 != (l1.length : Int)) = true := bne_iff_ne.mpr c89
                 exact absurd (H.trans (congrArg some HRT.out)) (by simp)
               ·replace c88 := Bool.eq_false_iff.mpr c88
                subst c88
                have H1 : (some false) = some r := by rw [if_neg (show ¬ (false = true) by decide)] at H; exact H
                clear H
                have H := H1
                clear H1
                exact absurd (H.trans (congrArg some HRT.out)) (by simp)
      ·rw [if_neg c17] at H
       exact absurd H (by simp)
     ·rw [if_neg c16] at H
      exact absurd H (by simp)

end Go.Proofs.YtdeaccbolnlgpaaDoor.X
