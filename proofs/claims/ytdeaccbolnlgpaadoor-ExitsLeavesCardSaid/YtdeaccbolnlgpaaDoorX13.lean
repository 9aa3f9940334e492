import Derived.Test.YtdeaccbolnlgpaaDoorX0
import Derived.Test.YtdeaccbolnlgpaaDoorX1
import Derived.Test.YtdeaccbolnlgpaaDoorX5
import Derived.Test.YtdeaccbolnlgpaaDoorX8
import Derived.Test.YtdeaccbolnlgpaaDoorX10
import Derived.Test.YtdeaccbolnlgpaaDoorX11
import Derived.Test.YtdeaccbolnlgpaaDoorX12
import Derived.Test.YtdeaccbolnlgpaaDoorXG
import Derived.Test.YtdeaccbolnlgpaaDoorXHand
namespace Go.Proofs.YtdeaccbolnlgpaaDoor.X
open Go.RowKit Go.Proofs.YtdeaccbolnlgpaaDoorW.PrintWords Go.Proofs.YtdeaccbolnlgpaaDoorW.PrintLast Go.Proofs.YtdeaccbolnlgpaaDoorW.PrintMore
attribute [local go_sem] max2_int min2_int max_two min_two max_three min_three max_four min_four   -- for this text's walks alone
set_option linter.unusedVariables false
set_option linter.unusedSimpArgs false

attribute [local go_sem high] eqA36
/-! ### cottonpadlaw06_ExitsLeaves: function 3 -/
def cottonpadlaw06_ExitsLeaves.f (k : Nat) (l0_0 : List (S62)) (l0_1 : List (S81)) (l1 : List (S48)) (a2 : Int) : Option (Bool) := (cottonpadref06_Great.f l0_0 l0_1 l1).bind fun t266 => (if t266 = true then (some true) else ((cottonpadref06_Twin.f l0_0 l0_1).bind fun bt267 => ((some (([] : List (S48)) : List (S48))).bind fun y273 => (if y273.length + l1.length < 3518437208883 then ((some (y273 ++ l1 : List (S48))).bind fun y276 => ((exits_Leaves.f bt267.1 bt267.2 y276 a2).bind fun bt280 => ((cottonpadref06_Leaves.f k l0_0 l0_1 l1 a2).bind fun bt284 => ((exits_Out.f bt267.1 bt267.2 y276).bind fun bt288 => ((cottonpadref06_Out.f k l0_0 l0_1 l1).bind fun bt292 => ((exits_Check.f bt267.1 bt267.2 y276).bind fun t296 => ((cottonpadref06_Check.f k l0_0 l0_1 l1).bind fun t297 => (if t296 = t297 then ((cottonpadref06_SameSpans.f k bt280.1 bt284.1).bind fun t298 => (if t298 = true then (if bt280.2 = bt284.2 then (if (bt288.1 == bt292.1 && (bt288.2.1 == bt292.2.1)) = true then (if bt288.2.2 = bt292.2.2 then ((cottonpadref06_Same.f k bt267.1 bt267.2 l0_0 l0_1).bind fun t299 => (if t299 = true then ((cottonpadref06_SameWalkers.f k y276 l1).bind fun t300 => (some t300)) else (some false))) else (some false)) else (some false)) else (some false)) else (some false))) else (some false))))))))) else (none)))))
theorem cottonpadlaw06_ExitsLeaves.mono : ∀ a0 a1 a2 a3 k, LeO (cottonpadlaw06_ExitsLeaves.f k a0 a1 a2 a3) (cottonpadlaw06_ExitsLeaves.f (k + 1) a0 a1 a2 a3) := by
 intro a0 a1 a2 a3 k
 unfold cottonpadlaw06_ExitsLeaves.f
 repeat' first
   | (with_reducible exact cottonpadref06_Check.mono _ _ _ _)
   | (with_reducible exact cottonpadref06_Leaves.mono _ _ _ _ _)
   | (with_reducible exact cottonpadref06_Out.mono _ _ _ _)
   | (with_reducible exact cottonpadref06_Same.mono _ _ _ _ _)
   | (with_reducible exact cottonpadref06_SameSpans.mono _ _ _)
   | (with_reducible exact cottonpadref06_SameWalkers.mono _ _ _)
   | (with_reducible exact LeO.refl _)
   | (with_reducible exact LeO.none _)
   | (with_reducible refine LeO.ite ?_ ?_)
   | (with_reducible refine LeO.bind ?_ (fun _ => ?_))
   | exact cottonpadref06_Check.mono _ _ _ _
   | exact cottonpadref06_Leaves.mono _ _ _ _ _
   | exact cottonpadref06_Out.mono _ _ _ _
   | exact cottonpadref06_Same.mono _ _ _ _ _
   | exact cottonpadref06_SameSpans.mono _ _ _
   | exact cottonpadref06_SameWalkers.mono _ _ _
   | exact LeO.none _
   | refine LeO.ite ?_ ?_
   | refine LeO.bind ?_ (fun _ => ?_)
def cottonpadlaw06_ExitsLeaves.T8 : Bool × List (List Nat × List Nat) := (true, [([], []), ([], []), ([0, 1], [0, 1]), ([], []), ([], []), ([3, 4, 2], [3, 4]), ([2, 5], [2, 5]), ([6, 5], [6]), ([7], [7]), ([7], [7]), ([8, 9, 7, 7], [7, 8, 9]), ([7, 10], [7, 10]), ([11, 10], [11]), ([12], [12]), ([12], [12]), ([13, 14, 12], [12, 13, 14]), ([12, 15], [12, 15]), ([16, 12], [16]), ([17], [17]), ([17], [17]), ([18, 19, 17], [17, 18, 19]), ([17, 20], [17, 20]), ([21, 17], [21]), ([22], [22]), ([22], [22]), ([23, 24, 22], [22, 23, 24]), ([22, 25], [22, 25]), ([26, 22], [26]), ([27], [27]), ([27], [27]), ([28, 29, 27, 27], [27, 28, 29]), ([27, 30], [27, 30]), ([31, 30], [31]), ([32], [32]), ([32], [32]), ([33, 34, 32, 32], [32, 33, 34]), ([32, 35], [32, 35]), ([36, 35, 0, 1, 2, 3, 4, 5, 6, 7, 8, 9, 10, 11, 12, 13, 14, 15, 16, 17, 18, 19, 20, 21, 22, 23, 24, 25, 26, 27, 28, 29, 30, 31, 32, 33, 34, 35, 36], [36])])
def cottonpadlaw06_ExitsLeaves.B8 : List Nat := [0, 0, 3, 0, 0, 31, 63, 127, 255, 255, 1023, 2047, 4095, 8191, 8191, 32767, 65535, 131071, 262143, 262143, 1048575, 2097151, 4194303, 8388607, 8388607, 33554431, 67108863, 134217727, 268435455, 268435455, 1073741823, 2147483647, 4294967295, 8589934591, 8589934591, 34359738367, 68719476735, 137438953471]
theorem cottonpadlaw06_ExitsLeaves.tab8 : rtab .any (opsOf Tryd.f3 8) = cottonpadlaw06_ExitsLeaves.T8 := by kernel_rfl
theorem cottonpadlaw06_ExitsLeaves.bits8 : waitsOk cottonpadlaw06_ExitsLeaves.T8.2 cottonpadlaw06_ExitsLeaves.B8 = true := by kernel_rfl
set_option maxHeartbeats 8000000 in
set_option maxRecDepth 100000 in
theorem cottonpadlaw06_ExitsLeaves.calls (k : Nat) (A0_0 : Option Addr) (c0_0 : Nat) (l0_0 : List (S62)) (A0_1 : Option Addr) (c0_1 : Nat) (l0_1 : List (S81)) (A1 : Option Addr) (c1 : Nat) (l1 : List (S48)) (a2 : Int) (r : Bool) (w : World) (hG : GlobsE w) (hrt : r = true) (hr0_0 : Kd.C k62 w A0_0 l0_0.length l0_0) (hc0_0 : l0_0.length ≤ c0_0) (hr0_1 : Kd.C k81 w A0_1 l0_1.length l0_1) (hc0_1 : l0_1.length ≤ c0_1) (hr1 : Kd.C k48 w A1 l1.length l1) (hc1 : l1.length ≤ c1) (h : cottonpadlaw06_ExitsLeaves.f k l0_0 l0_1 l1 a2 = some r) :
  Calls Tryd.prog 3 #[.agg #[.slice A0_0 l0_0.length c0_0, .slice A0_1 l0_1.length c0_1], .slice A1 l1.length c1, .int .i64 a2] w fun e w' => e = .returned (.bool r) ∧ Below w.heap.size w w' := by
 have hu25 := Tryd.underlying25
 have hu36 := Tryd.underlying36
 have HR0_0 := Aside0.mk hr0_0
 have HC0_0 := Aside0.mk hc0_0
 clear hr0_0 hc0_0
 have HR0_1 := Aside0.mk hr0_1
 have HC0_1 := Aside0.mk hc0_1
 clear hr0_1 hc0_1
 have HR1 := Aside0.mk hr1
 have HC1 := Aside0.mk hc1
 clear hr1 hc1
 have HB := Aside0.mk (Below.refl w.heap.size w)
 have HG := Aside0.mk hG
 clear hG
 have HRT := Aside0.mk hrt
 clear hrt
 have H : ((cottonpadref06_Great.f l0_0 l0_1 l1).bind fun t266 => (if t266 = true then (some true) else ((cottonpadref06_Twin.f l0_0 l0_1).bind fun bt267 => ((some (([] : List (S48)) : List (S48))).bind fun y273 => (if y273.length + l1.length < 3518437208883 then ((some (y273 ++ l1 : List (S48))).bind fun y276 => ((exits_Leaves.f bt267.1 bt267.2 y276 a2).bind fun bt280 => ((cottonpadref06_Leaves.f k l0_0 l0_1 l1 a2).bind fun bt284 => ((exits_Out.f bt267.1 bt267.2 y276).bind fun bt288 => ((cottonpadref06_Out.f k l0_0 l0_1 l1).bind fun bt292 => ((exits_Check.f bt267.1 bt267.2 y276).bind fun t296 => ((cottonpadref06_Check.f k l0_0 l0_1 l1).bind fun t297 => (if t296 = t297 then ((cottonpadref06_SameSpans.f k bt280.1 bt284.1).bind fun t298 => (if t298 = true then (if bt280.2 = bt284.2 then (if (bt288.1 == bt292.1 && (bt288.2.1 == bt292.2.1)) = true then (if bt288.2.2 = bt292.2.2 then ((cottonpadref06_Same.f k bt267.1 bt267.2 l0_0 l0_1).bind fun t299 => (if t299 = true then ((cottonpadref06_SameWalkers.f k y276 l1).bind fun t300 => (some t300)) else (some false))) else (some false)) else (some false)) else (some false)) else (some false))) else (some false))))))))) else (none)))))) = some r := h
 clear h
 replace H := Option.bind_eq_some_iff.mp H
 obtain ⟨t266, A40, H⟩ := H
 replace H : (if t266 = true then (some true) else ((cottonpadref06_Twin.f l0_0 l0_1).bind fun bt267 => ((some (([] : List (S48)) : List (S48))).bind fun y273 => (if y273.length + l1.length < 3518437208883 then ((some (y273 ++ l1 : List (S48))).bind fun y276 => ((exits_Leaves.f bt267.1 bt267.2 y276 a2).bind fun bt280 => ((cottonpadref06_Leaves.f k l0_0 l0_1 l1 a2).bind fun bt284 => ((exits_Out.f bt267.1 bt267.2 y276).bind fun bt288 => ((cottonpadref06_Out.f k l0_0 l0_1 l1).bind fun bt292 => ((exits_Check.f bt267.1 bt267.2 y276).bind fun t296 => ((cottonpadref06_Check.f k l0_0 l0_1 l1).bind fun t297 => (if t296 = t297 then ((cottonpadref06_SameSpans.f k bt280.1 bt284.1).bind fun t298 => (if t298 = true then (if bt280.2 = bt284.2 then (if (bt288.1 == bt292.1 && (bt288.2.1 == bt292.2.1)) = true then (if bt288.2.2 = bt292.2.2 then ((cottonpadref06_Same.f k bt267.1 bt267.2 l0_0 l0_1).bind fun t299 => (if t299 = true then ((cottonpadref06_SameWalkers.f k y276 l1).bind fun t300 => (some t300)) else (some false))) else (some false)) else (some false)) else (some false)) else (some false))) else (some false))))))))) else (none))))) = some r := H
 have A4 := Aside0.mk A40
 clear A40
 by_cases c5 : t266 = true
 ·subst c5
  have H1 : (some true) = some r := by rw [if_pos rfl] at H; exact H
  clear H
  have H := H1
  clear H1
  obtain rfl := Option.some.inj H
  go_enter Tryd.func3, Tryd.ntmps3
  go_wp2_with (first | ((with_reducible refine gate_dst (N := 3) rfl ?_); refine box_event ?hg (N := 3) ?hd (cs := #[.slice A0_0 l0_0.length c0_0, .slice A0_1 l0_1.length c0_1]) (t := 25) ?hr ?_; (case hd => rfl); (case hg => rfl); (case hr => exact gs_); intro gb265 hg w6 hbox hb; have n0_ := Aside0.mk (below_step (be_ HB) hb); have n1_ := Aside0.mk (hbox); have n2_ := Aside0.mk ((by rw [hg]; exact (below_size (be_ HB)) : w.heap.size ≤ gb265)); have n3_ := Aside0.mk ((by rw [hg]; exact (below_size (be_ HB)) : w.heap.size ≤ gb265)); clear HB; have HB := n0_; have BK265 := n1_; have GW265 := n2_; have GE265 := n3_; clear n0_ n1_ n2_ n3_; clear hb hbox hg; have hcz7_0 : w6.cell? ⟨gb265, 0, none⟩ = some (.slice A0_0 l0_0.length c0_0) := bc_ BK265 0; have hcz7_1 : w6.cell? ⟨gb265, 1, none⟩ = some (.slice A0_1 l0_1.length c0_1) := bc_ BK265 1; have hfz7_0 := blk_frozen BK265.out 0; have hfz7_1 := blk_frozen BK265.out 1) | ((with_reducible refine gate_callee (f := 15) rfl ?_); refine goesL_ (some 19) rfl rfl Tryd.func15 (by kernel_rfl) rfl #[.agg #[.slice A0_0 l0_0.length c0_0, .slice A0_1 l0_1.length c0_1], .slice A1 l1.length c1] rfl ls_ ?_; (with_reducible refine (cottonpadref06_Great.calls _ _ l0_0 _ _ l0_1 _ _ l1 true _ ?side1 ?side2 ?side3 ?side4 ?side5 ?side6 A4.out).mono ?_); (case side1 => exact kc_ HR0_0 HB); (case side2 => exact HC0_0.out); (case side3 => exact kc_ HR0_1 HB); (case side4 => exact HC0_1.out); (case side5 => exact kc_ HR1 HB); (case side6 => exact HC1.out); rintro e w8 ⟨rfl, hb⟩; refine ⟨_, rfl, ?_⟩; have n0_ := Aside0.mk (blk_below (bk_ BK265) hb); have n1_ := Aside0.mk (below_step (be1_ HB GE265) hb); clear BK265; clear HB; have BK265 := n0_; have HB := n1_; clear n0_ n1_; (try clear hb); (try clear hb2); (try clear hk); (try clear hi)))
  go_ret
  exact ⟨rf_, be1_ HB GE265⟩
 ·replace c5 := Bool.eq_false_iff.mpr c5
  subst c5
  have H1 : ((cottonpadref06_Twin.f l0_0 l0_1).bind fun bt267 => ((some (([] : List (S48)) : List (S48))).bind fun y273 => (if y273.length + l1.length < 3518437208883 then ((some (y273 ++ l1 : List (S48))).bind fun y276 => ((exits_Leaves.f bt267.1 bt267.2 y276 a2).bind fun bt280 => ((cottonpadref06_Leaves.f k l0_0 l0_1 l1 a2).bind fun bt284 => ((exits_Out.f bt267.1 bt267.2 y276).bind fun bt288 => ((cottonpadref06_Out.f k l0_0 l0_1 l1).bind fun bt292 => ((exits_Check.f bt267.1 bt267.2 y276).bind fun t296 => ((cottonpadref06_Check.f k l0_0 l0_1 l1).bind fun t297 => (if t296 = t297 then ((cottonpadref06_SameSpans.f k bt280.1 bt284.1).bind fun t298 => (if t298 = true then (if bt280.2 = bt284.2 then (if (bt288.1 == bt292.1 && (bt288.2.1 == bt292.2.1)) = true then (if bt288.2.2 = bt292.2.2 then ((cottonpadref06_Same.f k bt267.1 bt267.2 l0_0 l0_1).bind fun t299 => (if t299 = true then ((cottonpadref06_SameWalkers.f k y276 l1).bind fun t300 => (some t300)) else (some false))) else (some false)) else (some false)) else (some false)) else (some false))) else (some false))))))))) else (none)))) = some r := by rw [if_neg (show ¬ (false = true) by decide)] at H; exact H
  clear H
  have H := H1
  clear H1
  replace H := Option.bind_eq_some_iff.mp H
  obtain ⟨⟨t267, t270⟩, A90, H⟩ := H
  replace H : ((some (([] : List (S48)) : List (S48))).bind fun y273 => (if y273.length + l1.length < 3518437208883 then ((some (y273 ++ l1 : List (S48))).bind fun y276 => ((exits_Leaves.f t267 t270 y276 a2).bind fun bt280 => ((cottonpadref06_Leaves.f k l0_0 l0_1 l1 a2).bind fun bt284 => ((exits_Out.f t267 t270 y276).bind fun bt288 => ((cottonpadref06_Out.f k l0_0 l0_1 l1).bind fun bt292 => ((exits_Check.f t267 t270 y276).bind fun t296 => ((cottonpadref06_Check.f k l0_0 l0_1 l1).bind fun t297 => (if t296 = t297 then ((cottonpadref06_SameSpans.f k bt280.1 bt284.1).bind fun t298 => (if t298 = true then (if bt280.2 = bt284.2 then (if (bt288.1 == bt292.1 && (bt288.2.1 == bt292.2.1)) = true then (if bt288.2.2 = bt292.2.2 then ((cottonpadref06_Same.f k t267 t270 l0_0 l0_1).bind fun t299 => (if t299 = true then ((cottonpadref06_SameWalkers.f k y276 l1).bind fun t300 => (some t300)) else (some false))) else (some false)) else (some false)) else (some false)) else (some false))) else (some false))))))))) else (none))) = some r := H
  have A9 := Aside0.mk A90
  clear A90
  obtain ⟨y273, hy273⟩ : ∃ y_ : List (S48), y_ = (([] : List (S48))) := ⟨_, rfl⟩
  replace H : (if y273.length + l1.length < 3518437208883 then ((some (y273 ++ l1 : List (S48))).bind fun y276 => ((exits_Leaves.f t267 t270 y276 a2).bind fun bt280 => ((cottonpadref06_Leaves.f k l0_0 l0_1 l1 a2).bind fun bt284 => ((exits_Out.f t267 t270 y276).bind fun bt288 => ((cottonpadref06_Out.f k l0_0 l0_1 l1).bind fun bt292 => ((exits_Check.f t267 t270 y276).bind fun t296 => ((cottonpadref06_Check.f k l0_0 l0_1 l1).bind fun t297 => (if t296 = t297 then ((cottonpadref06_SameSpans.f k bt280.1 bt284.1).bind fun t298 => (if t298 = true then (if bt280.2 = bt284.2 then (if (bt288.1 == bt292.1 && (bt288.2.1 == bt292.2.1)) = true then (if bt288.2.2 = bt292.2.2 then ((cottonpadref06_Same.f k t267 t270 l0_0 l0_1).bind fun t299 => (if t299 = true then ((cottonpadref06_SameWalkers.f k y276 l1).bind fun t300 => (some t300)) else (some false))) else (some false)) else (some false)) else (some false)) else (some false))) else (some false))))))))) else (none)) = some r := by first | (rw [hy273]; with_reducible exact H) | (have H2_ := (Option.bind_some _ _).symm.trans H; rw [hy273]; with_reducible exact H2_) | (have H2_ := (Option.bind_some _ _).symm.trans H; with_reducible exact H2_) | with_reducible exact H | (rw [hy273]; exact H) | exact H
  have Ny273 := Aside0.mk hy273
  clear hy273
  by_cases c10 : y273.length + l1.length < 3518437208883
  ·rw [if_pos c10] at H
   have LMc10 := Aside0.mk c10
   clear c10
   obtain ⟨y276, hy276⟩ : ∃ y_ : List (S48), y_ = (y273 ++ l1) := ⟨_, rfl⟩
   replace H : ((exits_Leaves.f t267 t270 y276 a2).bind fun bt280 => ((cottonpadref06_Leaves.f k l0_0 l0_1 l1 a2).bind fun bt284 => ((exits_Out.f t267 t270 y276).bind fun bt288 => ((cottonpadref06_Out.f k l0_0 l0_1 l1).bind fun bt292 => ((exits_Check.f t267 t270 y276).bind fun t296 => ((cottonpadref06_Check.f k l0_0 l0_1 l1).bind fun t297 => (if t296 = t297 then ((cottonpadref06_SameSpans.f k bt280.1 bt284.1).bind fun t298 => (if t298 = true then (if bt280.2 = bt284.2 then (if (bt288.1 == bt292.1 && (bt288.2.1 == bt292.2.1)) = true then (if bt288.2.2 = bt292.2.2 then ((cottonpadref06_Same.f k t267 t270 l0_0 l0_1).bind fun t299 => (if t299 = true then ((cottonpadref06_SameWalkers.f k y276 l1).bind fun t300 => (some t300)) else (some false))) else (some false)) else (some false)) else (some false)) else (some false))) else (some false)))))))) = some r := by first | (rw [hy276]; with_reducible exact H) | (have H2_ := (Option.bind_some _ _).symm.trans H; rw [hy276]; with_reducible exact H2_) | (have H2_ := (Option.bind_some _ _).symm.trans H; with_reducible exact H2_) | with_reducible exact H | (rw [hy276]; exact H) | exact H
   have Ny276 := Aside0.mk hy276
   clear hy276
   replace H := Option.bind_eq_some_iff.mp H
   obtain ⟨⟨t280, t283⟩, A110, H⟩ := H
   replace H : ((cottonpadref06_Leaves.f k l0_0 l0_1 l1 a2).bind fun bt284 => ((exits_Out.f t267 t270 y276).bind fun bt288 => ((cottonpadref06_Out.f k l0_0 l0_1 l1).bind fun bt292 => ((exits_Check.f t267 t270 y276).bind fun t296 => ((cottonpadref06_Check.f k l0_0 l0_1 l1).bind fun t297 => (if t296 = t297 then ((cottonpadref06_SameSpans.f k t280 bt284.1).bind fun t298 => (if t298 = true then (if t283 = bt284.2 then (if (bt288.1 == bt292.1 && (bt288.2.1 == bt292.2.1)) = true then (if bt288.2.2 = bt292.2.2 then ((cottonpadref06_Same.f k t267 t270 l0_0 l0_1).bind fun t299 => (if t299 = true then ((cottonpadref06_SameWalkers.f k y276 l1).bind fun t300 => (some t300)) else (some false))) else (some false)) else (some false)) else (some false)) else (some false))) else (some false))))))) = some r := H
   have A11 := Aside0.mk A110
   clear A110
   replace H := Option.bind_eq_some_iff.mp H
   obtain ⟨⟨t284, t287⟩, A120, H⟩ := H
   replace H : ((exits_Out.f t267 t270 y276).bind fun bt288 => ((cottonpadref06_Out.f k l0_0 l0_1 l1).bind fun bt292 => ((exits_Check.f t267 t270 y276).bind fun t296 => ((cottonpadref06_Check.f k l0_0 l0_1 l1).bind fun t297 => (if t296 = t297 then ((cottonpadref06_SameSpans.f k t280 t284).bind fun t298 => (if t298 = true then (if t283 = t287 then (if (bt288.1 == bt292.1 && (bt288.2.1 == bt292.2.1)) = true then (if bt288.2.2 = bt292.2.2 then ((cottonpadref06_Same.f k t267 t270 l0_0 l0_1).bind fun t299 => (if t299 = true then ((cottonpadref06_SameWalkers.f k y276 l1).bind fun t300 => (some t300)) else (some false))) else (some false)) else (some false)) else (some false)) else (some false))) else (some false)))))) = some r := H
   have A12 := Aside0.mk A120
   clear A120
   replace H := Option.bind_eq_some_iff.mp H
   obtain ⟨⟨t288, t289, t290⟩, A130, H⟩ := H
   replace H : ((cottonpadref06_Out.f k l0_0 l0_1 l1).bind fun bt292 => ((exits_Check.f t267 t270 y276).bind fun t296 => ((cottonpadref06_Check.f k l0_0 l0_1 l1).bind fun t297 => (if t296 = t297 then ((cottonpadref06_SameSpans.f k t280 t284).bind fun t298 => (if t298 = true then (if t283 = t287 then (if (t288 == bt292.1 && (t289 == bt292.2.1)) = true then (if t290 = bt292.2.2 then ((cottonpadref06_Same.f k t267 t270 l0_0 l0_1).bind fun t299 => (if t299 = true then ((cottonpadref06_SameWalkers.f k y276 l1).bind fun t300 => (some t300)) else (some false))) else (some false)) else (some false)) else (some false)) else (some false))) else (some false))))) = some r := H
   have A13 := Aside0.mk A130
   clear A130
   replace H := Option.bind_eq_some_iff.mp H
   obtain ⟨⟨t292, t293, t294⟩, A140, H⟩ := H
   replace H : ((exits_Check.f t267 t270 y276).bind fun t296 => ((cottonpadref06_Check.f k l0_0 l0_1 l1).bind fun t297 => (if t296 = t297 then ((cottonpadref06_SameSpans.f k t280 t284).bind fun t298 => (if t298 = true then (if t283 = t287 then (if (t288 == t292 && (t289 == t293)) = true then (if t290 = t294 then ((cottonpadref06_Same.f k t267 t270 l0_0 l0_1).bind fun t299 => (if t299 = true then ((cottonpadref06_SameWalkers.f k y276 l1).bind fun t300 => (some t300)) else (some false))) else (some false)) else (some false)) else (some false)) else (some false))) else (some false)))) = some r := H
   have A14 := Aside0.mk A140
   clear A140
   replace H := Option.bind_eq_some_iff.mp H
   obtain ⟨t296, A150, H⟩ := H
   replace H : ((cottonpadref06_Check.f k l0_0 l0_1 l1).bind fun t297 => (if t296 = t297 then ((cottonpadref06_SameSpans.f k t280 t284).bind fun t298 => (if t298 = true then (if t283 = t287 then (if (t288 == t292 && (t289 == t293)) = true then (if t290 = t294 then ((cottonpadref06_Same.f k t267 t270 l0_0 l0_1).bind fun t299 => (if t299 = true then ((cottonpadref06_SameWalkers.f k y276 l1).bind fun t300 => (some t300)) else (some false))) else (some false)) else (some false)) else (some false)) else (some false))) else (some false))) = some r := H
   have A15 := Aside0.mk A150
   clear A150
   replace H := Option.bind_eq_some_iff.mp H
   obtain ⟨t297, A160, H⟩ := H
   replace H : (if t296 = t297 then ((cottonpadref06_SameSpans.f k t280 t284).bind fun t298 => (if t298 = true then (if t283 = t287 then (if (t288 == t292 && (t289 == t293)) = true then (if t290 = t294 then ((cottonpadref06_Same.f k t267 t270 l0_0 l0_1).bind fun t299 => (if t299 = true then ((cottonpadref06_SameWalkers.f k y276 l1).bind fun t300 => (some t300)) else (some false))) else (some false)) else (some false)) else (some false)) else (some false))) else (some false)) = some r := H
   have A16 := Aside0.mk A160
   clear A160
   by_cases c17 : t296 = t297
   ·rw [if_pos c17] at H
    have c17b0 : (t296 == t297) = true := beq_iff_eq.mpr c17
    have c17b1 : (t296 != t297) = false := bne_eq_false_iff_eq.mpr c17
    clear c17
    replace H := Option.bind_eq_some_iff.mp H
    obtain ⟨t298, A180, H⟩ := H
    replace H : (if t298 = true then (if t283 = t287 then (if (t288 == t292 && (t289 == t293)) = true then (if t290 = t294 then ((cottonpadref06_Same.f k t267 t270 l0_0 l0_1).bind fun t299 => (if t299 = true then ((cottonpadref06_SameWalkers.f k y276 l1).bind fun t300 => (some t300)) else (some false))) else (some false)) else (some false)) else (some false)) else (some false)) = some r := H
    have A18 := Aside0.mk A180
    clear A180
    by_cases c19 : t298 = true
    ·subst c19
     have H1 : (if t283 = t287 then (if (t288 == t292 && (t289 == t293)) = true then (if t290 = t294 then ((cottonpadref06_Same.f k t267 t270 l0_0 l0_1).bind fun t299 => (if t299 = true then ((cottonpadref06_SameWalkers.f k y276 l1).bind fun t300 => (some t300)) else (some false))) else (some false)) else (some false)) else (some false)) = some r := by rw [if_pos rfl] at H; exact H
     clear H
     have H := H1
     clear H1
     by_cases c20 : t283 = t287
     ·rw [if_pos c20] at H
      have c20b0 : (t283 == t287) = true := beq_iff_eq.mpr c20
      have c20b1 : (t283 != t287) = false := bne_eq_false_iff_eq.mpr c20
      clear c20
      by_cases c21 : (t288 == t292 && (t289 == t293)) = true
      ·rw [if_pos c21] at H
       have c21b0 : (t288 == t292 && (t289 == t293)) = true := c21
       (try (have c21b1 : decide (t288 = t292 && (t289 == t293)) = true := by simpa using c21))
       (try (have c21b2 : (t288 == t292 && (t289 == t293)) = true := by simpa using c21))
       clear c21
       by_cases c22 : t290 = t294
       ·rw [if_pos c22] at H
        have c22b0 : (t290 == t294) = true := beq_iff_eq.mpr c22
        have c22b1 : (t290 != t294) = false := bne_eq_false_iff_eq.mpr c22
        clear c22
        replace H := Option.bind_eq_some_iff.mp H
        obtain ⟨t299, A230, H⟩ := H
        replace H : (if t299 = true then ((cottonpadref06_SameWalkers.f k y276 l1).bind fun t300 => (some t300)) else (some false)) = some r := H
        have A23 := Aside0.mk A230
        clear A230
        by_cases c24 : t299 = true
        ·subst c24
         have H1 : ((cottonpadref06_SameWalkers.f k y276 l1).bind fun t300 => (some t300)) = some r := by rw [if_pos rfl] at H; exact H
         clear H
         have H := H1
         clear H1
         replace H := Option.bind_eq_some_iff.mp H
         obtain ⟨t300, A250, H⟩ := H
         replace H : (some t300) = some r := H
         have A25 := Aside0.mk A250
         clear A250
         obtain rfl := Option.some.inj H
         go_enter Tryd.func3, Tryd.ntmps3
         try go_wp2_with (first | ((with_reducible refine gate_dst (N := 3) rfl ?_); refine box_event ?hg (N := 3) ?hd (cs := #[.slice A0_0 l0_0.length c0_0, .slice A0_1 l0_1.length c0_1]) (t := 25) ?hr ?_; (case hd => rfl); (case hg => rfl); (case hr => exact gs_); intro gb265 hg w26 hbox hb; have n0_ := Aside0.mk (below_step (be_ HB) hb); have n1_ := Aside0.mk (hbox); have n2_ := Aside0.mk ((by rw [hg]; exact (below_size (be_ HB)) : w.heap.size ≤ gb265)); have n3_ := Aside0.mk ((by rw [hg]; exact (below_size (be_ HB)) : w.heap.size ≤ gb265)); clear HB; have HB := n0_; have BK265 := n1_; have GW265 := n2_; have GE265 := n3_; clear n0_ n1_ n2_ n3_; clear hb hbox hg; have hcz27_0 : w26.cell? ⟨gb265, 0, none⟩ = some (.slice A0_0 l0_0.length c0_0) := bc_ BK265 0; have hcz27_1 : w26.cell? ⟨gb265, 1, none⟩ = some (.slice A0_1 l0_1.length c0_1) := bc_ BK265 1; have hfz27_0 := blk_frozen BK265.out 0; have hfz27_1 := blk_frozen BK265.out 1) | ((with_reducible refine gate_callee (f := 15) rfl ?_); refine goesL_ (some 19) rfl rfl Tryd.func15 (by kernel_rfl) rfl #[.agg #[.slice A0_0 l0_0.length c0_0, .slice A0_1 l0_1.length c0_1], .slice A1 l1.length c1] rfl ls_ ?_; (with_reducible refine (cottonpadref06_Great.calls _ _ l0_0 _ _ l0_1 _ _ l1 false _ ?side1 ?side2 ?side3 ?side4 ?side5 ?side6 A4.out).mono ?_); (case side1 => exact kc_ HR0_0 HB); (case side2 => exact HC0_0.out); (case side3 => exact kc_ HR0_1 HB); (case side4 => exact HC0_1.out); (case side5 => exact kc_ HR1 HB); (case side6 => exact HC1.out); rintro e w28 ⟨rfl, hb⟩; refine ⟨_, rfl, ?_⟩; have n0_ := Aside0.mk (blk_below (bk_ BK265) hb); have n1_ := Aside0.mk (below_step (be1_ HB GE265) hb); clear BK265; clear HB; have BK265 := n0_; have HB := n1_; clear n0_ n1_; (try clear hb); (try clear hb2); (try clear hk); (try clear hi); have hcz29_0 : w28.cell? ⟨gb265, 0, none⟩ = some (.slice A0_0 l0_0.length c0_0) := bc_ BK265 0; have hcz29_1 : w28.cell? ⟨gb265, 1, none⟩ = some (.slice A0_1 l0_1.length c0_1) := bc_ BK265 1; have hfz29_0 := blk_frozen BK265.out 0; have hfz29_1 := blk_frozen BK265.out 1) | ((with_reducible refine gate_callee (f := 16) rfl ?_); refine goesL_ (some 21) rfl rfl Tryd.func16 (by kernel_rfl) rfl #[.agg #[.slice A0_0 l0_0.length c0_0, .slice A0_1 l0_1.length c0_1]] rfl ls_ ?_; (with_reducible refine (cottonpadref06_Twin.calls _ _ l0_0 _ _ l0_1 t267 t270 _ ?side1 ?side2 ?side3 ?side4 A9.out).mono ?_); (case side1 => exact kc_ HR0_0 HB); (case side2 => exact HC0_0.out); (case side3 => exact kc_ HR0_1 HB); (case side4 => exact HC0_1.out); rintro e w30 ⟨v268, v271, rfl, ho0, ho1, hb⟩; refine ⟨_, rfl, ?_⟩; have n0_ := Aside0.mk (Kd.R_lower ho0 (below_size (be1_ HB GE265))); have n1_ := Aside0.mk (Kd.R_lower ho1 (below_size (be1_ HB GE265))); have n2_ := Aside0.mk (blk_below (bk_ BK265) hb); have n3_ := Aside0.mk (below_step (be1_ HB GE265) hb); clear BK265; clear HB; have HO269 := n0_; have HO272 := n1_; have BK265 := n2_; have HB := n3_; clear n0_ n1_ n2_ n3_; (try clear hb); (try clear hb2); (try clear hk); (try clear hi); (try clear ho0); (try clear ho1)) | ((with_reducible refine gate_dst (N := 22) rfl ?_); refine Kd.R_lit k48 _ 48 ?hg (N := 22) ?hd (xs := ([] : List (S48))) (inner := []) (ok := fun _ => True) (okp := fun _ => True) ?hr ?hp (fun _ hk => hk) trivial (Below.refl _ _) (Nat.le_refl _) (by simp) ?_; (case hd => rfl); (case hg => rfl); (case hr => exact gs_); (case hp => exact (Reps.none _ _)); intro v274 w31 ho32 hb hg_ hnew_; clear hg_ hnew_; (first | rw [← Ny273.out] at ho32 | (simp only [Int.reduceToNat] at ho32; rw [← Ny273.out] at ho32)); have n0_ := Aside0.mk (Kd.R_below (ro_ HO269) hb); have n1_ := Aside0.mk (Kd.R_below (ro_ HO272) hb); have n2_ := Aside0.mk (Kd.R_lower ho32 (below_size (be1_ HB GE265))); have n3_ := Aside0.mk (blk_below (bk_ BK265) hb); have n4_ := Aside0.mk (below_step (be1_ HB GE265) hb); clear HO269; clear HO272; clear BK265; clear HB; have HO269 := n0_; have HO272 := n1_; have HO275 := n2_; have BK265 := n3_; have HB := n4_; clear n0_ n1_ n2_ n3_ n4_; clear hb ho32) | ((with_reducible refine gate_builtin (b := .append) (xs := #[.tmp 22, .tmp 23]) rfl ?_); at_builtin; refine Kd.R_append_rows k48 (w0 := w) w.heap.size rfl (.tmp 22) (.tmp 23) 26 48 (.agg #[(.int .i64 0), (.int .i64 0), (.int .i64 0), (.int .i64 0), (.int .i64 0)]) 40 rfl Tryd.underlying26 info48 rfl (by decide) (by omega) v274 y273 l1 _ _ _ (fun _ => True) (fun _ => False) rfl rfl ?aO ?aR (fun _ _ h => h) (fun _ h => h.elim) ?aF ?aB ?aS ?aL ?_; (case aR => exact kc_ HR1 HB); (case aB => exact (be1_ HB GE265)); (case aF => exact (fun _ _ => trivial)); (case aO => exact (ro_ HO275)); (case aS => exact (below_size (be1_ HB GE265))); (case aL => have := LMc10.out; omega); intro v277 w33 ho hb hg hat; rw [← Ny276.out] at ho; have n0_ := Aside0.mk (blk_grown (g := gb265) (o := .cells #[.slice A0_0 l0_0.length c0_0, .slice A0_1 l0_1.length c0_1] 25 (0, 0)) (bk_ BK265) hg (Kd.R_ne HO275.out BK265.out (by decide))); have n1_ := Aside0.mk (Kd.R_over' (ro_ HO269) (Kd.R_typed (ro_ HO275)) (by decide) hg); have n2_ := Aside0.mk (Kd.R_over' (ro_ HO272) (Kd.R_typed (ro_ HO275)) (by decide) hg); have n3_ := Aside0.mk (hb); have n4_ := Aside0.mk (ho); clear BK265; clear HO269; clear HO272; clear HB; clear HO275; have BK265 := n0_; have HO269 := n1_; have HO272 := n2_; have HB := n3_; have HO278 := n4_; clear n0_ n1_ n2_ n3_ n4_; clear ho hb hg hat) | ((with_reducible refine gate_dst (N := 7) rfl ?_); refine box_event ?hg (N := 7) ?hd (cs := #[.slice none 0 0, .slice none 0 0]) (t := 25) ?hr ?_; (case hd => rfl); (case hg => rfl); (case hr => exact gs_); intro gb279 hg w34 hbox hb; have n0_ := Aside0.mk (Kd.R_below (ro_ HO269) hb); have n1_ := Aside0.mk (Kd.R_below (ro_ HO272) hb); have n2_ := Aside0.mk (Kd.R_below (ro_ HO278) hb); have n3_ := Aside0.mk (blk_below (bk_ BK265) hb); have n4_ := Aside0.mk (below_step (be1_ HB GE265) hb); have n5_ := Aside0.mk (hbox); have n6_ := Aside0.mk ((by rw [hg]; exact (below_size (be1_ HB GE265)) : w.heap.size ≤ gb279)); have n7_ := Aside0.mk ((by rw [hg]; exact (below_size (be1_ HB GE265)) : w.heap.size ≤ gb279)); have n8_ := Aside0.mk ((by rw [hg]; exact Nat.ne_of_lt (blk_lt (bk_ BK265)) : gb265 ≠ gb279)); have n9_ := Aside0.mk ((by rw [hg]; exact Nat.ne_of_gt (blk_lt (bk_ BK265)) : gb279 ≠ gb265)); clear HO269; clear HO272; clear HO278; clear BK265; clear HB; have HO269 := n0_; have HO272 := n1_; have HO278 := n2_; have BK265 := n3_; have HB := n4_; have BK279 := n5_; have GW279 := n6_; have GE279 := n7_; have NB265_279 := n8_; have NB279_265 := n9_; clear n0_ n1_ n2_ n3_ n4_ n5_ n6_ n7_ n8_ n9_; clear hb hbox hg; obtain ⟨Ao35, co35, eo35⟩ := Kd.R_slice HO269.out; subst eo35; have hnb36 := NB279_265.out; have hnc36 := NB265_279.out; have hcz37_0 : w34.cell? ⟨gb279, 0, none⟩ = some (.slice none 0 0) := bc_ BK279 0; have hcz37_1 : w34.cell? ⟨gb279, 1, none⟩ = some (.slice none 0 0) := bc_ BK279 1; have hfz37_0 := blk_frozen BK279.out 0; have hfz37_1 := blk_frozen BK279.out 1; obtain ⟨Ao38, co38, eo38⟩ := Kd.R_slice HO272.out; subst eo38; obtain ⟨Ao39, co39, eo39⟩ := Kd.R_slice HO278.out; subst eo39) | ((with_reducible refine gate_callee (f := 17) rfl ?_); refine goesL_ (some 29) rfl rfl Tryd.func17 (by kernel_rfl) rfl #[.agg #[.slice Ao35 t267.length co35, .slice Ao38 t270.length co38], .slice Ao39 y276.length co39, .int .i64 a2] rfl ls_ ?_; (with_reducible refine (exits_Leaves.calls _ _ t267 _ _ t270 _ _ y276 a2 t280 t283 _ ?side7 ?side1 ?side2 ?side3 ?side4 ?side5 ?side6 A11.out).mono ?_); (case side1 => refine (Kd.R_reads' (e := 62) (base := w.heap.size) (ok := fun k_ => True) (n := t267.length) (c := co35) ?_).2.2; exact (by (with_reducible repeat (first | apply Kd.R_alloc | apply Kd.R_drewN | apply Kd.R_drew)); exact (Kd.R_mono (Kd.R_far (p := ⟨gb279, 1, none⟩) (Kd.R_far (p := ⟨gb279, 0, none⟩) (Kd.R_types HO269.out BK279.out (by decide)) (fun _ hk => hk.2) (.slice Ao35 t267.length co35)) (fun _ hk => hk.2) (.slice Ao38 t270.length co38)) (fun _ h_ => h_.1)))); (case side2 => exact (Kd.R_reads' HO269.out).2.1); (case side3 => refine (Kd.R_reads' (e := 81) (base := w.heap.size) (ok := fun k_ => True) (n := t270.length) (c := co38) ?_).2.2; exact (by (with_reducible repeat (first | apply Kd.R_alloc | apply Kd.R_drewN | apply Kd.R_drew)); exact (Kd.R_mono (Kd.R_far (p := ⟨gb279, 1, none⟩) (Kd.R_far (p := ⟨gb279, 0, none⟩) (Kd.R_types HO272.out BK279.out (by decide)) (fun _ hk => hk.2) (.slice Ao35 t267.length co35)) (fun _ hk => hk.2) (.slice Ao38 t270.length co38)) (fun _ h_ => h_.1)))); (case side4 => exact (Kd.R_reads' HO272.out).2.1); (case side5 => refine (Kd.R_reads' (e := 48) (base := w.heap.size) (ok := fun k_ => True) (n := y276.length) (c := co39) ?_).2.2; exact (by (with_reducible repeat (first | apply Kd.R_alloc | apply Kd.R_drewN | apply Kd.R_drew)); exact (Kd.R_mono (Kd.R_far (p := ⟨gb279, 1, none⟩) (Kd.R_far (p := ⟨gb279, 0, none⟩) (Kd.R_types HO278.out BK279.out (by decide)) (fun _ hk => hk.2) (.slice Ao35 t267.length co35)) (fun _ hk => hk.2) (.slice Ao38 t270.length co38)) (fun _ h_ => h_.1)))); (case side6 => exact (Kd.R_reads' HO278.out).2.1); (case side7 => exact GlobsE.below HG.out (be2_ HB GE265 GE279)); rintro e w40 ⟨v281, rfl, ho0, hb⟩; refine ⟨_, rfl, ?_⟩; have n0_ := Aside0.mk (Kd.R_below (by (with_reducible repeat (first | apply Kd.R_alloc | apply Kd.R_drewN | apply Kd.R_drew)); exact (Kd.R_mono (Kd.R_far (p := ⟨gb279, 1, none⟩) (Kd.R_far (p := ⟨gb279, 0, none⟩) (Kd.R_types HO269.out BK279.out (by decide)) (fun _ hk => hk.2) (.slice Ao35 t267.length co35)) (fun _ hk => hk.2) (.slice Ao38 t270.length co38)) (fun _ h_ => h_.1))) hb); have n1_ := Aside0.mk (Kd.R_below (by (with_reducible repeat (first | apply Kd.R_alloc | apply Kd.R_drewN | apply Kd.R_drew)); exact (Kd.R_mono (Kd.R_far (p := ⟨gb279, 1, none⟩) (Kd.R_far (p := ⟨gb279, 0, none⟩) (Kd.R_types HO272.out BK279.out (by decide)) (fun _ hk => hk.2) (.slice Ao35 t267.length co35)) (fun _ hk => hk.2) (.slice Ao38 t270.length co38)) (fun _ h_ => h_.1))) hb); have n2_ := Aside0.mk (Kd.R_below (by (with_reducible repeat (first | apply Kd.R_alloc | apply Kd.R_drewN | apply Kd.R_drew)); exact (Kd.R_mono (Kd.R_far (p := ⟨gb279, 1, none⟩) (Kd.R_far (p := ⟨gb279, 0, none⟩) (Kd.R_types HO278.out BK279.out (by decide)) (fun _ hk => hk.2) (.slice Ao35 t267.length co35)) (fun _ hk => hk.2) (.slice Ao38 t270.length co38)) (fun _ h_ => h_.1))) hb); have n3_ := Aside0.mk (Kd.R_lower ho0 (below_size (be2_ HB GE265 GE279))); have n4_ := Aside0.mk (blk_below (g := gb265) (o := .cells #[.slice A0_0 l0_0.length c0_0, .slice A0_1 l0_1.length c0_1] 25 (0, 0)) (by (with_reducible repeat (first | refine blk_drewN ?_ _ | refine blk_drew ?_ | refine blk_alloc ?_ _)); refine blk_far ?_ NB265_279.out _; (with_reducible repeat (first | refine blk_drewN ?_ _ | refine blk_drew ?_ | refine blk_alloc ?_ _)); refine blk_far ?_ NB265_279.out _; (with_reducible repeat (first | refine blk_drewN ?_ _ | refine blk_drew ?_ | refine blk_alloc ?_ _)); exact BK265.out) hb); have n5_ := Aside0.mk (blk_below (g := gb279) (o := .cells #[.slice Ao35 t267.length co35, .slice Ao38 t270.length co38] 25 (0, 0)) (by (with_reducible repeat (first | refine blk_drewN ?_ _ | refine blk_drew ?_ | refine blk_alloc ?_ _)); refine blk_put (cs := #[.slice Ao35 t267.length co35, .slice none 0 0]) ?_ 1 _ rfl; (with_reducible repeat (first | refine blk_drewN ?_ _ | refine blk_drew ?_ | refine blk_alloc ?_ _)); refine blk_put (cs := #[.slice none 0 0, .slice none 0 0]) ?_ 0 _ rfl; (with_reducible repeat (first | refine blk_drewN ?_ _ | refine blk_drew ?_ | refine blk_alloc ?_ _)); exact BK279.out) hb); have n6_ := Aside0.mk (below_step (be2_ HB GE265 GE279) hb); clear HO269; clear HO272; clear HO278; clear BK265; clear BK279; clear HB; have HO269 := n0_; have HO272 := n1_; have HO278 := n2_; have HO282 := n3_; have BK265 := n4_; have BK279 := n5_; have HB := n6_; clear n0_ n1_ n2_ n3_ n4_ n5_ n6_; (try clear hb); (try clear hb2); (try clear hk); (try clear hi); (try clear ho0); have hcz41_0 : w40.cell? ⟨gb265, 0, none⟩ = some (.slice A0_0 l0_0.length c0_0) := bc_ BK265 0; have hcz41_1 : w40.cell? ⟨gb265, 1, none⟩ = some (.slice A0_1 l0_1.length c0_1) := bc_ BK265 1; have hfz41_0 := blk_frozen BK265.out 0; have hfz41_1 := blk_frozen BK265.out 1) | ((with_reducible refine gate_callee (f := 18) rfl ?_); refine goesL_ (some 36) rfl rfl Tryd.func18 (by kernel_rfl) rfl #[.agg #[.slice A0_0 l0_0.length c0_0, .slice A0_1 l0_1.length c0_1], .slice A1 l1.length c1, .int .i64 a2] rfl ls_ ?_; (with_reducible refine (cottonpadref06_Leaves.calls k _ _ l0_0 _ _ l0_1 _ _ l1 a2 t284 t287 _ ?side1 ?side2 ?side3 ?side4 ?side5 ?side6 A12.out).mono ?_); (case side1 => exact kc_ HR0_0 HB); (case side2 => exact HC0_0.out); (case side3 => exact kc_ HR0_1 HB); (case side4 => exact HC0_1.out); (case side5 => exact kc_ HR1 HB); (case side6 => exact HC1.out); rintro e w42 ⟨v285, rfl, ho0, hb⟩; refine ⟨_, rfl, ?_⟩; have n0_ := Aside0.mk (Kd.R_below (ro_ HO269) hb); have n1_ := Aside0.mk (Kd.R_below (ro_ HO272) hb); have n2_ := Aside0.mk (Kd.R_below (ro_ HO278) hb); have n3_ := Aside0.mk (Kd.R_elder' (ro_ HO282) (Kd.R_base ho0) hb); have n4_ := Aside0.mk (Kd.R_lower (Kd.R_new' ho0 (Kd.R_lt (ro_ HO282))) (below_size (be2_ HB GE265 GE279))); have n5_ := Aside0.mk (blk_below (bk_ BK265) hb); have n6_ := Aside0.mk (blk_below (bk_ BK279) hb); have n7_ := Aside0.mk (below_step (be2_ HB GE265 GE279) hb); clear HO269; clear HO272; clear HO278; clear HO282; clear BK265; clear BK279; clear HB; have HO269 := n0_; have HO272 := n1_; have HO278 := n2_; have HO282 := n3_; have HO286 := n4_; have BK265 := n5_; have BK279 := n6_; have HB := n7_; clear n0_ n1_ n2_ n3_ n4_ n5_ n6_ n7_; (try clear hb); (try clear hb2); (try clear hk); (try clear hi); (try clear ho0); have hcz43_0 : w42.cell? ⟨gb279, 0, none⟩ = some (.slice Ao35 t267.length co35) := bc_ BK279 0; have hcz43_1 : w42.cell? ⟨gb279, 1, none⟩ = some (.slice Ao38 t270.length co38) := bc_ BK279 1; have hfz43_0 := blk_frozen BK279.out 0; have hfz43_1 := blk_frozen BK279.out 1) | ((with_reducible refine gate_callee (f := 19) rfl ?_); refine goesL_ (some 42) rfl rfl Tryd.func19 (by kernel_rfl) rfl #[.agg #[.slice Ao35 t267.length co35, .slice Ao38 t270.length co38], .slice Ao39 y276.length co39] rfl ls_ ?_; (with_reducible refine (exits_Out.calls _ _ t267 _ _ t270 _ _ y276 t288 t289 t290 _ ?side7 ?side1 ?side2 ?side3 ?side4 ?side5 ?side6 A13.out).mono ?_); (case side1 => repeat (first | exact (Kd.R_reads' HO269.out).2.2 | (with_reducible refine Kd.C_alloc ?_ _) | (with_reducible refine Kd.C_drewN ?_ _) | (with_reducible refine Kd.C_drew ?_))); (case side2 => exact (Kd.R_reads' HO269.out).2.1); (case side3 => repeat (first | exact (Kd.R_reads' HO272.out).2.2 | (with_reducible refine Kd.C_alloc ?_ _) | (with_reducible refine Kd.C_drewN ?_ _) | (with_reducible refine Kd.C_drew ?_))); (case side4 => exact (Kd.R_reads' HO272.out).2.1); (case side5 => repeat (first | exact (Kd.R_reads' HO278.out).2.2 | (with_reducible refine Kd.C_alloc ?_ _) | (with_reducible refine Kd.C_drewN ?_ _) | (with_reducible refine Kd.C_drew ?_))); (case side6 => exact (Kd.R_reads' HO278.out).2.1); (case side7 => exact GlobsE.below HG.out (be2_ HB GE265 GE279)); rintro e w44 ⟨rfl, hb⟩; refine ⟨_, rfl, ?_⟩; have n0_ := Aside0.mk (Kd.R_below (ro_ HO269) hb); have n1_ := Aside0.mk (Kd.R_below (ro_ HO272) hb); have n2_ := Aside0.mk (Kd.R_below (ro_ HO278) hb); have n3_ := Aside0.mk (Kd.R_below (ro_ HO282) hb); have n4_ := Aside0.mk (Kd.R_below (ro_ HO286) hb); have n5_ := Aside0.mk (blk_below (bk_ BK265) hb); have n6_ := Aside0.mk (blk_below (bk_ BK279) hb); have n7_ := Aside0.mk (below_step (be2_ HB GE265 GE279) hb); clear HO269; clear HO272; clear HO278; clear HO282; clear HO286; clear BK265; clear BK279; clear HB; have HO269 := n0_; have HO272 := n1_; have HO278 := n2_; have HO282 := n3_; have HO286 := n4_; have BK265 := n5_; have BK279 := n6_; have HB := n7_; clear n0_ n1_ n2_ n3_ n4_ n5_ n6_ n7_; (try clear hb); (try clear hb2); (try clear hk); (try clear hi)) | ((with_reducible refine gate_dst (N := 13) rfl ?_); refine box_event ?hg (N := 13) ?hd (cs := #[.int .i64 0, .int .i64 0]) (t := 36) ?hr ?_; (case hd => rfl); (case hg => rfl); (case hr => exact gs_); intro gb291 hg w45 hbox hb; have n0_ := Aside0.mk (Kd.R_below (ro_ HO269) hb); have n1_ := Aside0.mk (Kd.R_below (ro_ HO272) hb); have n2_ := Aside0.mk (Kd.R_below (ro_ HO278) hb); have n3_ := Aside0.mk (Kd.R_below (Kd.R_elderB (ro_ HO282) gb291 (Nat.le_of_eq hg.symm)) hb); have n4_ := Aside0.mk (Kd.R_below (Kd.R_elderB (ro_ HO286) gb291 (Nat.le_of_eq hg.symm)) hb); have n5_ := Aside0.mk (blk_below (bk_ BK265) hb); have n6_ := Aside0.mk (blk_below (bk_ BK279) hb); have n7_ := Aside0.mk (below_step (be2_ HB GE265 GE279) hb); have n8_ := Aside0.mk (hbox); have n9_ := Aside0.mk ((by rw [hg]; exact (below_size (be2_ HB GE265 GE279)) : w.heap.size ≤ gb291)); have n10_ := Aside0.mk ((by rw [hg]; exact (below_size (be2_ HB GE265 GE279)) : w.heap.size ≤ gb291)); have n11_ := Aside0.mk ((by rw [hg]; exact Nat.ne_of_lt (blk_lt (bk_ BK265)) : gb265 ≠ gb291)); have n12_ := Aside0.mk ((by rw [hg]; exact Nat.ne_of_gt (blk_lt (bk_ BK265)) : gb291 ≠ gb265)); have n13_ := Aside0.mk ((by rw [hg]; exact Nat.ne_of_lt (blk_lt (bk_ BK279)) : gb279 ≠ gb291)); have n14_ := Aside0.mk ((by rw [hg]; exact Nat.ne_of_gt (blk_lt (bk_ BK279)) : gb291 ≠ gb279)); clear HO269; clear HO272; clear HO278; clear HO282; clear HO286; clear BK265; clear BK279; clear HB; have HO269 := n0_; have HO272 := n1_; have HO278 := n2_; have HO282 := n3_; have HO286 := n4_; have BK265 := n5_; have BK279 := n6_; have HB := n7_; have BK291 := n8_; have GW291 := n9_; have GE291 := n10_; have NB265_291 := n11_; have NB291_265 := n12_; have NB279_291 := n13_; have NB291_279 := n14_; clear n0_ n1_ n2_ n3_ n4_ n5_ n6_ n7_ n8_ n9_ n10_ n11_ n12_ n13_ n14_; clear hb hbox hg; have hnb46 := NB291_265.out; have hnc46 := NB265_291.out; have hnb47 := NB291_279.out; have hnc47 := NB279_291.out; have hcz48_0 : w45.cell? ⟨gb291, 0, none⟩ = some (.int .i64 0) := bc_ BK291 0; have hcz48_1 : w45.cell? ⟨gb291, 1, none⟩ = some (.int .i64 0) := bc_ BK291 1; have hfz48_0 := blk_frozen BK291.out 0; have hfz48_1 := blk_frozen BK291.out 1; have hcz49_0 : w45.cell? ⟨gb265, 0, none⟩ = some (.slice A0_0 l0_0.length c0_0) := bc_ BK265 0; have hcz49_1 : w45.cell? ⟨gb265, 1, none⟩ = some (.slice A0_1 l0_1.length c0_1) := bc_ BK265 1; have hfz49_0 := blk_frozen BK265.out 0; have hfz49_1 := blk_frozen BK265.out 1) | ((with_reducible refine gate_callee (f := 20) rfl ?_); refine goesL_ (some 48) rfl rfl Tryd.func20 (by kernel_rfl) rfl #[.agg #[.slice A0_0 l0_0.length c0_0, .slice A0_1 l0_1.length c0_1], .slice A1 l1.length c1] rfl ls_ ?_; (with_reducible refine (cottonpadref06_Out.calls k _ _ l0_0 _ _ l0_1 _ _ l1 t292 t293 t294 _ ?side1 ?side2 ?side3 ?side4 ?side5 ?side6 A14.out).mono ?_); (case side1 => exact Kd.C_below HR0_0.out (be3_ HB GE265 GE279 GE291)); (case side2 => exact HC0_0.out); (case side3 => exact Kd.C_below HR0_1.out (be3_ HB GE265 GE279 GE291)); (case side4 => exact HC0_1.out); (case side5 => exact Kd.C_below HR1.out (be3_ HB GE265 GE279 GE291)); (case side6 => exact HC1.out); rintro e w50 ⟨rfl, hb⟩; refine ⟨_, rfl, ?_⟩; have n0_ := Aside0.mk (Kd.R_below (by (with_reducible repeat (first | apply Kd.R_alloc | apply Kd.R_drewN | apply Kd.R_drew)); exact (Kd.R_mono (Kd.R_far (p := ⟨gb291, 1, none⟩) (Kd.R_far (p := ⟨gb291, 0, none⟩) (Kd.R_types HO269.out BK291.out (by decide)) (fun _ hk => hk.2) (.int .i64 t288)) (fun _ hk => hk.2) (.int .i64 t289)) (fun _ h_ => h_.1))) hb); have n1_ := Aside0.mk (Kd.R_below (by (with_reducible repeat (first | apply Kd.R_alloc | apply Kd.R_drewN | apply Kd.R_drew)); exact (Kd.R_mono (Kd.R_far (p := ⟨gb291, 1, none⟩) (Kd.R_far (p := ⟨gb291, 0, none⟩) (Kd.R_types HO272.out BK291.out (by decide)) (fun _ hk => hk.2) (.int .i64 t288)) (fun _ hk => hk.2) (.int .i64 t289)) (fun _ h_ => h_.1))) hb); have n2_ := Aside0.mk (Kd.R_below (by (with_reducible repeat (first | apply Kd.R_alloc | apply Kd.R_drewN | apply Kd.R_drew)); exact (Kd.R_mono (Kd.R_far (p := ⟨gb291, 1, none⟩) (Kd.R_far (p := ⟨gb291, 0, none⟩) (Kd.R_types HO278.out BK291.out (by decide)) (fun _ hk => hk.2) (.int .i64 t288)) (fun _ hk => hk.2) (.int .i64 t289)) (fun _ h_ => h_.1))) hb); have n3_ := Aside0.mk (Kd.R_below (by (with_reducible repeat (first | apply Kd.R_alloc | apply Kd.R_drewN | apply Kd.R_drew)); exact (Kd.R_mono (Kd.R_far (p := ⟨gb291, 1, none⟩) (Kd.R_far (p := ⟨gb291, 0, none⟩) (Kd.R_mono HO282.out (fun k_ hk => (⟨hk, hk.2⟩ : _ ∧ k_ ≠ gb291))) (fun _ hk => hk.2) (.int .i64 t288)) (fun _ hk => hk.2) (.int .i64 t289)) (fun _ h_ => h_.1))) hb); have n4_ := Aside0.mk (Kd.R_below (by (with_reducible repeat (first | apply Kd.R_alloc | apply Kd.R_drewN | apply Kd.R_drew)); exact (Kd.R_mono (Kd.R_far (p := ⟨gb291, 1, none⟩) (Kd.R_far (p := ⟨gb291, 0, none⟩) (Kd.R_mono HO286.out (fun k_ hk => (⟨hk, hk.2⟩ : _ ∧ k_ ≠ gb291))) (fun _ hk => hk.2) (.int .i64 t288)) (fun _ hk => hk.2) (.int .i64 t289)) (fun _ h_ => h_.1))) hb); have n5_ := Aside0.mk (blk_below (g := gb265) (o := .cells #[.slice A0_0 l0_0.length c0_0, .slice A0_1 l0_1.length c0_1] 25 (0, 0)) (by (with_reducible repeat (first | refine blk_drewN ?_ _ | refine blk_drew ?_ | refine blk_alloc ?_ _)); refine blk_far ?_ NB265_291.out _; (with_reducible repeat (first | refine blk_drewN ?_ _ | refine blk_drew ?_ | refine blk_alloc ?_ _)); refine blk_far ?_ NB265_291.out _; (with_reducible repeat (first | refine blk_drewN ?_ _ | refine blk_drew ?_ | refine blk_alloc ?_ _)); exact BK265.out) hb); have n6_ := Aside0.mk (blk_below (g := gb279) (o := .cells #[.slice Ao35 t267.length co35, .slice Ao38 t270.length co38] 25 (0, 0)) (by (with_reducible repeat (first | refine blk_drewN ?_ _ | refine blk_drew ?_ | refine blk_alloc ?_ _)); refine blk_far ?_ NB279_291.out _; (with_reducible repeat (first | refine blk_drewN ?_ _ | refine blk_drew ?_ | refine blk_alloc ?_ _)); refine blk_far ?_ NB279_291.out _; (with_reducible repeat (first | refine blk_drewN ?_ _ | refine blk_drew ?_ | refine blk_alloc ?_ _)); exact BK279.out) hb); have n7_ := Aside0.mk (blk_below (g := gb291) (o := .cells #[.int .i64 t288, .int .i64 t289] 36 (0, 0)) (by (with_reducible repeat (first | refine blk_drewN ?_ _ | refine blk_drew ?_ | refine blk_alloc ?_ _)); refine blk_put (cs := #[.int .i64 t288, .int .i64 0]) ?_ 1 _ rfl; (with_reducible repeat (first | refine blk_drewN ?_ _ | refine blk_drew ?_ | refine blk_alloc ?_ _)); refine blk_put (cs := #[.int .i64 0, .int .i64 0]) ?_ 0 _ rfl; (with_reducible repeat (first | refine blk_drewN ?_ _ | refine blk_drew ?_ | refine blk_alloc ?_ _)); exact BK291.out) hb); have n8_ := Aside0.mk (below_step (be3_ HB GE265 GE279 GE291) hb); clear HO269; clear HO272; clear HO278; clear HO282; clear HO286; clear BK265; clear BK279; clear BK291; clear HB; have HO269 := n0_; have HO272 := n1_; have HO278 := n2_; have HO282 := n3_; have HO286 := n4_; have BK265 := n5_; have BK279 := n6_; have BK291 := n7_; have HB := n8_; clear n0_ n1_ n2_ n3_ n4_ n5_ n6_ n7_ n8_; (try clear hb); (try clear hb2); (try clear hk); (try clear hi)) | ((with_reducible refine gate_dst (N := 15) rfl ?_); refine box_event ?hg (N := 15) ?hd (cs := #[.int .i64 0, .int .i64 0]) (t := 36) ?hr ?_; (case hd => rfl); (case hg => rfl); (case hr => exact gs_); intro gb295 hg w51 hbox hb; have n0_ := Aside0.mk (Kd.R_below (ro_ HO269) hb); have n1_ := Aside0.mk (Kd.R_below (ro_ HO272) hb); have n2_ := Aside0.mk (Kd.R_below (ro_ HO278) hb); have n3_ := Aside0.mk (Kd.R_below (Kd.R_elderB (ro_ HO282) gb295 (Nat.le_of_eq hg.symm)) hb); have n4_ := Aside0.mk (Kd.R_below (Kd.R_elderB (ro_ HO286) gb295 (Nat.le_of_eq hg.symm)) hb); have n5_ := Aside0.mk (blk_below (bk_ BK265) hb); have n6_ := Aside0.mk (blk_below (bk_ BK279) hb); have n7_ := Aside0.mk (blk_below (bk_ BK291) hb); have n8_ := Aside0.mk (below_step (be3_ HB GE265 GE279 GE291) hb); have n9_ := Aside0.mk (hbox); have n10_ := Aside0.mk ((by rw [hg]; exact (below_size (be3_ HB GE265 GE279 GE291)) : w.heap.size ≤ gb295)); have n11_ := Aside0.mk ((by rw [hg]; exact (below_size (be3_ HB GE265 GE279 GE291)) : w.heap.size ≤ gb295)); have n12_ := Aside0.mk ((by rw [hg]; exact Nat.ne_of_lt (blk_lt (bk_ BK265)) : gb265 ≠ gb295)); have n13_ := Aside0.mk ((by rw [hg]; exact Nat.ne_of_gt (blk_lt (bk_ BK265)) : gb295 ≠ gb265)); have n14_ := Aside0.mk ((by rw [hg]; exact Nat.ne_of_lt (blk_lt (bk_ BK279)) : gb279 ≠ gb295)); have n15_ := Aside0.mk ((by rw [hg]; exact Nat.ne_of_gt (blk_lt (bk_ BK279)) : gb295 ≠ gb279)); have n16_ := Aside0.mk ((by rw [hg]; exact Nat.ne_of_lt (blk_lt (bk_ BK291)) : gb291 ≠ gb295)); have n17_ := Aside0.mk ((by rw [hg]; exact Nat.ne_of_gt (blk_lt (bk_ BK291)) : gb295 ≠ gb291)); clear HO269; clear HO272; clear HO278; clear HO282; clear HO286; clear BK265; clear BK279; clear BK291; clear HB; have HO269 := n0_; have HO272 := n1_; have HO278 := n2_; have HO282 := n3_; have HO286 := n4_; have BK265 := n5_; have BK279 := n6_; have BK291 := n7_; have HB := n8_; have BK295 := n9_; have GW295 := n10_; have GE295 := n11_; have NB265_295 := n12_; have NB295_265 := n13_; have NB279_295 := n14_; have NB295_279 := n15_; have NB291_295 := n16_; have NB295_291 := n17_; clear n0_ n1_ n2_ n3_ n4_ n5_ n6_ n7_ n8_ n9_ n10_ n11_ n12_ n13_ n14_ n15_ n16_ n17_; clear hb hbox hg; have hnb52 := NB295_265.out; have hnc52 := NB265_295.out; have hnb53 := NB295_279.out; have hnc53 := NB279_295.out; have hnb54 := NB295_291.out; have hnc54 := NB291_295.out; have hcz55_0 : w51.cell? ⟨gb295, 0, none⟩ = some (.int .i64 0) := bc_ BK295 0; have hcz55_1 : w51.cell? ⟨gb295, 1, none⟩ = some (.int .i64 0) := bc_ BK295 1; have hfz55_0 := blk_frozen BK295.out 0; have hfz55_1 := blk_frozen BK295.out 1))
         have n0_ : Aside0 (Kd.R k62 62 ((w51.setCell ⟨gb295, 0, none⟩ (.int .i64 t292)).setCell ⟨gb295, 1, none⟩ (.int .i64 t293)) w.heap.size (fun _ => True) (.slice Ao35 t267.length co35) t267) := ⟨by (with_reducible repeat (first | apply Kd.R_alloc | apply Kd.R_drewN | apply Kd.R_drew)); exact Kd.R_mono (Kd.R_far (p := ⟨gb295, 1, none⟩) (Kd.R_far (p := ⟨gb295, 0, none⟩) (Kd.R_types HO269.out BK295.out (by decide)) (fun _ hk => hk.2) (.int .i64 t292)) (fun _ hk => hk.2) (.int .i64 t293)) (fun _ hk => trivial)⟩
         have n1_ : Aside0 (Kd.R k81 81 ((w51.setCell ⟨gb295, 0, none⟩ (.int .i64 t292)).setCell ⟨gb295, 1, none⟩ (.int .i64 t293)) w.heap.size (fun _ => True) (.slice Ao38 t270.length co38) t270) := ⟨by (with_reducible repeat (first | apply Kd.R_alloc | apply Kd.R_drewN | apply Kd.R_drew)); exact Kd.R_mono (Kd.R_far (p := ⟨gb295, 1, none⟩) (Kd.R_far (p := ⟨gb295, 0, none⟩) (Kd.R_types HO272.out BK295.out (by decide)) (fun _ hk => hk.2) (.int .i64 t292)) (fun _ hk => hk.2) (.int .i64 t293)) (fun _ hk => trivial)⟩
         have n2_ : Aside0 (Kd.R k48 48 ((w51.setCell ⟨gb295, 0, none⟩ (.int .i64 t292)).setCell ⟨gb295, 1, none⟩ (.int .i64 t293)) w.heap.size (fun _ => True) (.slice Ao39 y276.length co39) y276) := ⟨by (with_reducible repeat (first | apply Kd.R_alloc | apply Kd.R_drewN | apply Kd.R_drew)); exact Kd.R_mono (Kd.R_far (p := ⟨gb295, 1, none⟩) (Kd.R_far (p := ⟨gb295, 0, none⟩) (Kd.R_types HO278.out BK295.out (by decide)) (fun _ hk => hk.2) (.int .i64 t292)) (fun _ hk => hk.2) (.int .i64 t293)) (fun _ hk => trivial)⟩
         have n3_ : Aside0 (Kd.R k36 36 ((w51.setCell ⟨gb295, 0, none⟩ (.int .i64 t292)).setCell ⟨gb295, 1, none⟩ (.int .i64 t293)) w.heap.size (fun k_ => some k_ ≠ (v285 : Value).ownBlock ∧ k_ ≠ gb291 ∧ k_ ≠ gb295) v281 t280) := ⟨by (with_reducible repeat (first | apply Kd.R_alloc | apply Kd.R_drewN | apply Kd.R_drew)); exact Kd.R_mono (Kd.R_far (p := ⟨gb295, 1, none⟩) (Kd.R_far (p := ⟨gb295, 0, none⟩) (Kd.R_mono HO282.out (fun k_ hk => (⟨hk, hk.2⟩ : _ ∧ k_ ≠ gb295))) (fun _ hk => hk.2) (.int .i64 t292)) (fun _ hk => hk.2) (.int .i64 t293)) (fun _ hk => ⟨hk.1.1.1.2, ⟨hk.1.1.2, hk.1.2⟩⟩)⟩
         have n4_ : Aside0 (Kd.R k36 36 ((w51.setCell ⟨gb295, 0, none⟩ (.int .i64 t292)).setCell ⟨gb295, 1, none⟩ (.int .i64 t293)) w.heap.size (fun k_ => some k_ ≠ (v281 : Value).ownBlock ∧ k_ ≠ gb291 ∧ k_ ≠ gb295) v285 t284) := ⟨by (with_reducible repeat (first | apply Kd.R_alloc | apply Kd.R_drewN | apply Kd.R_drew)); exact Kd.R_mono (Kd.R_far (p := ⟨gb295, 1, none⟩) (Kd.R_far (p := ⟨gb295, 0, none⟩) (Kd.R_mono HO286.out (fun k_ hk => (⟨hk, hk.2⟩ : _ ∧ k_ ≠ gb295))) (fun _ hk => hk.2) (.int .i64 t292)) (fun _ hk => hk.2) (.int .i64 t293)) (fun _ hk => ⟨hk.1.1.1.2, ⟨hk.1.1.2, hk.1.2⟩⟩)⟩
         have n5_ : Aside0 (((w51.setCell ⟨gb295, 0, none⟩ (.int .i64 t292)).setCell ⟨gb295, 1, none⟩ (.int .i64 t293)).heap[gb265]? = some (.cells #[.slice A0_0 l0_0.length c0_0, .slice A0_1 l0_1.length c0_1] 25 (0, 0))) := ⟨by (with_reducible repeat (first | refine blk_drewN ?_ _ | refine blk_drew ?_ | refine blk_alloc ?_ _)); refine blk_far ?_ NB265_295.out _; (with_reducible repeat (first | refine blk_drewN ?_ _ | refine blk_drew ?_ | refine blk_alloc ?_ _)); refine blk_far ?_ NB265_295.out _; (with_reducible repeat (first | refine blk_drewN ?_ _ | refine blk_drew ?_ | refine blk_alloc ?_ _)); exact BK265.out⟩
         have n6_ : Aside0 (((w51.setCell ⟨gb295, 0, none⟩ (.int .i64 t292)).setCell ⟨gb295, 1, none⟩ (.int .i64 t293)).heap[gb279]? = some (.cells #[.slice Ao35 t267.length co35, .slice Ao38 t270.length co38] 25 (0, 0))) := ⟨by (with_reducible repeat (first | refine blk_drewN ?_ _ | refine blk_drew ?_ | refine blk_alloc ?_ _)); refine blk_far ?_ NB279_295.out _; (with_reducible repeat (first | refine blk_drewN ?_ _ | refine blk_drew ?_ | refine blk_alloc ?_ _)); refine blk_far ?_ NB279_295.out _; (with_reducible repeat (first | refine blk_drewN ?_ _ | refine blk_drew ?_ | refine blk_alloc ?_ _)); exact BK279.out⟩
         have n7_ : Aside0 (((w51.setCell ⟨gb295, 0, none⟩ (.int .i64 t292)).setCell ⟨gb295, 1, none⟩ (.int .i64 t293)).heap[gb291]? = some (.cells #[.int .i64 t288, .int .i64 t289] 36 (0, 0))) := ⟨by (with_reducible repeat (first | refine blk_drewN ?_ _ | refine blk_drew ?_ | refine blk_alloc ?_ _)); refine blk_far ?_ NB291_295.out _; (with_reducible repeat (first | refine blk_drewN ?_ _ | refine blk_drew ?_ | refine blk_alloc ?_ _)); refine blk_far ?_ NB291_295.out _; (with_reducible repeat (first | refine blk_drewN ?_ _ | refine blk_drew ?_ | refine blk_alloc ?_ _)); exact BK291.out⟩
         have n8_ : Aside0 (((w51.setCell ⟨gb295, 0, none⟩ (.int .i64 t292)).setCell ⟨gb295, 1, none⟩ (.int .i64 t293)).heap[gb295]? = some (.cells #[.int .i64 t292, .int .i64 t293] 36 (0, 0))) := ⟨by (with_reducible repeat (first | refine blk_drewN ?_ _ | refine blk_drew ?_ | refine blk_alloc ?_ _)); refine blk_put (cs := #[.int .i64 t292, .int .i64 0]) ?_ 1 _ rfl; (with_reducible repeat (first | refine blk_drewN ?_ _ | refine blk_drew ?_ | refine blk_alloc ?_ _)); refine blk_put (cs := #[.int .i64 0, .int .i64 0]) ?_ 0 _ rfl; (with_reducible repeat (first | refine blk_drewN ?_ _ | refine blk_drew ?_ | refine blk_alloc ?_ _)); exact BK295.out⟩
         have n9_ : Aside0 (Below w.heap.size w ((w51.setCell ⟨gb295, 0, none⟩ (.int .i64 t292)).setCell ⟨gb295, 1, none⟩ (.int .i64 t293))) := ⟨by repeat (first | (with_reducible first | exact HB.out | apply below_alloc | apply pw_below_drewN | apply below_drew1 | refine below_set ?_ GE265.out | refine below_set ?_ GE279.out | refine below_set ?_ GE291.out | refine below_set ?_ GE295.out) | exact HB.out)⟩
         (try clear HO269)
         (try clear HO272)
         (try clear HO278)
         (try clear HO282)
         (try clear HO286)
         (try clear BK265)
         (try clear BK279)
         (try clear BK291)
         (try clear BK295)
         (try clear HB)
         generalize ((w51.setCell ⟨gb295, 0, none⟩ (.int .i64 t292)).setCell ⟨gb295, 1, none⟩ (.int .i64 t293)) = w56 at n0_ n1_ n2_ n3_ n4_ n5_ n6_ n7_ n8_ n9_ ⊢
         have HO269 := n0_
         have HO272 := n1_
         have HO278 := n2_
         have HO282 := n3_
         have HO286 := n4_
         have BK265 := n5_
         have BK279 := n6_
         have BK291 := n7_
         have BK295 := n8_
         have HB := n9_
         clear n0_ n1_ n2_ n3_ n4_ n5_ n6_ n7_ n8_ n9_
         have n0_ := Aside0.mk (Kd.R_drew HO269.out)
         have n1_ := Aside0.mk (Kd.R_drew HO272.out)
         have n2_ := Aside0.mk (Kd.R_drew HO278.out)
         have n3_ := Aside0.mk (Kd.R_drew HO282.out)
         have n4_ := Aside0.mk (Kd.R_drew HO286.out)
         have n5_ := Aside0.mk (blk_drew BK265.out)
         have n6_ := Aside0.mk (blk_drew BK279.out)
         have n7_ := Aside0.mk (blk_drew BK291.out)
         have n8_ := Aside0.mk (blk_drew BK295.out)
         have n9_ := Aside0.mk (below_drew1 HB.out)
         clear HO269
         clear HO272
         clear HO278
         clear HO282
         clear HO286
         clear BK265
         clear BK279
         clear BK291
         clear BK295
         clear HB
         have HO269 := n0_
         have HO272 := n1_
         have HO278 := n2_
         have HO282 := n3_
         have HO286 := n4_
         have BK265 := n5_
         have BK279 := n6_
         have BK291 := n7_
         have BK295 := n8_
         have HB := n9_
         clear n0_ n1_ n2_ n3_ n4_ n5_ n6_ n7_ n8_ n9_
         refine start_ (n := 38) (S := fun w' => w'.cell? ⟨gb279, 0, none⟩ = some (.slice Ao35 t267.length co35) ∧ w'.cell? ⟨gb279, 1, none⟩ = some (.slice Ao38 t270.length co38) ∧ w'.cell? ⟨gb265, 0, none⟩ = some (.slice A0_0 l0_0.length c0_0) ∧ w'.cell? ⟨gb265, 1, none⟩ = some (.slice A0_1 l0_1.length c0_1) ∧ w'.cell? ⟨gb291, 0, none⟩ = some (.int .i64 t288) ∧ w'.cell? ⟨gb291, 1, none⟩ = some (.int .i64 t289) ∧ w'.cell? ⟨gb295, 0, none⟩ = some (.int .i64 t292) ∧ w'.cell? ⟨gb295, 1, none⟩ = some (.int .i64 t293)) (ds := []) (bm_ 38 0) (by kernel_rfl) rfl rfl ⟨bc_ BK279 0, bc_ BK279 1, bc_ BK265 0, bc_ BK265 1, bc_ BK291 0, bc_ BK291 1, bc_ BK295 0, bc_ BK295 1⟩ (fun hHeld => ?_); refine with_tabW cottonpadlaw06_ExitsLeaves.tab8 cottonpadlaw06_ExitsLeaves.bits8 (fun HT_ HW_ => ?_)
         generalize w56.drew = w57 at HO269 HO272 HO278 HO282 HO286 BK265 BK279 BK291 BK295 HB hHeld ⊢
         refine pure_ (i := 1) (N := some 52) (v := ?_) (a' := ?_) (bm_ 38 2) rfl rfl (any_of HT_.out (by kernel_rfl)) (fun _ _ _ h => h) (Or.inl ⟨by rfl, ?_⟩) ?_ ?_
         rotate_left
         ·intro w'
          go_simp
          with_reducible rfl
         rotate_left
         ·exact pt_
         refine pure_ (i := 4) (N := some 55) (v := ?_) (a' := ?_) (bm_ 38 18) rfl rfl (any_of HT_.out (by kernel_rfl)) (fun _ _ _ h => h) (Or.inl ⟨by rfl, ?_⟩) ?_ ?_
         rotate_left
         ·intro w'
          go_simp
          with_reducible rfl
         rotate_left
         ·exact pt_
         refine take_ (i := 0) (N := some 51) (v := ?_) (a' := ?_) (bm_ 38 19) rfl rfl (take_ofW HT_.out HW_.out (by kernel_rfl)) (fun _ _ _ h => h) (Or.inl ⟨by rfl, ?_⟩) hHeld ?_ ?_
         rotate_left
         ·rintro w' ⟨s0, s1, s2, s3, s4, s5, s6, s7⟩
          go_simp
          with_reducible rfl
         rotate_left
         ·exact pt_
         refine take_ (i := 3) (N := some 54) (v := ?_) (a' := ?_) (bm_ 38 27) rfl rfl (take_ofW HT_.out HW_.out (by kernel_rfl)) (fun _ _ _ h => h) (Or.inl ⟨by rfl, ?_⟩) hHeld ?_ ?_
         rotate_left
         ·rintro w' ⟨s0, s1, s2, s3, s4, s5, s6, s7⟩
          go_simp
          with_reducible rfl
         rotate_left
         ·exact pt_
         refine one_ (i := 2) (N := some 53) (bm_ 38 31) rfl rfl (one_of HT_.out (by kernel_rfl)) (by decide) (fun K hK => ?_)
         refine goes_ Tryd.func21 (by kernel_rfl) rfl #[.agg #[.slice Ao35 t267.length co35, .slice Ao38 t270.length co38], .slice Ao39 y276.length co39] (by rfl) rfl rfl ls_ ?_
         with_reducible refine (exits_Check.calls _ _ t267 _ _ t270 _ _ y276 t296 _ ?side1 ?side2 ?side3 ?side4 ?side5 ?side6 A15.out).mono ?_
         (case side1 => repeat (first | exact (Kd.R_reads' HO269.out).2.2 | (with_reducible refine Kd.C_alloc ?_ _) | (with_reducible refine Kd.C_drewN ?_ _) | (with_reducible refine Kd.C_drew ?_)))
         (case side2 => exact (Kd.R_reads' HO269.out).2.1)
         (case side3 => repeat (first | exact (Kd.R_reads' HO272.out).2.2 | (with_reducible refine Kd.C_alloc ?_ _) | (with_reducible refine Kd.C_drewN ?_ _) | (with_reducible refine Kd.C_drew ?_)))
         (case side4 => exact (Kd.R_reads' HO272.out).2.1)
         (case side5 => repeat (first | exact (Kd.R_reads' HO278.out).2.2 | (with_reducible refine Kd.C_alloc ?_ _) | (with_reducible refine Kd.C_drewN ?_ _) | (with_reducible refine Kd.C_drew ?_)))
         (case side6 => exact (Kd.R_reads' HO278.out).2.1)
         rintro e w58 ⟨rfl, hb⟩
         refine ⟨_, rfl, ?_⟩
         have n0_ := Aside0.mk (Kd.R_below (ro_ HO269) hb)
         have n1_ := Aside0.mk (Kd.R_below (ro_ HO272) hb)
         have n2_ := Aside0.mk (Kd.R_below (ro_ HO278) hb)
         have n3_ := Aside0.mk (Kd.R_below (ro_ HO282) hb)
         have n4_ := Aside0.mk (Kd.R_below (ro_ HO286) hb)
         have n5_ := Aside0.mk (blk_below (bk_ BK265) hb)
         have n6_ := Aside0.mk (blk_below (bk_ BK279) hb)
         have n7_ := Aside0.mk (blk_below (bk_ BK291) hb)
         have n8_ := Aside0.mk (blk_below (bk_ BK295) hb)
         have n9_ := Aside0.mk (below_step (by repeat (first | (with_reducible first | exact HB.out | apply below_alloc | apply pw_below_drewN | apply below_drew1 | refine below_set ?_ GE265.out | refine below_set ?_ GE279.out | refine below_set ?_ GE291.out | refine below_set ?_ GE295.out) | exact HB.out)) hb)
         clear HO269
         clear HO272
         clear HO278
         clear HO282
         clear HO286
         clear BK265
         clear BK279
         clear BK291
         clear BK295
         clear HB
         have HO269 := n0_
         have HO272 := n1_
         have HO278 := n2_
         have HO282 := n3_
         have HO286 := n4_
         have BK265 := n5_
         have BK279 := n6_
         have BK291 := n7_
         have BK295 := n8_
         have HB := n9_
         clear n0_ n1_ n2_ n3_ n4_ n5_ n6_ n7_ n8_ n9_
         (try clear hb)
         (try clear hb2)
         (try clear hk)
         (try clear hi)
         refine hK.out _ _ ⟨bc_ BK279 0, bc_ BK279 1, bc_ BK265 0, bc_ BK265 1, bc_ BK291 0, bc_ BK291 1, bc_ BK295 0, bc_ BK295 1⟩ (fun hHeld => ?_)
         clear hK K
         refine norm_ (a' := ?_) ?_ ?_
         rotate_left
         ·show Act.put _ (some 53) _ = _
          simp only [Act.put, List.setIfInBounds_toArray, List.set_cons_zero, List.set_cons_succ, i64_w, i32_w]
          rfl
         refine one_ (i := 5) (N := some 56) (bm_ 38 63) rfl rfl (one_of HT_.out (by kernel_rfl)) (by decide) (fun K hK => ?_)
         refine goes_ Tryd.func22 (by kernel_rfl) rfl #[.agg #[.slice A0_0 l0_0.length c0_0, .slice A0_1 l0_1.length c0_1], .slice A1 l1.length c1] (by rfl) rfl rfl ls_ ?_
         with_reducible refine (cottonpadref06_Check.calls k _ _ l0_0 _ _ l0_1 _ _ l1 t297 _ ?side1 ?side2 ?side3 ?side4 ?side5 ?side6 A16.out).mono ?_
         (case side1 => exact kc_ HR0_0 HB)
         (case side2 => exact HC0_0.out)
         (case side3 => exact kc_ HR0_1 HB)
         (case side4 => exact HC0_1.out)
         (case side5 => exact kc_ HR1 HB)
         (case side6 => exact HC1.out)
         rintro e w59 ⟨rfl, hb⟩
         refine ⟨_, rfl, ?_⟩
         have n0_ := Aside0.mk (Kd.R_below (ro_ HO269) hb)
         have n1_ := Aside0.mk (Kd.R_below (ro_ HO272) hb)
         have n2_ := Aside0.mk (Kd.R_below (ro_ HO278) hb)
         have n3_ := Aside0.mk (Kd.R_below (ro_ HO282) hb)
         have n4_ := Aside0.mk (Kd.R_below (ro_ HO286) hb)
         have n5_ := Aside0.mk (blk_below (bk_ BK265) hb)
         have n6_ := Aside0.mk (blk_below (bk_ BK279) hb)
         have n7_ := Aside0.mk (blk_below (bk_ BK291) hb)
         have n8_ := Aside0.mk (blk_below (bk_ BK295) hb)
         have n9_ := Aside0.mk (below_step (by repeat (first | (with_reducible first | exact HB.out | apply below_alloc | apply pw_below_drewN | apply below_drew1 | refine below_set ?_ GE265.out | refine below_set ?_ GE279.out | refine below_set ?_ GE291.out | refine below_set ?_ GE295.out) | exact HB.out)) hb)
         clear HO269
         clear HO272
         clear HO278
         clear HO282
         clear HO286
         clear BK265
         clear BK279
         clear BK291
         clear BK295
         clear HB
         have HO269 := n0_
         have HO272 := n1_
         have HO278 := n2_
         have HO282 := n3_
         have HO286 := n4_
         have BK265 := n5_
         have BK279 := n6_
         have BK291 := n7_
         have BK295 := n8_
         have HB := n9_
         clear n0_ n1_ n2_ n3_ n4_ n5_ n6_ n7_ n8_ n9_
         (try clear hb)
         (try clear hb2)
         (try clear hk)
         (try clear hi)
         obtain ⟨Ao60, co60, eo60⟩ := Kd.R_slice HO282.out
         (first | subst eo60 | (injection eo60 with f1_ f2_ f3_; have f4_ := f1_.symm; have f5_ := f3_.symm; clear f1_ f2_ f3_; subst f4_; subst f5_))
         obtain ⟨Ao61, co61, eo61⟩ := Kd.R_slice HO286.out
         (first | subst eo61 | (injection eo61 with f1_ f2_ f3_; have f4_ := f1_.symm; have f5_ := f3_.symm; clear f1_ f2_ f3_; subst f4_; subst f5_))
         refine hK.out _ _ ⟨bc_ BK279 0, bc_ BK279 1, bc_ BK265 0, bc_ BK265 1, bc_ BK291 0, bc_ BK291 1, bc_ BK295 0, bc_ BK295 1⟩ (fun hHeld => ?_)
         clear hK K
         refine norm_ (a' := ?_) ?_ ?_
         rotate_left
         ·show Act.put _ (some 56) _ = _
          simp only [Act.put, List.setIfInBounds_toArray, List.set_cons_zero, List.set_cons_succ, i64_w, i32_w]
          rfl
         refine pure_ (i := 6) (N := some 57) (v := ?_) (a' := ?_) (bm_ 38 127) rfl rfl (any_of HT_.out (by kernel_rfl)) (fun _ _ _ h => h) (Or.inl ⟨by rfl, ?_⟩) ?_ ?_
         rotate_left
         ·intro w'
          go_simp
          with_reducible rfl
         rotate_left
         ·exact pt_
         refine pure_ (i := 7) (N := some 58) (v := ?_) (a' := ?_) (bm_ 38 255) rfl rfl (any_of HT_.out (by kernel_rfl)) (fun _ _ _ h => h) (Or.inl ⟨by rfl, ?_⟩) ?_ ?_
         rotate_left
         ·intro w'
          go_simp
          with_reducible rfl
         rotate_left
         ·exact pt_
         refine pure_ (i := 8) (N := some 59) (v := ?_) (a' := ?_) (bm_ 38 511) rfl rfl (any_of HT_.out (by kernel_rfl)) (fun _ _ _ h => h) (Or.inl ⟨by rfl, ?_⟩) ?_ ?_
         rotate_left
         ·intro w'
          go_simp
          with_reducible rfl
         rotate_left
         ·exact pt_
         refine pure_ (i := 9) (N := some 60) (v := ?_) (a' := ?_) (bm_ 38 1023) rfl rfl (any_of HT_.out (by kernel_rfl)) (fun _ _ _ h => h) (Or.inl ⟨by rfl, ?_⟩) ?_ ?_
         rotate_left
         ·intro w'
          go_simp
          with_reducible rfl
         rotate_left
         ·exact pt_
         refine one_ (i := 10) (N := some 61) (bm_ 38 2047) rfl rfl (one_of HT_.out (by kernel_rfl)) (by decide) (fun K hK => ?_)
         refine goes_ Tryd.func23 (by kernel_rfl) rfl #[.slice Ao60 t280.length co60, .slice Ao61 t284.length co61] (by rfl) rfl rfl ls_ ?_
         with_reducible refine (cottonpadref06_SameSpans.calls k _ _ t280 _ _ t284 true _ ?side1 ?side2 ?side3 ?side4 A18.out).mono ?_
         (case side1 => repeat (first | exact (Kd.R_reads' HO282.out).2.2 | (with_reducible refine Kd.C_alloc ?_ _) | (with_reducible refine Kd.C_drewN ?_ _) | (with_reducible refine Kd.C_drew ?_)))
         (case side2 => exact (Kd.R_reads' HO282.out).2.1)
         (case side3 => repeat (first | exact (Kd.R_reads' HO286.out).2.2 | (with_reducible refine Kd.C_alloc ?_ _) | (with_reducible refine Kd.C_drewN ?_ _) | (with_reducible refine Kd.C_drew ?_)))
         (case side4 => exact (Kd.R_reads' HO286.out).2.1)
         rintro e w' ⟨rfl, ⟨nd, rfl⟩⟩
         refine ⟨_, rfl, ?_⟩
         refine hK.out _ _ ⟨bc_ BK279 0, bc_ BK279 1, bc_ BK265 0, bc_ BK265 1, bc_ BK291 0, bc_ BK291 1, bc_ BK295 0, bc_ BK295 1⟩ (fun hHeld => ?_)
         clear hK K
         refine norm_ (a' := ?_) ?_ ?_
         rotate_left
         ·show Act.put _ (some 61) _ = _
          simp only [Act.put, List.setIfInBounds_toArray, List.set_cons_zero, List.set_cons_succ, i64_w, i32_w]
          rfl
         refine pure_ (i := 11) (N := some 62) (v := ?_) (a' := ?_) (bm_ 38 4095) rfl rfl (any_of HT_.out (by kernel_rfl)) (fun _ _ _ h => h) (Or.inl ⟨by rfl, ?_⟩) ?_ ?_
         rotate_left
         ·intro w'
          go_simp
          with_reducible rfl
         rotate_left
         ·exact pt_
         refine pure_ (i := 12) (N := some 63) (v := ?_) (a' := ?_) (bm_ 38 8191) rfl rfl (any_of HT_.out (by kernel_rfl)) (fun _ _ _ h => h) (Or.inl ⟨by rfl, ?_⟩) ?_ ?_
         rotate_left
         ·intro w'
          go_simp
          with_reducible rfl
         rotate_left
         ·exact pt_
         refine pure_ (i := 13) (N := some 64) (v := ?_) (a' := ?_) (bm_ 38 16383) rfl rfl (any_of HT_.out (by kernel_rfl)) (fun _ _ _ h => h) (Or.inl ⟨by rfl, ?_⟩) ?_ ?_
         rotate_left
         ·intro w'
          go_simp
          with_reducible rfl
         rotate_left
         ·exact pt_
         refine pure_ (i := 14) (N := some 65) (v := ?_) (a' := ?_) (bm_ 38 32767) rfl rfl (any_of HT_.out (by kernel_rfl)) (fun _ _ _ h => h) (Or.inl ⟨by rfl, ?_⟩) ?_ ?_
         rotate_left
         ·intro w'
          go_simp
          with_reducible rfl
         rotate_left
         ·exact pt_
         refine pure_ (i := 15) (N := some 66) (v := ?_) (a' := ?_) (bm_ 38 65535) rfl rfl (any_of HT_.out (by kernel_rfl)) (fun _ _ _ h => h) (Or.inl ⟨by rfl, ?_⟩) ?_ ?_
         rotate_left
         ·intro w'
          go_simp
          with_reducible rfl
         rotate_left
         ·exact pt_
         refine pure_ (i := 16) (N := some 67) (v := ?_) (a' := ?_) (bm_ 38 131071) rfl rfl (any_of HT_.out (by kernel_rfl)) (fun _ _ _ h => h) (Or.inl ⟨by rfl, ?_⟩) ?_ ?_
         rotate_left
         ·intro w'
          go_simp
          with_reducible rfl
         rotate_left
         ·exact pt_
         refine pure_ (i := 17) (N := some 68) (v := ?_) (a' := ?_) (bm_ 38 262143) rfl rfl (any_of HT_.out (by kernel_rfl)) (fun _ _ _ h => h) (Or.inl ⟨by rfl, ?_⟩) ?_ ?_
         rotate_left
         ·intro w'
          go_simp
          with_reducible rfl
         rotate_left
         ·exact pt_
         refine take_ (i := 18) (N := some 69) (v := ?_) (a' := ?_) (bm_ 38 524287) rfl rfl (take_ofW HT_.out HW_.out (by kernel_rfl)) (fun _ _ _ h => h) (Or.inl ⟨by rfl, ?_⟩) hHeld ?_ ?_
         rotate_left
         ·rintro w' ⟨s0, s1, s2, s3, s4, s5, s6, s7⟩
          go_simp
          with_reducible rfl
         rotate_left
         ·exact pt_
         refine take_ (i := 19) (N := some 70) (v := ?_) (a' := ?_) (bm_ 38 1048575) rfl rfl (take_ofW HT_.out HW_.out (by kernel_rfl)) (fun _ _ _ h => h) (Or.inl ⟨by rfl, ?_⟩) hHeld ?_ ?_
         rotate_left
         ·rintro w' ⟨s0, s1, s2, s3, s4, s5, s6, s7⟩
          go_simp
          with_reducible rfl
         rotate_left
         ·exact pt_
         refine pure_ (i := 20) (N := some 71) (v := ?_) (a' := ?_) (bm_ 38 2097151) rfl rfl (any_of HT_.out (by kernel_rfl)) (fun _ _ _ h => h) (Or.inl ⟨by rfl, ?_⟩) ?_ ?_
         rotate_left
         ·intro w'
          go_simp
          with_reducible rfl
         rotate_left
         ·exact pt_
         refine pure_ (i := 21) (N := some 72) (v := ?_) (a' := ?_) (bm_ 38 4194303) rfl rfl (any_of HT_.out (by kernel_rfl)) (fun _ _ _ h => h) (Or.inl ⟨by rfl, ?_⟩) ?_ ?_
         rotate_left
         ·intro w'
          go_simp
          with_reducible rfl
         rotate_left
         ·exact pt_
         refine pure_ (i := 22) (N := some 73) (v := ?_) (a' := ?_) (bm_ 38 8388607) rfl rfl (any_of HT_.out (by kernel_rfl)) (fun _ _ _ h => h) (Or.inl ⟨by rfl, ?_⟩) ?_ ?_
         rotate_left
         ·intro w'
          go_simp
          with_reducible rfl
         rotate_left
         ·exact pt_
         refine pure_ (i := 23) (N := some 74) (v := ?_) (a' := ?_) (bm_ 38 16777215) rfl rfl (any_of HT_.out (by kernel_rfl)) (fun _ _ _ h => h) (Or.inl ⟨by rfl, ?_⟩) ?_ ?_
         rotate_left
         ·intro w'
          go_simp
          with_reducible rfl
         rotate_left
         ·exact pt_
         refine pure_ (i := 24) (N := some 75) (v := ?_) (a' := ?_) (bm_ 38 33554431) rfl rfl (any_of HT_.out (by kernel_rfl)) (fun _ _ _ h => h) (Or.inl ⟨by rfl, ?_⟩) ?_ ?_
         rotate_left
         ·intro w'
          go_simp
          with_reducible rfl
         rotate_left
         ·exact pt_
         refine pure_ (i := 25) (N := some 76) (v := ?_) (a' := ?_) (bm_ 38 67108863) rfl rfl (any_of HT_.out (by kernel_rfl)) (fun _ _ _ h => h) (Or.inl ⟨by rfl, ?_⟩) ?_ ?_
         rotate_left
         ·intro w'
          go_simp
          with_reducible rfl
         rotate_left
         ·exact pt_
         refine pure_ (i := 26) (N := some 77) (v := ?_) (a' := ?_) (bm_ 38 134217727) rfl rfl (any_of HT_.out (by kernel_rfl)) (fun _ _ _ h => h) (Or.inl ⟨by rfl, ?_⟩) ?_ ?_
         rotate_left
         ·intro w'
          go_simp
          with_reducible rfl
         rotate_left
         ·exact pt_
         refine pure_ (i := 27) (N := some 78) (v := ?_) (a' := ?_) (bm_ 38 268435455) rfl rfl (any_of HT_.out (by kernel_rfl)) (fun _ _ _ h => h) (Or.inl ⟨by rfl, ?_⟩) ?_ ?_
         rotate_left
         ·intro w'
          go_simp
          with_reducible rfl
         rotate_left
         ·exact pt_
         refine take_ (i := 28) (N := some 79) (v := ?_) (a' := ?_) (bm_ 38 536870911) rfl rfl (take_ofW HT_.out HW_.out (by kernel_rfl)) (fun _ _ _ h => h) (Or.inl ⟨by rfl, ?_⟩) hHeld ?_ ?_
         rotate_left
         ·rintro w' ⟨s0, s1, s2, s3, s4, s5, s6, s7⟩
          go_simp
          with_reducible rfl
         rotate_left
         ·exact pt_
         refine take_ (i := 29) (N := some 80) (v := ?_) (a' := ?_) (bm_ 38 1073741823) rfl rfl (take_ofW HT_.out HW_.out (by kernel_rfl)) (fun _ _ _ h => h) (Or.inl ⟨by rfl, ?_⟩) hHeld ?_ ?_
         rotate_left
         ·rintro w' ⟨s0, s1, s2, s3, s4, s5, s6, s7⟩
          go_simp
          with_reducible rfl
         rotate_left
         ·exact pt_
         refine one_ (i := 30) (N := some 81) (bm_ 38 2147483647) rfl rfl (one_of HT_.out (by kernel_rfl)) (by decide) (fun K hK => ?_)
         refine goes_ Tryd.func24 (by kernel_rfl) rfl #[.agg #[.slice Ao35 t267.length co35, .slice Ao38 t270.length co38], .agg #[.slice A0_0 l0_0.length c0_0, .slice A0_1 l0_1.length c0_1]] (by rfl) rfl rfl ls_ ?_
         with_reducible refine (cottonpadref06_Same.calls k _ _ t267 _ _ t270 _ _ l0_0 _ _ l0_1 true _ ?side1 ?side2 ?side3 ?side4 ?side5 ?side6 ?side7 ?side8 A23.out).mono ?_
         (case side1 => repeat (first | exact (Kd.R_reads' HO269.out).2.2 | (with_reducible refine Kd.C_alloc ?_ _) | (with_reducible refine Kd.C_drewN ?_ _) | (with_reducible refine Kd.C_drew ?_)))
         (case side2 => exact (Kd.R_reads' HO269.out).2.1)
         (case side3 => repeat (first | exact (Kd.R_reads' HO272.out).2.2 | (with_reducible refine Kd.C_alloc ?_ _) | (with_reducible refine Kd.C_drewN ?_ _) | (with_reducible refine Kd.C_drew ?_)))
         (case side4 => exact (Kd.R_reads' HO272.out).2.1)
         (case side5 => repeat (first | exact (Kd.C_below HR0_0.out (by repeat (first | (with_reducible first | exact HB.out | apply below_alloc | apply pw_below_drewN | apply below_drew1 | refine below_set ?_ GE265.out | refine below_set ?_ GE279.out | refine below_set ?_ GE291.out | refine below_set ?_ GE295.out) | exact HB.out))) | (with_reducible refine Kd.C_alloc ?_ _) | (with_reducible refine Kd.C_drewN ?_ _) | (with_reducible refine Kd.C_drew ?_)))
         (case side6 => exact HC0_0.out)
         (case side7 => repeat (first | exact (Kd.C_below HR0_1.out (by repeat (first | (with_reducible first | exact HB.out | apply below_alloc | apply pw_below_drewN | apply below_drew1 | refine below_set ?_ GE265.out | refine below_set ?_ GE279.out | refine below_set ?_ GE291.out | refine below_set ?_ GE295.out) | exact HB.out))) | (with_reducible refine Kd.C_alloc ?_ _) | (with_reducible refine Kd.C_drewN ?_ _) | (with_reducible refine Kd.C_drew ?_)))
         (case side8 => exact HC0_1.out)
         rintro e w62 ⟨rfl, hb⟩
         refine ⟨_, rfl, ?_⟩
         have n0_ := Aside0.mk (Kd.R_below (ro_ HO269) hb)
         have n1_ := Aside0.mk (Kd.R_below (ro_ HO272) hb)
         have n2_ := Aside0.mk (Kd.R_below (ro_ HO278) hb)
         have n3_ := Aside0.mk (Kd.R_below (ro_ HO282) hb)
         have n4_ := Aside0.mk (Kd.R_below (ro_ HO286) hb)
         have n5_ := Aside0.mk (blk_below (bk_ BK265) hb)
         have n6_ := Aside0.mk (blk_below (bk_ BK279) hb)
         have n7_ := Aside0.mk (blk_below (bk_ BK291) hb)
         have n8_ := Aside0.mk (blk_below (bk_ BK295) hb)
         have n9_ := Aside0.mk (below_step (by repeat (first | (with_reducible first | exact HB.out | apply below_alloc | apply pw_below_drewN | apply below_drew1 | refine below_set ?_ GE265.out | refine below_set ?_ GE279.out | refine below_set ?_ GE291.out | refine below_set ?_ GE295.out) | exact HB.out)) hb)
         clear HO269
         clear HO272
         clear HO278
         clear HO282
         clear HO286
         clear BK265
         clear BK279
         clear BK291
         clear BK295
         clear HB
         have HO269 := n0_
         have HO272 := n1_
         have HO278 := n2_
         have HO282 := n3_
         have HO286 := n4_
         have BK265 := n5_
         have BK279 := n6_
         have BK291 := n7_
         have BK295 := n8_
         have HB := n9_
         clear n0_ n1_ n2_ n3_ n4_ n5_ n6_ n7_ n8_ n9_
         (try clear hb)
         (try clear hb2)
         (try clear hk)
         (try clear hi)
         refine hK.out _ _ ⟨bc_ BK279 0, bc_ BK279 1, bc_ BK265 0, bc_ BK265 1, bc_ BK291 0, bc_ BK291 1, bc_ BK295 0, bc_ BK295 1⟩ (fun hHeld => ?_)
         clear hK K
         refine norm_ (a' := ?_) ?_ ?_
         rotate_left
         ·show Act.put _ (some 81) _ = _
          simp only [Act.put, List.setIfInBounds_toArray, List.set_cons_zero, List.set_cons_succ, i64_w, i32_w]
          rfl
         refine pure_ (i := 31) (N := some 82) (v := ?_) (a' := ?_) (bm_ 38 4294967295) rfl rfl (any_of HT_.out (by kernel_rfl)) (fun _ _ _ h => h) (Or.inl ⟨by rfl, ?_⟩) ?_ ?_
         rotate_left
         ·intro w'
          go_simp
          with_reducible rfl
         rotate_left
         ·exact pt_
         refine pure_ (i := 32) (N := some 83) (v := ?_) (a' := ?_) (bm_ 38 8589934591) rfl rfl (any_of HT_.out (by kernel_rfl)) (fun _ _ _ h => h) (Or.inl ⟨by rfl, ?_⟩) ?_ ?_
         rotate_left
         ·intro w'
          go_simp
          with_reducible rfl
         rotate_left
         ·exact pt_
         refine pure_ (i := 33) (N := some 84) (v := ?_) (a' := ?_) (bm_ 38 17179869183) rfl rfl (any_of HT_.out (by kernel_rfl)) (fun _ _ _ h => h) (Or.inl ⟨by rfl, ?_⟩) ?_ ?_
         rotate_left
         ·intro w'
          go_simp
          with_reducible rfl
         rotate_left
         ·exact pt_
         refine pure_ (i := 34) (N := some 85) (v := ?_) (a' := ?_) (bm_ 38 34359738367) rfl rfl (any_of HT_.out (by kernel_rfl)) (fun _ _ _ h => h) (Or.inl ⟨by rfl, ?_⟩) ?_ ?_
         rotate_left
         ·intro w'
          go_simp
          with_reducible rfl
         rotate_left
         ·exact pt_
         refine one_ (i := 35) (N := some 86) (bm_ 38 68719476735) rfl rfl (one_of HT_.out (by kernel_rfl)) (by decide) (fun K hK => ?_)
         refine goes_ Tryd.func25 (by kernel_rfl) rfl #[.slice Ao39 y276.length co39, .slice A1 l1.length c1] (by rfl) rfl rfl ls_ ?_
         with_reducible refine (cottonpadref06_SameWalkers.calls k _ _ y276 _ _ l1 t300 _ ?side1 ?side2 ?side3 ?side4 A25.out).mono ?_
         (case side1 => repeat (first | exact (Kd.R_reads' HO278.out).2.2 | (with_reducible refine Kd.C_alloc ?_ _) | (with_reducible refine Kd.C_drewN ?_ _) | (with_reducible refine Kd.C_drew ?_)))
         (case side2 => exact (Kd.R_reads' HO278.out).2.1)
         (case side3 => exact kc_ HR1 HB)
         (case side4 => exact HC1.out)
         rintro e w' ⟨rfl, ⟨nd, rfl⟩⟩
         refine ⟨_, rfl, ?_⟩
         refine hK.out _ _ ⟨bc_ BK279 0, bc_ BK279 1, bc_ BK265 0, bc_ BK265 1, bc_ BK291 0, bc_ BK291 1, bc_ BK295 0, bc_ BK295 1⟩ (fun hHeld => ?_)
         clear hK K
         refine norm_ (a' := ?_) ?_ ?_
         rotate_left
         ·show Act.put _ (some 86) _ = _
          simp only [Act.put, List.setIfInBounds_toArray, List.set_cons_zero, List.set_cons_succ, i64_w, i32_w]
          rfl
         refine pure_ (i := 36) (N := some 87) (v := ?_) (a' := ?_) (bm_ 38 137438953471) rfl rfl (any_of HT_.out (by kernel_rfl)) (fun _ _ _ h => h) (Or.inl ⟨by rfl, ?_⟩) ?_ ?_
         rotate_left
         ·intro w'
          go_simp
          with_reducible rfl
         rotate_left
         ·exact pt_
         refine pure_ (i := 37) (N := some 6) (v := ?_) (a' := ?_) (bm_ 38 274877906943) rfl rfl (any_of HT_.out (by kernel_rfl)) (fun _ _ _ h => h) (Or.inl ⟨by rfl, ?_⟩) ?_ ?_
         rotate_left
         ·intro w'
          go_simp
          with_reducible rfl
         rotate_left
         ·exact pt_
         refine done_ (done_of HT_.out (by kernel_rfl)) ?_
         try go_wp2
         go_ret
         exact ⟨rf_, by repeat (first | (with_reducible first | exact HB.out | apply below_alloc | apply pw_below_drewN | apply below_drew1 | refine below_set ?_ GE265.out | refine below_set ?_ GE279.out | refine below_set ?_ GE291.out | refine below_set ?_ GE295.out) | exact HB.out)⟩
        ·replace c24 := Bool.eq_false_iff.mpr c24
         subst c24
         have H1 : (some false) = some r := by rw [if_neg (show ¬ (false = true) by decide)] at H; exact H
         clear H
         have H := H1
         clear H1
         exact absurd (H.trans (congrArg some HRT.out)) (by simp)
       ·rw [if_neg c22] at H
        have c22b0 : (t290 == t294) = false := beq_eq_false_iff_ne.mpr c22
        have c22b1 : (t290 != t294) = true := bne_iff_ne.mpr c22
        exact absurd (H.trans (congrArg some HRT.out)) (by simp)
      ·rw [if_neg c21] at H
       have c21b0 : (t288 == t292 && (t289 == t293)) = false := by simpa using c21
       (try (have c21b1 : decide (t288 = t292 && (t289 == t293)) = false := by simpa using c21))
       (try (have c21b2 : (t288 == t292 && (t289 == t293)) = false := by simpa using c21))
       (try (have c21b3 : ¬ (t288 = t292 && (t289 == t293)) := by simpa using c21))
       clear c21
       exact absurd (H.trans (congrArg some HRT.out)) (by simp)
     ·rw [if_neg c20] at H
      have c20b0 : (t283 == t287) = false := beq_eq_false_iff_ne.mpr c20
      have c20b1 : (t283 != t287) = true := bne_iff_ne.mpr c20
      exact absurd (H.trans (congrArg some HRT.out)) (by simp)
    ·replace c19 := Bool.eq_false_iff.mpr c19
     subst c19
     have H1 : (some false) = some r := by rw [if_neg (show ¬ (false = true) by decide)] at H; exact H
     clear H
     have H := H1
     clear H1
     exact absurd (H.trans (congrArg some HRT.out)) (by simp)
   ·rw [if_neg c17] at H
    have c17b0 : (t296 == t297) = false := beq_eq_false_iff_ne.mpr c17
    have c17b1 : (t296 != t297) = true := bne_iff_ne.mpr c17
    exact absurd (H.trans (congrArg some HRT.out)) (by simp)
  ·rw [if_neg c10] at H
   exact absurd H (by simp)

-- NOT PRINTED: function 65 (exits_house_late)

-- BY HAND: function 26 (exits_Safe)

end Go.Proofs.YtdeaccbolnlgpaaDoor.X
