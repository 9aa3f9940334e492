import Derived.Test.YtdeaccbolnlgpaaDoorX0
import Derived.Test.YtdeaccbolnlgpaaDoorXNA
import Derived.Test.YtdeaccbolnlgpaaDoorXN16
import Derived.Test.YtdeaccbolnlgpaaDoorXN24
import Derived.Test.YtdeaccbolnlgpaaDoorXN25
import Derived.Test.YtdeaccbolnlgpaaDoorXN27
import Derived.Test.YtdeaccbolnlgpaaDoorXN29
import Derived.Test.YtdeaccbolnlgpaaDoorXG
import Derived.Test.YtdeaccbolnlgpaaDoorXHMore
import Derived.Test.YtdeaccbolnlgpaaDoorXHS
namespace Go.Proofs.YtdeaccbolnlgpaaDoor.X
open Go.RowKit Go.Proofs.YtdeaccbolnlgpaaDoorW.PrintWords Go.Proofs.YtdeaccbolnlgpaaDoorW.PrintLast Go.Proofs.YtdeaccbolnlgpaaDoorW.PrintMore
attribute [local go_sem] max2_int min2_int max_two min_two max_three min_three max_four min_four   -- for this text's walks alone
set_option linter.unusedVariables false
set_option linter.unusedSimpArgs false

/-! ### cottonpadlaw06_ExitsSafes: function 4 -/
def cottonpadlaw06_ExitsSafes.f (k : Nat) (l0_0 : List (S62)) (l0_1 : List (S81)) (l1 : List (S48)) (a2_0 : Int) (a2_1 : Int) (a2_2 : Int) (a2_3 : Int) (a2_4 : Int) : Option (Bool) := (cottonpadref06_Great.f l0_0 l0_1 l1).bind fun t360 => (if t360 = true then (some true) else ((cottonpadref06_Twin.f l0_0 l0_1).bind fun bt361 => ((some (([] : List (S48)) : List (S48))).bind fun y367 => (if y367.length + l1.length < 3518437208883 then ((some (y367 ++ l1 : List (S48))).bind fun y370 => ((exits_Safe.f bt361.1 bt361.2 y370).bind fun bt374 => ((cottonpadref06_Safe.f k l0_0 l0_1 l1).bind fun bt378 => ((exits_More.f bt361.1 bt361.2 y370 a2_0 a2_1 a2_2 a2_3 a2_4).bind fun bt382 => ((cottonpadref06_More.f k l0_0 l0_1 l1 a2_0 a2_1 a2_2 a2_3 a2_4).bind fun bt384 => (if bt374.1 = bt378.1 then (if bt374.2.1 = bt378.2.1 then (if bt374.2.2.1 = bt378.2.2.1 then (if bt374.2.2.2 = bt378.2.2.2 then (if bt382.1 = bt384.1 then (if bt382.2 = bt384.2 then ((cottonpadref06_Same.f k bt361.1 bt361.2 l0_0 l0_1).bind fun t386 => (if t386 = true then ((cottonpadref06_SameWalkers.f k y370 l1).bind fun t387 => (some t387)) else (some false))) else (some false)) else (some false)) else (some false)) else (some false)) else (some false)) else (some false))))))) else (none)))))
theorem cottonpadlaw06_ExitsSafes.mono : ∀ a0 a1 a2 a3 a4 a5 a6 a7 k, LeO (cottonpadlaw06_ExitsSafes.f k a0 a1 a2 a3 a4 a5 a6 a7) (cottonpadlaw06_ExitsSafes.f (k + 1) a0 a1 a2 a3 a4 a5 a6 a7) := by
 intro a0 a1 a2 a3 a4 a5 a6 a7 k
 unfold cottonpadlaw06_ExitsSafes.f
 repeat' first
   | (with_reducible exact cottonpadref06_More.mono _ _ _ _ _ _ _ _ _)
   | (with_reducible exact cottonpadref06_Safe.mono _ _ _ _)
   | (with_reducible exact cottonpadref06_Same.mono _ _ _ _ _)
   | (with_reducible exact cottonpadref06_SameWalkers.mono _ _ _)
   | (with_reducible exact LeO.refl _)
   | (with_reducible exact LeO.none _)
   | (with_reducible refine LeO.ite ?_ ?_)
   | (with_reducible refine LeO.bind ?_ (fun _ => ?_))
   | exact cottonpadref06_More.mono _ _ _ _ _ _ _ _ _
   | exact cottonpadref06_Safe.mono _ _ _ _
   | exact cottonpadref06_Same.mono _ _ _ _ _
   | exact cottonpadref06_SameWalkers.mono _ _ _
   | exact LeO.none _
   | refine LeO.ite ?_ ?_
   | refine LeO.bind ?_ (fun _ => ?_)
set_option maxHeartbeats 8000000 in
set_option maxRecDepth 100000 in
theorem cottonpadlaw06_ExitsSafes.calls (k : Nat) (A0_0 : Option Addr) (c0_0 : Nat) (l0_0 : List (S62)) (A0_1 : Option Addr) (c0_1 : Nat) (l0_1 : List (S81)) (A1 : Option Addr) (c1 : Nat) (l1 : List (S48)) (a2_0 : Int) (a2_1 : Int) (a2_2 : Int) (a2_3 : Int) (a2_4 : Int) (r : Bool) (w : World) (hG : Globs w) (hrt : r = true) (hr0_0 : Kd.C k62 w A0_0 l0_0.length l0_0) (hc0_0 : l0_0.length ≤ c0_0) (hr0_1 : Kd.C k81 w A0_1 l0_1.length l0_1) (hc0_1 : l0_1.length ≤ c0_1) (hr1 : Kd.C k48 w A1 l1.length l1) (hc1 : l1.length ≤ c1) (h : cottonpadlaw06_ExitsSafes.f k l0_0 l0_1 l1 a2_0 a2_1 a2_2 a2_3 a2_4 = some r) :
  Calls Tryd.prog 4 #[.agg #[.slice A0_0 l0_0.length c0_0, .slice A0_1 l0_1.length c0_1], .slice A1 l1.length c1, .agg #[.int .i64 a2_0, .int .i64 a2_1, .int .i64 a2_2, .int .i64 a2_3, .int .i64 a2_4]] w fun e w' => e = .returned (.bool r) ∧ Below w.heap.size w w' := by
 have hu25 := Tryd.underlying25
 have hu48 := Tryd.underlying48
 have HR0_0 := Aside0.mk hr0_0
 have HC0_0 := Aside0.mk hc0_0
 clear hr0_0 hc0_0
 have HR0_1 := Aside0.mk hr0_1
 have HC0_1 := Aside0.mk hc0_1
 clear hr0_1 hc0_1
 have HR1 := Aside0.mk hr1
 have HC1 := Aside0.mk hc1
 clear hr1 hc1
 have HB := Aside0.mk (Below.refl w.heap.size w)
 have HG := Aside0.mk hG
 clear hG
 have HRT := Aside0.mk hrt
 clear hrt
 have H : ((cottonpadref06_Great.f l0_0 l0_1 l1).bind fun t360 => (if t360 = true then (some true) else ((cottonpadref06_Twin.f l0_0 l0_1).bind fun bt361 => ((some (([] : List (S48)) : List (S48))).bind fun y367 => (if y367.length + l1.length < 3518437208883 then ((some (y367 ++ l1 : List (S48))).bind fun y370 => ((exits_Safe.f bt361.1 bt361.2 y370).bind fun bt374 => ((cottonpadref06_Safe.f k l0_0 l0_1 l1).bind fun bt378 => ((exits_More.f bt361.1 bt361.2 y370 a2_0 a2_1 a2_2 a2_3 a2_4).bind fun bt382 => ((cottonpadref06_More.f k l0_0 l0_1 l1 a2_0 a2_1 a2_2 a2_3 a2_4).bind fun bt384 => (if bt374.1 = bt378.1 then (if bt374.2.1 = bt378.2.1 then (if bt374.2.2.1 = bt378.2.2.1 then (if bt374.2.2.2 = bt378.2.2.2 then (if bt382.1 = bt384.1 then (if bt382.2 = bt384.2 then ((cottonpadref06_Same.f k bt361.1 bt361.2 l0_0 l0_1).bind fun t386 => (if t386 = true then ((cottonpadref06_SameWalkers.f k y370 l1).bind fun t387 => (some t387)) else (some false))) else (some false)) else (some false)) else (some false)) else (some false)) else (some false)) else (some false))))))) else (none)))))) = some r := h
 clear h
 replace H := Option.bind_eq_some_iff.mp H
 obtain ⟨t360, A40, H⟩ := H
 replace H : (if t360 = true then (some true) else ((cottonpadref06_Twin.f l0_0 l0_1).bind fun bt361 => ((some (([] : List (S48)) : List (S48))).bind fun y367 => (if y367.length + l1.length < 3518437208883 then ((some (y367 ++ l1 : List (S48))).bind fun y370 => ((exits_Safe.f bt361.1 bt361.2 y370).bind fun bt374 => ((cottonpadref06_Safe.f k l0_0 l0_1 l1).bind fun bt378 => ((exits_More.f bt361.1 bt361.2 y370 a2_0 a2_1 a2_2 a2_3 a2_4).bind fun bt382 => ((cottonpadref06_More.f k l0_0 l0_1 l1 a2_0 a2_1 a2_2 a2_3 a2_4).bind fun bt384 => (if bt374.1 = bt378.1 then (if bt374.2.1 = bt378.2.1 then (if bt374.2.2.1 = bt378.2.2.1 then (if bt374.2.2.2 = bt378.2.2.2 then (if bt382.1 = bt384.1 then (if bt382.2 = bt384.2 then ((cottonpadref06_Same.f k bt361.1 bt361.2 l0_0 l0_1).bind fun t386 => (if t386 = true then ((cottonpadref06_SameWalkers.f k y370 l1).bind fun t387 => (some t387)) else (some false))) else (some false)) else (some false)) else (some false)) else (some false)) else (some false)) else (some false))))))) else (none))))) = some r := H
 have A4 := Aside0.mk A40
 clear A40
 by_cases c5 : t360 = true
 ·subst c5
  have H1 : (some true) = some r := by rw [if_pos rfl] at H; exact H
  clear H
  have H := H1
  clear H1
  obtain rfl := Option.some.inj H
  go_enter Tryd.func4, Tryd.ntmps4
  go_wp2_with (first | ((with_reducible refine gate_dst (N := 3) rfl ?_); refine box_event ?hg (N := 3) ?hd (cs := #[.slice A0_0 l0_0.length c0_0, .slice A0_1 l0_1.length c0_1]) (t := 25) ?hr ?_; (case hd => rfl); (case hg => rfl); (case hr => exact gs_); intro gb358 hg w6 hbox hb; have BK358 := Aside0.mk (hbox); have GW358 := hl_ hg (be_ HB); have GE358 := hl_ hg (be_ HB); replace HB := bs_ HB hb; clear hb hbox hg) | ((with_reducible refine gate_dst (N := 5) rfl ?_); refine box_event ?hg (N := 5) ?hd (cs := #[.int .i64 a2_0, .int .i64 a2_1, .int .i64 a2_2, .int .i64 a2_3, .int .i64 a2_4]) (t := 48) ?hr ?_; (case hd => rfl); (case hg => rfl); (case hr => exact gs_); intro gb359 hg w7 hbox hb; have BK359 := Aside0.mk (hbox); have GW359 := hl_ hg (be1_ HB GE358); have GE359 := hl_ hg (be1_ HB GE358); replace HB := bs1_ HB GE358 hb; have NB358_359 := Aside0.mk ((by rw [hg]; exact Nat.ne_of_lt (blk_lt (bk_ BK358)) : gb358 ≠ gb359)); have NB359_358 := Aside0.mk ((by rw [hg]; exact Nat.ne_of_gt (blk_lt (bk_ BK358)) : gb359 ≠ gb358)); replace BK358 := bb_ BK358 hb; clear hb hbox hg; have hnb8 := NB358_359.out; have hnc8 := NB359_358.out; have hcz9_0 : w7.cell? ⟨gb358, 0, none⟩ = some (.slice A0_0 l0_0.length c0_0) := bc_ BK358 0; have hcz9_1 : w7.cell? ⟨gb358, 1, none⟩ = some (.slice A0_1 l0_1.length c0_1) := bc_ BK358 1; have hfz9_0 := blk_frozen BK358.out 0; have hfz9_1 := blk_frozen BK358.out 1) | ((with_reducible refine gate_callee (f := 15) rfl ?_); refine goesL_ (some 23) rfl rfl Tryd.func15 (by kernel_rfl) rfl #[.agg #[.slice A0_0 l0_0.length c0_0, .slice A0_1 l0_1.length c0_1], .slice A1 l1.length c1] rfl ls_ ?_; (with_reducible refine (cottonpadref06_Great.calls _ _ l0_0 _ _ l0_1 _ _ l1 true _ ?side1 ?side2 ?side3 ?side4 ?side5 ?side6 A4.out).mono ?_); (case side1 => exact kc_ HR0_0 HB); (case side2 => exact HC0_0.out); (case side3 => exact kc_ HR0_1 HB); (case side4 => exact HC0_1.out); (case side5 => exact kc_ HR1 HB); (case side6 => exact HC1.out); rintro e w10 ⟨rfl, hb⟩; refine ⟨_, rfl, ?_⟩; replace BK358 := bb_ BK358 hb; replace BK359 := bb_ BK359 hb; replace HB := bs2_ HB GE358 GE359 hb; (try clear hb); (try clear hb2); (try clear hk); (try clear hi)))
  go_ret
  exact ⟨rf_, be2_ HB GE358 GE359⟩
 ·replace c5 := Bool.eq_false_iff.mpr c5
  subst c5
  have H1 : ((cottonpadref06_Twin.f l0_0 l0_1).bind fun bt361 => ((some (([] : List (S48)) : List (S48))).bind fun y367 => (if y367.length + l1.length < 3518437208883 then ((some (y367 ++ l1 : List (S48))).bind fun y370 => ((exits_Safe.f bt361.1 bt361.2 y370).bind fun bt374 => ((cottonpadref06_Safe.f k l0_0 l0_1 l1).bind fun bt378 => ((exits_More.f bt361.1 bt361.2 y370 a2_0 a2_1 a2_2 a2_3 a2_4).bind fun bt382 => ((cottonpadref06_More.f k l0_0 l0_1 l1 a2_0 a2_1 a2_2 a2_3 a2_4).bind fun bt384 => (if bt374.1 = bt378.1 then (if bt374.2.1 = bt378.2.1 then (if bt374.2.2.1 = bt378.2.2.1 then (if bt374.2.2.2 = bt378.2.2.2 then (if bt382.1 = bt384.1 then (if bt382.2 = bt384.2 then ((cottonpadref06_Same.f k bt361.1 bt361.2 l0_0 l0_1).bind fun t386 => (if t386 = true then ((cottonpadref06_SameWalkers.f k y370 l1).bind fun t387 => (some t387)) else (some false))) else (some false)) else (some false)) else (some false)) else (some false)) else (some false)) else (some false))))))) else (none)))) = some r := by rw [if_neg (show ¬ (false = true) by decide)] at H; exact H
  clear H
  have H := H1
  clear H1
  replace H := Option.bind_eq_some_iff.mp H
  obtain ⟨⟨t361, t364⟩, A110, H⟩ := H
  replace H : ((some (([] : List (S48)) : List (S48))).bind fun y367 => (if y367.length + l1.length < 3518437208883 then ((some (y367 ++ l1 : List (S48))).bind fun y370 => ((exits_Safe.f t361 t364 y370).bind fun bt374 => ((cottonpadref06_Safe.f k l0_0 l0_1 l1).bind fun bt378 => ((exits_More.f t361 t364 y370 a2_0 a2_1 a2_2 a2_3 a2_4).bind fun bt382 => ((cottonpadref06_More.f k l0_0 l0_1 l1 a2_0 a2_1 a2_2 a2_3 a2_4).bind fun bt384 => (if bt374.1 = bt378.1 then (if bt374.2.1 = bt378.2.1 then (if bt374.2.2.1 = bt378.2.2.1 then (if bt374.2.2.2 = bt378.2.2.2 then (if bt382.1 = bt384.1 then (if bt382.2 = bt384.2 then ((cottonpadref06_Same.f k t361 t364 l0_0 l0_1).bind fun t386 => (if t386 = true then ((cottonpadref06_SameWalkers.f k y370 l1).bind fun t387 => (some t387)) else (some false))) else (some false)) else (some false)) else (some false)) else (some false)) else (some false)) else (some false))))))) else (none))) = some r := H
  have A11 := Aside0.mk A110
  clear A110
  obtain ⟨y367, hy367⟩ : ∃ y_ : List (S48), y_ = (([] : List (S48))) := ⟨_, rfl⟩
  replace H : (if y367.length + l1.length < 3518437208883 then ((some (y367 ++ l1 : List (S48))).bind fun y370 => ((exits_Safe.f t361 t364 y370).bind fun bt374 => ((cottonpadref06_Safe.f k l0_0 l0_1 l1).bind fun bt378 => ((exits_More.f t361 t364 y370 a2_0 a2_1 a2_2 a2_3 a2_4).bind fun bt382 => ((cottonpadref06_More.f k l0_0 l0_1 l1 a2_0 a2_1 a2_2 a2_3 a2_4).bind fun bt384 => (if bt374.1 = bt378.1 then (if bt374.2.1 = bt378.2.1 then (if bt374.2.2.1 = bt378.2.2.1 then (if bt374.2.2.2 = bt378.2.2.2 then (if bt382.1 = bt384.1 then (if bt382.2 = bt384.2 then ((cottonpadref06_Same.f k t361 t364 l0_0 l0_1).bind fun t386 => (if t386 = true then ((cottonpadref06_SameWalkers.f k y370 l1).bind fun t387 => (some t387)) else (some false))) else (some false)) else (some false)) else (some false)) else (some false)) else (some false)) else (some false))))))) else (none)) = some r := by first | (rw [hy367]; with_reducible exact H) | (have H2_ := (Option.bind_some _ _).symm.trans H; rw [hy367]; with_reducible exact H2_) | (have H2_ := (Option.bind_some _ _).symm.trans H; with_reducible exact H2_) | with_reducible exact H | (rw [hy367]; exact H) | exact H
  have Ny367 := Aside0.mk hy367
  clear hy367
  by_cases c12 : y367.length + l1.length < 3518437208883
  ·rw [if_pos c12] at H
   have LMc12 := Aside0.mk c12
   clear c12
   obtain ⟨y370, hy370⟩ : ∃ y_ : List (S48), y_ = (y367 ++ l1) := ⟨_, rfl⟩
   replace H : ((exits_Safe.f t361 t364 y370).bind fun bt374 => ((cottonpadref06_Safe.f k l0_0 l0_1 l1).bind fun bt378 => ((exits_More.f t361 t364 y370 a2_0 a2_1 a2_2 a2_3 a2_4).bind fun bt382 => ((cottonpadref06_More.f k l0_0 l0_1 l1 a2_0 a2_1 a2_2 a2_3 a2_4).bind fun bt384 => (if bt374.1 = bt378.1 then (if bt374.2.1 = bt378.2.1 then (if bt374.2.2.1 = bt378.2.2.1 then (if bt374.2.2.2 = bt378.2.2.2 then (if bt382.1 = bt384.1 then (if bt382.2 = bt384.2 then ((cottonpadref06_Same.f k t361 t364 l0_0 l0_1).bind fun t386 => (if t386 = true then ((cottonpadref06_SameWalkers.f k y370 l1).bind fun t387 => (some t387)) else (some false))) else (some false)) else (some false)) else (some false)) else (some false)) else (some false)) else (some false)))))) = some r := by first | (rw [hy370]; with_reducible exact H) | (have H2_ := (Option.bind_some _ _).symm.trans H; rw [hy370]; with_reducible exact H2_) | (have H2_ := (Option.bind_some _ _).symm.trans H; with_reducible exact H2_) | with_reducible exact H | (rw [hy370]; exact H) | exact H
   have Ny370 := Aside0.mk hy370
   clear hy370
   replace H := Option.bind_eq_some_iff.mp H
   obtain ⟨⟨t374, t375, t376, t377⟩, A130, H⟩ := H
   replace H : ((cottonpadref06_Safe.f k l0_0 l0_1 l1).bind fun bt378 => ((exits_More.f t361 t364 y370 a2_0 a2_1 a2_2 a2_3 a2_4).bind fun bt382 => ((cottonpadref06_More.f k l0_0 l0_1 l1 a2_0 a2_1 a2_2 a2_3 a2_4).bind fun bt384 => (if t374 = bt378.1 then (if t375 = bt378.2.1 then (if t376 = bt378.2.2.1 then (if t377 = bt378.2.2.2 then (if bt382.1 = bt384.1 then (if bt382.2 = bt384.2 then ((cottonpadref06_Same.f k t361 t364 l0_0 l0_1).bind fun t386 => (if t386 = true then ((cottonpadref06_SameWalkers.f k y370 l1).bind fun t387 => (some t387)) else (some false))) else (some false)) else (some false)) else (some false)) else (some false)) else (some false)) else (some false))))) = some r := H
   have A13 := Aside0.mk A130
   clear A130
   replace H := Option.bind_eq_some_iff.mp H
   obtain ⟨⟨t378, t379, t380, t381⟩, A140, H⟩ := H
   replace H : ((exits_More.f t361 t364 y370 a2_0 a2_1 a2_2 a2_3 a2_4).bind fun bt382 => ((cottonpadref06_More.f k l0_0 l0_1 l1 a2_0 a2_1 a2_2 a2_3 a2_4).bind fun bt384 => (if t374 = t378 then (if t375 = t379 then (if t376 = t380 then (if t377 = t381 then (if bt382.1 = bt384.1 then (if bt382.2 = bt384.2 then ((cottonpadref06_Same.f k t361 t364 l0_0 l0_1).bind fun t386 => (if t386 = true then ((cottonpadref06_SameWalkers.f k y370 l1).bind fun t387 => (some t387)) else (some false))) else (some false)) else (some false)) else (some false)) else (some false)) else (some false)) else (some false)))) = some r := H
   have A14 := Aside0.mk A140
   clear A140
   replace H := Option.bind_eq_some_iff.mp H
   obtain ⟨⟨t382, t383⟩, A150, H⟩ := H
   replace H : ((cottonpadref06_More.f k l0_0 l0_1 l1 a2_0 a2_1 a2_2 a2_3 a2_4).bind fun bt384 => (if t374 = t378 then (if t375 = t379 then (if t376 = t380 then (if t377 = t381 then (if t382 = bt384.1 then (if t383 = bt384.2 then ((cottonpadref06_Same.f k t361 t364 l0_0 l0_1).bind fun t386 => (if t386 = true then ((cottonpadref06_SameWalkers.f k y370 l1).bind fun t387 => (some t387)) else (some false))) else (some false)) else (some false)) else (some false)) else (some false)) else (some false)) else (some false))) = some r := H
   have A15 := Aside0.mk A150
   clear A150
   replace H := Option.bind_eq_some_iff.mp H
   obtain ⟨⟨t384, t385⟩, A160, H⟩ := H
   replace H : (if t374 = t378 then (if t375 = t379 then (if t376 = t380 then (if t377 = t381 then (if t382 = t384 then (if t383 = t385 then ((cottonpadref06_Same.f k t361 t364 l0_0 l0_1).bind fun t386 => (if t386 = true then ((cottonpadref06_SameWalkers.f k y370 l1).bind fun t387 => (some t387)) else (some false))) else (some false)) else (some false)) else (some false)) else (some false)) else (some false)) else (some false)) = some r := H
   have A16 := Aside0.mk A160
   clear A160
   by_cases c17 : t374 = t378
   ·rw [if_pos c17] at H
    have c17b0 : (t374 == t378) = true := beq_iff_eq.mpr c17
    have c17b1 : (t374 != t378) = false := bne_eq_false_iff_eq.mpr c17
    clear c17
    by_cases c18 : t375 = t379
    ·rw [if_pos c18] at H
     have c18b0 : (t375 == t379) = true := beq_iff_eq.mpr c18
     have c18b1 : (t375 != t379) = false := bne_eq_false_iff_eq.mpr c18
     clear c18
     by_cases c19 : t376 = t380
     ·rw [if_pos c19] at H
      have c19b0 : (t376 == t380) = true := beq_iff_eq.mpr c19
      have c19b1 : (t376 != t380) = false := bne_eq_false_iff_eq.mpr c19
      clear c19
      by_cases c20 : t377 = t381
      ·rw [if_pos c20] at H
       have c20b0 : (t377 == t381) = true := beq_iff_eq.mpr c20
       have c20b1 : (t377 != t381) = false := bne_eq_false_iff_eq.mpr c20
       clear c20
       by_cases c21 : t382 = t384
       ·rw [if_pos c21] at H
        have c21b0 : (t382 == t384) = true := beq_iff_eq.mpr c21
        have c21b1 : (t382 != t384) = false := bne_eq_false_iff_eq.mpr c21
        clear c21
        by_cases c22 : t383 = t385
        ·rw [if_pos c22] at H
         have c22b0 : (t383 == t385) = true := beq_iff_eq.mpr c22
         have c22b1 : (t383 != t385) = false := bne_eq_false_iff_eq.mpr c22
         clear c22
         replace H := Option.bind_eq_some_iff.mp H
         obtain ⟨t386, A230, H⟩ := H
         replace H : (if t386 = true then ((cottonpadref06_SameWalkers.f k y370 l1).bind fun t387 => (some t387)) else (some false)) = some r := H
         have A23 := Aside0.mk A230
         clear A230
         by_cases c24 : t386 = true
         ·subst c24
          have H1 : ((cottonpadref06_SameWalkers.f k y370 l1).bind fun t387 => (some t387)) = some r := by rw [if_pos rfl] at H; exact H
          clear H
          have H := H1
          clear H1
          replace H := Option.bind_eq_some_iff.mp H
          obtain ⟨t387, A250, H⟩ := H
          replace H : (some t387) = some r := H
          have A25 := Aside0.mk A250
          clear A250
          obtain rfl := Option.some.inj H
          go_enter Tryd.func4, Tryd.ntmps4
          go_wp2_with (first | ((with_reducible refine gate_dst (N := 3) rfl ?_); refine box_event ?hg (N := 3) ?hd (cs := #[.slice A0_0 l0_0.length c0_0, .slice A0_1 l0_1.length c0_1]) (t := 25) ?hr ?_; (case hd => rfl); (case hg => rfl); (case hr => exact gs_); intro gb358 hg w26 hbox hb; have BK358 := Aside0.mk (hbox); have GW358 := hl_ hg (be_ HB); have GE358 := hl_ hg (be_ HB); replace HB := bs_ HB hb; clear hb hbox hg) | ((with_reducible refine gate_dst (N := 5) rfl ?_); refine box_event ?hg (N := 5) ?hd (cs := #[.int .i64 a2_0, .int .i64 a2_1, .int .i64 a2_2, .int .i64 a2_3, .int .i64 a2_4]) (t := 48) ?hr ?_; (case hd => rfl); (case hg => rfl); (case hr => exact gs_); intro gb359 hg w27 hbox hb; have BK359 := Aside0.mk (hbox); have GW359 := hl_ hg (be1_ HB GE358); have GE359 := hl_ hg (be1_ HB GE358); replace HB := bs1_ HB GE358 hb; have NB358_359 := Aside0.mk ((by rw [hg]; exact Nat.ne_of_lt (blk_lt (bk_ BK358)) : gb358 ≠ gb359)); have NB359_358 := Aside0.mk ((by rw [hg]; exact Nat.ne_of_gt (blk_lt (bk_ BK358)) : gb359 ≠ gb358)); replace BK358 := bb_ BK358 hb; clear hb hbox hg; have hnb28 := NB358_359.out; have hnc28 := NB359_358.out; have hcz29_0 : w27.cell? ⟨gb358, 0, none⟩ = some (.slice A0_0 l0_0.length c0_0) := bc_ BK358 0; have hcz29_1 : w27.cell? ⟨gb358, 1, none⟩ = some (.slice A0_1 l0_1.length c0_1) := bc_ BK358 1; have hfz29_0 := blk_frozen BK358.out 0; have hfz29_1 := blk_frozen BK358.out 1) | ((with_reducible refine gate_callee (f := 15) rfl ?_); refine goesL_ (some 23) rfl rfl Tryd.func15 (by kernel_rfl) rfl #[.agg #[.slice A0_0 l0_0.length c0_0, .slice A0_1 l0_1.length c0_1], .slice A1 l1.length c1] rfl ls_ ?_; (with_reducible refine (cottonpadref06_Great.calls _ _ l0_0 _ _ l0_1 _ _ l1 false _ ?side1 ?side2 ?side3 ?side4 ?side5 ?side6 A4.out).mono ?_); (case side1 => exact kc_ HR0_0 HB); (case side2 => exact HC0_0.out); (case side3 => exact kc_ HR0_1 HB); (case side4 => exact HC0_1.out); (case side5 => exact kc_ HR1 HB); (case side6 => exact HC1.out); rintro e w30 ⟨rfl, hb⟩; refine ⟨_, rfl, ?_⟩; replace BK358 := bb_ BK358 hb; replace BK359 := bb_ BK359 hb; replace HB := bs2_ HB GE358 GE359 hb; (try clear hb); (try clear hb2); (try clear hk); (try clear hi); have hcz31_0 : w30.cell? ⟨gb358, 0, none⟩ = some (.slice A0_0 l0_0.length c0_0) := bc_ BK358 0; have hcz31_1 : w30.cell? ⟨gb358, 1, none⟩ = some (.slice A0_1 l0_1.length c0_1) := bc_ BK358 1; have hfz31_0 := blk_frozen BK358.out 0; have hfz31_1 := blk_frozen BK358.out 1) | ((with_reducible refine gate_callee (f := 16) rfl ?_); refine goesL_ (some 25) rfl rfl Tryd.func16 (by kernel_rfl) rfl #[.agg #[.slice A0_0 l0_0.length c0_0, .slice A0_1 l0_1.length c0_1]] rfl ls_ ?_; (with_reducible refine (cottonpadref06_Twin.calls _ _ l0_0 _ _ l0_1 t361 t364 _ ?side1 ?side2 ?side3 ?side4 A11.out).mono ?_); (case side1 => exact kc_ HR0_0 HB); (case side2 => exact HC0_0.out); (case side3 => exact kc_ HR0_1 HB); (case side4 => exact HC0_1.out); rintro e w32 ⟨v362, v365, rfl, ho0, ho1, hb⟩; refine ⟨_, rfl, ?_⟩; have HO363 := Aside0.mk (Kd.R_lower ho0 (below_size (be2_ HB GE358 GE359))); have HO366 := Aside0.mk (Kd.R_lower ho1 (below_size (be2_ HB GE358 GE359))); replace BK358 := bb_ BK358 hb; replace BK359 := bb_ BK359 hb; replace HB := bs2_ HB GE358 GE359 hb; (try clear hb); (try clear hb2); (try clear hk); (try clear hi); (try clear ho0); (try clear ho1)) | ((with_reducible refine gate_dst (N := 26) rfl ?_); refine Kd.R_lit k48 _ 48 ?hg (N := 26) ?hd (xs := ([] : List (S48))) (inner := []) (ok := fun _ => True) (okp := fun _ => True) ?hr ?hp (fun _ hk => hk) trivial (Below.refl _ _) (Nat.le_refl _) (by simp) ?_; (case hd => rfl); (case hg => rfl); (case hr => exact gs_); (case hp => exact (Reps.none _ _)); intro v368 w33 ho34 hb hg_ hnew_; clear hg_ hnew_; (first | rw [← Ny367.out] at ho34 | (simp only [Int.reduceToNat] at ho34; rw [← Ny367.out] at ho34)); replace HO363 := rb_ HO363 hb; replace HO366 := rb_ HO366 hb; have HO369 := Aside0.mk (Kd.R_lower (Kd.R_newB ho34 (g := gb359) (o := .cells #[.int .i64 a2_0, .int .i64 a2_1, .int .i64 a2_2, .int .i64 a2_3, .int .i64 a2_4] 48 (0, 0)) (bk_ BK359)) (below_size (be2_ HB GE358 GE359))); replace BK358 := bb_ BK358 hb; replace BK359 := bb_ BK359 hb; replace HB := bs2_ HB GE358 GE359 hb; clear hb ho34) | ((with_reducible refine gate_builtin (b := .append) (xs := #[.tmp 26, .tmp 27]) rfl ?_); at_builtin; refine Kd.R_append_rows k48 (w0 := w) w.heap.size rfl (.tmp 26) (.tmp 27) 26 48 (.agg #[(.int .i64 0), (.int .i64 0), (.int .i64 0), (.int .i64 0), (.int .i64 0)]) 40 rfl Tryd.underlying26 info48 rfl (by decide) (by omega) v368 y367 l1 _ _ _ (fun k_ => k_ ≠ gb359) (fun _ => False) rfl rfl ?aO ?aR (fun _ _ h => h) (fun _ h => h.elim) ?aF ?aB ?aS ?aL ?_; (case aR => exact kc_ HR1 HB); (case aB => exact (be2_ HB GE358 GE359)); (case aF => exact (fun k_ hk => Kd.freshB (g := gb359) (o := .cells #[.int .i64 a2_0, .int .i64 a2_1, .int .i64 a2_2, .int .i64 a2_3, .int .i64 a2_4] 48 (0, 0)) (bk_ BK359) k_ hk)); (case aO => exact (by (with_reducible repeat (first | apply Kd.R_alloc | apply Kd.R_drewN | apply Kd.R_drew)); exact Kd.R_mono HO369.out (fun _ hk => hk.2))); (case aS => exact (below_size (be2_ HB GE358 GE359))); (case aL => have := LMc12.out; omega); intro v371 w35 ho hb hg hat; rw [← Ny370.out] at ho; replace BK358 := Aside0.mk (blk_grown (g := gb358) (o := .cells #[.slice A0_0 l0_0.length c0_0, .slice A0_1 l0_1.length c0_1] 25 (0, 0)) (bk_ BK358) hg (Kd.R_ne HO369.out BK358.out (by decide))); replace BK359 := Aside0.mk (blk_grown (g := gb359) (o := .cells #[.int .i64 a2_0, .int .i64 a2_1, .int .i64 a2_2, .int .i64 a2_3, .int .i64 a2_4] 48 (0, 0)) (bk_ BK359) hg (Kd.R_away HO369.out (fun _ hk => hk.2))); replace HO363 := Aside0.mk (Kd.R_over' (ro_ HO363) (Kd.R_typed (ro_ HO369)) (by decide) hg); replace HO366 := Aside0.mk (Kd.R_over' (ro_ HO366) (Kd.R_typed (ro_ HO369)) (by decide) hg); replace HB := Aside0.mk (hb); have HO372 := Aside0.mk (ho); clear HO369; clear ho hb hg hat) | ((with_reducible refine gate_dst (N := 7) rfl ?_); refine box_event ?hg (N := 7) ?hd (cs := #[.slice none 0 0, .slice none 0 0]) (t := 25) ?hr ?_; (case hd => rfl); (case hg => rfl); (case hr => exact gs_); intro gb373 hg w36 hbox hb; replace HO363 := rb_ HO363 hb; replace HO366 := rb_ HO366 hb; replace HO372 := rb_ HO372 hb; have BK373 := Aside0.mk (hbox); have GW373 := hl_ hg (be2_ HB GE358 GE359); have GE373 := hl_ hg (be2_ HB GE358 GE359); replace HB := bs2_ HB GE358 GE359 hb; have NB358_373 := Aside0.mk ((by rw [hg]; exact Nat.ne_of_lt (blk_lt (bk_ BK358)) : gb358 ≠ gb373)); have NB373_358 := Aside0.mk ((by rw [hg]; exact Nat.ne_of_gt (blk_lt (bk_ BK358)) : gb373 ≠ gb358)); replace BK358 := bb_ BK358 hb; have NB359_373 := Aside0.mk ((by rw [hg]; exact Nat.ne_of_lt (blk_lt (bk_ BK359)) : gb359 ≠ gb373)); have NB373_359 := Aside0.mk ((by rw [hg]; exact Nat.ne_of_gt (blk_lt (bk_ BK359)) : gb373 ≠ gb359)); replace BK359 := bb_ BK359 hb; clear hb hbox hg; obtain ⟨Ao37, co37, eo37⟩ := Kd.R_slice HO363.out; subst eo37; have hnb38 := NB373_358.out; have hnc38 := NB358_373.out; have hnb39 := NB373_359.out; have hnc39 := NB359_373.out; have hcz40_0 : w36.cell? ⟨gb373, 0, none⟩ = some (.slice none 0 0) := bc_ BK373 0; have hcz40_1 : w36.cell? ⟨gb373, 1, none⟩ = some (.slice none 0 0) := bc_ BK373 1; have hfz40_0 := blk_frozen BK373.out 0; have hfz40_1 := blk_frozen BK373.out 1; obtain ⟨Ao41, co41, eo41⟩ := Kd.R_slice HO366.out; subst eo41; obtain ⟨Ao42, co42, eo42⟩ := Kd.R_slice HO372.out; subst eo42) | ((with_reducible refine gate_callee (f := 26) rfl ?_); refine goesL_ (some 32) rfl rfl Tryd.func26 (by kernel_rfl) rfl #[.agg #[.slice Ao37 t361.length co37, .slice Ao41 t364.length co41], .slice Ao42 y370.length co42] rfl ls_ ?_; (with_reducible refine (exits_Safe.calls _ _ t361 _ _ t364 _ _ y370 t374 t375 t376 t377 _ ?side7 ?side1 ?side2 ?side3 ?side4 ?side5 ?side6 A13.out).mono ?_); (case side1 => refine (Kd.R_reads' (e := 62) (base := w.heap.size) (ok := fun k_ => True) (n := t361.length) (c := co37) ?_).2.2; exact (by (with_reducible repeat (first | apply Kd.R_alloc | apply Kd.R_drewN | apply Kd.R_drew)); exact (Kd.R_mono (Kd.R_far (p := ⟨gb373, 1, none⟩) (Kd.R_far (p := ⟨gb373, 0, none⟩) (Kd.R_types HO363.out BK373.out (by decide)) (fun _ hk => hk.2) (.slice Ao37 t361.length co37)) (fun _ hk => hk.2) (.slice Ao41 t364.length co41)) (fun _ h_ => h_.1)))); (case side2 => exact (Kd.R_reads' HO363.out).2.1); (case side3 => refine (Kd.R_reads' (e := 81) (base := w.heap.size) (ok := fun k_ => True) (n := t364.length) (c := co41) ?_).2.2; exact (by (with_reducible repeat (first | apply Kd.R_alloc | apply Kd.R_drewN | apply Kd.R_drew)); exact (Kd.R_mono (Kd.R_far (p := ⟨gb373, 1, none⟩) (Kd.R_far (p := ⟨gb373, 0, none⟩) (Kd.R_types HO366.out BK373.out (by decide)) (fun _ hk => hk.2) (.slice Ao37 t361.length co37)) (fun _ hk => hk.2) (.slice Ao41 t364.length co41)) (fun _ h_ => h_.1)))); (case side4 => exact (Kd.R_reads' HO366.out).2.1); (case side5 => refine (Kd.R_reads' (e := 48) (base := w.heap.size) (ok := fun k_ => k_ ≠ gb359) (n := y370.length) (c := co42) ?_).2.2; exact (by (with_reducible repeat (first | apply Kd.R_alloc | apply Kd.R_drewN | apply Kd.R_drew)); exact (Kd.R_mono (Kd.R_far (p := ⟨gb373, 1, none⟩) (Kd.R_far (p := ⟨gb373, 0, none⟩) (Kd.R_types HO372.out BK373.out (by decide)) (fun _ hk => hk.2) (.slice Ao37 t361.length co37)) (fun _ hk => hk.2) (.slice Ao41 t364.length co41)) (fun _ h_ => h_.1)))); (case side6 => exact (Kd.R_reads' HO372.out).2.1); (case side7 => exact Globs.below HG.out (be3_ HB GE358 GE359 GE373)); rintro e w43 ⟨rfl, hb⟩; refine ⟨_, rfl, ?_⟩; replace HO363 := Aside0.mk (Kd.R_below (by (with_reducible repeat (first | apply Kd.R_alloc | apply Kd.R_drewN | apply Kd.R_drew)); exact (Kd.R_mono (Kd.R_far (p := ⟨gb373, 1, none⟩) (Kd.R_far (p := ⟨gb373, 0, none⟩) (Kd.R_types HO363.out BK373.out (by decide)) (fun _ hk => hk.2) (.slice Ao37 t361.length co37)) (fun _ hk => hk.2) (.slice Ao41 t364.length co41)) (fun _ h_ => h_.1))) hb); replace HO366 := Aside0.mk (Kd.R_below (by (with_reducible repeat (first | apply Kd.R_alloc | apply Kd.R_drewN | apply Kd.R_drew)); exact (Kd.R_mono (Kd.R_far (p := ⟨gb373, 1, none⟩) (Kd.R_far (p := ⟨gb373, 0, none⟩) (Kd.R_types HO366.out BK373.out (by decide)) (fun _ hk => hk.2) (.slice Ao37 t361.length co37)) (fun _ hk => hk.2) (.slice Ao41 t364.length co41)) (fun _ h_ => h_.1))) hb); replace HO372 := Aside0.mk (Kd.R_below (by (with_reducible repeat (first | apply Kd.R_alloc | apply Kd.R_drewN | apply Kd.R_drew)); exact (Kd.R_mono (Kd.R_far (p := ⟨gb373, 1, none⟩) (Kd.R_far (p := ⟨gb373, 0, none⟩) (Kd.R_types HO372.out BK373.out (by decide)) (fun _ hk => hk.2) (.slice Ao37 t361.length co37)) (fun _ hk => hk.2) (.slice Ao41 t364.length co41)) (fun _ h_ => h_.1))) hb); replace BK358 := Aside0.mk (blk_below (g := gb358) (o := .cells #[.slice A0_0 l0_0.length c0_0, .slice A0_1 l0_1.length c0_1] 25 (0, 0)) (by refine bx_ ?_; refine blk_far ?_ NB358_373.out _; refine bx_ ?_; refine blk_far ?_ NB358_373.out _; refine bx_ ?_; exact BK358.out) hb); replace BK359 := Aside0.mk (blk_below (g := gb359) (o := .cells #[.int .i64 a2_0, .int .i64 a2_1, .int .i64 a2_2, .int .i64 a2_3, .int .i64 a2_4] 48 (0, 0)) (by refine bx_ ?_; refine blk_far ?_ NB359_373.out _; refine bx_ ?_; refine blk_far ?_ NB359_373.out _; refine bx_ ?_; exact BK359.out) hb); replace BK373 := Aside0.mk (blk_below (g := gb373) (o := .cells #[.slice Ao37 t361.length co37, .slice Ao41 t364.length co41] 25 (0, 0)) (by refine bx_ ?_; refine blk_put (cs := #[.slice Ao37 t361.length co37, .slice none 0 0]) ?_ 1 _ rfl; refine bx_ ?_; refine blk_put (cs := #[.slice none 0 0, .slice none 0 0]) ?_ 0 _ rfl; refine bx_ ?_; exact BK373.out) hb); replace HB := bs3_ HB GE358 GE359 GE373 hb; (try clear hb); (try clear hb2); (try clear hk); (try clear hi); have hcz44_0 : w43.cell? ⟨gb358, 0, none⟩ = some (.slice A0_0 l0_0.length c0_0) := bc_ BK358 0; have hcz44_1 : w43.cell? ⟨gb358, 1, none⟩ = some (.slice A0_1 l0_1.length c0_1) := bc_ BK358 1; have hfz44_0 := blk_frozen BK358.out 0; have hfz44_1 := blk_frozen BK358.out 1) | ((with_reducible refine gate_callee (f := 27) rfl ?_); refine goesL_ (some 40) rfl rfl Tryd.func27 (by kernel_rfl) rfl #[.agg #[.slice A0_0 l0_0.length c0_0, .slice A0_1 l0_1.length c0_1], .slice A1 l1.length c1] rfl ls_ ?_; (with_reducible refine (cottonpadref06_Safe.calls k _ _ l0_0 _ _ l0_1 _ _ l1 t378 t379 t380 t381 _ ?side1 ?side2 ?side3 ?side4 ?side5 ?side6 A14.out).mono ?_); (case side1 => exact kc_ HR0_0 HB); (case side2 => exact HC0_0.out); (case side3 => exact kc_ HR0_1 HB); (case side4 => exact HC0_1.out); (case side5 => exact kc_ HR1 HB); (case side6 => exact HC1.out); rintro e w45 ⟨rfl, hb⟩; refine ⟨_, rfl, ?_⟩; replace HO363 := rb_ HO363 hb; replace HO366 := rb_ HO366 hb; replace HO372 := rb_ HO372 hb; replace BK358 := bb_ BK358 hb; replace BK359 := bb_ BK359 hb; replace BK373 := bb_ BK373 hb; replace HB := bs3_ HB GE358 GE359 GE373 hb; (try clear hb); (try clear hb2); (try clear hk); (try clear hi); have hcz46_0 : w45.cell? ⟨gb373, 0, none⟩ = some (.slice Ao37 t361.length co37) := bc_ BK373 0; have hcz46_1 : w45.cell? ⟨gb373, 1, none⟩ = some (.slice Ao41 t364.length co41) := bc_ BK373 1; have hfz46_0 := blk_frozen BK373.out 0; have hfz46_1 := blk_frozen BK373.out 1; have hcz47_0 : w45.cell? ⟨gb359, 0, none⟩ = some (.int .i64 a2_0) := bc_ BK359 0; have hcz47_1 : w45.cell? ⟨gb359, 1, none⟩ = some (.int .i64 a2_1) := bc_ BK359 1; have hcz47_2 : w45.cell? ⟨gb359, 2, none⟩ = some (.int .i64 a2_2) := bc_ BK359 2; have hcz47_3 : w45.cell? ⟨gb359, 3, none⟩ = some (.int .i64 a2_3) := bc_ BK359 3; have hcz47_4 : w45.cell? ⟨gb359, 4, none⟩ = some (.int .i64 a2_4) := bc_ BK359 4; have hfz47_0 := blk_frozen BK359.out 0; have hfz47_1 := blk_frozen BK359.out 1; have hfz47_2 := blk_frozen BK359.out 2; have hfz47_3 := blk_frozen BK359.out 3; have hfz47_4 := blk_frozen BK359.out 4) | ((with_reducible refine gate_callee (f := 28) rfl ?_); refine goesL_ (some 49) rfl rfl Tryd.func28 (by kernel_rfl) rfl #[.agg #[.slice Ao37 t361.length co37, .slice Ao41 t364.length co41], .slice Ao42 y370.length co42, .agg #[.int .i64 a2_0, .int .i64 a2_1, .int .i64 a2_2, .int .i64 a2_3, .int .i64 a2_4]] rfl ls_ ?_; (with_reducible refine (exits_More.calls _ _ t361 _ _ t364 _ _ y370 a2_0 a2_1 a2_2 a2_3 a2_4 t382 t383 _ ?side7 ?side1 ?side2 ?side3 ?side4 ?side5 ?side6 A15.out).mono ?_); (case side1 => exact kd_ (Kd.R_reads' HO363.out).2.2); (case side2 => exact (Kd.R_reads' HO363.out).2.1); (case side3 => exact kd_ (Kd.R_reads' HO366.out).2.2); (case side4 => exact (Kd.R_reads' HO366.out).2.1); (case side5 => exact kd_ (Kd.R_reads' HO372.out).2.2); (case side6 => exact (Kd.R_reads' HO372.out).2.1); (case side7 => exact Globs.below HG.out (be3_ HB GE358 GE359 GE373)); rintro e w48 ⟨rfl, hb⟩; refine ⟨_, rfl, ?_⟩; replace HO363 := rb_ HO363 hb; replace HO366 := rb_ HO366 hb; replace HO372 := rb_ HO372 hb; replace BK358 := bb_ BK358 hb; replace BK359 := bb_ BK359 hb; replace BK373 := bb_ BK373 hb; replace HB := bs3_ HB GE358 GE359 GE373 hb; (try clear hb); (try clear hb2); (try clear hk); (try clear hi); have hcz49_0 : w48.cell? ⟨gb358, 0, none⟩ = some (.slice A0_0 l0_0.length c0_0) := bc_ BK358 0; have hcz49_1 : w48.cell? ⟨gb358, 1, none⟩ = some (.slice A0_1 l0_1.length c0_1) := bc_ BK358 1; have hfz49_0 := blk_frozen BK358.out 0; have hfz49_1 := blk_frozen BK358.out 1; have hcz50_0 : w48.cell? ⟨gb359, 0, none⟩ = some (.int .i64 a2_0) := bc_ BK359 0; have hcz50_1 : w48.cell? ⟨gb359, 1, none⟩ = some (.int .i64 a2_1) := bc_ BK359 1; have hcz50_2 : w48.cell? ⟨gb359, 2, none⟩ = some (.int .i64 a2_2) := bc_ BK359 2; have hcz50_3 : w48.cell? ⟨gb359, 3, none⟩ = some (.int .i64 a2_3) := bc_ BK359 3; have hcz50_4 : w48.cell? ⟨gb359, 4, none⟩ = some (.int .i64 a2_4) := bc_ BK359 4; have hfz50_0 := blk_frozen BK359.out 0; have hfz50_1 := blk_frozen BK359.out 1; have hfz50_2 := blk_frozen BK359.out 2; have hfz50_3 := blk_frozen BK359.out 3; have hfz50_4 := blk_frozen BK359.out 4) | ((with_reducible refine gate_callee (f := 29) rfl ?_); refine goesL_ (some 56) rfl rfl Tryd.func29 (by kernel_rfl) rfl #[.agg #[.slice A0_0 l0_0.length c0_0, .slice A0_1 l0_1.length c0_1], .slice A1 l1.length c1, .agg #[.int .i64 a2_0, .int .i64 a2_1, .int .i64 a2_2, .int .i64 a2_3, .int .i64 a2_4]] rfl ls_ ?_; (with_reducible refine (cottonpadref06_More.calls k _ _ l0_0 _ _ l0_1 _ _ l1 a2_0 a2_1 a2_2 a2_3 a2_4 t384 t385 _ ?side1 ?side2 ?side3 ?side4 ?side5 ?side6 A16.out).mono ?_); (case side1 => exact kc_ HR0_0 HB); (case side2 => exact HC0_0.out); (case side3 => exact kc_ HR0_1 HB); (case side4 => exact HC0_1.out); (case side5 => exact kc_ HR1 HB); (case side6 => exact HC1.out); rintro e w51 ⟨rfl, hb⟩; refine ⟨_, rfl, ?_⟩; replace HO363 := rb_ HO363 hb; replace HO366 := rb_ HO366 hb; replace HO372 := rb_ HO372 hb; replace BK358 := bb_ BK358 hb; replace BK359 := bb_ BK359 hb; replace BK373 := bb_ BK373 hb; replace HB := bs3_ HB GE358 GE359 GE373 hb; (try clear hb); (try clear hb2); (try clear hk); (try clear hi); have hcz52_0 : w51.cell? ⟨gb373, 0, none⟩ = some (.slice Ao37 t361.length co37) := bc_ BK373 0; have hcz52_1 : w51.cell? ⟨gb373, 1, none⟩ = some (.slice Ao41 t364.length co41) := bc_ BK373 1; have hfz52_0 := blk_frozen BK373.out 0; have hfz52_1 := blk_frozen BK373.out 1; have hcz53_0 : w51.cell? ⟨gb358, 0, none⟩ = some (.slice A0_0 l0_0.length c0_0) := bc_ BK358 0; have hcz53_1 : w51.cell? ⟨gb358, 1, none⟩ = some (.slice A0_1 l0_1.length c0_1) := bc_ BK358 1; have hfz53_0 := blk_frozen BK358.out 0; have hfz53_1 := blk_frozen BK358.out 1) | (go_at_call 24; (with_reducible refine (cottonpadref06_Same.calls k _ _ t361 _ _ t364 _ _ l0_0 _ _ l0_1 true _ ?side1 ?side2 ?side3 ?side4 ?side5 ?side6 ?side7 ?side8 A23.out).mono ?_); (case side1 => exact kd_ (Kd.R_reads' HO363.out).2.2); (case side2 => exact (Kd.R_reads' HO363.out).2.1); (case side3 => exact kd_ (Kd.R_reads' HO366.out).2.2); (case side4 => exact (Kd.R_reads' HO366.out).2.1); (case side5 => exact kc_ HR0_0 HB); (case side6 => exact HC0_0.out); (case side7 => exact kc_ HR0_1 HB); (case side8 => exact HC0_1.out); rintro e w54 ⟨rfl, hb⟩; replace HO363 := rb_ HO363 hb; replace HO366 := rb_ HO366 hb; replace HO372 := rb_ HO372 hb; replace BK358 := bb_ BK358 hb; replace BK359 := bb_ BK359 hb; replace BK373 := bb_ BK373 hb; replace HB := bs3_ HB GE358 GE359 GE373 hb; (try clear hb); (try clear hb2); (try clear hk); (try clear hi)) | (go_at_call 25; (with_reducible refine (cottonpadref06_SameWalkers.calls k _ _ y370 _ _ l1 t387 _ ?side1 ?side2 ?side3 ?side4 A25.out).mono ?_); (case side1 => exact kd_ (Kd.R_reads' HO372.out).2.2); (case side2 => exact (Kd.R_reads' HO372.out).2.1); (case side3 => exact kc_ HR1 HB); (case side4 => exact HC1.out); rintro e w' ⟨rfl, ⟨nd, rfl⟩⟩))
          go_ret
          exact ⟨rf_, be3_ HB GE358 GE359 GE373⟩
         ·replace c24 := Bool.eq_false_iff.mpr c24
          subst c24
          have H1 : (some false) = some r := by rw [if_neg (show ¬ (false = true) by decide)] at H; exact H
          clear H
          have H := H1
          clear H1
          exact absurd (H.trans (congrArg some HRT.out)) (by simp)
        ·rw [if_neg c22] at H
         have c22b0 : (t383 == t385) = false := beq_eq_false_iff_ne.mpr c22
         have c22b1 : (t383 != t385) = true := bne_iff_ne.mpr c22
         exact absurd (H.trans (congrArg some HRT.out)) (by simp)
       ·rw [if_neg c21] at H
        have c21b0 : (t382 == t384) = false := beq_eq_false_iff_ne.mpr c21
        have c21b1 : (t382 != t384) = true := bne_iff_ne.mpr c21
        exact absurd (H.trans (congrArg some HRT.out)) (by simp)
      ·rw [if_neg c20] at H
       have c20b0 : (t377 == t381) = false := beq_eq_false_iff_ne.mpr c20
       have c20b1 : (t377 != t381) = true := bne_iff_ne.mpr c20
       exact absurd (H.trans (congrArg some HRT.out)) (by simp)
     ·rw [if_neg c19] at H
      have c19b0 : (t376 == t380) = false := beq_eq_false_iff_ne.mpr c19
      have c19b1 : (t376 != t380) = true := bne_iff_ne.mpr c19
      exact absurd (H.trans (congrArg some HRT.out)) (by simp)
    ·rw [if_neg c18] at H
     have c18b0 : (t375 == t379) = false := beq_eq_false_iff_ne.mpr c18
     have c18b1 : (t375 != t379) = true := bne_iff_ne.mpr c18
     exact absurd (H.trans (congrArg some HRT.out)) (by simp)
   ·rw [if_neg c17] at H
    have c17b0 : (t374 == t378) = false := beq_eq_false_iff_ne.mpr c17
    have c17b1 : (t374 != t378) = true := bne_iff_ne.mpr c17
    exact absurd (H.trans (congrArg some HRT.out)) (by simp)
  ·rw [if_neg c12] at H
   exact absurd H (by simp)

end Go.Proofs.YtdeaccbolnlgpaaDoor.X
