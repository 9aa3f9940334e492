import Derived.Test.YtdeaccbolnlgpaaDoorX0
import Derived.Test.YtdeaccbolnlgpaaDoorXNA
import Derived.Test.YtdeaccbolnlgpaaDoorXN27
namespace Go.Proofs.YtdeaccbolnlgpaaDoor.X
open Go.RowKit Go.Proofs.YtdeaccbolnlgpaaDoorW.PrintWords Go.Proofs.YtdeaccbolnlgpaaDoorW.PrintLast Go.Proofs.YtdeaccbolnlgpaaDoorW.PrintMore
attribute [local go_sem] max2_int min2_int max_two min_two max_three min_three max_four min_four   -- for this text's walks alone
set_option linter.unusedVariables false
set_option linter.unusedSimpArgs false

/-! ### cottonpadref06_More: function 29 -/
def cottonpadref06_More.l0 : Nat → List (S48) → Int → List (S62) → List (S81) → Int → Int → Int → Int → Int → Option (Int × Int)
 | 0, _, _, _, _, _, _, _, _, _ => none
 | k + 1, x13, x14, x335000, x335001, x336000, x336001, x336002, x336003, x336004 => if x13.length < 3518437208883 then ((some (x13 ++ [(⟨x336000, (⟨x336001, x336002⟩ : S36), (⟨x336003, x336004⟩ : S36)⟩ : S48)] : List (S48))).bind fun y351 => ((cottonpadref06_Safe.f k x335000 x335001 y351).bind fun bt354 => (if bt354.2.2.2 = 0 then (if bt354.1 = 2 then (cottonpadref06_More.l0 k y351 (wrap64 (x14 + 1)) x335000 x335001 x336000 x336001 x336002 x336003 x336004) else (some (x14, 0))) else (some (x14, 0))))) else (none)
def cottonpadref06_More.f (k : Nat) (l0_0 : List (S62)) (l0_1 : List (S81)) (l1 : List (S48)) (a2_0 : Int) (a2_1 : Int) (a2_2 : Int) (a2_3 : Int) (a2_4 : Int) : Option (Int × Int) := (cottonpadref06_Check.f k l0_0 l0_1 l1).bind fun t336 => (if t336 = 0 then ((cottonpadref06_People.f k l0_0 l0_1 (([(⟨a2_0, (⟨a2_1, a2_2⟩ : S36), (⟨a2_3, a2_4⟩ : S36)⟩ : S48)] : List (S48)))).bind fun t340 => (if t340 = true then ((cottonpadref06_Safe.f k l0_0 l0_1 l1).bind fun bt341 => (if bt341.1 = 2 then ((some (([] : List (S48)) : List (S48))).bind fun y345 => (if y345.length + l1.length < 3518437208883 then (cottonpadref06_More.l0 k (y345 ++ l1) 0 l0_0 l0_1 a2_0 a2_1 a2_2 a2_3 a2_4) else (none))) else (some (0, 8)))) else (some (0, 2)))) else (some (0, t336)))
theorem cottonpadref06_More.mono_l : ∀ k, (∀ y0 y1 y2 y3 y4 y5 y6 y7 y8, LeO (cottonpadref06_More.l0 k y0 y1 y2 y3 y4 y5 y6 y7 y8) (cottonpadref06_More.l0 (k + 1) y0 y1 y2 y3 y4 y5 y6 y7 y8))
 | 0 => fun _ _ _ _ _ _ _ _ _ r h => by simp [cottonpadref06_More.l0] at h
 | k + 1 => by
  have ih0 := cottonpadref06_More.mono_l k
  ·intro y0 y1 y2 y3 y4 y5 y6 y7 y8
   unfold cottonpadref06_More.l0
   repeat' first
   | (with_reducible exact ih0 _ _ _ _ _ _ _ _ _)
   | (with_reducible exact cottonpadref06_Check.mono _ _ _ _)
   | (with_reducible exact cottonpadref06_People.mono _ _ _ _)
   | (with_reducible exact cottonpadref06_Safe.mono _ _ _ _)
   | (with_reducible exact LeO.refl _)
   | (with_reducible exact LeO.none _)
   | (with_reducible refine LeO.ite ?_ ?_)
   | (with_reducible refine LeO.bind ?_ (fun _ => ?_))
   | exact ih0 _ _ _ _ _ _ _ _ _
   | exact cottonpadref06_Check.mono _ _ _ _
   | exact cottonpadref06_People.mono _ _ _ _
   | exact cottonpadref06_Safe.mono _ _ _ _
   | exact LeO.none _
   | refine LeO.ite ?_ ?_
   | refine LeO.bind ?_ (fun _ => ?_)
theorem cottonpadref06_More.mono : ∀ a0 a1 a2 a3 a4 a5 a6 a7 k, LeO (cottonpadref06_More.f k a0 a1 a2 a3 a4 a5 a6 a7) (cottonpadref06_More.f (k + 1) a0 a1 a2 a3 a4 a5 a6 a7) := by
 intro a0 a1 a2 a3 a4 a5 a6 a7 k
 have ih0 := cottonpadref06_More.mono_l k
 unfold cottonpadref06_More.f
 repeat' first
   | (with_reducible exact ih0 _ _ _ _ _ _ _ _ _)
   | (with_reducible exact cottonpadref06_Check.mono _ _ _ _)
   | (with_reducible exact cottonpadref06_People.mono _ _ _ _)
   | (with_reducible exact cottonpadref06_Safe.mono _ _ _ _)
   | (with_reducible exact LeO.refl _)
   | (with_reducible exact LeO.none _)
   | (with_reducible refine LeO.ite ?_ ?_)
   | (with_reducible refine LeO.bind ?_ (fun _ => ?_))
   | exact ih0 _ _ _ _ _ _ _ _ _
   | exact cottonpadref06_Check.mono _ _ _ _
   | exact cottonpadref06_People.mono _ _ _ _
   | exact cottonpadref06_Safe.mono _ _ _ _
   | exact LeO.none _
   | refine LeO.ite ?_ ?_
   | refine LeO.bind ?_ (fun _ => ?_)
set_option maxHeartbeats 8000000 in
set_option maxRecDepth 100000 in
theorem cottonpadref06_More.calls (k : Nat) (A0_0 : Option Addr) (c0_0 : Nat) (l0_0 : List (S62)) (A0_1 : Option Addr) (c0_1 : Nat) (l0_1 : List (S81)) (A1 : Option Addr) (c1 : Nat) (l1 : List (S48)) (a2_0 : Int) (a2_1 : Int) (a2_2 : Int) (a2_3 : Int) (a2_4 : Int) (r1 : Int) (r2 : Int) (w : World) (hr0_0 : Kd.C k62 w A0_0 l0_0.length l0_0) (hc0_0 : l0_0.length ≤ c0_0) (hr0_1 : Kd.C k81 w A0_1 l0_1.length l0_1) (hc0_1 : l0_1.length ≤ c0_1) (hr1 : Kd.C k48 w A1 l1.length l1) (hc1 : l1.length ≤ c1) (h : cottonpadref06_More.f k l0_0 l0_1 l1 a2_0 a2_1 a2_2 a2_3 a2_4 = some (r1, r2)) :
  Calls Tryd.prog 29 #[.agg #[.slice A0_0 l0_0.length c0_0, .slice A0_1 l0_1.length c0_1], .slice A1 l1.length c1, .agg #[.int .i64 a2_0, .int .i64 a2_1, .int .i64 a2_2, .int .i64 a2_3, .int .i64 a2_4]] w fun e w' => e = .returned (.tuple #[.int .i64 r1, .int .i64 r2]) ∧ Below w.heap.size w w' := by
 have hu25 := Tryd.underlying25
 have hu48 := Tryd.underlying48
 have HR0_0 := Aside0.mk hr0_0
 have HC0_0 := Aside0.mk hc0_0
 clear hr0_0 hc0_0
 have HR0_1 := Aside0.mk hr0_1
 have HC0_1 := Aside0.mk hc0_1
 clear hr0_1 hc0_1
 have HR1 := Aside0.mk hr1
 have HC1 := Aside0.mk hc1
 clear hr1 hc1
 have HB := Aside0.mk (Below.refl w.heap.size w)
 have H : ((cottonpadref06_Check.f k l0_0 l0_1 l1).bind fun t336 => (if t336 = 0 then ((cottonpadref06_People.f k l0_0 l0_1 (([(⟨a2_0, (⟨a2_1, a2_2⟩ : S36), (⟨a2_3, a2_4⟩ : S36)⟩ : S48)] : List (S48)))).bind fun t340 => (if t340 = true then ((cottonpadref06_Safe.f k l0_0 l0_1 l1).bind fun bt341 => (if bt341.1 = 2 then ((some (([] : List (S48)) : List (S48))).bind fun y345 => (if y345.length + l1.length < 3518437208883 then (cottonpadref06_More.l0 k (y345 ++ l1) 0 l0_0 l0_1 a2_0 a2_1 a2_2 a2_3 a2_4) else (none))) else (some (0, 8)))) else (some (0, 2)))) else (some (0, t336)))) = some (r1, r2) := h
 clear h
 replace H := Option.bind_eq_some_iff.mp H
 obtain ⟨t336, A40, H⟩ := H
 replace H : (if t336 = 0 then ((cottonpadref06_People.f k l0_0 l0_1 (([(⟨a2_0, (⟨a2_1, a2_2⟩ : S36), (⟨a2_3, a2_4⟩ : S36)⟩ : S48)] : List (S48)))).bind fun t340 => (if t340 = true then ((cottonpadref06_Safe.f k l0_0 l0_1 l1).bind fun bt341 => (if bt341.1 = 2 then ((some (([] : List (S48)) : List (S48))).bind fun y345 => (if y345.length + l1.length < 3518437208883 then (cottonpadref06_More.l0 k (y345 ++ l1) 0 l0_0 l0_1 a2_0 a2_1 a2_2 a2_3 a2_4) else (none))) else (some (0, 8)))) else (some (0, 2)))) else (some (0, t336))) = some (r1, r2) := H
 have A4 := Aside0.mk A40
 clear A40
 by_cases c5 : t336 = 0
 ·rw [if_pos c5] at H
  have c5b0 : (t336 == 0) = true := beq_iff_eq.mpr c5
  have c5b1 : (t336 != 0) = false := bne_eq_false_iff_eq.mpr c5
  clear c5
  obtain ⟨y337, hy337⟩ : ∃ y_ : List (S48), y_ = (([(⟨a2_0, (⟨a2_1, a2_2⟩ : S36), (⟨a2_3, a2_4⟩ : S36)⟩ : S48)] : List (S48))) := ⟨_, rfl⟩
  replace H : ((cottonpadref06_People.f k l0_0 l0_1 y337).bind fun t340 => (if t340 = true then ((cottonpadref06_Safe.f k l0_0 l0_1 l1).bind fun bt341 => (if bt341.1 = 2 then ((some (([] : List (S48)) : List (S48))).bind fun y345 => (if y345.length + l1.length < 3518437208883 then (cottonpadref06_More.l0 k (y345 ++ l1) 0 l0_0 l0_1 a2_0 a2_1 a2_2 a2_3 a2_4) else (none))) else (some (0, 8)))) else (some (0, 2)))) = some (r1, r2) := by first | (rw [hy337]; with_reducible exact H) | (have H2_ := (Option.bind_some _ _).symm.trans H; rw [hy337]; with_reducible exact H2_) | (have H2_ := (Option.bind_some _ _).symm.trans H; with_reducible exact H2_) | with_reducible exact H | (rw [hy337]; exact H) | exact H
  have Ny337 := Aside0.mk hy337
  clear hy337
  replace H := Option.bind_eq_some_iff.mp H
  obtain ⟨t340, A60, H⟩ := H
  replace H : (if t340 = true then ((cottonpadref06_Safe.f k l0_0 l0_1 l1).bind fun bt341 => (if bt341.1 = 2 then ((some (([] : List (S48)) : List (S48))).bind fun y345 => (if y345.length + l1.length < 3518437208883 then (cottonpadref06_More.l0 k (y345 ++ l1) 0 l0_0 l0_1 a2_0 a2_1 a2_2 a2_3 a2_4) else (none))) else (some (0, 8)))) else (some (0, 2))) = some (r1, r2) := H
  have A6 := Aside0.mk A60
  clear A60
  by_cases c7 : t340 = true
  ·subst c7
   have H1 : ((cottonpadref06_Safe.f k l0_0 l0_1 l1).bind fun bt341 => (if bt341.1 = 2 then ((some (([] : List (S48)) : List (S48))).bind fun y345 => (if y345.length + l1.length < 3518437208883 then (cottonpadref06_More.l0 k (y345 ++ l1) 0 l0_0 l0_1 a2_0 a2_1 a2_2 a2_3 a2_4) else (none))) else (some (0, 8)))) = some (r1, r2) := by rw [if_pos rfl] at H; exact H
   clear H
   have H := H1
   clear H1
   replace H := Option.bind_eq_some_iff.mp H
   obtain ⟨⟨t341, t342, t343, t344⟩, A80, H⟩ := H
   replace H : (if t341 = 2 then ((some (([] : List (S48)) : List (S48))).bind fun y345 => (if y345.length + l1.length < 3518437208883 then (cottonpadref06_More.l0 k (y345 ++ l1) 0 l0_0 l0_1 a2_0 a2_1 a2_2 a2_3 a2_4) else (none))) else (some (0, 8))) = some (r1, r2) := H
   have A8 := Aside0.mk A80
   clear A80
   by_cases c9 : t341 = 2
   ·rw [if_pos c9] at H
    have c9b0 : (t341 == 2) = true := beq_iff_eq.mpr c9
    have c9b1 : (t341 != 2) = false := bne_eq_false_iff_eq.mpr c9
    clear c9
    obtain ⟨y345, hy345⟩ : ∃ y_ : List (S48), y_ = (([] : List (S48))) := ⟨_, rfl⟩
    replace H : (if y345.length + l1.length < 3518437208883 then (cottonpadref06_More.l0 k (y345 ++ l1) 0 l0_0 l0_1 a2_0 a2_1 a2_2 a2_3 a2_4) else (none)) = some (r1, r2) := by first | (rw [hy345]; with_reducible exact H) | (have H2_ := (Option.bind_some _ _).symm.trans H; rw [hy345]; with_reducible exact H2_) | (have H2_ := (Option.bind_some _ _).symm.trans H; with_reducible exact H2_) | with_reducible exact H | (rw [hy345]; exact H) | exact H
    have Ny345 := Aside0.mk hy345
    clear hy345
    by_cases c10 : y345.length + l1.length < 3518437208883
    ·rw [if_pos c10] at H
     have LMc10 := Aside0.mk c10
     clear c10
     obtain ⟨y348, hy348⟩ : ∃ y_ : List (S48), y_ = (y345 ++ l1) := ⟨_, rfl⟩
     replace H : (cottonpadref06_More.l0 k y348 0 l0_0 l0_1 a2_0 a2_1 a2_2 a2_3 a2_4) = some (r1, r2) := by first | (rw [hy348]; with_reducible exact H) | (have H2_ := (Option.bind_some _ _).symm.trans H; rw [hy348]; with_reducible exact H2_) | (have H2_ := (Option.bind_some _ _).symm.trans H; with_reducible exact H2_) | with_reducible exact H | (rw [hy348]; exact H) | exact H
     have Ny348 := Aside0.mk hy348
     clear hy348
     have H' := Aside0.mk H
     clear H
     go_enter Tryd.func29, Tryd.ntmps29
     go_wp2_with (first | ((with_reducible refine gate_dst (N := 3) rfl ?_); refine box_event ?hg (N := 3) ?hd (cs := #[.slice A0_0 l0_0.length c0_0, .slice A0_1 l0_1.length c0_1]) (t := 25) ?hr ?_; (case hd => rfl); (case hg => rfl); (case hr => exact gs_); intro gb334 hg w11 hbox hb; have BK334 := Aside0.mk (hbox); have GW334 := hl_ hg (be_ HB); have GE334 := hl_ hg (be_ HB); replace HB := bs_ HB hb; clear hb hbox hg) | ((with_reducible refine gate_dst (N := 5) rfl ?_); refine box_event ?hg (N := 5) ?hd (cs := #[.int .i64 a2_0, .int .i64 a2_1, .int .i64 a2_2, .int .i64 a2_3, .int .i64 a2_4]) (t := 48) ?hr ?_; (case hd => rfl); (case hg => rfl); (case hr => exact gs_); intro gb335 hg w12 hbox hb; have BK335 := Aside0.mk (hbox); have GW335 := hl_ hg (be1_ HB GE334); have GE335 := hl_ hg (be1_ HB GE334); replace HB := bs1_ HB GE334 hb; have NB334_335 := Aside0.mk ((by rw [hg]; exact Nat.ne_of_lt (blk_lt (bk_ BK334)) : gb334 ≠ gb335)); have NB335_334 := Aside0.mk ((by rw [hg]; exact Nat.ne_of_gt (blk_lt (bk_ BK334)) : gb335 ≠ gb334)); replace BK334 := bb_ BK334 hb; clear hb hbox hg; have hnb13 := NB334_335.out; have hnc13 := NB335_334.out; have hcz14_0 : w12.cell? ⟨gb334, 0, none⟩ = some (.slice A0_0 l0_0.length c0_0) := bc_ BK334 0; have hcz14_1 : w12.cell? ⟨gb334, 1, none⟩ = some (.slice A0_1 l0_1.length c0_1) := bc_ BK334 1; have hfz14_0 := blk_frozen BK334.out 0; have hfz14_1 := blk_frozen BK334.out 1) | ((with_reducible refine gate_callee (f := 22) rfl ?_); refine goesL_ (some 21) rfl rfl Tryd.func22 (by kernel_rfl) rfl #[.agg #[.slice A0_0 l0_0.length c0_0, .slice A0_1 l0_1.length c0_1], .slice A1 l1.length c1] rfl ls_ ?_; (with_reducible refine (cottonpadref06_Check.calls k _ _ l0_0 _ _ l0_1 _ _ l1 t336 _ ?side1 ?side2 ?side3 ?side4 ?side5 ?side6 A4.out).mono ?_); (case side1 => exact kc_ HR0_0 HB); (case side2 => exact HC0_0.out); (case side3 => exact kc_ HR0_1 HB); (case side4 => exact HC0_1.out); (case side5 => exact kc_ HR1 HB); (case side6 => exact HC1.out); rintro e w15 ⟨rfl, hb⟩; refine ⟨_, rfl, ?_⟩; replace BK334 := bb_ BK334 hb; replace BK335 := bb_ BK335 hb; replace HB := bs2_ HB GE334 GE335 hb; (try clear hb); (try clear hb2); (try clear hk); (try clear hi); have hcz16_0 : w15.cell? ⟨gb334, 0, none⟩ = some (.slice A0_0 l0_0.length c0_0) := bc_ BK334 0; have hcz16_1 : w15.cell? ⟨gb334, 1, none⟩ = some (.slice A0_1 l0_1.length c0_1) := bc_ BK334 1; have hfz16_0 := blk_frozen BK334.out 0; have hfz16_1 := blk_frozen BK334.out 1; have hcz17_0 : w15.cell? ⟨gb335, 0, none⟩ = some (.int .i64 a2_0) := bc_ BK335 0; have hcz17_1 : w15.cell? ⟨gb335, 1, none⟩ = some (.int .i64 a2_1) := bc_ BK335 1; have hcz17_2 : w15.cell? ⟨gb335, 2, none⟩ = some (.int .i64 a2_2) := bc_ BK335 2; have hcz17_3 : w15.cell? ⟨gb335, 3, none⟩ = some (.int .i64 a2_3) := bc_ BK335 3; have hcz17_4 : w15.cell? ⟨gb335, 4, none⟩ = some (.int .i64 a2_4) := bc_ BK335 4; have hfz17_0 := blk_frozen BK335.out 0; have hfz17_1 := blk_frozen BK335.out 1; have hfz17_2 := blk_frozen BK335.out 2; have hfz17_3 := blk_frozen BK335.out 3; have hfz17_4 := blk_frozen BK335.out 4) | ((with_reducible refine gate_dst (N := 27) rfl ?_); refine Kd.R_lit k48 _ 48 ?hg (N := 27) ?hd (xs := ([(⟨a2_0, (⟨a2_1, a2_2⟩ : S36), (⟨a2_3, a2_4⟩ : S36)⟩ : S48)] : List (S48))) (inner := [.int .i64 a2_0, .int .i64 a2_1, .int .i64 a2_2, .int .i64 a2_3, .int .i64 a2_4]) (ok := fun _ => True) (okp := fun _ => True) ?hr ?hp (fun _ hk => hk) trivial (Below.refl _ _) (Nat.le_refl _) (by simp) ?_; (case hd => rfl); (case hg => rfl); (case hr => exact gs_); (case hp => exact (Reps.c5 (show Kd.M k48 _ _ _ (⟨a2_0, (⟨a2_1, a2_2⟩ : S36), (⟨a2_3, a2_4⟩ : S36)⟩ : S48) [.int .i64 a2_0, .int .i64 a2_1, .int .i64 a2_2, .int .i64 a2_3, .int .i64 a2_4] from (k48_mkM _ _ _ (⟨a2_0, (⟨a2_1, a2_2⟩ : S36), (⟨a2_3, a2_4⟩ : S36)⟩ : S48) )) (Reps.none _ _))); intro v338 w18 ho19 hb hg_ hnew_; clear hg_ hnew_; (first | rw [← Ny337.out] at ho19 | (simp only [Int.reduceToNat] at ho19; rw [← Ny337.out] at ho19)); have HO339 := Aside0.mk (Kd.R_lower (Kd.R_newB ho19 (g := gb335) (o := .cells #[.int .i64 a2_0, .int .i64 a2_1, .int .i64 a2_2, .int .i64 a2_3, .int .i64 a2_4] 48 (0, 0)) (bk_ BK335)) (below_size (be2_ HB GE334 GE335))); replace BK334 := bb_ BK334 hb; replace BK335 := bb_ BK335 hb; replace HB := bs2_ HB GE334 GE335 hb; clear hb ho19; obtain ⟨Ao20, co20, eo20⟩ := Kd.R_slice HO339.out; subst eo20) | ((with_reducible refine gate_callee (f := 64) rfl ?_); refine goesL_ (some 28) rfl rfl Tryd.func64 (by kernel_rfl) rfl #[.agg #[.slice A0_0 l0_0.length c0_0, .slice A0_1 l0_1.length c0_1], .slice Ao20 y337.length co20] rfl ls_ ?_; (with_reducible refine (cottonpadref06_People.calls k _ _ l0_0 _ _ l0_1 _ _ y337 true _ ?side1 ?side2 ?side3 ?side4 ?side5 ?side6 A6.out).mono ?_); (case side1 => exact kc_ HR0_0 HB); (case side2 => exact HC0_0.out); (case side3 => exact kc_ HR0_1 HB); (case side4 => exact HC0_1.out); (case side5 => exact kd_ (Kd.R_reads' HO339.out).2.2); (case side6 => exact (Kd.R_reads' HO339.out).2.1); rintro e w21 ⟨rfl, hb⟩; refine ⟨_, rfl, ?_⟩; replace HO339 := rb_ HO339 hb; replace BK334 := bb_ BK334 hb; replace BK335 := bb_ BK335 hb; replace HB := bs2_ HB GE334 GE335 hb; (try clear hb); (try clear hb2); (try clear hk); (try clear hi); have hcz22_0 : w21.cell? ⟨gb334, 0, none⟩ = some (.slice A0_0 l0_0.length c0_0) := bc_ BK334 0; have hcz22_1 : w21.cell? ⟨gb334, 1, none⟩ = some (.slice A0_1 l0_1.length c0_1) := bc_ BK334 1; have hfz22_0 := blk_frozen BK334.out 0; have hfz22_1 := blk_frozen BK334.out 1) | ((with_reducible refine gate_callee (f := 27) rfl ?_); refine goesL_ (some 33) rfl rfl Tryd.func27 (by kernel_rfl) rfl #[.agg #[.slice A0_0 l0_0.length c0_0, .slice A0_1 l0_1.length c0_1], .slice A1 l1.length c1] rfl ls_ ?_; (with_reducible refine (cottonpadref06_Safe.calls k _ _ l0_0 _ _ l0_1 _ _ l1 t341 t342 t343 t344 _ ?side1 ?side2 ?side3 ?side4 ?side5 ?side6 A8.out).mono ?_); (case side1 => exact kc_ HR0_0 HB); (case side2 => exact HC0_0.out); (case side3 => exact kc_ HR0_1 HB); (case side4 => exact HC0_1.out); (case side5 => exact kc_ HR1 HB); (case side6 => exact HC1.out); rintro e w23 ⟨rfl, hb⟩; refine ⟨_, rfl, ?_⟩; replace HO339 := rb_ HO339 hb; replace BK334 := bb_ BK334 hb; replace BK335 := bb_ BK335 hb; replace HB := bs2_ HB GE334 GE335 hb; (try clear hb); (try clear hb2); (try clear hk); (try clear hi)) | ((with_reducible refine gate_dst (N := 40) rfl ?_); refine Kd.R_lit k48 _ 48 ?hg (N := 40) ?hd (xs := ([] : List (S48))) (inner := []) (ok := fun _ => True) (okp := fun _ => True) ?hr ?hp (fun _ hk => hk) trivial (Below.refl _ _) (Nat.le_refl _) (by simp) ?_; (case hd => rfl); (case hg => rfl); (case hr => exact gs_); (case hp => exact (Reps.none _ _)); intro v346 w24 ho25 hb hg_ hnew_; clear hg_ hnew_; (first | rw [← Ny345.out] at ho25 | (simp only [Int.reduceToNat] at ho25; rw [← Ny345.out] at ho25)); have HO347 := Aside0.mk (Kd.R_lower (Kd.R_newB (Kd.R_new' ho25 (Kd.R_lt (ro_ HO339))) (g := gb335) (o := .cells #[.int .i64 a2_0, .int .i64 a2_1, .int .i64 a2_2, .int .i64 a2_3, .int .i64 a2_4] 48 (0, 0)) (bk_ BK335)) (below_size (be2_ HB GE334 GE335))); replace HO339 := Aside0.mk (Kd.R_elder' (ro_ HO339) (Kd.R_base ho25) hb); replace BK334 := bb_ BK334 hb; replace BK335 := bb_ BK335 hb; replace HB := bs2_ HB GE334 GE335 hb; clear hb ho25) | ((with_reducible refine gate_builtin (b := .append) (xs := #[.tmp 40, .tmp 41]) rfl ?_); at_builtin; refine Kd.R_append_rows k48 (w0 := w) w.heap.size rfl (.tmp 40) (.tmp 41) 26 48 (.agg #[(.int .i64 0), (.int .i64 0), (.int .i64 0), (.int .i64 0), (.int .i64 0)]) 40 rfl Tryd.underlying26 info48 rfl (by decide) (by omega) v346 y345 l1 _ _ _ (fun k_ => some k_ ≠ (.slice Ao20 y337.length co20 : Value).ownBlock ∧ k_ ≠ gb335) (fun _ => False) rfl rfl ?aO ?aR (fun _ _ h => h) (fun _ h => h.elim) ?aF ?aB ?aS ?aL ?_; (case aR => exact kc_ HR1 HB); (case aB => exact (be2_ HB GE334 GE335)); (case aF => exact (fun k_ hk => ⟨Kd.fresh' (Kd.R_lt (ro_ HO339)) k_ hk, Kd.freshB (g := gb335) (o := .cells #[.int .i64 a2_0, .int .i64 a2_1, .int .i64 a2_2, .int .i64 a2_3, .int .i64 a2_4] 48 (0, 0)) (bk_ BK335) k_ hk⟩)); (case aO => exact (by (with_reducible repeat (first | apply Kd.R_alloc | apply Kd.R_drewN | apply Kd.R_drew)); exact Kd.R_mono HO347.out (fun _ hk => ⟨hk.1.2, hk.2⟩))); (case aS => exact (below_size (be2_ HB GE334 GE335))); (case aL => have := LMc10.out; omega); intro v349 w26 ho hb hg hat; rw [← Ny348.out] at ho; replace BK334 := Aside0.mk (blk_grown (g := gb334) (o := .cells #[.slice A0_0 l0_0.length c0_0, .slice A0_1 l0_1.length c0_1] 25 (0, 0)) (bk_ BK334) hg (Kd.R_ne HO347.out BK334.out (by decide))); replace BK335 := Aside0.mk (blk_grown (g := gb335) (o := .cells #[.int .i64 a2_0, .int .i64 a2_1, .int .i64 a2_2, .int .i64 a2_3, .int .i64 a2_4] 48 (0, 0)) (bk_ BK335) hg (Kd.R_away HO347.out (fun _ hk => hk.2))); replace HO339 := Aside0.mk (Kd.R_after (ok := (fun k_ => k_ ≠ gb335)) (by (with_reducible repeat (first | apply Kd.R_alloc | apply Kd.R_drewN | apply Kd.R_drew)); exact Kd.R_mono HO339.out (fun _ hk => ⟨hk.1.2, hk.2⟩)) hg hat); replace HB := Aside0.mk (hb); have HO350 := Aside0.mk (ho); clear HO347; clear ho hb hg hat))
     go_loopg [13, 14] k (fun kq v13 v14 w' => ∃ (x13_1 : List (S48)) (x14_1 : Int), v14 = .int .i64 x14_1 ∧ Aside0 (cottonpadref06_More.l0 kq x13_1 x14_1 l0_0 l0_1 a2_0 a2_1 a2_2 a2_3 a2_4 = some (r1, r2)) ∧ Aside0 (kq ≤ k) ∧ Aside0 (Kd.R k48 48 w' w.heap.size (fun k_ => k_ ≠ gb335) v13 x13_1) ∧ Aside0 (w'.heap[gb334]? = some (.cells #[(.slice A0_0 l0_0.length c0_0), (.slice A0_1 l0_1.length c0_1)] 25 (0, 0))) ∧ Aside0 (w'.heap[gb335]? = some (.cells #[.int .i64 a2_0, .int .i64 a2_1, .int .i64 a2_2, .int .i64 a2_3, .int .i64 a2_4] 48 (0, 0))) ∧ Aside0 (Below w.heap.size w w'))
     case atStart => exact ⟨(y348), (0), (by first | rfl | (simp; done) | (simp [*]; done)), H', ⟨Nat.le_refl _⟩, ⟨by (with_reducible repeat (first | apply Kd.R_alloc | apply Kd.R_drewN | apply Kd.R_drew)); exact Kd.R_mono HO350.out (fun _ hk => hk.2)⟩, ⟨by refine bx_ ?_; exact BK334.out⟩, ⟨by refine bx_ ?_; exact BK335.out⟩, ⟨be2_ HB GE334 GE335⟩⟩
     case round =>
      clear H'
      try clear c1
      try clear c2
      try clear p2
      try clear c5
      try clear c5b0
      try clear c5b1
      try clear c6
      try clear c7
      try clear c9
      try clear c9b0
      try clear c9b1
      try clear c10
      try clear c13
      try clear c22
      try clear hcz14_0
      try clear hcz14_1
      try clear hcz16_0
      try clear hcz16_1
      try clear hcz17_0
      try clear hcz17_1
      try clear hcz17_2
      try clear hcz17_3
      try clear hcz17_4
      try clear hcz22_0
      try clear hcz22_1
      try clear hfz14_0
      try clear hfz14_1
      try clear hfz16_0
      try clear hfz16_1
      try clear hfz17_0
      try clear hfz17_1
      try clear hfz17_2
      try clear hfz17_3
      try clear hfz17_4
      try clear hfz22_0
      try clear hfz22_1
      obtain ⟨x13_1, x14_1, rfl, HA, HK1, HO_13, BK334, BK335, HB⟩ := hrel
      cases gk with
      | zero => exact absurd HA.out (by simp [cottonpadref06_More.l0])
      | succ k1 =>
       have H := HA.out
       clear HA
       simp only [cottonpadref06_More.l0] at H
       by_cases c27 : x13_1.length < 3518437208883
       ·rw [if_pos c27] at H
        have LMc27 := Aside0.mk c27
        clear c27
        obtain ⟨y351, hy351⟩ : ∃ y_ : List (S48), y_ = (x13_1 ++ [(⟨a2_0, (⟨a2_1, a2_2⟩ : S36), (⟨a2_3, a2_4⟩ : S36)⟩ : S48)]) := ⟨_, rfl⟩
        replace H : ((cottonpadref06_Safe.f k1 l0_0 l0_1 y351).bind fun bt354 => (if bt354.2.2.2 = 0 then (if bt354.1 = 2 then (cottonpadref06_More.l0 k1 y351 (wrap64 (x14_1 + 1)) l0_0 l0_1 a2_0 a2_1 a2_2 a2_3 a2_4) else (some (x14_1, 0))) else (some (x14_1, 0)))) = some (r1, r2) := by first | (rw [hy351]; with_reducible exact H) | (have H2_ := (Option.bind_some _ _).symm.trans H; rw [hy351]; with_reducible exact H2_) | (have H2_ := (Option.bind_some _ _).symm.trans H; with_reducible exact H2_) | with_reducible exact H | (rw [hy351]; exact H) | exact H
        have Ny351 := Aside0.mk hy351
        clear hy351
        replace H := Option.bind_eq_some_iff.mp H
        obtain ⟨⟨t354, t355, t356, t357⟩, A280, H⟩ := H
        replace H : (if t357 = 0 then (if t354 = 2 then (cottonpadref06_More.l0 k1 y351 (wrap64 (x14_1 + 1)) l0_0 l0_1 a2_0 a2_1 a2_2 a2_3 a2_4) else (some (x14_1, 0))) else (some (x14_1, 0))) = some (r1, r2) := H
        have A28 := Aside0.mk A280
        clear A280
        by_cases c29 : t357 = 0
        ·rw [if_pos c29] at H
         have c29b0 : (t357 == 0) = true := beq_iff_eq.mpr c29
         have c29b1 : (t357 != 0) = false := bne_eq_false_iff_eq.mpr c29
         clear c29
         by_cases c30 : t354 = 2
         ·rw [if_pos c30] at H
          have c30b0 : (t354 == 2) = true := beq_iff_eq.mpr c30
          have c30b1 : (t354 != 2) = false := bne_eq_false_iff_eq.mpr c30
          clear c30
          have H' := Aside0.mk H
          clear H
          have hnb31 := NB335_334.out
          have hnc31 := NB334_335.out
          have hcz32_0 : wr.cell? ⟨gb335, 0, none⟩ = some (.int .i64 a2_0) := bc_ BK335 0
          have hcz32_1 : wr.cell? ⟨gb335, 1, none⟩ = some (.int .i64 a2_1) := bc_ BK335 1
          have hcz32_2 : wr.cell? ⟨gb335, 2, none⟩ = some (.int .i64 a2_2) := bc_ BK335 2
          have hcz32_3 : wr.cell? ⟨gb335, 3, none⟩ = some (.int .i64 a2_3) := bc_ BK335 3
          have hcz32_4 : wr.cell? ⟨gb335, 4, none⟩ = some (.int .i64 a2_4) := bc_ BK335 4
          have hfz32_0 := blk_frozen BK335.out 0
          have hfz32_1 := blk_frozen BK335.out 1
          have hfz32_2 := blk_frozen BK335.out 2
          have hfz32_3 := blk_frozen BK335.out 3
          have hfz32_4 := blk_frozen BK335.out 4
          go_wp2_with (first | ((with_reducible refine gate_builtin (b := .append) (xs := #[.tmp 45, .tmp 47]) rfl ?_); at_builtin; refine Kd.R_append k48 (w0 := w) w.heap.size rfl (.tmp 45) (.tmp 47) 26 48 (.agg #[(.int .i64 0), (.int .i64 0), (.int .i64 0), (.int .i64 0), (.int .i64 0)]) 40 rfl Tryd.underlying26 info48 rfl (by decide) (by omega) u13 x13_1 (⟨a2_0, (⟨a2_1, a2_2⟩ : S36), (⟨a2_3, a2_4⟩ : S36)⟩ : S48) [.int .i64 a2_0, .int .i64 a2_1, .int .i64 a2_2, .int .i64 a2_3, .int .i64 a2_4] (fun k_ => k_ ≠ gb335) (fun _ => False) rfl rfl ?aP (fun _ hk => hk.elim) ?aF ?aO ?aB ?aS ?aL ?_; (case aP => exact k48_mkM _ _ _ (⟨a2_0, (⟨a2_1, a2_2⟩ : S36), (⟨a2_3, a2_4⟩ : S36)⟩ : S48)); (case aB => exact (be2_ HB GE334 GE335)); (case aF => exact (fun k_ hk => Kd.freshB (g := gb335) (o := .cells #[.int .i64 a2_0, .int .i64 a2_1, .int .i64 a2_2, .int .i64 a2_3, .int .i64 a2_4] 48 (0, 0)) (bk_ BK335) k_ hk)); (case aO => exact (ro_ HO_13)); (case aS => exact (below_size (be2_ HB GE334 GE335))); (case aL => have := LMc27.out; omega); intro v352 w33 ho hb hg hat; rw [← Ny351.out] at ho; replace BK334 := Aside0.mk (blk_grown (g := gb334) (o := .cells #[.slice A0_0 l0_0.length c0_0, .slice A0_1 l0_1.length c0_1] 25 (0, 0)) (bk_ BK334) hg (Kd.R_ne HO_13.out BK334.out (by decide))); replace BK335 := Aside0.mk (blk_grown (g := gb335) (o := .cells #[.int .i64 a2_0, .int .i64 a2_1, .int .i64 a2_2, .int .i64 a2_3, .int .i64 a2_4] 48 (0, 0)) (bk_ BK335) hg (Kd.R_away HO_13.out (fun _ hk => hk))); replace HB := Aside0.mk (hb); have HO353 := Aside0.mk (ho); clear HO_13; clear ho hb hg hat; have hcz34_0 : w33.cell? ⟨gb334, 0, none⟩ = some (.slice A0_0 l0_0.length c0_0) := bc_ BK334 0; have hcz34_1 : w33.cell? ⟨gb334, 1, none⟩ = some (.slice A0_1 l0_1.length c0_1) := bc_ BK334 1; have hfz34_0 := blk_frozen BK334.out 0; have hfz34_1 := blk_frozen BK334.out 1; obtain ⟨Ao35, co35, eo35⟩ := Kd.R_slice HO353.out; subst eo35) | ((with_reducible refine gate_callee (f := 27) rfl ?_); refine goesL_ (some 52) rfl rfl Tryd.func27 (by kernel_rfl) rfl #[.agg #[.slice A0_0 l0_0.length c0_0, .slice A0_1 l0_1.length c0_1], .slice Ao35 y351.length co35] rfl ls_ ?_; (with_reducible refine (cottonpadref06_Safe.calls k1 _ _ l0_0 _ _ l0_1 _ _ y351 t354 t355 t356 t357 _ ?side1 ?side2 ?side3 ?side4 ?side5 ?side6 A28.out).mono ?_); (case side1 => exact kc_ HR0_0 HB); (case side2 => exact HC0_0.out); (case side3 => exact kc_ HR0_1 HB); (case side4 => exact HC0_1.out); (case side5 => exact kd_ (Kd.R_reads' HO353.out).2.2); (case side6 => exact (Kd.R_reads' HO353.out).2.1); rintro e w36 ⟨rfl, hb⟩; refine ⟨_, rfl, ?_⟩; replace HO353 := rb_ HO353 hb; replace BK334 := bb_ BK334 hb; replace BK335 := bb_ BK335 hb; replace HB := bs2_ HB GE334 GE335 hb; (try clear hb); (try clear hb2); (try clear hk); (try clear hi)))
          go_roundg k1
          case measure => have := HK1.out; omega
          case rel => exact ⟨(y351), (wrap64 (x14_1 + 1)), (by first | rfl | (simp; done) | (simp [*]; done)), H', ⟨by have := HK1.out; omega⟩, ⟨by (with_reducible repeat (first | apply Kd.R_alloc | apply Kd.R_drewN | apply Kd.R_drew)); exact HO353.out⟩, ⟨by refine bx_ ?_; exact BK334.out⟩, ⟨by refine bx_ ?_; exact BK335.out⟩, ⟨be2_ HB GE334 GE335⟩⟩
         ·rw [if_neg c30] at H
          have c30b0 : (t354 == 2) = false := beq_eq_false_iff_ne.mpr c30
          have c30b1 : (t354 != 2) = true := bne_iff_ne.mpr c30
          simp only [Option.some.injEq, Prod.mk.injEq] at H
          obtain ⟨rfl, rfl⟩ := H
          have hnb37 := NB335_334.out
          have hnc37 := NB334_335.out
          have hcz38_0 : wr.cell? ⟨gb335, 0, none⟩ = some (.int .i64 a2_0) := bc_ BK335 0
          have hcz38_1 : wr.cell? ⟨gb335, 1, none⟩ = some (.int .i64 a2_1) := bc_ BK335 1
          have hcz38_2 : wr.cell? ⟨gb335, 2, none⟩ = some (.int .i64 a2_2) := bc_ BK335 2
          have hcz38_3 : wr.cell? ⟨gb335, 3, none⟩ = some (.int .i64 a2_3) := bc_ BK335 3
          have hcz38_4 : wr.cell? ⟨gb335, 4, none⟩ = some (.int .i64 a2_4) := bc_ BK335 4
          have hfz38_0 := blk_frozen BK335.out 0
          have hfz38_1 := blk_frozen BK335.out 1
          have hfz38_2 := blk_frozen BK335.out 2
          have hfz38_3 := blk_frozen BK335.out 3
          have hfz38_4 := blk_frozen BK335.out 4
          go_wp2_with (first | ((with_reducible refine gate_builtin (b := .append) (xs := #[.tmp 45, .tmp 47]) rfl ?_); at_builtin; refine Kd.R_append k48 (w0 := w) w.heap.size rfl (.tmp 45) (.tmp 47) 26 48 (.agg #[(.int .i64 0), (.int .i64 0), (.int .i64 0), (.int .i64 0), (.int .i64 0)]) 40 rfl Tryd.underlying26 info48 rfl (by decide) (by omega) u13 x13_1 (⟨a2_0, (⟨a2_1, a2_2⟩ : S36), (⟨a2_3, a2_4⟩ : S36)⟩ : S48) [.int .i64 a2_0, .int .i64 a2_1, .int .i64 a2_2, .int .i64 a2_3, .int .i64 a2_4] (fun k_ => k_ ≠ gb335) (fun _ => False) rfl rfl ?aP (fun _ hk => hk.elim) ?aF ?aO ?aB ?aS ?aL ?_; (case aP => exact k48_mkM _ _ _ (⟨a2_0, (⟨a2_1, a2_2⟩ : S36), (⟨a2_3, a2_4⟩ : S36)⟩ : S48)); (case aB => exact (be2_ HB GE334 GE335)); (case aF => exact (fun k_ hk => Kd.freshB (g := gb335) (o := .cells #[.int .i64 a2_0, .int .i64 a2_1, .int .i64 a2_2, .int .i64 a2_3, .int .i64 a2_4] 48 (0, 0)) (bk_ BK335) k_ hk)); (case aO => exact (ro_ HO_13)); (case aS => exact (below_size (be2_ HB GE334 GE335))); (case aL => have := LMc27.out; omega); intro v352 w39 ho hb hg hat; rw [← Ny351.out] at ho; replace BK334 := Aside0.mk (blk_grown (g := gb334) (o := .cells #[.slice A0_0 l0_0.length c0_0, .slice A0_1 l0_1.length c0_1] 25 (0, 0)) (bk_ BK334) hg (Kd.R_ne HO_13.out BK334.out (by decide))); replace BK335 := Aside0.mk (blk_grown (g := gb335) (o := .cells #[.int .i64 a2_0, .int .i64 a2_1, .int .i64 a2_2, .int .i64 a2_3, .int .i64 a2_4] 48 (0, 0)) (bk_ BK335) hg (Kd.R_away HO_13.out (fun _ hk => hk))); replace HB := Aside0.mk (hb); have HO353 := Aside0.mk (ho); clear HO_13; clear ho hb hg hat; have hcz40_0 : w39.cell? ⟨gb334, 0, none⟩ = some (.slice A0_0 l0_0.length c0_0) := bc_ BK334 0; have hcz40_1 : w39.cell? ⟨gb334, 1, none⟩ = some (.slice A0_1 l0_1.length c0_1) := bc_ BK334 1; have hfz40_0 := blk_frozen BK334.out 0; have hfz40_1 := blk_frozen BK334.out 1; obtain ⟨Ao41, co41, eo41⟩ := Kd.R_slice HO353.out; subst eo41) | ((with_reducible refine gate_callee (f := 27) rfl ?_); refine goesL_ (some 52) rfl rfl Tryd.func27 (by kernel_rfl) rfl #[.agg #[.slice A0_0 l0_0.length c0_0, .slice A0_1 l0_1.length c0_1], .slice Ao41 y351.length co41] rfl ls_ ?_; (with_reducible refine (cottonpadref06_Safe.calls k1 _ _ l0_0 _ _ l0_1 _ _ y351 t354 t355 t356 t357 _ ?side1 ?side2 ?side3 ?side4 ?side5 ?side6 A28.out).mono ?_); (case side1 => exact kc_ HR0_0 HB); (case side2 => exact HC0_0.out); (case side3 => exact kc_ HR0_1 HB); (case side4 => exact HC0_1.out); (case side5 => exact kd_ (Kd.R_reads' HO353.out).2.2); (case side6 => exact (Kd.R_reads' HO353.out).2.1); rintro e w42 ⟨rfl, hb⟩; refine ⟨_, rfl, ?_⟩; replace HO353 := rb_ HO353 hb; replace BK334 := bb_ BK334 hb; replace BK335 := bb_ BK335 hb; replace HB := bs2_ HB GE334 GE335 hb; (try clear hb); (try clear hb2); (try clear hk); (try clear hi)))
          go_ret2
          exact ⟨rf_, be2_ HB GE334 GE335⟩
        ·rw [if_neg c29] at H
         have c29b0 : (t357 == 0) = false := beq_eq_false_iff_ne.mpr c29
         have c29b1 : (t357 != 0) = true := bne_iff_ne.mpr c29
         simp only [Option.some.injEq, Prod.mk.injEq] at H
         obtain ⟨rfl, rfl⟩ := H
         have hnb43 := NB335_334.out
         have hnc43 := NB334_335.out
         have hcz44_0 : wr.cell? ⟨gb335, 0, none⟩ = some (.int .i64 a2_0) := bc_ BK335 0
         have hcz44_1 : wr.cell? ⟨gb335, 1, none⟩ = some (.int .i64 a2_1) := bc_ BK335 1
         have hcz44_2 : wr.cell? ⟨gb335, 2, none⟩ = some (.int .i64 a2_2) := bc_ BK335 2
         have hcz44_3 : wr.cell? ⟨gb335, 3, none⟩ = some (.int .i64 a2_3) := bc_ BK335 3
         have hcz44_4 : wr.cell? ⟨gb335, 4, none⟩ = some (.int .i64 a2_4) := bc_ BK335 4
         have hfz44_0 := blk_frozen BK335.out 0
         have hfz44_1 := blk_frozen BK335.out 1
         have hfz44_2 := blk_frozen BK335.out 2
         have hfz44_3 := blk_frozen BK335.out 3
         have hfz44_4 := blk_frozen BK335.out 4
         go_wp2_with (first | ((with_reducible refine gate_builtin (b := .append) (xs := #[.tmp 45, .tmp 47]) rfl ?_); at_builtin; refine Kd.R_append k48 (w0 := w) w.heap.size rfl (.tmp 45) (.tmp 47) 26 48 (.agg #[(.int .i64 0), (.int .i64 0), (.int .i64 0), (.int .i64 0), (.int .i64 0)]) 40 rfl Tryd.underlying26 info48 rfl (by decide) (by omega) u13 x13_1 (⟨a2_0, (⟨a2_1, a2_2⟩ : S36), (⟨a2_3, a2_4⟩ : S36)⟩ : S48) [.int .i64 a2_0, .int .i64 a2_1, .int .i64 a2_2, .int .i64 a2_3, .int .i64 a2_4] (fun k_ => k_ ≠ gb335) (fun _ => False) rfl rfl ?aP (fun _ hk => hk.elim) ?aF ?aO ?aB ?aS ?aL ?_; (case aP => exact k48_mkM _ _ _ (⟨a2_0, (⟨a2_1, a2_2⟩ : S36), (⟨a2_3, a2_4⟩ : S36)⟩ : S48)); (case aB => exact (be2_ HB GE334 GE335)); (case aF => exact (fun k_ hk => Kd.freshB (g := gb335) (o := .cells #[.int .i64 a2_0, .int .i64 a2_1, .int .i64 a2_2, .int .i64 a2_3, .int .i64 a2_4] 48 (0, 0)) (bk_ BK335) k_ hk)); (case aO => exact (ro_ HO_13)); (case aS => exact (below_size (be2_ HB GE334 GE335))); (case aL => have := LMc27.out; omega); intro v352 w45 ho hb hg hat; rw [← Ny351.out] at ho; replace BK334 := Aside0.mk (blk_grown (g := gb334) (o := .cells #[.slice A0_0 l0_0.length c0_0, .slice A0_1 l0_1.length c0_1] 25 (0, 0)) (bk_ BK334) hg (Kd.R_ne HO_13.out BK334.out (by decide))); replace BK335 := Aside0.mk (blk_grown (g := gb335) (o := .cells #[.int .i64 a2_0, .int .i64 a2_1, .int .i64 a2_2, .int .i64 a2_3, .int .i64 a2_4] 48 (0, 0)) (bk_ BK335) hg (Kd.R_away HO_13.out (fun _ hk => hk))); replace HB := Aside0.mk (hb); have HO353 := Aside0.mk (ho); clear HO_13; clear ho hb hg hat; have hcz46_0 : w45.cell? ⟨gb334, 0, none⟩ = some (.slice A0_0 l0_0.length c0_0) := bc_ BK334 0; have hcz46_1 : w45.cell? ⟨gb334, 1, none⟩ = some (.slice A0_1 l0_1.length c0_1) := bc_ BK334 1; have hfz46_0 := blk_frozen BK334.out 0; have hfz46_1 := blk_frozen BK334.out 1; obtain ⟨Ao47, co47, eo47⟩ := Kd.R_slice HO353.out; subst eo47) | ((with_reducible refine gate_callee (f := 27) rfl ?_); refine goesL_ (some 52) rfl rfl Tryd.func27 (by kernel_rfl) rfl #[.agg #[.slice A0_0 l0_0.length c0_0, .slice A0_1 l0_1.length c0_1], .slice Ao47 y351.length co47] rfl ls_ ?_; (with_reducible refine (cottonpadref06_Safe.calls k1 _ _ l0_0 _ _ l0_1 _ _ y351 t354 t355 t356 t357 _ ?side1 ?side2 ?side3 ?side4 ?side5 ?side6 A28.out).mono ?_); (case side1 => exact kc_ HR0_0 HB); (case side2 => exact HC0_0.out); (case side3 => exact kc_ HR0_1 HB); (case side4 => exact HC0_1.out); (case side5 => exact kd_ (Kd.R_reads' HO353.out).2.2); (case side6 => exact (Kd.R_reads' HO353.out).2.1); rintro e w48 ⟨rfl, hb⟩; refine ⟨_, rfl, ?_⟩; replace HO353 := rb_ HO353 hb; replace BK334 := bb_ BK334 hb; replace BK335 := bb_ BK335 hb; replace HB := bs2_ HB GE334 GE335 hb; (try clear hb); (try clear hb2); (try clear hk); (try clear hi)))
         go_ret2
         exact ⟨rf_, be2_ HB GE334 GE335⟩
       ·rw [if_neg c27] at H
        exact absurd H (by simp)
    ·rw [if_neg c10] at H
     exact absurd H (by simp)
   ·rw [if_neg c9] at H
    have c9b0 : (t341 == 2) = false := beq_eq_false_iff_ne.mpr c9
    have c9b1 : (t341 != 2) = true := bne_iff_ne.mpr c9
    simp only [Option.some.injEq, Prod.mk.injEq] at H
    obtain ⟨rfl, rfl⟩ := H
    go_enter Tryd.func29, Tryd.ntmps29
    go_wp2_with (first | ((with_reducible refine gate_dst (N := 3) rfl ?_); refine box_event ?hg (N := 3) ?hd (cs := #[.slice A0_0 l0_0.length c0_0, .slice A0_1 l0_1.length c0_1]) (t := 25) ?hr ?_; (case hd => rfl); (case hg => rfl); (case hr => exact gs_); intro gb334 hg w49 hbox hb; have BK334 := Aside0.mk (hbox); have GW334 := hl_ hg (be_ HB); have GE334 := hl_ hg (be_ HB); replace HB := bs_ HB hb; clear hb hbox hg) | ((with_reducible refine gate_dst (N := 5) rfl ?_); refine box_event ?hg (N := 5) ?hd (cs := #[.int .i64 a2_0, .int .i64 a2_1, .int .i64 a2_2, .int .i64 a2_3, .int .i64 a2_4]) (t := 48) ?hr ?_; (case hd => rfl); (case hg => rfl); (case hr => exact gs_); intro gb335 hg w50 hbox hb; have BK335 := Aside0.mk (hbox); have GW335 := hl_ hg (be1_ HB GE334); have GE335 := hl_ hg (be1_ HB GE334); replace HB := bs1_ HB GE334 hb; have NB334_335 := Aside0.mk ((by rw [hg]; exact Nat.ne_of_lt (blk_lt (bk_ BK334)) : gb334 ≠ gb335)); have NB335_334 := Aside0.mk ((by rw [hg]; exact Nat.ne_of_gt (blk_lt (bk_ BK334)) : gb335 ≠ gb334)); replace BK334 := bb_ BK334 hb; clear hb hbox hg; have hnb51 := NB334_335.out; have hnc51 := NB335_334.out; have hcz52_0 : w50.cell? ⟨gb334, 0, none⟩ = some (.slice A0_0 l0_0.length c0_0) := bc_ BK334 0; have hcz52_1 : w50.cell? ⟨gb334, 1, none⟩ = some (.slice A0_1 l0_1.length c0_1) := bc_ BK334 1; have hfz52_0 := blk_frozen BK334.out 0; have hfz52_1 := blk_frozen BK334.out 1) | ((with_reducible refine gate_callee (f := 22) rfl ?_); refine goesL_ (some 21) rfl rfl Tryd.func22 (by kernel_rfl) rfl #[.agg #[.slice A0_0 l0_0.length c0_0, .slice A0_1 l0_1.length c0_1], .slice A1 l1.length c1] rfl ls_ ?_; (with_reducible refine (cottonpadref06_Check.calls k _ _ l0_0 _ _ l0_1 _ _ l1 t336 _ ?side1 ?side2 ?side3 ?side4 ?side5 ?side6 A4.out).mono ?_); (case side1 => exact kc_ HR0_0 HB); (case side2 => exact HC0_0.out); (case side3 => exact kc_ HR0_1 HB); (case side4 => exact HC0_1.out); (case side5 => exact kc_ HR1 HB); (case side6 => exact HC1.out); rintro e w53 ⟨rfl, hb⟩; refine ⟨_, rfl, ?_⟩; replace BK334 := bb_ BK334 hb; replace BK335 := bb_ BK335 hb; replace HB := bs2_ HB GE334 GE335 hb; (try clear hb); (try clear hb2); (try clear hk); (try clear hi); have hcz54_0 : w53.cell? ⟨gb334, 0, none⟩ = some (.slice A0_0 l0_0.length c0_0) := bc_ BK334 0; have hcz54_1 : w53.cell? ⟨gb334, 1, none⟩ = some (.slice A0_1 l0_1.length c0_1) := bc_ BK334 1; have hfz54_0 := blk_frozen BK334.out 0; have hfz54_1 := blk_frozen BK334.out 1; have hcz55_0 : w53.cell? ⟨gb335, 0, none⟩ = some (.int .i64 a2_0) := bc_ BK335 0; have hcz55_1 : w53.cell? ⟨gb335, 1, none⟩ = some (.int .i64 a2_1) := bc_ BK335 1; have hcz55_2 : w53.cell? ⟨gb335, 2, none⟩ = some (.int .i64 a2_2) := bc_ BK335 2; have hcz55_3 : w53.cell? ⟨gb335, 3, none⟩ = some (.int .i64 a2_3) := bc_ BK335 3; have hcz55_4 : w53.cell? ⟨gb335, 4, none⟩ = some (.int .i64 a2_4) := bc_ BK335 4; have hfz55_0 := blk_frozen BK335.out 0; have hfz55_1 := blk_frozen BK335.out 1; have hfz55_2 := blk_frozen BK335.out 2; have hfz55_3 := blk_frozen BK335.out 3; have hfz55_4 := blk_frozen BK335.out 4) | ((with_reducible refine gate_dst (N := 27) rfl ?_); refine Kd.R_lit k48 _ 48 ?hg (N := 27) ?hd (xs := ([(⟨a2_0, (⟨a2_1, a2_2⟩ : S36), (⟨a2_3, a2_4⟩ : S36)⟩ : S48)] : List (S48))) (inner := [.int .i64 a2_0, .int .i64 a2_1, .int .i64 a2_2, .int .i64 a2_3, .int .i64 a2_4]) (ok := fun _ => True) (okp := fun _ => True) ?hr ?hp (fun _ hk => hk) trivial (Below.refl _ _) (Nat.le_refl _) (by simp) ?_; (case hd => rfl); (case hg => rfl); (case hr => exact gs_); (case hp => exact (Reps.c5 (show Kd.M k48 _ _ _ (⟨a2_0, (⟨a2_1, a2_2⟩ : S36), (⟨a2_3, a2_4⟩ : S36)⟩ : S48) [.int .i64 a2_0, .int .i64 a2_1, .int .i64 a2_2, .int .i64 a2_3, .int .i64 a2_4] from (k48_mkM _ _ _ (⟨a2_0, (⟨a2_1, a2_2⟩ : S36), (⟨a2_3, a2_4⟩ : S36)⟩ : S48) )) (Reps.none _ _))); intro v338 w56 ho57 hb hg_ hnew_; clear hg_ hnew_; (first | rw [← Ny337.out] at ho57 | (simp only [Int.reduceToNat] at ho57; rw [← Ny337.out] at ho57)); have HO339 := Aside0.mk (Kd.R_lower (Kd.R_newB ho57 (g := gb335) (o := .cells #[.int .i64 a2_0, .int .i64 a2_1, .int .i64 a2_2, .int .i64 a2_3, .int .i64 a2_4] 48 (0, 0)) (bk_ BK335)) (below_size (be2_ HB GE334 GE335))); replace BK334 := bb_ BK334 hb; replace BK335 := bb_ BK335 hb; replace HB := bs2_ HB GE334 GE335 hb; clear hb ho57; obtain ⟨Ao58, co58, eo58⟩ := Kd.R_slice HO339.out; subst eo58) | ((with_reducible refine gate_callee (f := 64) rfl ?_); refine goesL_ (some 28) rfl rfl Tryd.func64 (by kernel_rfl) rfl #[.agg #[.slice A0_0 l0_0.length c0_0, .slice A0_1 l0_1.length c0_1], .slice Ao58 y337.length co58] rfl ls_ ?_; (with_reducible refine (cottonpadref06_People.calls k _ _ l0_0 _ _ l0_1 _ _ y337 true _ ?side1 ?side2 ?side3 ?side4 ?side5 ?side6 A6.out).mono ?_); (case side1 => exact kc_ HR0_0 HB); (case side2 => exact HC0_0.out); (case side3 => exact kc_ HR0_1 HB); (case side4 => exact HC0_1.out); (case side5 => exact kd_ (Kd.R_reads' HO339.out).2.2); (case side6 => exact (Kd.R_reads' HO339.out).2.1); rintro e w59 ⟨rfl, hb⟩; refine ⟨_, rfl, ?_⟩; replace HO339 := rb_ HO339 hb; replace BK334 := bb_ BK334 hb; replace BK335 := bb_ BK335 hb; replace HB := bs2_ HB GE334 GE335 hb; (try clear hb); (try clear hb2); (try clear hk); (try clear hi); have hcz60_0 : w59.cell? ⟨gb334, 0, none⟩ = some (.slice A0_0 l0_0.length c0_0) := bc_ BK334 0; have hcz60_1 : w59.cell? ⟨gb334, 1, none⟩ = some (.slice A0_1 l0_1.length c0_1) := bc_ BK334 1; have hfz60_0 := blk_frozen BK334.out 0; have hfz60_1 := blk_frozen BK334.out 1) | ((with_reducible refine gate_callee (f := 27) rfl ?_); refine goesL_ (some 33) rfl rfl Tryd.func27 (by kernel_rfl) rfl #[.agg #[.slice A0_0 l0_0.length c0_0, .slice A0_1 l0_1.length c0_1], .slice A1 l1.length c1] rfl ls_ ?_; (with_reducible refine (cottonpadref06_Safe.calls k _ _ l0_0 _ _ l0_1 _ _ l1 t341 t342 t343 t344 _ ?side1 ?side2 ?side3 ?side4 ?side5 ?side6 A8.out).mono ?_); (case side1 => exact kc_ HR0_0 HB); (case side2 => exact HC0_0.out); (case side3 => exact kc_ HR0_1 HB); (case side4 => exact HC0_1.out); (case side5 => exact kc_ HR1 HB); (case side6 => exact HC1.out); rintro e w61 ⟨rfl, hb⟩; refine ⟨_, rfl, ?_⟩; replace HO339 := rb_ HO339 hb; replace BK334 := bb_ BK334 hb; replace BK335 := bb_ BK335 hb; replace HB := bs2_ HB GE334 GE335 hb; (try clear hb); (try clear hb2); (try clear hk); (try clear hi)))
    go_ret2
    exact ⟨rf_, be2_ HB GE334 GE335⟩
  ·replace c7 := Bool.eq_false_iff.mpr c7
   subst c7
   have H1 : (some (0, 2)) = some (r1, r2) := by rw [if_neg (show ¬ (false = true) by decide)] at H; exact H
   clear H
   have H := H1
   clear H1
   simp only [Option.some.injEq, Prod.mk.injEq] at H
   obtain ⟨rfl, rfl⟩ := H
   go_enter Tryd.func29, Tryd.ntmps29
   go_wp2_with (first | ((with_reducible refine gate_dst (N := 3) rfl ?_); refine box_event ?hg (N := 3) ?hd (cs := #[.slice A0_0 l0_0.length c0_0, .slice A0_1 l0_1.length c0_1]) (t := 25) ?hr ?_; (case hd => rfl); (case hg => rfl); (case hr => exact gs_); intro gb334 hg w62 hbox hb; have BK334 := Aside0.mk (hbox); have GW334 := hl_ hg (be_ HB); have GE334 := hl_ hg (be_ HB); replace HB := bs_ HB hb; clear hb hbox hg) | ((with_reducible refine gate_dst (N := 5) rfl ?_); refine box_event ?hg (N := 5) ?hd (cs := #[.int .i64 a2_0, .int .i64 a2_1, .int .i64 a2_2, .int .i64 a2_3, .int .i64 a2_4]) (t := 48) ?hr ?_; (case hd => rfl); (case hg => rfl); (case hr => exact gs_); intro gb335 hg w63 hbox hb; have BK335 := Aside0.mk (hbox); have GW335 := hl_ hg (be1_ HB GE334); have GE335 := hl_ hg (be1_ HB GE334); replace HB := bs1_ HB GE334 hb; have NB334_335 := Aside0.mk ((by rw [hg]; exact Nat.ne_of_lt (blk_lt (bk_ BK334)) : gb334 ≠ gb335)); have NB335_334 := Aside0.mk ((by rw [hg]; exact Nat.ne_of_gt (blk_lt (bk_ BK334)) : gb335 ≠ gb334)); replace BK334 := bb_ BK334 hb; clear hb hbox hg; have hnb64 := NB334_335.out; have hnc64 := NB335_334.out; have hcz65_0 : w63.cell? ⟨gb334, 0, none⟩ = some (.slice A0_0 l0_0.length c0_0) := bc_ BK334 0; have hcz65_1 : w63.cell? ⟨gb334, 1, none⟩ = some (.slice A0_1 l0_1.length c0_1) := bc_ BK334 1; have hfz65_0 := blk_frozen BK334.out 0; have hfz65_1 := blk_frozen BK334.out 1) | ((with_reducible refine gate_callee (f := 22) rfl ?_); refine goesL_ (some 21) rfl rfl Tryd.func22 (by kernel_rfl) rfl #[.agg #[.slice A0_0 l0_0.length c0_0, .slice A0_1 l0_1.length c0_1], .slice A1 l1.length c1] rfl ls_ ?_; (with_reducible refine (cottonpadref06_Check.calls k _ _ l0_0 _ _ l0_1 _ _ l1 t336 _ ?side1 ?side2 ?side3 ?side4 ?side5 ?side6 A4.out).mono ?_); (case side1 => exact kc_ HR0_0 HB); (case side2 => exact HC0_0.out); (case side3 => exact kc_ HR0_1 HB); (case side4 => exact HC0_1.out); (case side5 => exact kc_ HR1 HB); (case side6 => exact HC1.out); rintro e w66 ⟨rfl, hb⟩; refine ⟨_, rfl, ?_⟩; replace BK334 := bb_ BK334 hb; replace BK335 := bb_ BK335 hb; replace HB := bs2_ HB GE334 GE335 hb; (try clear hb); (try clear hb2); (try clear hk); (try clear hi); have hcz67_0 : w66.cell? ⟨gb334, 0, none⟩ = some (.slice A0_0 l0_0.length c0_0) := bc_ BK334 0; have hcz67_1 : w66.cell? ⟨gb334, 1, none⟩ = some (.slice A0_1 l0_1.length c0_1) := bc_ BK334 1; have hfz67_0 := blk_frozen BK334.out 0; have hfz67_1 := blk_frozen BK334.out 1; have hcz68_0 : w66.cell? ⟨gb335, 0, none⟩ = some (.int .i64 a2_0) := bc_ BK335 0; have hcz68_1 : w66.cell? ⟨gb335, 1, none⟩ = some (.int .i64 a2_1) := bc_ BK335 1; have hcz68_2 : w66.cell? ⟨gb335, 2, none⟩ = some (.int .i64 a2_2) := bc_ BK335 2; have hcz68_3 : w66.cell? ⟨gb335, 3, none⟩ = some (.int .i64 a2_3) := bc_ BK335 3; have hcz68_4 : w66.cell? ⟨gb335, 4, none⟩ = some (.int .i64 a2_4) := bc_ BK335 4; have hfz68_0 := blk_frozen BK335.out 0; have hfz68_1 := blk_frozen BK335.out 1; have hfz68_2 := blk_frozen BK335.out 2; have hfz68_3 := blk_frozen BK335.out 3; have hfz68_4 := blk_frozen BK335.out 4) | ((with_reducible refine gate_dst (N := 27) rfl ?_); refine Kd.R_lit k48 _ 48 ?hg (N := 27) ?hd (xs := ([(⟨a2_0, (⟨a2_1, a2_2⟩ : S36), (⟨a2_3, a2_4⟩ : S36)⟩ : S48)] : List (S48))) (inner := [.int .i64 a2_0, .int .i64 a2_1, .int .i64 a2_2, .int .i64 a2_3, .int .i64 a2_4]) (ok := fun _ => True) (okp := fun _ => True) ?hr ?hp (fun _ hk => hk) trivial (Below.refl _ _) (Nat.le_refl _) (by simp) ?_; (case hd => rfl); (case hg => rfl); (case hr => exact gs_); (case hp => exact (Reps.c5 (show Kd.M k48 _ _ _ (⟨a2_0, (⟨a2_1, a2_2⟩ : S36), (⟨a2_3, a2_4⟩ : S36)⟩ : S48) [.int .i64 a2_0, .int .i64 a2_1, .int .i64 a2_2, .int .i64 a2_3, .int .i64 a2_4] from (k48_mkM _ _ _ (⟨a2_0, (⟨a2_1, a2_2⟩ : S36), (⟨a2_3, a2_4⟩ : S36)⟩ : S48) )) (Reps.none _ _))); intro v338 w69 ho70 hb hg_ hnew_; clear hg_ hnew_; (first | rw [← Ny337.out] at ho70 | (simp only [Int.reduceToNat] at ho70; rw [← Ny337.out] at ho70)); have HO339 := Aside0.mk (Kd.R_lower (Kd.R_newB ho70 (g := gb335) (o := .cells #[.int .i64 a2_0, .int .i64 a2_1, .int .i64 a2_2, .int .i64 a2_3, .int .i64 a2_4] 48 (0, 0)) (bk_ BK335)) (below_size (be2_ HB GE334 GE335))); replace BK334 := bb_ BK334 hb; replace BK335 := bb_ BK335 hb; replace HB := bs2_ HB GE334 GE335 hb; clear hb ho70; obtain ⟨Ao71, co71, eo71⟩ := Kd.R_slice HO339.out; subst eo71) | ((with_reducible refine gate_callee (f := 64) rfl ?_); refine goesL_ (some 28) rfl rfl Tryd.func64 (by kernel_rfl) rfl #[.agg #[.slice A0_0 l0_0.length c0_0, .slice A0_1 l0_1.length c0_1], .slice Ao71 y337.length co71] rfl ls_ ?_; (with_reducible refine (cottonpadref06_People.calls k _ _ l0_0 _ _ l0_1 _ _ y337 false _ ?side1 ?side2 ?side3 ?side4 ?side5 ?side6 A6.out).mono ?_); (case side1 => exact kc_ HR0_0 HB); (case side2 => exact HC0_0.out); (case side3 => exact kc_ HR0_1 HB); (case side4 => exact HC0_1.out); (case side5 => exact kd_ (Kd.R_reads' HO339.out).2.2); (case side6 => exact (Kd.R_reads' HO339.out).2.1); rintro e w72 ⟨rfl, hb⟩; refine ⟨_, rfl, ?_⟩; replace HO339 := rb_ HO339 hb; replace BK334 := bb_ BK334 hb; replace BK335 := bb_ BK335 hb; replace HB := bs2_ HB GE334 GE335 hb; (try clear hb); (try clear hb2); (try clear hk); (try clear hi)))
   go_ret2
   exact ⟨rf_, be2_ HB GE334 GE335⟩
 ·rw [if_neg c5] at H
  have c5b0 : (t336 == 0) = false := beq_eq_false_iff_ne.mpr c5
  have c5b1 : (t336 != 0) = true := bne_iff_ne.mpr c5
  simp only [Option.some.injEq, Prod.mk.injEq] at H
  obtain ⟨rfl, rfl⟩ := H
  go_enter Tryd.func29, Tryd.ntmps29
  go_wp2_with (first | ((with_reducible refine gate_dst (N := 3) rfl ?_); refine box_event ?hg (N := 3) ?hd (cs := #[.slice A0_0 l0_0.length c0_0, .slice A0_1 l0_1.length c0_1]) (t := 25) ?hr ?_; (case hd => rfl); (case hg => rfl); (case hr => exact gs_); intro gb334 hg w73 hbox hb; have BK334 := Aside0.mk (hbox); have GW334 := hl_ hg (be_ HB); have GE334 := hl_ hg (be_ HB); replace HB := bs_ HB hb; clear hb hbox hg) | ((with_reducible refine gate_dst (N := 5) rfl ?_); refine box_event ?hg (N := 5) ?hd (cs := #[.int .i64 a2_0, .int .i64 a2_1, .int .i64 a2_2, .int .i64 a2_3, .int .i64 a2_4]) (t := 48) ?hr ?_; (case hd => rfl); (case hg => rfl); (case hr => exact gs_); intro gb335 hg w74 hbox hb; have BK335 := Aside0.mk (hbox); have GW335 := hl_ hg (be1_ HB GE334); have GE335 := hl_ hg (be1_ HB GE334); replace HB := bs1_ HB GE334 hb; have NB334_335 := Aside0.mk ((by rw [hg]; exact Nat.ne_of_lt (blk_lt (bk_ BK334)) : gb334 ≠ gb335)); have NB335_334 := Aside0.mk ((by rw [hg]; exact Nat.ne_of_gt (blk_lt (bk_ BK334)) : gb335 ≠ gb334)); replace BK334 := bb_ BK334 hb; clear hb hbox hg; have hnb75 := NB334_335.out; have hnc75 := NB335_334.out; have hcz76_0 : w74.cell? ⟨gb334, 0, none⟩ = some (.slice A0_0 l0_0.length c0_0) := bc_ BK334 0; have hcz76_1 : w74.cell? ⟨gb334, 1, none⟩ = some (.slice A0_1 l0_1.length c0_1) := bc_ BK334 1; have hfz76_0 := blk_frozen BK334.out 0; have hfz76_1 := blk_frozen BK334.out 1) | ((with_reducible refine gate_callee (f := 22) rfl ?_); refine goesL_ (some 21) rfl rfl Tryd.func22 (by kernel_rfl) rfl #[.agg #[.slice A0_0 l0_0.length c0_0, .slice A0_1 l0_1.length c0_1], .slice A1 l1.length c1] rfl ls_ ?_; (with_reducible refine (cottonpadref06_Check.calls k _ _ l0_0 _ _ l0_1 _ _ l1 t336 _ ?side1 ?side2 ?side3 ?side4 ?side5 ?side6 A4.out).mono ?_); (case side1 => exact kc_ HR0_0 HB); (case side2 => exact HC0_0.out); (case side3 => exact kc_ HR0_1 HB); (case side4 => exact HC0_1.out); (case side5 => exact kc_ HR1 HB); (case side6 => exact HC1.out); rintro e w77 ⟨rfl, hb⟩; refine ⟨_, rfl, ?_⟩; replace BK334 := bb_ BK334 hb; replace BK335 := bb_ BK335 hb; replace HB := bs2_ HB GE334 GE335 hb; (try clear hb); (try clear hb2); (try clear hk); (try clear hi)))
  go_ret2
  exact ⟨rf_, be2_ HB GE334 GE335⟩

end Go.Proofs.YtdeaccbolnlgpaaDoor.X
