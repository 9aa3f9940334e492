import Derived.Test.YtdeaccbolnlgpaaDoorX0
import Derived.Test.YtdeaccbolnlgpaaDoorXNA
import Derived.Test.YtdeaccbolnlgpaaDoorXAlive
import Derived.Test.YtdeaccbolnlgpaaDoorXG
import Derived.Test.YtdeaccbolnlgpaaDoorXHMore
import Derived.Test.YtdeaccbolnlgpaaDoorXHS
namespace Go.Proofs.YtdeaccbolnlgpaaDoor.X
open Go.RowKit Go.Proofs.YtdeaccbolnlgpaaDoorW.PrintWords Go.Proofs.YtdeaccbolnlgpaaDoorW.PrintLast Go.Proofs.YtdeaccbolnlgpaaDoorW.PrintMore
attribute [local go_sem] max2_int min2_int max_two min_two max_three min_three max_four min_four   -- for this text's walks alone
set_option linter.unusedVariables false
set_option linter.unusedSimpArgs false

/-! ### cottonpadlaw06_ExitsMore: function 14 -/
mutual
def cottonpadlaw06_ExitsMore.j0 : Nat → List (S48) → Bool → Bool → List (S62) → List (S81) → Int → Int → Int → Int → Int → Option (Bool)
 | 0, _, _, _, _, _, _, _, _, _, _ => none
 | k + 1, x1, x7, x38, x998000, x998001, x999000, x999001, x999002, x999003, x999004 => if x38 = true then (some x7) else ((exits_More.f x998000 x998001 x1 x999000 x999001 x999002 x999003 x999004).bind fun bt1005 => ((exits_Safe.f x998000 x998001 x1).bind fun bt1007 => (if bt1007.2.2.2 = 0 then (cottonpadlaw06_ExitsMore.j1 k x1 x7 bt1005.1 bt1005.2 ((bt1005.2 == 0) != (bt1007.1 == 2)) x998000 x998001 x999000 x999001 x999002 x999003 x999004) else (cottonpadlaw06_ExitsMore.j1 k x1 x7 bt1005.1 bt1005.2 true x998000 x998001 x999000 x999001 x999002 x999003 x999004))))
def cottonpadlaw06_ExitsMore.j1 : Nat → List (S48) → Bool → Int → Int → Bool → List (S62) → List (S81) → Int → Int → Int → Int → Int → Option (Bool)
 | 0, _, _, _, _, _, _, _, _, _, _, _, _ => none
 | k + 1, x1, x7, x8, x9, x63, x998000, x998001, x999000, x999001, x999002, x999003, x999004 => if x63 = true then (some false) else (if x9 = 0 then (if x8 < 0 then (cottonpadlaw06_ExitsMore.j2 k x1 x7 x8 true x998000 x998001 x999000 x999001 x999002 x999003 x999004) else (cottonpadlaw06_ExitsMore.j2 k x1 x7 x8 (decide (x8 > (wrap64 (24 - (x1.length : Int))))) x998000 x998001 x999000 x999001 x999002 x999003 x999004)) else (if x7 = true then (if x9 = 8 then (some (x8 == 0)) else (some false)) else (some false)))
def cottonpadlaw06_ExitsMore.j2 : Nat → List (S48) → Bool → Int → Bool → List (S62) → List (S81) → Int → Int → Int → Int → Int → Option (Bool)
 | 0, _, _, _, _, _, _, _, _, _, _, _ => none
 | k + 1, x1, x7, x8, x83, x998000, x998001, x999000, x999001, x999002, x999003, x999004 => if x83 = true then (some false) else ((some (([] : List (S48)) : List (S48))).bind fun y1011 => (if y1011.length + x1.length < 3518437208883 then (cottonpadlaw06_ExitsMore.l0 k x7 (y1011 ++ x1) x8 0 x998000 x998001 x999000 x999001 x999002 x999003 x999004) else (none)))
def cottonpadlaw06_ExitsMore.l0 : Nat → Bool → List (S48) → Int → Int → List (S62) → List (S81) → Int → Int → Int → Int → Int → Option (Bool)
 | 0, _, _, _, _, _, _, _, _, _, _, _ => none
 | k + 1, x7, x14, x87, x88, x998000, x998001, x999000, x999001, x999002, x999003, x999004 => if x88 < x87 then (if x14.length < 3518437208883 then (cottonpadlaw06_ExitsMore.l0 k x7 (x14 ++ [(⟨x999000, (⟨x999001, x999002⟩ : S36), (⟨x999003, x999004⟩ : S36)⟩ : S48)]) x87 (wrap64 (x88 + 1)) x998000 x998001 x999000 x999001 x999002 x999003 x999004) else (none)) else ((exits_Safe.f x998000 x998001 x14).bind fun bt1020 => (if bt1020.2.2.2 = 0 then (cottonpadlaw06_ExitsMore.j4 k x7 x14 (bt1020.1 != 2) x998000 x998001 x999000 x999001 x999002 x999003 x999004) else (cottonpadlaw06_ExitsMore.j4 k x7 x14 true x998000 x998001 x999000 x999001 x999002 x999003 x999004)))
def cottonpadlaw06_ExitsMore.j4 : Nat → Bool → List (S48) → Bool → List (S62) → List (S81) → Int → Int → Int → Int → Int → Option (Bool)
 | 0, _, _, _, _, _, _, _, _, _, _ => none
 | k + 1, x7, x14, x108, x998000, x998001, x999000, x999001, x999002, x999003, x999004 => if x108 = true then (some false) else (if (x14.length : Int) = 24 then (some x7) else (if x14.length < 3518437208883 then ((exits_Safe.f x998000 x998001 (x14 ++ [(⟨x999000, (⟨x999001, x999002⟩ : S36), (⟨x999003, x999004⟩ : S36)⟩ : S48)])).bind fun bt1027 => (if x7 = true then (if bt1027.2.2.2 = 0 then (some (bt1027.1 != 2)) else (some false)) else (some false))) else (none)))
end
def cottonpadlaw06_ExitsMore.f (k : Nat) (l0_0 : List (S62)) (l0_1 : List (S81)) (l1 : List (S48)) (a2_0 : Int) (a2_1 : Int) (a2_2 : Int) (a2_3 : Int) (a2_4 : Int) : Option (Bool) := (cottonpadlaw06_alive_t.f).bind fun t999 => ((cottonpadlaw06_ready.f k l0_0 l0_1 l1).bind fun t1000 => (if t1000 = true then ((cottonpadlaw06_ready.f k l0_0 l0_1 (([(⟨a2_0, (⟨a2_1, a2_2⟩ : S36), (⟨a2_3, a2_4⟩ : S36)⟩ : S48)] : List (S48)))).bind fun t1004 => (if t1004 = true then (cottonpadlaw06_ExitsMore.j0 k l1 t999 (!t999) l0_0 l0_1 a2_0 a2_1 a2_2 a2_3 a2_4) else (cottonpadlaw06_ExitsMore.j0 k l1 t999 true l0_0 l0_1 a2_0 a2_1 a2_2 a2_3 a2_4))) else (cottonpadlaw06_ExitsMore.j0 k l1 t999 true l0_0 l0_1 a2_0 a2_1 a2_2 a2_3 a2_4)))
theorem cottonpadlaw06_ExitsMore.mono_l : ∀ k, (∀ y0 y1 y2 y3 y4 y5 y6 y7 y8 y9, LeO (cottonpadlaw06_ExitsMore.j0 k y0 y1 y2 y3 y4 y5 y6 y7 y8 y9) (cottonpadlaw06_ExitsMore.j0 (k + 1) y0 y1 y2 y3 y4 y5 y6 y7 y8 y9)) ∧ (∀ y0 y1 y2 y3 y4 y5 y6 y7 y8 y9 y10 y11, LeO (cottonpadlaw06_ExitsMore.j1 k y0 y1 y2 y3 y4 y5 y6 y7 y8 y9 y10 y11) (cottonpadlaw06_ExitsMore.j1 (k + 1) y0 y1 y2 y3 y4 y5 y6 y7 y8 y9 y10 y11)) ∧ (∀ y0 y1 y2 y3 y4 y5 y6 y7 y8 y9 y10, LeO (cottonpadlaw06_ExitsMore.j2 k y0 y1 y2 y3 y4 y5 y6 y7 y8 y9 y10) (cottonpadlaw06_ExitsMore.j2 (k + 1) y0 y1 y2 y3 y4 y5 y6 y7 y8 y9 y10)) ∧ (∀ y0 y1 y2 y3 y4 y5 y6 y7 y8 y9 y10, LeO (cottonpadlaw06_ExitsMore.l0 k y0 y1 y2 y3 y4 y5 y6 y7 y8 y9 y10) (cottonpadlaw06_ExitsMore.l0 (k + 1) y0 y1 y2 y3 y4 y5 y6 y7 y8 y9 y10)) ∧ (∀ y0 y1 y2 y3 y4 y5 y6 y7 y8 y9, LeO (cottonpadlaw06_ExitsMore.j4 k y0 y1 y2 y3 y4 y5 y6 y7 y8 y9) (cottonpadlaw06_ExitsMore.j4 (k + 1) y0 y1 y2 y3 y4 y5 y6 y7 y8 y9))
 | 0 => ⟨fun _ _ _ _ _ _ _ _ _ _ r h => by simp [cottonpadlaw06_ExitsMore.j0] at h, fun _ _ _ _ _ _ _ _ _ _ _ _ r h => by simp [cottonpadlaw06_ExitsMore.j1] at h, fun _ _ _ _ _ _ _ _ _ _ _ r h => by simp [cottonpadlaw06_ExitsMore.j2] at h, fun _ _ _ _ _ _ _ _ _ _ _ r h => by simp [cottonpadlaw06_ExitsMore.l0] at h, fun _ _ _ _ _ _ _ _ _ _ r h => by simp [cottonpadlaw06_ExitsMore.j4] at h⟩
 | k + 1 => by
  obtain ⟨ih0, ih1, ih2, ih3, ih4⟩ := cottonpadlaw06_ExitsMore.mono_l k
  refine ⟨?_, ?_, ?_, ?_, ?_⟩
  ·intro y0 y1 y2 y3 y4 y5 y6 y7 y8 y9
   unfold cottonpadlaw06_ExitsMore.j0
   repeat' (with_reducible first | exact ih0 .. | exact ih1 .. | exact ih2 .. | exact ih3 .. | exact ih4 .. | exact cottonpadlaw06_ready.mono .. | exact LeO.refl .. | exact LeO.none .. | refine LeO.ite ?_ ?_ | refine LeO.bind ?_ (fun _ => ?_))
  ·intro y0 y1 y2 y3 y4 y5 y6 y7 y8 y9 y10 y11
   unfold cottonpadlaw06_ExitsMore.j1
   repeat' (with_reducible first | exact ih0 .. | exact ih1 .. | exact ih2 .. | exact ih3 .. | exact ih4 .. | exact cottonpadlaw06_ready.mono .. | exact LeO.refl .. | exact LeO.none .. | refine LeO.ite ?_ ?_ | refine LeO.bind ?_ (fun _ => ?_))
  ·intro y0 y1 y2 y3 y4 y5 y6 y7 y8 y9 y10
   unfold cottonpadlaw06_ExitsMore.j2
   repeat' (with_reducible first | exact ih0 .. | exact ih1 .. | exact ih2 .. | exact ih3 .. | exact ih4 .. | exact cottonpadlaw06_ready.mono .. | exact LeO.refl .. | exact LeO.none .. | refine LeO.ite ?_ ?_ | refine LeO.bind ?_ (fun _ => ?_))
  ·intro y0 y1 y2 y3 y4 y5 y6 y7 y8 y9 y10
   unfold cottonpadlaw06_ExitsMore.l0
   repeat' (with_reducible first | exact ih0 .. | exact ih1 .. | exact ih2 .. | exact ih3 .. | exact ih4 .. | exact cottonpadlaw06_ready.mono .. | exact LeO.refl .. | exact LeO.none .. | refine LeO.ite ?_ ?_ | refine LeO.bind ?_ (fun _ => ?_))
  ·intro y0 y1 y2 y3 y4 y5 y6 y7 y8 y9
   unfold cottonpadlaw06_ExitsMore.j4
   repeat' (with_reducible first | exact ih0 .. | exact ih1 .. | exact ih2 .. | exact ih3 .. | exact ih4 .. | exact cottonpadlaw06_ready.mono .. | exact LeO.refl .. | exact LeO.none .. | refine LeO.ite ?_ ?_ | refine LeO.bind ?_ (fun _ => ?_))
theorem cottonpadlaw06_ExitsMore.mono : ∀ a0 a1 a2 a3 a4 a5 a6 a7 k, LeO (cottonpadlaw06_ExitsMore.f k a0 a1 a2 a3 a4 a5 a6 a7) (cottonpadlaw06_ExitsMore.f (k + 1) a0 a1 a2 a3 a4 a5 a6 a7) := by
 intro a0 a1 a2 a3 a4 a5 a6 a7 k
 obtain ⟨ih0, ih1, ih2, ih3, ih4⟩ := cottonpadlaw06_ExitsMore.mono_l k
 unfold cottonpadlaw06_ExitsMore.f
 repeat' (with_reducible first | exact ih0 .. | exact ih1 .. | exact ih2 .. | exact ih3 .. | exact ih4 .. | exact cottonpadlaw06_ready.mono .. | exact LeO.refl .. | exact LeO.none .. | refine LeO.ite ?_ ?_ | refine LeO.bind ?_ (fun _ => ?_))
def cottonpadlaw06_ExitsMore.T22 : Bool × List (List Nat × List Nat) := (true, [([], []), ([], []), ([], []), ([2], [2]), ([1, 3], [1, 3]), ([0, 4, 4], [0, 4]), ([5], [5]), ([6], [6]), ([6], [6]), ([6], [6]), ([6], [6]), ([7, 5, 0, 1, 2, 3, 4, 5, 6, 7], [7]), ([8, 11, 0, 1, 2, 3, 4, 5, 6, 7, 8, 11], [8]), ([9, 12, 0, 1, 2, 3, 4, 5, 6, 7, 8, 9, 11, 12], [9]), ([10, 13, 0, 1, 2, 3, 4, 5, 6, 7, 8, 9, 10, 11, 12, 13], [10])])
def cottonpadlaw06_ExitsMore.B22 : List Nat := [0, 0, 0, 4, 14, 31, 63, 127, 127, 127, 127, 255, 2559, 7167, 16383]
theorem cottonpadlaw06_ExitsMore.tab22 : rtab .any (opsOf Tryd.f14 22) = cottonpadlaw06_ExitsMore.T22 := by kernel_rfl
theorem cottonpadlaw06_ExitsMore.bits22 : waitsOk cottonpadlaw06_ExitsMore.T22.2 cottonpadlaw06_ExitsMore.B22 = true := by kernel_rfl
set_option maxHeartbeats 8000000 in
set_option maxRecDepth 100000 in
theorem cottonpadlaw06_ExitsMore.calls (k : Nat) (A0_0 : Option Addr) (c0_0 : Nat) (l0_0 : List (S62)) (A0_1 : Option Addr) (c0_1 : Nat) (l0_1 : List (S81)) (A1 : Option Addr) (c1 : Nat) (l1 : List (S48)) (a2_0 : Int) (a2_1 : Int) (a2_2 : Int) (a2_3 : Int) (a2_4 : Int) (r : Bool) (w : World) (hG : Globs w) (hrt : r = true) (hr0_0 : Kd.C k62 w A0_0 l0_0.length l0_0) (hc0_0 : l0_0.length ≤ c0_0) (hr0_1 : Kd.C k81 w A0_1 l0_1.length l0_1) (hc0_1 : l0_1.length ≤ c0_1) (hr1 : Kd.C k48 w A1 l1.length l1) (hc1 : l1.length ≤ c1) (h : cottonpadlaw06_ExitsMore.f k l0_0 l0_1 l1 a2_0 a2_1 a2_2 a2_3 a2_4 = some r) :
  Calls Tryd.prog 14 #[.agg #[.slice A0_0 l0_0.length c0_0, .slice A0_1 l0_1.length c0_1], .slice A1 l1.length c1, .agg #[.int .i64 a2_0, .int .i64 a2_1, .int .i64 a2_2, .int .i64 a2_3, .int .i64 a2_4]] w fun e w' => e = .returned (.bool r) ∧ Below w.heap.size w w' := by
 have hu25 := Tryd.underlying25
 have hu48 := Tryd.underlying48
 have HR0_0 := Aside0.mk hr0_0
 have HC0_0 := Aside0.mk hc0_0
 clear hr0_0 hc0_0
 have HR0_1 := Aside0.mk hr0_1
 have HC0_1 := Aside0.mk hc0_1
 clear hr0_1 hc0_1
 have HR1 := Aside0.mk hr1
 have HC1 := Aside0.mk hc1
 clear hr1 hc1
 have HB := Aside0.mk (Below.refl w.heap.size w)
 have HG := Aside0.mk hG
 clear hG
 have HRT := Aside0.mk hrt
 clear hrt
 have H : ((cottonpadlaw06_alive_t.f).bind fun t999 => ((cottonpadlaw06_ready.f k l0_0 l0_1 l1).bind fun t1000 => (if t1000 = true then ((cottonpadlaw06_ready.f k l0_0 l0_1 (([(⟨a2_0, (⟨a2_1, a2_2⟩ : S36), (⟨a2_3, a2_4⟩ : S36)⟩ : S48)] : List (S48)))).bind fun t1004 => (if t1004 = true then (cottonpadlaw06_ExitsMore.j0 k l1 t999 (!t999) l0_0 l0_1 a2_0 a2_1 a2_2 a2_3 a2_4) else (cottonpadlaw06_ExitsMore.j0 k l1 t999 true l0_0 l0_1 a2_0 a2_1 a2_2 a2_3 a2_4))) else (cottonpadlaw06_ExitsMore.j0 k l1 t999 true l0_0 l0_1 a2_0 a2_1 a2_2 a2_3 a2_4)))) = some r := h
 clear h
 replace H := Option.bind_eq_some_iff.mp H
 obtain ⟨t999, A40, H⟩ := H
 replace H : ((cottonpadlaw06_ready.f k l0_0 l0_1 l1).bind fun t1000 => (if t1000 = true then ((cottonpadlaw06_ready.f k l0_0 l0_1 (([(⟨a2_0, (⟨a2_1, a2_2⟩ : S36), (⟨a2_3, a2_4⟩ : S36)⟩ : S48)] : List (S48)))).bind fun t1004 => (if t1004 = true then (cottonpadlaw06_ExitsMore.j0 k l1 t999 (!t999) l0_0 l0_1 a2_0 a2_1 a2_2 a2_3 a2_4) else (cottonpadlaw06_ExitsMore.j0 k l1 t999 true l0_0 l0_1 a2_0 a2_1 a2_2 a2_3 a2_4))) else (cottonpadlaw06_ExitsMore.j0 k l1 t999 true l0_0 l0_1 a2_0 a2_1 a2_2 a2_3 a2_4))) = some r := H
 have A4 := Aside0.mk A40
 clear A40
 have HC5 := Aside0.mk H
 clear H
 go_enter Tryd.func14, Tryd.ntmps14
 go_upto_region 2 with (first | ((with_reducible refine gate_dst (N := 3) rfl ?_); (try (refine gate_guard (by rfl) ?_; dsimp only)); refine box_event ?hg (N := 3) ?hd (cs := #[.slice A0_0 l0_0.length c0_0, .slice A0_1 l0_1.length c0_1]) (t := 25) ?hr ?_; (case hd => rfl); (case hg => rfl); (case hr => exact gs_); intro gb997 hg w6 hbox hb; have BK997 := Aside0.mk (hbox); have GW997 := hl_ hg (be_ HB); have GE997 := hl_ hg (be_ HB); replace HB := bs_ HB hb; clear hb hbox hg) | ((with_reducible refine gate_dst (N := 5) rfl ?_); (try (refine gate_guard (by rfl) ?_; dsimp only)); refine box_event ?hg (N := 5) ?hd (cs := #[.int .i64 a2_0, .int .i64 a2_1, .int .i64 a2_2, .int .i64 a2_3, .int .i64 a2_4]) (t := 48) ?hr ?_; (case hd => rfl); (case hg => rfl); (case hr => exact gs_); intro gb998 hg w7 hbox hb; have BK998 := Aside0.mk (hbox); have GW998 := hl_ hg (be1_ HB GE997); have GE998 := hl_ hg (be1_ HB GE997); replace HB := bs1_ HB GE997 hb; have NB997_998 := Aside0.mk ((by rw [hg]; exact Nat.ne_of_lt (blk_lt (bk_ BK997)) : gb997 ≠ gb998)); have NB998_997 := Aside0.mk ((by rw [hg]; exact Nat.ne_of_gt (blk_lt (bk_ BK997)) : gb998 ≠ gb997)); replace BK997 := bb_ BK997 hb; clear hb hbox hg) | ((with_reducible refine gate_callee (f := 30) rfl ?_); refine goesL_ (some 23) rfl rfl Tryd.func30 (by kernel_rfl) rfl #[] rfl ls_ ?_; (with_reducible refine (cottonpadlaw06_alive_t.calls  t999 _ ?side1 A4.out).mono ?_); (case side1 => exact Globs.below HG.out (be2_ HB GE997 GE998)); rintro e w8 ⟨rfl, hb⟩; refine ⟨_, rfl, ?_⟩; replace BK997 := bb_ BK997 hb; replace BK998 := bb_ BK998 hb; replace HB := bs2_ HB GE997 GE998 hb; (try clear hb); (try clear hb2); (try clear hk); (try clear hi)))
 (try simp only [Act.put, List.setIfInBounds_toArray, List.set_cons_zero, List.set_cons_succ])
 go_cut [38] (fun v38 wc => ∃ (kq : Nat) (x38_4 : Bool), v38 = .bool x38_4 ∧ Aside0 (cottonpadlaw06_ExitsMore.j0 kq l1 t999 x38_4 l0_0 l0_1 a2_0 a2_1 a2_2 a2_3 a2_4 = some r) ∧ Aside0 (kq ≤ k) ∧ Aside0 (wc.heap[gb997]? = some (.cells #[(.slice A0_0 l0_0.length c0_0), (.slice A0_1 l0_1.length c0_1)] 25 (0, 0))) ∧ Aside0 (wc.heap[gb998]? = some (.cells #[.int .i64 a2_0, .int .i64 a2_1, .int .i64 a2_2, .int .i64 a2_3, .int .i64 a2_4] 48 (0, 0))) ∧ Aside0 (Below w.heap.size w wc))
 case first =>
  have H := HC5.out
  clear HC5
  replace H := Option.bind_eq_some_iff.mp H
  obtain ⟨t1000, A90, H⟩ := H
  replace H : (if t1000 = true then ((cottonpadlaw06_ready.f k l0_0 l0_1 (([(⟨a2_0, (⟨a2_1, a2_2⟩ : S36), (⟨a2_3, a2_4⟩ : S36)⟩ : S48)] : List (S48)))).bind fun t1004 => (if t1004 = true then (cottonpadlaw06_ExitsMore.j0 k l1 t999 (!t999) l0_0 l0_1 a2_0 a2_1 a2_2 a2_3 a2_4) else (cottonpadlaw06_ExitsMore.j0 k l1 t999 true l0_0 l0_1 a2_0 a2_1 a2_2 a2_3 a2_4))) else (cottonpadlaw06_ExitsMore.j0 k l1 t999 true l0_0 l0_1 a2_0 a2_1 a2_2 a2_3 a2_4)) = some r := H
  have A9 := Aside0.mk A90
  clear A90
  by_cases c10 : t1000 = true
  ·subst c10
   have H1 : ((cottonpadlaw06_ready.f k l0_0 l0_1 (([(⟨a2_0, (⟨a2_1, a2_2⟩ : S36), (⟨a2_3, a2_4⟩ : S36)⟩ : S48)] : List (S48)))).bind fun t1004 => (if t1004 = true then (cottonpadlaw06_ExitsMore.j0 k l1 t999 (!t999) l0_0 l0_1 a2_0 a2_1 a2_2 a2_3 a2_4) else (cottonpadlaw06_ExitsMore.j0 k l1 t999 true l0_0 l0_1 a2_0 a2_1 a2_2 a2_3 a2_4))) = some r := by rw [if_pos rfl] at H; exact H
   clear H
   have H := H1
   clear H1
   obtain ⟨y1001, hy1001⟩ : ∃ y_ : List (S48), y_ = (([(⟨a2_0, (⟨a2_1, a2_2⟩ : S36), (⟨a2_3, a2_4⟩ : S36)⟩ : S48)] : List (S48))) := ⟨_, rfl⟩
   replace H : ((cottonpadlaw06_ready.f k l0_0 l0_1 y1001).bind fun t1004 => (if t1004 = true then (cottonpadlaw06_ExitsMore.j0 k l1 t999 (!t999) l0_0 l0_1 a2_0 a2_1 a2_2 a2_3 a2_4) else (cottonpadlaw06_ExitsMore.j0 k l1 t999 true l0_0 l0_1 a2_0 a2_1 a2_2 a2_3 a2_4))) = some r := by first | (rw [hy1001]; with_reducible exact H) | (have H2_ := (Option.bind_some _ _).symm.trans H; rw [hy1001]; with_reducible exact H2_) | (have H2_ := (Option.bind_some _ _).symm.trans H; with_reducible exact H2_) | with_reducible exact H | (rw [hy1001]; exact H) | exact H
   have Ny1001 := Aside0.mk hy1001
   clear hy1001
   replace H := Option.bind_eq_some_iff.mp H
   obtain ⟨t1004, A110, H⟩ := H
   replace H : (if t1004 = true then (cottonpadlaw06_ExitsMore.j0 k l1 t999 (!t999) l0_0 l0_1 a2_0 a2_1 a2_2 a2_3 a2_4) else (cottonpadlaw06_ExitsMore.j0 k l1 t999 true l0_0 l0_1 a2_0 a2_1 a2_2 a2_3 a2_4)) = some r := H
   have A11 := Aside0.mk A110
   clear A110
   by_cases c12 : t1004 = true
   ·subst c12
    have H1 : (cottonpadlaw06_ExitsMore.j0 k l1 t999 (!t999) l0_0 l0_1 a2_0 a2_1 a2_2 a2_3 a2_4) = some r := by rw [if_pos rfl] at H; exact H
    clear H
    have H := H1
    clear H1
    have H' := Aside0.mk H
    clear H
    have hnb13 := NB997_998.out
    have hnc13 := NB998_997.out
    have hcz14_0 : w8.cell? ⟨gb997, 0, none⟩ = some (.slice A0_0 l0_0.length c0_0) := bc_ BK997 0
    have hcz14_1 : w8.cell? ⟨gb997, 1, none⟩ = some (.slice A0_1 l0_1.length c0_1) := bc_ BK997 1
    have hfz14_0 := blk_frozen BK997.out 0
    have hfz14_1 := blk_frozen BK997.out 1
    go_wp2_with (first | ((with_reducible refine gate_callee (f := 36) rfl ?_); refine goesL_ (some 26) rfl rfl Tryd.func36 (by kernel_rfl) rfl #[.agg #[.slice A0_0 l0_0.length c0_0, .slice A0_1 l0_1.length c0_1], .slice A1 l1.length c1] rfl ls_ ?_; (with_reducible refine (cottonpadlaw06_ready.calls k _ _ l0_0 _ _ l0_1 _ _ l1 true _ ?side1 ?side2 ?side3 ?side4 ?side5 ?side6 A9.out).mono ?_); (case side1 => exact kc_ HR0_0 HB); (case side2 => exact HC0_0.out); (case side3 => exact kc_ HR0_1 HB); (case side4 => exact HC0_1.out); (case side5 => exact kc_ HR1 HB); (case side6 => exact HC1.out); rintro e w15 ⟨rfl, hb⟩; refine ⟨_, rfl, ?_⟩; replace BK997 := bb_ BK997 hb; replace BK998 := bb_ BK998 hb; replace HB := bs2_ HB GE997 GE998 hb; (try clear hb); (try clear hb2); (try clear hk); (try clear hi); have hcz16_0 : w15.cell? ⟨gb997, 0, none⟩ = some (.slice A0_0 l0_0.length c0_0) := bc_ BK997 0; have hcz16_1 : w15.cell? ⟨gb997, 1, none⟩ = some (.slice A0_1 l0_1.length c0_1) := bc_ BK997 1; have hfz16_0 := blk_frozen BK997.out 0; have hfz16_1 := blk_frozen BK997.out 1; have hcz17_0 : w15.cell? ⟨gb998, 0, none⟩ = some (.int .i64 a2_0) := bc_ BK998 0; have hcz17_1 : w15.cell? ⟨gb998, 1, none⟩ = some (.int .i64 a2_1) := bc_ BK998 1; have hcz17_2 : w15.cell? ⟨gb998, 2, none⟩ = some (.int .i64 a2_2) := bc_ BK998 2; have hcz17_3 : w15.cell? ⟨gb998, 3, none⟩ = some (.int .i64 a2_3) := bc_ BK998 3; have hcz17_4 : w15.cell? ⟨gb998, 4, none⟩ = some (.int .i64 a2_4) := bc_ BK998 4; have hfz17_0 := blk_frozen BK998.out 0; have hfz17_1 := blk_frozen BK998.out 1; have hfz17_2 := blk_frozen BK998.out 2; have hfz17_3 := blk_frozen BK998.out 3; have hfz17_4 := blk_frozen BK998.out 4) | ((with_reducible refine gate_dst (N := 31) rfl ?_); (try (refine gate_guard (by rfl) ?_; dsimp only)); refine Kd.R_lit k48 _ 48 ?hg (N := 31) ?hd (xs := ([(⟨a2_0, (⟨a2_1, a2_2⟩ : S36), (⟨a2_3, a2_4⟩ : S36)⟩ : S48)] : List (S48))) (inner := [.int .i64 a2_0, .int .i64 a2_1, .int .i64 a2_2, .int .i64 a2_3, .int .i64 a2_4]) (ok := fun _ => True) (okp := fun _ => True) ?hr ?hp (fun _ hk => hk) trivial (Below.refl _ _) (Nat.le_refl _) (by simp) ?_; (case hd => rfl); (case hg => rfl); (case hr => exact gs_); (case hp => exact (Reps.c5 (show Kd.M k48 _ _ _ (⟨a2_0, (⟨a2_1, a2_2⟩ : S36), (⟨a2_3, a2_4⟩ : S36)⟩ : S48) [.int .i64 a2_0, .int .i64 a2_1, .int .i64 a2_2, .int .i64 a2_3, .int .i64 a2_4] from (k48_mkM _ _ _ (⟨a2_0, (⟨a2_1, a2_2⟩ : S36), (⟨a2_3, a2_4⟩ : S36)⟩ : S48) )) (Reps.none _ _))); intro v1002 w18 ho19 hb hg_ hnew_; clear hg_ hnew_; (first | rw [← Ny1001.out] at ho19 | (simp only [Int.reduceToNat] at ho19; rw [← Ny1001.out] at ho19)); have HO1003 := Aside0.mk (Kd.R_lower (Kd.R_newB ho19 (g := gb998) (o := .cells #[.int .i64 a2_0, .int .i64 a2_1, .int .i64 a2_2, .int .i64 a2_3, .int .i64 a2_4] 48 (0, 0)) (bk_ BK998)) (below_size (be2_ HB GE997 GE998))); replace BK997 := bb_ BK997 hb; replace BK998 := bb_ BK998 hb; replace HB := bs2_ HB GE997 GE998 hb; clear hb ho19; obtain ⟨Ao20, co20, eo20⟩ := Kd.R_slice HO1003.out; subst eo20) | (go_at_call 36; (with_reducible refine (cottonpadlaw06_ready.calls k _ _ l0_0 _ _ l0_1 _ _ y1001 true _ ?side1 ?side2 ?side3 ?side4 ?side5 ?side6 A11.out).mono ?_); (case side1 => exact kc_ HR0_0 HB); (case side2 => exact HC0_0.out); (case side3 => exact kc_ HR0_1 HB); (case side4 => exact HC0_1.out); (case side5 => exact kd_ (Kd.R_reads' HO1003.out).2.2); (case side6 => exact (Kd.R_reads' HO1003.out).2.1); rintro e w21 ⟨rfl, hb⟩; replace HO1003 := rb_ HO1003 hb; replace BK997 := bb_ BK997 hb; replace BK998 := bb_ BK998 hb; replace HB := bs2_ HB GE997 GE998 hb; (try clear hb); (try clear hb2); (try clear hk); (try clear hi)))
    go_meet
    case rel => exact ⟨_, (!t999), (by first | rfl | (simp; done) | (simp [*]; done)), H', ⟨by first | omega | exact Nat.le_refl _⟩, ⟨by refine bx_ ?_; exact BK997.out⟩, ⟨by refine bx_ ?_; exact BK998.out⟩, ⟨be2_ HB GE997 GE998⟩⟩
   ·replace c12 := Bool.eq_false_iff.mpr c12
    subst c12
    have H1 : (cottonpadlaw06_ExitsMore.j0 k l1 t999 true l0_0 l0_1 a2_0 a2_1 a2_2 a2_3 a2_4) = some r := by rw [if_neg (show ¬ (false = true) by decide)] at H; exact H
    clear H
    have H := H1
    clear H1
    have H' := Aside0.mk H
    clear H
    have hnb22 := NB997_998.out
    have hnc22 := NB998_997.out
    have hcz23_0 : w8.cell? ⟨gb997, 0, none⟩ = some (.slice A0_0 l0_0.length c0_0) := bc_ BK997 0
    have hcz23_1 : w8.cell? ⟨gb997, 1, none⟩ = some (.slice A0_1 l0_1.length c0_1) := bc_ BK997 1
    have hfz23_0 := blk_frozen BK997.out 0
    have hfz23_1 := blk_frozen BK997.out 1
    go_wp2_with (first | ((with_reducible refine gate_callee (f := 36) rfl ?_); refine goesL_ (some 26) rfl rfl Tryd.func36 (by kernel_rfl) rfl #[.agg #[.slice A0_0 l0_0.length c0_0, .slice A0_1 l0_1.length c0_1], .slice A1 l1.length c1] rfl ls_ ?_; (with_reducible refine (cottonpadlaw06_ready.calls k _ _ l0_0 _ _ l0_1 _ _ l1 true _ ?side1 ?side2 ?side3 ?side4 ?side5 ?side6 A9.out).mono ?_); (case side1 => exact kc_ HR0_0 HB); (case side2 => exact HC0_0.out); (case side3 => exact kc_ HR0_1 HB); (case side4 => exact HC0_1.out); (case side5 => exact kc_ HR1 HB); (case side6 => exact HC1.out); rintro e w24 ⟨rfl, hb⟩; refine ⟨_, rfl, ?_⟩; replace BK997 := bb_ BK997 hb; replace BK998 := bb_ BK998 hb; replace HB := bs2_ HB GE997 GE998 hb; (try clear hb); (try clear hb2); (try clear hk); (try clear hi); have hcz25_0 : w24.cell? ⟨gb997, 0, none⟩ = some (.slice A0_0 l0_0.length c0_0) := bc_ BK997 0; have hcz25_1 : w24.cell? ⟨gb997, 1, none⟩ = some (.slice A0_1 l0_1.length c0_1) := bc_ BK997 1; have hfz25_0 := blk_frozen BK997.out 0; have hfz25_1 := blk_frozen BK997.out 1; have hcz26_0 : w24.cell? ⟨gb998, 0, none⟩ = some (.int .i64 a2_0) := bc_ BK998 0; have hcz26_1 : w24.cell? ⟨gb998, 1, none⟩ = some (.int .i64 a2_1) := bc_ BK998 1; have hcz26_2 : w24.cell? ⟨gb998, 2, none⟩ = some (.int .i64 a2_2) := bc_ BK998 2; have hcz26_3 : w24.cell? ⟨gb998, 3, none⟩ = some (.int .i64 a2_3) := bc_ BK998 3; have hcz26_4 : w24.cell? ⟨gb998, 4, none⟩ = some (.int .i64 a2_4) := bc_ BK998 4; have hfz26_0 := blk_frozen BK998.out 0; have hfz26_1 := blk_frozen BK998.out 1; have hfz26_2 := blk_frozen BK998.out 2; have hfz26_3 := blk_frozen BK998.out 3; have hfz26_4 := blk_frozen BK998.out 4) | ((with_reducible refine gate_dst (N := 31) rfl ?_); (try (refine gate_guard (by rfl) ?_; dsimp only)); refine Kd.R_lit k48 _ 48 ?hg (N := 31) ?hd (xs := ([(⟨a2_0, (⟨a2_1, a2_2⟩ : S36), (⟨a2_3, a2_4⟩ : S36)⟩ : S48)] : List (S48))) (inner := [.int .i64 a2_0, .int .i64 a2_1, .int .i64 a2_2, .int .i64 a2_3, .int .i64 a2_4]) (ok := fun _ => True) (okp := fun _ => True) ?hr ?hp (fun _ hk => hk) trivial (Below.refl _ _) (Nat.le_refl _) (by simp) ?_; (case hd => rfl); (case hg => rfl); (case hr => exact gs_); (case hp => exact (Reps.c5 (show Kd.M k48 _ _ _ (⟨a2_0, (⟨a2_1, a2_2⟩ : S36), (⟨a2_3, a2_4⟩ : S36)⟩ : S48) [.int .i64 a2_0, .int .i64 a2_1, .int .i64 a2_2, .int .i64 a2_3, .int .i64 a2_4] from (k48_mkM _ _ _ (⟨a2_0, (⟨a2_1, a2_2⟩ : S36), (⟨a2_3, a2_4⟩ : S36)⟩ : S48) )) (Reps.none _ _))); intro v1002 w27 ho28 hb hg_ hnew_; clear hg_ hnew_; (first | rw [← Ny1001.out] at ho28 | (simp only [Int.reduceToNat] at ho28; rw [← Ny1001.out] at ho28)); have HO1003 := Aside0.mk (Kd.R_lower (Kd.R_newB ho28 (g := gb998) (o := .cells #[.int .i64 a2_0, .int .i64 a2_1, .int .i64 a2_2, .int .i64 a2_3, .int .i64 a2_4] 48 (0, 0)) (bk_ BK998)) (below_size (be2_ HB GE997 GE998))); replace BK997 := bb_ BK997 hb; replace BK998 := bb_ BK998 hb; replace HB := bs2_ HB GE997 GE998 hb; clear hb ho28; obtain ⟨Ao29, co29, eo29⟩ := Kd.R_slice HO1003.out; subst eo29) | (go_at_call 36; (with_reducible refine (cottonpadlaw06_ready.calls k _ _ l0_0 _ _ l0_1 _ _ y1001 false _ ?side1 ?side2 ?side3 ?side4 ?side5 ?side6 A11.out).mono ?_); (case side1 => exact kc_ HR0_0 HB); (case side2 => exact HC0_0.out); (case side3 => exact kc_ HR0_1 HB); (case side4 => exact HC0_1.out); (case side5 => exact kd_ (Kd.R_reads' HO1003.out).2.2); (case side6 => exact (Kd.R_reads' HO1003.out).2.1); rintro e w30 ⟨rfl, hb⟩; replace HO1003 := rb_ HO1003 hb; replace BK997 := bb_ BK997 hb; replace BK998 := bb_ BK998 hb; replace HB := bs2_ HB GE997 GE998 hb; (try clear hb); (try clear hb2); (try clear hk); (try clear hi)))
    go_meet
    case rel => exact ⟨_, (true), (by first | rfl | (simp; done) | (simp [*]; done)), H', ⟨by first | omega | exact Nat.le_refl _⟩, ⟨by refine bx_ ?_; exact BK997.out⟩, ⟨by refine bx_ ?_; exact BK998.out⟩, ⟨be2_ HB GE997 GE998⟩⟩
  ·replace c10 := Bool.eq_false_iff.mpr c10
   subst c10
   have H1 : (cottonpadlaw06_ExitsMore.j0 k l1 t999 true l0_0 l0_1 a2_0 a2_1 a2_2 a2_3 a2_4) = some r := by rw [if_neg (show ¬ (false = true) by decide)] at H; exact H
   clear H
   have H := H1
   clear H1
   have H' := Aside0.mk H
   clear H
   have hnb31 := NB997_998.out
   have hnc31 := NB998_997.out
   have hcz32_0 : w8.cell? ⟨gb997, 0, none⟩ = some (.slice A0_0 l0_0.length c0_0) := bc_ BK997 0
   have hcz32_1 : w8.cell? ⟨gb997, 1, none⟩ = some (.slice A0_1 l0_1.length c0_1) := bc_ BK997 1
   have hfz32_0 := blk_frozen BK997.out 0
   have hfz32_1 := blk_frozen BK997.out 1
   go_wp2_with (first | ((with_reducible refine gate_callee (f := 36) rfl ?_); refine goesL_ (some 26) rfl rfl Tryd.func36 (by kernel_rfl) rfl #[.agg #[.slice A0_0 l0_0.length c0_0, .slice A0_1 l0_1.length c0_1], .slice A1 l1.length c1] rfl ls_ ?_; (with_reducible refine (cottonpadlaw06_ready.calls k _ _ l0_0 _ _ l0_1 _ _ l1 false _ ?side1 ?side2 ?side3 ?side4 ?side5 ?side6 A9.out).mono ?_); (case side1 => exact kc_ HR0_0 HB); (case side2 => exact HC0_0.out); (case side3 => exact kc_ HR0_1 HB); (case side4 => exact HC0_1.out); (case side5 => exact kc_ HR1 HB); (case side6 => exact HC1.out); rintro e w33 ⟨rfl, hb⟩; refine ⟨_, rfl, ?_⟩; replace BK997 := bb_ BK997 hb; replace BK998 := bb_ BK998 hb; replace HB := bs2_ HB GE997 GE998 hb; (try clear hb); (try clear hb2); (try clear hk); (try clear hi)))
   go_meet
   case rel => exact ⟨_, (true), (by first | rfl | (simp; done) | (simp [*]; done)), H', ⟨by first | omega | exact Nat.le_refl _⟩, ⟨by refine bx_ ?_; exact BK997.out⟩, ⟨by refine bx_ ?_; exact BK998.out⟩, ⟨be2_ HB GE997 GE998⟩⟩
 case rest =>
  clear HC5
  try clear c1
  try clear c2
  try clear p2
  try clear c3
  try clear c5
  try clear c10
  try clear c12
  try clear c13
  try clear c14
  try clear c22
  try clear c30
  try clear c31
  try clear hcz14_0
  try clear hcz14_1
  try clear hcz16_0
  try clear hcz16_1
  try clear hcz17_0
  try clear hcz17_1
  try clear hcz17_2
  try clear hcz17_3
  try clear hcz17_4
  try clear hcz23_0
  try clear hcz23_1
  try clear hcz25_0
  try clear hcz25_1
  try clear hcz26_0
  try clear hcz26_1
  try clear hcz26_2
  try clear hcz26_3
  try clear hcz26_4
  try clear hcz32_0
  try clear hcz32_1
  try clear hfz14_0
  try clear hfz14_1
  try clear hfz16_0
  try clear hfz16_1
  try clear hfz17_0
  try clear hfz17_1
  try clear hfz17_2
  try clear hfz17_3
  try clear hfz17_4
  try clear hfz23_0
  try clear hfz23_1
  try clear hfz25_0
  try clear hfz25_1
  try clear hfz26_0
  try clear hfz26_1
  try clear hfz26_2
  try clear hfz26_3
  try clear hfz26_4
  try clear hfz32_0
  try clear hfz32_1
  obtain ⟨kq, x38_4, rfl, HA, HJ4, BK997, BK998, HB⟩ := hcut
  cases kq with
  | zero => exact absurd HA.out (by simp [cottonpadlaw06_ExitsMore.j0])
  | succ kj4 =>
   have H := HA.out
   clear HA
   simp only [cottonpadlaw06_ExitsMore.j0] at H
   by_cases c34 : x38_4 = true
   ·subst c34
    have H1 : (some t999) = some r := by rw [if_pos rfl] at H; exact H
    clear H
    have H := H1
    clear H1
    obtain rfl := Option.some.inj H
    go_wp2
    go_ret
    exact ⟨rf_, be2_ HB GE997 GE998⟩
   ·replace c34 := Bool.eq_false_iff.mpr c34
    subst c34
    have H1 : ((exits_More.f l0_0 l0_1 l1 a2_0 a2_1 a2_2 a2_3 a2_4).bind fun bt1005 => ((exits_Safe.f l0_0 l0_1 l1).bind fun bt1007 => (if bt1007.2.2.2 = 0 then (cottonpadlaw06_ExitsMore.j1 kj4 l1 t999 bt1005.1 bt1005.2 ((bt1005.2 == 0) != (bt1007.1 == 2)) l0_0 l0_1 a2_0 a2_1 a2_2 a2_3 a2_4) else (cottonpadlaw06_ExitsMore.j1 kj4 l1 t999 bt1005.1 bt1005.2 true l0_0 l0_1 a2_0 a2_1 a2_2 a2_3 a2_4)))) = some r := by rw [if_neg (show ¬ (false = true) by decide)] at H; exact H
    clear H
    have H := H1
    clear H1
    replace H := Option.bind_eq_some_iff.mp H
    obtain ⟨⟨t1005, t1006⟩, A350, H⟩ := H
    replace H : ((exits_Safe.f l0_0 l0_1 l1).bind fun bt1007 => (if bt1007.2.2.2 = 0 then (cottonpadlaw06_ExitsMore.j1 kj4 l1 t999 t1005 t1006 ((t1006 == 0) != (bt1007.1 == 2)) l0_0 l0_1 a2_0 a2_1 a2_2 a2_3 a2_4) else (cottonpadlaw06_ExitsMore.j1 kj4 l1 t999 t1005 t1006 true l0_0 l0_1 a2_0 a2_1 a2_2 a2_3 a2_4))) = some r := H
    have A35 := Aside0.mk A350
    clear A350
    replace H := Option.bind_eq_some_iff.mp H
    obtain ⟨⟨t1007, t1008, t1009, t1010⟩, A360, H⟩ := H
    replace H : (if t1010 = 0 then (cottonpadlaw06_ExitsMore.j1 kj4 l1 t999 t1005 t1006 ((t1006 == 0) != (t1007 == 2)) l0_0 l0_1 a2_0 a2_1 a2_2 a2_3 a2_4) else (cottonpadlaw06_ExitsMore.j1 kj4 l1 t999 t1005 t1006 true l0_0 l0_1 a2_0 a2_1 a2_2 a2_3 a2_4)) = some r := H
    have A36 := Aside0.mk A360
    clear A360
    have HC37 := Aside0.mk H
    clear H
    have hnb38 := NB997_998.out
    have hnc38 := NB998_997.out
    have hcz39_0 : wc.cell? ⟨gb997, 0, none⟩ = some (.slice A0_0 l0_0.length c0_0) := bc_ BK997 0
    have hcz39_1 : wc.cell? ⟨gb997, 1, none⟩ = some (.slice A0_1 l0_1.length c0_1) := bc_ BK997 1
    have hfz39_0 := blk_frozen BK997.out 0
    have hfz39_1 := blk_frozen BK997.out 1
    have hcz40_0 : wc.cell? ⟨gb998, 0, none⟩ = some (.int .i64 a2_0) := bc_ BK998 0
    have hcz40_1 : wc.cell? ⟨gb998, 1, none⟩ = some (.int .i64 a2_1) := bc_ BK998 1
    have hcz40_2 : wc.cell? ⟨gb998, 2, none⟩ = some (.int .i64 a2_2) := bc_ BK998 2
    have hcz40_3 : wc.cell? ⟨gb998, 3, none⟩ = some (.int .i64 a2_3) := bc_ BK998 3
    have hcz40_4 : wc.cell? ⟨gb998, 4, none⟩ = some (.int .i64 a2_4) := bc_ BK998 4
    have hfz40_0 := blk_frozen BK998.out 0
    have hfz40_1 := blk_frozen BK998.out 1
    have hfz40_2 := blk_frozen BK998.out 2
    have hfz40_3 := blk_frozen BK998.out 3
    have hfz40_4 := blk_frozen BK998.out 4
    go_upto_region 6 with (first | ((with_reducible refine gate_callee (f := 28) rfl ?_); refine goesL_ (some 44) rfl rfl Tryd.func28 (by kernel_rfl) rfl #[.agg #[.slice A0_0 l0_0.length c0_0, .slice A0_1 l0_1.length c0_1], .slice A1 l1.length c1, .agg #[.int .i64 a2_0, .int .i64 a2_1, .int .i64 a2_2, .int .i64 a2_3, .int .i64 a2_4]] rfl ls_ ?_; (with_reducible refine (exits_More.calls _ _ l0_0 _ _ l0_1 _ _ l1 a2_0 a2_1 a2_2 a2_3 a2_4 t1005 t1006 _ ?side7 ?side1 ?side2 ?side3 ?side4 ?side5 ?side6 A35.out).mono ?_); (case side1 => exact kc_ HR0_0 HB); (case side2 => exact HC0_0.out); (case side3 => exact kc_ HR0_1 HB); (case side4 => exact HC0_1.out); (case side5 => exact kc_ HR1 HB); (case side6 => exact HC1.out); (case side7 => exact Globs.below HG.out (be2_ HB GE997 GE998)); rintro e w41 ⟨rfl, hb⟩; refine ⟨_, rfl, ?_⟩; replace BK997 := bb_ BK997 hb; replace BK998 := bb_ BK998 hb; replace HB := bs2_ HB GE997 GE998 hb; (try clear hb); (try clear hb2); (try clear hk); (try clear hi); have hcz42_0 : w41.cell? ⟨gb997, 0, none⟩ = some (.slice A0_0 l0_0.length c0_0) := bc_ BK997 0; have hcz42_1 : w41.cell? ⟨gb997, 1, none⟩ = some (.slice A0_1 l0_1.length c0_1) := bc_ BK997 1; have hfz42_0 := blk_frozen BK997.out 0; have hfz42_1 := blk_frozen BK997.out 1) | ((with_reducible refine gate_callee (f := 26) rfl ?_); refine goesL_ (some 50) rfl rfl Tryd.func26 (by kernel_rfl) rfl #[.agg #[.slice A0_0 l0_0.length c0_0, .slice A0_1 l0_1.length c0_1], .slice A1 l1.length c1] rfl ls_ ?_; (with_reducible refine (exits_Safe.calls _ _ l0_0 _ _ l0_1 _ _ l1 t1007 t1008 t1009 t1010 _ ?side7 ?side1 ?side2 ?side3 ?side4 ?side5 ?side6 A36.out).mono ?_); (case side1 => exact kc_ HR0_0 HB); (case side2 => exact HC0_0.out); (case side3 => exact kc_ HR0_1 HB); (case side4 => exact HC0_1.out); (case side5 => exact kc_ HR1 HB); (case side6 => exact HC1.out); (case side7 => exact Globs.below HG.out (be2_ HB GE997 GE998)); rintro e w43 ⟨rfl, hb⟩; refine ⟨_, rfl, ?_⟩; replace BK997 := bb_ BK997 hb; replace BK998 := bb_ BK998 hb; replace HB := bs2_ HB GE997 GE998 hb; (try clear hb); (try clear hb2); (try clear hk); (try clear hi)))
    (try simp only [Act.put, List.setIfInBounds_toArray, List.set_cons_zero, List.set_cons_succ])
    go_cut [63] (fun v63 wc => ∃ (kq : Nat) (x63_36 : Bool), v63 = .bool x63_36 ∧ Aside0 (cottonpadlaw06_ExitsMore.j1 kq l1 t999 t1005 t1006 x63_36 l0_0 l0_1 a2_0 a2_1 a2_2 a2_3 a2_4 = some r) ∧ Aside0 (kq ≤ kj4) ∧ Aside0 (wc.heap[gb997]? = some (.cells #[(.slice A0_0 l0_0.length c0_0), (.slice A0_1 l0_1.length c0_1)] 25 (0, 0))) ∧ Aside0 (wc.heap[gb998]? = some (.cells #[.int .i64 a2_0, .int .i64 a2_1, .int .i64 a2_2, .int .i64 a2_3, .int .i64 a2_4] 48 (0, 0))) ∧ Aside0 (Below w.heap.size w wc))
    case first =>
     have H := HC37.out
     clear HC37
     by_cases c44 : t1010 = 0
     ·rw [if_pos c44] at H
      have c44b0 : (t1010 == 0) = true := beq_iff_eq.mpr c44
      have c44b1 : (t1010 != 0) = false := bne_eq_false_iff_eq.mpr c44
      clear c44
      (first | rw [c44b0] | (simp only [i64_w, i32_w]; rw [c44b0]) | skip)
      have H' := Aside0.mk H
      clear H
      go_wp2
      go_meet
      case rel => exact ⟨_, (((t1006 == 0) != (t1007 == 2))), (by first | rfl | (simp; done) | (simp [*]; done)), H', ⟨by have := HJ4.out; first | omega | exact Nat.le_refl _⟩, ⟨by refine bx_ ?_; exact BK997.out⟩, ⟨by refine bx_ ?_; exact BK998.out⟩, ⟨be2_ HB GE997 GE998⟩⟩
     ·rw [if_neg c44] at H
      have c44b0 : (t1010 == 0) = false := beq_eq_false_iff_ne.mpr c44
      have c44b1 : (t1010 != 0) = true := bne_iff_ne.mpr c44
      (first | rw [c44b0] | (simp only [i64_w, i32_w]; rw [c44b0]) | skip)
      exact absurd H (by rw [HRT.out]; cases kj4 <;> simp [cottonpadlaw06_ExitsMore.j1])
    case rest =>
     clear HC37
     try clear c1
     try clear c2
     try clear p2
     try clear c3
     try clear c4
     try clear c5
     try clear c10
     try clear c12
     try clear c13
     try clear c14
     try clear c22
     try clear c26
     try clear c28
     try clear c30
     try clear c31
     try clear c34
     try clear c36
     try clear c38
     try clear c44
     try clear c44b0
     try clear c44b1
     try clear hcz14_0
     try clear hcz14_1
     try clear hcz16_0
     try clear hcz16_1
     try clear hcz17_0
     try clear hcz17_1
     try clear hcz17_2
     try clear hcz17_3
     try clear hcz17_4
     try clear hcz23_0
     try clear hcz23_1
     try clear hcz25_0
     try clear hcz25_1
     try clear hcz26_0
     try clear hcz26_1
     try clear hcz26_2
     try clear hcz26_3
     try clear hcz26_4
     try clear hcz32_0
     try clear hcz32_1
     try clear hcz39_0
     try clear hcz39_1
     try clear hcz40_0
     try clear hcz40_1
     try clear hcz40_2
     try clear hcz40_3
     try clear hcz40_4
     try clear hcz42_0
     try clear hcz42_1
     try clear hfz14_0
     try clear hfz14_1
     try clear hfz16_0
     try clear hfz16_1
     try clear hfz17_0
     try clear hfz17_1
     try clear hfz17_2
     try clear hfz17_3
     try clear hfz17_4
     try clear hfz23_0
     try clear hfz23_1
     try clear hfz25_0
     try clear hfz25_1
     try clear hfz26_0
     try clear hfz26_1
     try clear hfz26_2
     try clear hfz26_3
     try clear hfz26_4
     try clear hfz32_0
     try clear hfz32_1
     try clear hfz39_0
     try clear hfz39_1
     try clear hfz40_0
     try clear hfz40_1
     try clear hfz40_2
     try clear hfz40_3
     try clear hfz40_4
     try clear hfz42_0
     try clear hfz42_1
     try clear p2
     obtain ⟨kq, x63_36, rfl, HA, HJ36, BK997, BK998, HB⟩ := hcut
     cases kq with
     | zero => exact absurd HA.out (by simp [cottonpadlaw06_ExitsMore.j1])
     | succ kj36 =>
      have H := HA.out
      clear HA
      simp only [cottonpadlaw06_ExitsMore.j1] at H
      by_cases c45 : x63_36 = true
      ·subst c45
       have H1 : (some false) = some r := by rw [if_pos rfl] at H; exact H
       clear H
       have H := H1
       clear H1
       exact absurd (H.trans (congrArg some HRT.out)) (by simp)
      ·replace c45 := Bool.eq_false_iff.mpr c45
       subst c45
       have H1 : (if t1006 = 0 then (if t1005 < 0 then (cottonpadlaw06_ExitsMore.j2 kj36 l1 t999 t1005 true l0_0 l0_1 a2_0 a2_1 a2_2 a2_3 a2_4) else (cottonpadlaw06_ExitsMore.j2 kj36 l1 t999 t1005 (decide (t1005 > (wrap64 (24 - (l1.length : Int))))) l0_0 l0_1 a2_0 a2_1 a2_2 a2_3 a2_4)) else (if t999 = true then (if t1006 = 8 then (some (t1005 == 0)) else (some false)) else (some false))) = some r := by rw [if_neg (show ¬ (false = true) by decide)] at H; exact H
       clear H
       have H := H1
       clear H1
       by_cases c46 : t1006 = 0
       ·rw [if_pos c46] at H
        have c46b0 : (t1006 == 0) = true := beq_iff_eq.mpr c46
        have c46b1 : (t1006 != 0) = false := bne_eq_false_iff_eq.mpr c46
        clear c46
        have HC47 := Aside0.mk H
        clear H
        go_upto_region 10 with (fail)
        go_cut [83] (fun v83 wc => ∃ (kq : Nat) (x83_46 : Bool), v83 = .bool x83_46 ∧ Aside0 (cottonpadlaw06_ExitsMore.j2 kq l1 t999 t1005 x83_46 l0_0 l0_1 a2_0 a2_1 a2_2 a2_3 a2_4 = some r) ∧ Aside0 (kq ≤ kj36) ∧ Aside0 (wc.heap[gb997]? = some (.cells #[(.slice A0_0 l0_0.length c0_0), (.slice A0_1 l0_1.length c0_1)] 25 (0, 0))) ∧ Aside0 (wc.heap[gb998]? = some (.cells #[.int .i64 a2_0, .int .i64 a2_1, .int .i64 a2_2, .int .i64 a2_3, .int .i64 a2_4] 48 (0, 0))) ∧ Aside0 (Below w.heap.size w wc))
        case first =>
         have H := HC47.out
         clear HC47
         by_cases c48 : t1005 < 0
         ·rw [if_pos c48] at H
          have c48b0 : decide (t1005 < 0) = true := decide_eq_true c48
          clear c48
          (first | rw [c48b0] | (simp only [i64_w, i32_w]; rw [c48b0]) | skip)
          exact absurd H (by rw [HRT.out]; cases kj36 <;> simp [cottonpadlaw06_ExitsMore.j2])
         ·rw [if_neg c48] at H
          have c48b0 : decide (t1005 < 0) = false := decide_eq_false c48
          clear c48
          (first | rw [c48b0] | (simp only [i64_w, i32_w]; rw [c48b0]) | skip)
          have H' := Aside0.mk H
          clear H
          go_wp2
          go_meet
          case rel => exact ⟨_, (decide (t1005 > (wrap64 (24 - (l1.length : Int))))), (by first | rfl | (simp; done) | (simp [*]; done)), H', ⟨by have := HJ4.out; have := HJ36.out; first | omega | exact Nat.le_refl _⟩, ⟨by refine bx_ ?_; exact BK997.out⟩, ⟨by refine bx_ ?_; exact BK998.out⟩, ⟨be2_ HB GE997 GE998⟩⟩
        case rest =>
         clear HC47
         try clear c1
         try clear c2
         try clear p2
         try clear c3
         try clear c4
         try clear c5
         try clear p6
         try clear c10
         try clear c12
         try clear c13
         try clear c14
         try clear c22
         try clear c26
         try clear c28
         try clear c30
         try clear c31
         try clear c34
         try clear c36
         try clear c38
         try clear c44
         try clear c44b0
         try clear c44b1
         try clear c45
         try clear c46
         try clear c46b0
         try clear c46b1
         try clear c48
         try clear c48b0
         try clear hcz14_0
         try clear hcz14_1
         try clear hcz16_0
         try clear hcz16_1
         try clear hcz17_0
         try clear hcz17_1
         try clear hcz17_2
         try clear hcz17_3
         try clear hcz17_4
         try clear hcz23_0
         try clear hcz23_1
         try clear hcz25_0
         try clear hcz25_1
         try clear hcz26_0
         try clear hcz26_1
         try clear hcz26_2
         try clear hcz26_3
         try clear hcz26_4
         try clear hcz32_0
         try clear hcz32_1
         try clear hcz39_0
         try clear hcz39_1
         try clear hcz40_0
         try clear hcz40_1
         try clear hcz40_2
         try clear hcz40_3
         try clear hcz40_4
         try clear hcz42_0
         try clear hcz42_1
         try clear hfz14_0
         try clear hfz14_1
         try clear hfz16_0
         try clear hfz16_1
         try clear hfz17_0
         try clear hfz17_1
         try clear hfz17_2
         try clear hfz17_3
         try clear hfz17_4
         try clear hfz23_0
         try clear hfz23_1
         try clear hfz25_0
         try clear hfz25_1
         try clear hfz26_0
         try clear hfz26_1
         try clear hfz26_2
         try clear hfz26_3
         try clear hfz26_4
         try clear hfz32_0
         try clear hfz32_1
         try clear hfz39_0
         try clear hfz39_1
         try clear hfz40_0
         try clear hfz40_1
         try clear hfz40_2
         try clear hfz40_3
         try clear hfz40_4
         try clear hfz42_0
         try clear hfz42_1
         try clear p2
         obtain ⟨kq, x83_46, rfl, HA, HJ46, BK997, BK998, HB⟩ := hcut
         cases kq with
         | zero => exact absurd HA.out (by simp [cottonpadlaw06_ExitsMore.j2])
         | succ kj46 =>
          have H := HA.out
          clear HA
          simp only [cottonpadlaw06_ExitsMore.j2] at H
          by_cases c49 : x83_46 = true
          ·subst c49
           have H1 : (some false) = some r := by rw [if_pos rfl] at H; exact H
           clear H
           have H := H1
           clear H1
           exact absurd (H.trans (congrArg some HRT.out)) (by simp)
          ·replace c49 := Bool.eq_false_iff.mpr c49
           subst c49
           have H1 : ((some (([] : List (S48)) : List (S48))).bind fun y1011 => (if y1011.length + l1.length < 3518437208883 then (cottonpadlaw06_ExitsMore.l0 kj46 t999 (y1011 ++ l1) t1005 0 l0_0 l0_1 a2_0 a2_1 a2_2 a2_3 a2_4) else (none))) = some r := by rw [if_neg (show ¬ (false = true) by decide)] at H; exact H
           clear H
           have H := H1
           clear H1
           obtain ⟨y1011, hy1011⟩ : ∃ y_ : List (S48), y_ = (([] : List (S48))) := ⟨_, rfl⟩
           replace H : (if y1011.length + l1.length < 3518437208883 then (cottonpadlaw06_ExitsMore.l0 kj46 t999 (y1011 ++ l1) t1005 0 l0_0 l0_1 a2_0 a2_1 a2_2 a2_3 a2_4) else (none)) = some r := by first | (rw [hy1011]; with_reducible exact H) | (have H2_ := (Option.bind_some _ _).symm.trans H; rw [hy1011]; with_reducible exact H2_) | (have H2_ := (Option.bind_some _ _).symm.trans H; with_reducible exact H2_) | with_reducible exact H | (rw [hy1011]; exact H) | exact H
           have Ny1011 := Aside0.mk hy1011
           clear hy1011
           by_cases c50 : y1011.length + l1.length < 3518437208883
           ·rw [if_pos c50] at H
            have LMc50 := Aside0.mk c50
            clear c50
            obtain ⟨y1014, hy1014⟩ : ∃ y_ : List (S48), y_ = (y1011 ++ l1) := ⟨_, rfl⟩
            replace H : (cottonpadlaw06_ExitsMore.l0 kj46 t999 y1014 t1005 0 l0_0 l0_1 a2_0 a2_1 a2_2 a2_3 a2_4) = some r := by first | (rw [hy1014]; with_reducible exact H) | (have H2_ := (Option.bind_some _ _).symm.trans H; rw [hy1014]; with_reducible exact H2_) | (have H2_ := (Option.bind_some _ _).symm.trans H; with_reducible exact H2_) | with_reducible exact H | (rw [hy1014]; exact H) | exact H
            have Ny1014 := Aside0.mk hy1014
            clear hy1014
            have H' := Aside0.mk H
            clear H
            go_wp2_with (first | ((with_reducible refine gate_dst (N := 84) rfl ?_); (try (refine gate_guard (by rfl) ?_; dsimp only)); refine Kd.R_lit k48 _ 48 ?hg (N := 84) ?hd (xs := ([] : List (S48))) (inner := []) (ok := fun _ => True) (okp := fun _ => True) ?hr ?hp (fun _ hk => hk) trivial (Below.refl _ _) (Nat.le_refl _) (by simp) ?_; (case hd => rfl); (case hg => rfl); (case hr => exact gs_); (case hp => exact (Reps.none _ _)); intro v1012 w51 ho52 hb hg_ hnew_; clear hg_ hnew_; (first | rw [← Ny1011.out] at ho52 | (simp only [Int.reduceToNat] at ho52; rw [← Ny1011.out] at ho52)); have HO1013 := Aside0.mk (Kd.R_lower (Kd.R_newB ho52 (g := gb998) (o := .cells #[.int .i64 a2_0, .int .i64 a2_1, .int .i64 a2_2, .int .i64 a2_3, .int .i64 a2_4] 48 (0, 0)) (bk_ BK998)) (below_size (be2_ HB GE997 GE998))); replace BK997 := bb_ BK997 hb; replace BK998 := bb_ BK998 hb; replace HB := bs2_ HB GE997 GE998 hb; clear hb ho52) | ((with_reducible refine gate_builtin (b := .append) (xs := #[.tmp 84, .tmp 85]) rfl ?_); (try (refine gate_guard (by rfl) ?_; dsimp only)); at_builtin; refine Kd.R_append_rows k48 (w0 := w) w.heap.size rfl (.tmp 84) (.tmp 85) 26 48 (.agg #[(.int .i64 0), (.int .i64 0), (.int .i64 0), (.int .i64 0), (.int .i64 0)]) 40 rfl Tryd.underlying26 info48 rfl (by decide) (by omega) v1012 y1011 l1 _ _ _ (fun k_ => k_ ≠ gb998) (fun _ => False) rfl rfl ?aO ?aR (fun _ _ h => h) (fun _ h => h.elim) ?aF ?aB ?aS ?aL ?_; (case aR => exact kc_ HR1 HB); (case aB => exact (be2_ HB GE997 GE998)); (case aF => exact (fun k_ hk => Kd.freshB (g := gb998) (o := .cells #[.int .i64 a2_0, .int .i64 a2_1, .int .i64 a2_2, .int .i64 a2_3, .int .i64 a2_4] 48 (0, 0)) (bk_ BK998) k_ hk)); (case aO => exact (by (with_reducible repeat (first | apply Kd.R_alloc | apply Kd.R_drewN | apply Kd.R_drew)); exact Kd.R_mono HO1013.out (fun _ hk => hk.2))); (case aS => exact (below_size (be2_ HB GE997 GE998))); (case aL => have := LMc50.out; omega); intro v1015 w53 ho hb hg hat; rw [← Ny1014.out] at ho; replace BK997 := Aside0.mk (blk_grown (g := gb997) (o := .cells #[.slice A0_0 l0_0.length c0_0, .slice A0_1 l0_1.length c0_1] 25 (0, 0)) (bk_ BK997) hg (Kd.R_ne HO1013.out BK997.out (by decide))); replace BK998 := Aside0.mk (blk_grown (g := gb998) (o := .cells #[.int .i64 a2_0, .int .i64 a2_1, .int .i64 a2_2, .int .i64 a2_3, .int .i64 a2_4] 48 (0, 0)) (bk_ BK998) hg (Kd.R_away HO1013.out (fun _ hk => hk.2))); replace HB := Aside0.mk (hb); have HO1016 := Aside0.mk (ho); clear HO1013; clear ho hb hg hat))
            go_loopg [14, 88] kj46 (fun kq v14 v88 w' => ∃ (x14_4 : List (S48)) (x88_4 : Int), v88 = .int .i64 x88_4 ∧ Aside0 (cottonpadlaw06_ExitsMore.l0 kq t999 x14_4 t1005 x88_4 l0_0 l0_1 a2_0 a2_1 a2_2 a2_3 a2_4 = some r) ∧ Aside0 (kq ≤ kj46) ∧ Aside0 (Kd.R k48 48 w' w.heap.size (fun k_ => k_ ≠ gb998) v14 x14_4) ∧ Aside0 (w'.heap[gb997]? = some (.cells #[(.slice A0_0 l0_0.length c0_0), (.slice A0_1 l0_1.length c0_1)] 25 (0, 0))) ∧ Aside0 (w'.heap[gb998]? = some (.cells #[.int .i64 a2_0, .int .i64 a2_1, .int .i64 a2_2, .int .i64 a2_3, .int .i64 a2_4] 48 (0, 0))) ∧ Aside0 (Below w.heap.size w w'))
            case atStart => exact ⟨(y1014), (0), (by first | rfl | (simp; done) | (simp [*]; done)), H', ⟨Nat.le_refl _⟩, ⟨by (with_reducible repeat (first | apply Kd.R_alloc | apply Kd.R_drewN | apply Kd.R_drew)); exact HO1016.out⟩, ⟨by refine bx_ ?_; exact BK997.out⟩, ⟨by refine bx_ ?_; exact BK998.out⟩, ⟨be2_ HB GE997 GE998⟩⟩
            case round =>
             clear H'
             try clear c1
             try clear c2
             try clear p2
             try clear c3
             try clear c4
             try clear c5
             try clear p6
             try clear c10
             try clear c12
             try clear c13
             try clear c14
             try clear c22
             try clear c26
             try clear c28
             try clear c30
             try clear c31
             try clear c34
             try clear c36
             try clear c38
             try clear c44
             try clear c44b0
             try clear c44b1
             try clear c45
             try clear c46
             try clear c46b0
             try clear c46b1
             try clear c48
             try clear c48b0
             try clear c49
             try clear c50
             try clear hcz14_0
             try clear hcz14_1
             try clear hcz16_0
             try clear hcz16_1
             try clear hcz17_0
             try clear hcz17_1
             try clear hcz17_2
             try clear hcz17_3
             try clear hcz17_4
             try clear hcz23_0
             try clear hcz23_1
             try clear hcz25_0
             try clear hcz25_1
             try clear hcz26_0
             try clear hcz26_1
             try clear hcz26_2
             try clear hcz26_3
             try clear hcz26_4
             try clear hcz32_0
             try clear hcz32_1
             try clear hcz39_0
             try clear hcz39_1
             try clear hcz40_0
             try clear hcz40_1
             try clear hcz40_2
             try clear hcz40_3
             try clear hcz40_4
             try clear hcz42_0
             try clear hcz42_1
             try clear hfz14_0
             try clear hfz14_1
             try clear hfz16_0
             try clear hfz16_1
             try clear hfz17_0
             try clear hfz17_1
             try clear hfz17_2
             try clear hfz17_3
             try clear hfz17_4
             try clear hfz23_0
             try clear hfz23_1
             try clear hfz25_0
             try clear hfz25_1
             try clear hfz26_0
             try clear hfz26_1
             try clear hfz26_2
             try clear hfz26_3
             try clear hfz26_4
             try clear hfz32_0
             try clear hfz32_1
             try clear hfz39_0
             try clear hfz39_1
             try clear hfz40_0
             try clear hfz40_1
             try clear hfz40_2
             try clear hfz40_3
             try clear hfz40_4
             try clear hfz42_0
             try clear hfz42_1
             try clear p2
             try clear p6
             obtain ⟨x14_4, x88_4, rfl, HA, HK4, HO_14, BK997, BK998, HB⟩ := hrel
             cases gk with
             | zero => exact absurd HA.out (by simp [cottonpadlaw06_ExitsMore.l0])
             | succ k4 =>
              have H := HA.out
              clear HA
              simp only [cottonpadlaw06_ExitsMore.l0] at H
              by_cases c54 : x88_4 < t1005
              ·rw [if_pos c54] at H
               have c54b0 : decide (x88_4 < t1005) = true := decide_eq_true c54
               clear c54
               by_cases c55 : x14_4.length < 3518437208883
               ·rw [if_pos c55] at H
                have LMc55 := Aside0.mk c55
                clear c55
                obtain ⟨y1017, hy1017⟩ : ∃ y_ : List (S48), y_ = (x14_4 ++ [(⟨a2_0, (⟨a2_1, a2_2⟩ : S36), (⟨a2_3, a2_4⟩ : S36)⟩ : S48)]) := ⟨_, rfl⟩
                replace H : (cottonpadlaw06_ExitsMore.l0 k4 t999 y1017 t1005 (wrap64 (x88_4 + 1)) l0_0 l0_1 a2_0 a2_1 a2_2 a2_3 a2_4) = some r := by first | (rw [hy1017]; with_reducible exact H) | (have H2_ := (Option.bind_some _ _).symm.trans H; rw [hy1017]; with_reducible exact H2_) | (have H2_ := (Option.bind_some _ _).symm.trans H; with_reducible exact H2_) | with_reducible exact H | (rw [hy1017]; exact H) | exact H
                have Ny1017 := Aside0.mk hy1017
                clear hy1017
                have H' := Aside0.mk H
                clear H
                have hnb56 := NB998_997.out
                have hnc56 := NB997_998.out
                have hcz57_0 : wr.cell? ⟨gb998, 0, none⟩ = some (.int .i64 a2_0) := bc_ BK998 0
                have hcz57_1 : wr.cell? ⟨gb998, 1, none⟩ = some (.int .i64 a2_1) := bc_ BK998 1
                have hcz57_2 : wr.cell? ⟨gb998, 2, none⟩ = some (.int .i64 a2_2) := bc_ BK998 2
                have hcz57_3 : wr.cell? ⟨gb998, 3, none⟩ = some (.int .i64 a2_3) := bc_ BK998 3
                have hcz57_4 : wr.cell? ⟨gb998, 4, none⟩ = some (.int .i64 a2_4) := bc_ BK998 4
                have hfz57_0 := blk_frozen BK998.out 0
                have hfz57_1 := blk_frozen BK998.out 1
                have hfz57_2 := blk_frozen BK998.out 2
                have hfz57_3 := blk_frozen BK998.out 3
                have hfz57_4 := blk_frozen BK998.out 4
                go_wp2_with (first | ((with_reducible refine gate_builtin (b := .append) (xs := #[.tmp 90, .tmp 92]) rfl ?_); (try (refine gate_guard (by rfl) ?_; dsimp only)); at_builtin; refine Kd.R_append k48 (w0 := w) w.heap.size rfl (.tmp 90) (.tmp 92) 26 48 (.agg #[(.int .i64 0), (.int .i64 0), (.int .i64 0), (.int .i64 0), (.int .i64 0)]) 40 rfl Tryd.underlying26 info48 rfl (by decide) (by omega) u14 x14_4 (⟨a2_0, (⟨a2_1, a2_2⟩ : S36), (⟨a2_3, a2_4⟩ : S36)⟩ : S48) [.int .i64 a2_0, .int .i64 a2_1, .int .i64 a2_2, .int .i64 a2_3, .int .i64 a2_4] (fun k_ => k_ ≠ gb998) (fun _ => False) rfl rfl ?aP (fun _ hk => hk.elim) ?aF ?aO ?aB ?aS ?aL ?_; (case aP => exact k48_mkM _ _ _ (⟨a2_0, (⟨a2_1, a2_2⟩ : S36), (⟨a2_3, a2_4⟩ : S36)⟩ : S48)); (case aB => exact (be2_ HB GE997 GE998)); (case aF => exact (fun k_ hk => Kd.freshB (g := gb998) (o := .cells #[.int .i64 a2_0, .int .i64 a2_1, .int .i64 a2_2, .int .i64 a2_3, .int .i64 a2_4] 48 (0, 0)) (bk_ BK998) k_ hk)); (case aO => exact (ro_ HO_14)); (case aS => exact (below_size (be2_ HB GE997 GE998))); (case aL => have := LMc55.out; omega); intro v1018 w58 ho hb hg hat; rw [← Ny1017.out] at ho; replace BK997 := Aside0.mk (blk_grown (g := gb997) (o := .cells #[.slice A0_0 l0_0.length c0_0, .slice A0_1 l0_1.length c0_1] 25 (0, 0)) (bk_ BK997) hg (Kd.R_ne HO_14.out BK997.out (by decide))); replace BK998 := Aside0.mk (blk_grown (g := gb998) (o := .cells #[.int .i64 a2_0, .int .i64 a2_1, .int .i64 a2_2, .int .i64 a2_3, .int .i64 a2_4] 48 (0, 0)) (bk_ BK998) hg (Kd.R_away HO_14.out (fun _ hk => hk))); replace HB := Aside0.mk (hb); have HO1019 := Aside0.mk (ho); clear HO_14; clear ho hb hg hat))
                go_roundg k4
                case measure => have := HJ4.out; have := HJ36.out; have := HJ46.out; have := HK4.out; omega
                case rel => exact ⟨(y1017), (wrap64 (x88_4 + 1)), (by first | rfl | (simp; done) | (simp [*]; done)), H', ⟨by have := HJ4.out; have := HJ36.out; have := HJ46.out; have := HK4.out; omega⟩, ⟨by (with_reducible repeat (first | apply Kd.R_alloc | apply Kd.R_drewN | apply Kd.R_drew)); exact HO1019.out⟩, ⟨by refine bx_ ?_; exact BK997.out⟩, ⟨by refine bx_ ?_; exact BK998.out⟩, ⟨be2_ HB GE997 GE998⟩⟩
               ·rw [if_neg c55] at H
                exact absurd H (by simp)
              ·rw [if_neg c54] at H
               have c54b0 : decide (x88_4 < t1005) = false := decide_eq_false c54
               clear c54
               replace H := Option.bind_eq_some_iff.mp H
               obtain ⟨⟨t1020, t1021, t1022, t1023⟩, A590, H⟩ := H
               replace H : (if t1023 = 0 then (cottonpadlaw06_ExitsMore.j4 k4 t999 x14_4 (t1020 != 2) l0_0 l0_1 a2_0 a2_1 a2_2 a2_3 a2_4) else (cottonpadlaw06_ExitsMore.j4 k4 t999 x14_4 true l0_0 l0_1 a2_0 a2_1 a2_2 a2_3 a2_4)) = some r := H
               have A59 := Aside0.mk A590
               clear A590
               have HC60 := Aside0.mk H
               clear H
               have hnb61 := NB997_998.out
               have hnc61 := NB998_997.out
               have hcz62_0 : wr.cell? ⟨gb997, 0, none⟩ = some (.slice A0_0 l0_0.length c0_0) := bc_ BK997 0
               have hcz62_1 : wr.cell? ⟨gb997, 1, none⟩ = some (.slice A0_1 l0_1.length c0_1) := bc_ BK997 1
               have hfz62_0 := blk_frozen BK997.out 0
               have hfz62_1 := blk_frozen BK997.out 1
               obtain ⟨Ao63, co63, eo63⟩ := Kd.R_slice HO_14.out
               subst eo63
               go_upto_region 18 with (first | ((with_reducible refine gate_callee (f := 26) rfl ?_); refine goesL_ (some 98) rfl rfl Tryd.func26 (by kernel_rfl) rfl #[.agg #[.slice A0_0 l0_0.length c0_0, .slice A0_1 l0_1.length c0_1], .slice Ao63 x14_4.length co63] rfl ls_ ?_; (with_reducible refine (exits_Safe.calls _ _ l0_0 _ _ l0_1 _ _ x14_4 t1020 t1021 t1022 t1023 _ ?side7 ?side1 ?side2 ?side3 ?side4 ?side5 ?side6 A59.out).mono ?_); (case side1 => exact kc_ HR0_0 HB); (case side2 => exact HC0_0.out); (case side3 => exact kc_ HR0_1 HB); (case side4 => exact HC0_1.out); (case side5 => exact kd_ (Kd.R_reads' HO_14.out).2.2); (case side6 => exact (Kd.R_reads' HO_14.out).2.1); (case side7 => exact Globs.below HG.out (be2_ HB GE997 GE998)); rintro e w64 ⟨rfl, hb⟩; refine ⟨_, rfl, ?_⟩; replace HO_14 := rb_ HO_14 hb; replace BK997 := bb_ BK997 hb; replace BK998 := bb_ BK998 hb; replace HB := bs2_ HB GE997 GE998 hb; (try clear hb); (try clear hb2); (try clear hk); (try clear hi)))
               (try simp only [Act.put, List.setIfInBounds_toArray, List.set_cons_zero, List.set_cons_succ])
               go_cut [108] (fun v108 wc => ∃ (kq : Nat) (x108_59 : Bool), v108 = .bool x108_59 ∧ Aside0 (cottonpadlaw06_ExitsMore.j4 kq t999 x14_4 x108_59 l0_0 l0_1 a2_0 a2_1 a2_2 a2_3 a2_4 = some r) ∧ Aside0 (kq ≤ k4) ∧ Aside0 (Kd.R k48 48 wc w.heap.size (fun k_ => k_ ≠ gb998) (.slice Ao63 x14_4.length co63) x14_4) ∧ Aside0 (wc.heap[gb997]? = some (.cells #[(.slice A0_0 l0_0.length c0_0), (.slice A0_1 l0_1.length c0_1)] 25 (0, 0))) ∧ Aside0 (wc.heap[gb998]? = some (.cells #[.int .i64 a2_0, .int .i64 a2_1, .int .i64 a2_2, .int .i64 a2_3, .int .i64 a2_4] 48 (0, 0))) ∧ Aside0 (Below w.heap.size w wc))
               case first =>
                have H := HC60.out
                clear HC60
                by_cases c65 : t1023 = 0
                ·rw [if_pos c65] at H
                 have c65b0 : (t1023 == 0) = true := beq_iff_eq.mpr c65
                 have c65b1 : (t1023 != 0) = false := bne_eq_false_iff_eq.mpr c65
                 clear c65
                 (first | rw [c65b0] | (simp only [i64_w, i32_w]; rw [c65b0]) | skip)
                 have H' := Aside0.mk H
                 clear H
                 go_wp2
                 go_meet
                 case rel => exact ⟨_, ((t1020 != 2)), (by first | rfl | (simp; done) | (simp [*]; done)), H', ⟨by have := HJ4.out; have := HJ36.out; have := HJ46.out; have := HK4.out; first | omega | exact Nat.le_refl _⟩, ⟨by (with_reducible repeat (first | apply Kd.R_alloc | apply Kd.R_drewN | apply Kd.R_drew)); exact HO_14.out⟩, ⟨by refine bx_ ?_; exact BK997.out⟩, ⟨by refine bx_ ?_; exact BK998.out⟩, ⟨be2_ HB GE997 GE998⟩⟩
                ·rw [if_neg c65] at H
                 have c65b0 : (t1023 == 0) = false := beq_eq_false_iff_ne.mpr c65
                 have c65b1 : (t1023 != 0) = true := bne_iff_ne.mpr c65
                 (first | rw [c65b0] | (simp only [i64_w, i32_w]; rw [c65b0]) | skip)
                 exact absurd H (by rw [HRT.out]; cases k4 <;> simp [cottonpadlaw06_ExitsMore.j4])
               case rest =>
                clear HC60
                try clear c1
                try clear c2
                try clear p2
                try clear c3
                try clear c4
                try clear c5
                try clear c6
                try clear p6
                try clear c10
                try clear c12
                try clear c13
                try clear c14
                try clear c22
                try clear c26
                try clear c28
                try clear c30
                try clear c31
                try clear c34
                try clear c36
                try clear c38
                try clear c44
                try clear c44b0
                try clear c44b1
                try clear c45
                try clear c46
                try clear c46b0
                try clear c46b1
                try clear c48
                try clear c48b0
                try clear c49
                try clear c50
                try clear c54
                try clear c54b0
                try clear c55
                try clear c56
                try clear c61
                try clear p64
                try clear c65
                try clear c65b0
                try clear c65b1
                try clear hcz14_0
                try clear hcz14_1
                try clear hcz16_0
                try clear hcz16_1
                try clear hcz17_0
                try clear hcz17_1
                try clear hcz17_2
                try clear hcz17_3
                try clear hcz17_4
                try clear hcz23_0
                try clear hcz23_1
                try clear hcz25_0
                try clear hcz25_1
                try clear hcz26_0
                try clear hcz26_1
                try clear hcz26_2
                try clear hcz26_3
                try clear hcz26_4
                try clear hcz32_0
                try clear hcz32_1
                try clear hcz39_0
                try clear hcz39_1
                try clear hcz40_0
                try clear hcz40_1
                try clear hcz40_2
                try clear hcz40_3
                try clear hcz40_4
                try clear hcz42_0
                try clear hcz42_1
                try clear hcz57_0
                try clear hcz57_1
                try clear hcz57_2
                try clear hcz57_3
                try clear hcz57_4
                try clear hcz62_0
                try clear hcz62_1
                try clear hfz14_0
                try clear hfz14_1
                try clear hfz16_0
                try clear hfz16_1
                try clear hfz17_0
                try clear hfz17_1
                try clear hfz17_2
                try clear hfz17_3
                try clear hfz17_4
                try clear hfz23_0
                try clear hfz23_1
                try clear hfz25_0
                try clear hfz25_1
                try clear hfz26_0
                try clear hfz26_1
                try clear hfz26_2
                try clear hfz26_3
                try clear hfz26_4
                try clear hfz32_0
                try clear hfz32_1
                try clear hfz39_0
                try clear hfz39_1
                try clear hfz40_0
                try clear hfz40_1
                try clear hfz40_2
                try clear hfz40_3
                try clear hfz40_4
                try clear hfz42_0
                try clear hfz42_1
                try clear hfz57_0
                try clear hfz57_1
                try clear hfz57_2
                try clear hfz57_3
                try clear hfz57_4
                try clear hfz62_0
                try clear hfz62_1
                try clear p2
                try clear p6
                obtain ⟨kq, x108_59, rfl, HA, HJ59, HO_14, BK997, BK998, HB⟩ := hcut
                cases kq with
                | zero => exact absurd HA.out (by simp [cottonpadlaw06_ExitsMore.j4])
                | succ kj59 =>
                 have H := HA.out
                 clear HA
                 simp only [cottonpadlaw06_ExitsMore.j4] at H
                 by_cases c66 : x108_59 = true
                 ·subst c66
                  have H1 : (some false) = some r := by rw [if_pos rfl] at H; exact H
                  clear H
                  have H := H1
                  clear H1
                  exact absurd (H.trans (congrArg some HRT.out)) (by simp)
                 ·replace c66 := Bool.eq_false_iff.mpr c66
                  subst c66
                  have H1 : (if (x14_4.length : Int) = 24 then (some t999) else (if x14_4.length < 3518437208883 then ((exits_Safe.f l0_0 l0_1 (x14_4 ++ [(⟨a2_0, (⟨a2_1, a2_2⟩ : S36), (⟨a2_3, a2_4⟩ : S36)⟩ : S48)])).bind fun bt1027 => (if t999 = true then (if bt1027.2.2.2 = 0 then (some (bt1027.1 != 2)) else (some false)) else (some false))) else (none))) = some r := by rw [if_neg (show ¬ (false = true) by decide)] at H; exact H
                  clear H
                  have H := H1
                  clear H1
                  by_cases c67 : (x14_4.length : Int) = 24
                  ·rw [if_pos c67] at H
                   have c67b0 : ((x14_4.length : Int) == 24) = true := beq_iff_eq.mpr c67
                   have c67b1 : ((x14_4.length : Int) != 24) = false := bne_eq_false_iff_eq.mpr c67
                   clear c67
                   obtain rfl := Option.some.inj H
                   go_wp2
                   go_ret
                   exact ⟨rf_, be2_ HB GE997 GE998⟩
                  ·rw [if_neg c67] at H
                   have c67b0 : ((x14_4.length : Int) == 24) = false := beq_eq_false_iff_ne.mpr c67
                   have c67b1 : ((x14_4.length : Int) != 24) = true := bne_iff_ne.mpr c67
                   by_cases c68 : x14_4.length < 3518437208883
                   ·rw [if_pos c68] at H
                    have LMc68 := Aside0.mk c68
                    clear c68
                    obtain ⟨y1024, hy1024⟩ : ∃ y_ : List (S48), y_ = (x14_4 ++ [(⟨a2_0, (⟨a2_1, a2_2⟩ : S36), (⟨a2_3, a2_4⟩ : S36)⟩ : S48)]) := ⟨_, rfl⟩
                    replace H : ((exits_Safe.f l0_0 l0_1 y1024).bind fun bt1027 => (if t999 = true then (if bt1027.2.2.2 = 0 then (some (bt1027.1 != 2)) else (some false)) else (some false))) = some r := by first | (rw [hy1024]; with_reducible exact H) | (have H2_ := (Option.bind_some _ _).symm.trans H; rw [hy1024]; with_reducible exact H2_) | (have H2_ := (Option.bind_some _ _).symm.trans H; with_reducible exact H2_) | with_reducible exact H | (rw [hy1024]; exact H) | exact H
                    have Ny1024 := Aside0.mk hy1024
                    clear hy1024
                    replace H := Option.bind_eq_some_iff.mp H
                    obtain ⟨⟨t1027, t1028, t1029, t1030⟩, A690, H⟩ := H
                    replace H : (if t999 = true then (if t1030 = 0 then (some (t1027 != 2)) else (some false)) else (some false)) = some r := H
                    have A69 := Aside0.mk A690
                    clear A690
                    by_cases c70 : t999 = true
                    ·subst c70
                     have H1 : (if t1030 = 0 then (some (t1027 != 2)) else (some false)) = some r := by rw [if_pos rfl] at H; exact H
                     clear H
                     have H := H1
                     clear H1
                     by_cases c71 : t1030 = 0
                     ·rw [if_pos c71] at H
                      have c71b0 : (t1030 == 0) = true := beq_iff_eq.mpr c71
                      have c71b1 : (t1030 != 0) = false := bne_eq_false_iff_eq.mpr c71
                      clear c71
                      obtain rfl := Option.some.inj H
                      try go_wp2
                      replace HO_14 := Aside0.mk (Kd.R_drew HO_14.out)
                      replace BK997 := Aside0.mk (blk_drew BK997.out)
                      replace BK998 := Aside0.mk (blk_drew BK998.out)
                      replace HB := Aside0.mk (below_drew1 HB.out)
                      refine start_ (n := 15) (S := fun w' => w'.cell? ⟨gb997, 0, none⟩ = some (.slice A0_0 l0_0.length c0_0) ∧ w'.cell? ⟨gb997, 1, none⟩ = some (.slice A0_1 l0_1.length c0_1) ∧ w'.cell? ⟨gb998, 0, none⟩ = some (.int .i64 a2_0) ∧ w'.cell? ⟨gb998, 1, none⟩ = some (.int .i64 a2_1) ∧ w'.cell? ⟨gb998, 2, none⟩ = some (.int .i64 a2_2) ∧ w'.cell? ⟨gb998, 3, none⟩ = some (.int .i64 a2_3) ∧ w'.cell? ⟨gb998, 4, none⟩ = some (.int .i64 a2_4)) (ds := []) (bm_ 15 0) (by kernel_rfl) rfl rfl ⟨bc_ BK997 0, bc_ BK997 1, bc_ BK998 0, bc_ BK998 1, bc_ BK998 2, bc_ BK998 3, bc_ BK998 4⟩ (fun hHeld => ?_); refine with_tabW cottonpadlaw06_ExitsMore.tab22 cottonpadlaw06_ExitsMore.bits22 (fun HT_ HW_ => ?_)
                      generalize wc.drew = w72 at HO_14 BK997 BK998 HB hHeld ⊢
                      refine pr_ 1 115 15 2 HT_ rfl rfl ?_
                      refine ta_ 0 114 15 3 HT_ HW_ rfl rfl hHeld ?_
                      refine ta_ 2 116 15 7 HT_ HW_ rfl rfl hHeld ?_
                      refine one_ (i := 3) (N := some 117) (bm_ 15 15) rfl rfl (one_of HT_.out (by kernel_rfl)) (by decide) (fun K hK => ?_)
                      refine value_ (w1 := ?_) (v := ?_) (by rfl) rfl ?_ ?_
                      rotate_left 2
                      ·go_simp
                       constructor
                       ·rfl
                       ·rfl
                      refine hK.out _ _ ⟨(blk_cell (blk_alloc BK997.out _) 0).trans rfl, (blk_cell (blk_alloc BK997.out _) 1).trans rfl, (blk_cell (blk_alloc BK998.out _) 0).trans rfl, (blk_cell (blk_alloc BK998.out _) 1).trans rfl, (blk_cell (blk_alloc BK998.out _) 2).trans rfl, (blk_cell (blk_alloc BK998.out _) 3).trans rfl, (blk_cell (blk_alloc BK998.out _) 4).trans rfl⟩ (fun hHeld => ?_)
                      clear hK K
                      refine norm_ (a' := ?_) ?_ ?_
                      rotate_left
                      ·show Act.put _ (some 117) _ = _
                       simp only [Act.put, List.setIfInBounds_toArray, List.set_cons_zero, List.set_cons_succ, i64_w, i32_w]
                       rfl
                      refine one_ (i := 4) (N := some 118) (bm_ 15 31) rfl rfl (one_of HT_.out (by kernel_rfl)) (by decide) (fun K hK => ?_)
                      refine Kd.R_append_step k48 (w0 := w) w.heap.size (by rfl) (.tmp 115) (.tmp 117) 26 48 (.agg #[(.int .i64 0), (.int .i64 0), (.int .i64 0), (.int .i64 0), (.int .i64 0)]) 40 rfl Tryd.underlying26 info48 rfl (by decide) (by omega) (.slice Ao63 x14_4.length co63) x14_4 (⟨a2_0, (⟨a2_1, a2_2⟩ : S36), (⟨a2_3, a2_4⟩ : S36)⟩ : S48) [.int .i64 a2_0, .int .i64 a2_1, .int .i64 a2_2, .int .i64 a2_3, .int .i64 a2_4] (fun k_ => k_ ≠ gb998) (fun _ => False) rfl rfl ?aP (fun _ hk => hk.elim) ?aF ?aO ?aB ?aS ?aL ?_
                      (case aP => exact k48_mkM _ _ _ (⟨a2_0, (⟨a2_1, a2_2⟩ : S36), (⟨a2_3, a2_4⟩ : S36)⟩ : S48))
                      (case aB => exact (be2_ HB GE997 GE998))
                      (case aF => exact (fun k_ hk => Kd.freshB (g := gb998) (o := .cells #[.int .i64 a2_0, .int .i64 a2_1, .int .i64 a2_2, .int .i64 a2_3, .int .i64 a2_4] 48 (0, 0)) (bk_ BK998) k_ hk))
                      (case aO => exact (ro_ HO_14))
                      (case aS => exact (below_size (be2_ HB GE997 GE998)))
                      (case aL => have := LMc68.out; omega)
                      intro v1025 w73 ho hb hg hat
                      rw [← Ny1024.out] at ho
                      replace BK997 := Aside0.mk (blk_grown (g := gb997) (o := .cells #[.slice A0_0 l0_0.length c0_0, .slice A0_1 l0_1.length c0_1] 25 (0, 0)) (bk_ BK997) hg (Kd.R_ne HO_14.out BK997.out (by decide)))
                      replace BK998 := Aside0.mk (blk_grown (g := gb998) (o := .cells #[.int .i64 a2_0, .int .i64 a2_1, .int .i64 a2_2, .int .i64 a2_3, .int .i64 a2_4] 48 (0, 0)) (bk_ BK998) hg (Kd.R_away HO_14.out (fun _ hk => hk)))
                      replace HB := Aside0.mk (hb)
                      have HO1026 := Aside0.mk (ho)
                      clear HO_14
                      clear ho hb hg hat
                      obtain ⟨Ao74, co74, eo74⟩ := Kd.R_slice HO1026.out
                      (first | subst eo74 | (injection eo74 with f1_ f2_ f3_; have f4_ := f1_.symm; have f5_ := f3_.symm; clear f1_ f2_ f3_; subst f4_; subst f5_))
                      refine hK.out _ _ ⟨bc_ BK997 0, bc_ BK997 1, bc_ BK998 0, bc_ BK998 1, bc_ BK998 2, bc_ BK998 3, bc_ BK998 4⟩ (fun hHeld => ?_)
                      clear hK K
                      refine norm_ (a' := ?_) ?_ ?_
                      rotate_left
                      ·show Act.put _ (some 118) _ = _
                       simp only [Act.put, List.setIfInBounds_toArray, List.set_cons_zero, List.set_cons_succ, i64_w, i32_w]
                       rfl
                      refine one_ (i := 5) (N := some 119) (bm_ 15 63) rfl rfl (one_of HT_.out (by kernel_rfl)) (by decide) (fun K hK => ?_)
                      refine goes_ Tryd.func26 (by kernel_rfl) rfl #[.agg #[.slice A0_0 l0_0.length c0_0, .slice A0_1 l0_1.length c0_1], .slice Ao74 y1024.length co74] (by rfl) rfl rfl ls_ ?_
                      with_reducible refine (exits_Safe.calls _ _ l0_0 _ _ l0_1 _ _ y1024 t1027 t1028 t1029 t1030 _ ?side7 ?side1 ?side2 ?side3 ?side4 ?side5 ?side6 A69.out).mono ?_
                      (case side1 => exact kc_ HR0_0 HB)
                      (case side2 => exact HC0_0.out)
                      (case side3 => exact kc_ HR0_1 HB)
                      (case side4 => exact HC0_1.out)
                      (case side5 => exact kd_ (Kd.R_reads' HO1026.out).2.2)
                      (case side6 => exact (Kd.R_reads' HO1026.out).2.1)
                      (case side7 => exact Globs.below HG.out (be2_ HB GE997 GE998))
                      rintro e w75 ⟨rfl, hb⟩
                      refine ⟨_, rfl, ?_⟩
                      replace HO1026 := rb_ HO1026 hb
                      replace BK997 := bb_ BK997 hb
                      replace BK998 := bb_ BK998 hb
                      replace HB := bs2_ HB GE997 GE998 hb
                      (try clear hb)
                      (try clear hb2)
                      (try clear hk)
                      (try clear hi)
                      refine hK.out _ _ ⟨bc_ BK997 0, bc_ BK997 1, bc_ BK998 0, bc_ BK998 1, bc_ BK998 2, bc_ BK998 3, bc_ BK998 4⟩ (fun hHeld => ?_)
                      clear hK K
                      refine norm_ (a' := ?_) ?_ ?_
                      rotate_left
                      ·show Act.put _ (some 119) _ = _
                       simp only [Act.put, List.setIfInBounds_toArray, List.set_cons_zero, List.set_cons_succ, i64_w, i32_w]
                       rfl
                      refine pr_ 6 113 15 127 HT_ rfl rfl ?_
                      refine pr_ 7 120 15 255 HT_ rfl rfl ?_
                      refine pr_ 8 121 15 511 HT_ rfl rfl ?_
                      refine pr_ 9 122 15 1023 HT_ rfl rfl ?_
                      refine pr_ 10 123 15 2047 HT_ rfl rfl ?_
                      refine pr_ 11 19 15 4095 HT_ rfl rfl ?_
                      refine pr_ 12 20 15 8191 HT_ rfl rfl ?_
                      refine pr_ 13 21 15 16383 HT_ rfl rfl ?_
                      refine pr_ 14 22 15 32767 HT_ rfl rfl ?_
                      refine done_ (done_of HT_.out (by kernel_rfl)) ?_
                      try go_wp2
                      go_ret
                      exact ⟨rf_, be2_ HB GE997 GE998⟩
                     ·rw [if_neg c71] at H
                      have c71b0 : (t1030 == 0) = false := beq_eq_false_iff_ne.mpr c71
                      have c71b1 : (t1030 != 0) = true := bne_iff_ne.mpr c71
                      exact absurd (H.trans (congrArg some HRT.out)) (by simp)
                    ·replace c70 := Bool.eq_false_iff.mpr c70
                     subst c70
                     have H1 : (some false) = some r := by rw [if_neg (show ¬ (false = true) by decide)] at H; exact H
                     clear H
                     have H := H1
                     clear H1
                     exact absurd (H.trans (congrArg some HRT.out)) (by simp)
                   ·rw [if_neg c68] at H
                    exact absurd H (by simp)
           ·rw [if_neg c50] at H
            exact absurd H (by simp)
       ·rw [if_neg c46] at H
        have c46b0 : (t1006 == 0) = false := beq_eq_false_iff_ne.mpr c46
        have c46b1 : (t1006 != 0) = true := bne_iff_ne.mpr c46
        by_cases c76 : t999 = true
        ·subst c76
         have H1 : (if t1006 = 8 then (some (t1005 == 0)) else (some false)) = some r := by rw [if_pos rfl] at H; exact H
         clear H
         have H := H1
         clear H1
         by_cases c77 : t1006 = 8
         ·rw [if_pos c77] at H
          have c77b0 : (t1006 == 8) = true := beq_iff_eq.mpr c77
          have c77b1 : (t1006 != 8) = false := bne_eq_false_iff_eq.mpr c77
          clear c77
          obtain rfl := Option.some.inj H
          go_wp2
          go_ret
          exact ⟨rf_, be2_ HB GE997 GE998⟩
         ·rw [if_neg c77] at H
          have c77b0 : (t1006 == 8) = false := beq_eq_false_iff_ne.mpr c77
          have c77b1 : (t1006 != 8) = true := bne_iff_ne.mpr c77
          exact absurd (H.trans (congrArg some HRT.out)) (by simp)
        ·replace c76 := Bool.eq_false_iff.mpr c76
         subst c76
         have H1 : (some false) = some r := by rw [if_neg (show ¬ (false = true) by decide)] at H; exact H
         clear H
         have H := H1
         clear H1
         exact absurd (H.trans (congrArg some HRT.out)) (by simp)

end Go.Proofs.YtdeaccbolnlgpaaDoor.X
