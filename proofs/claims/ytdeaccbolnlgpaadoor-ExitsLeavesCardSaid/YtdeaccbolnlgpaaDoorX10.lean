import Derived.Test.YtdeaccbolnlgpaaDoorX0
import Derived.Test.YtdeaccbolnlgpaaDoorX5
import Derived.Test.YtdeaccbolnlgpaaDoorX8
import Derived.Test.YtdeaccbolnlgpaaDoorX9
namespace Go.Proofs.YtdeaccbolnlgpaaDoor.X
open Go.RowKit Go.Proofs.YtdeaccbolnlgpaaDoorW.PrintWords Go.Proofs.YtdeaccbolnlgpaaDoorW.PrintLast Go.Proofs.YtdeaccbolnlgpaaDoorW.PrintMore
attribute [local go_sem] max2_int min2_int max_two min_two max_three min_three max_four min_four   -- for this text's walks alone
set_option linter.unusedVariables false
set_option linter.unusedSimpArgs false

/-! ### cottonpadref06_Leaves: function 18 -/
def cottonpadref06_Leaves.l0 : Nat → Int → List (List Int) → List (List Int) → List (S36) → Int → Option ((List (S36)) × Int)
 | 0, _, _, _, _, _ => none
 | k + 1, x2, x10, x12, x13, x14 => if 0 ≤ x2 then (if x2 < (x10.length : Int) then (if x14 < ((rd_L11 x10 x2).length : Int) then (if 0 ≤ x14 then (if x2 < (x12.length : Int) then (if x14 < ((rd_L11 x12 x2).length : Int) then (if x13.length < 8796093022208 then (cottonpadref06_Leaves.l0 k x2 x10 x12 (x13 ++ [(⟨rd (rd_L11 x10 x2) x14, rd (rd_L11 x12 x2) x14⟩ : S36)]) (wrap64 (x14 + 1))) else (none)) else (none)) else (none)) else (none)) else (some (x13, 0))) else (none)) else (none)
def cottonpadref06_Leaves.f (k : Nat) (l0_0 : List (S62)) (l0_1 : List (S81)) (l1 : List (S48)) (a2 : Int) : Option ((List (S36)) × Int) := (cottonpadref06_Check.f k l0_0 l0_1 l1).bind fun t211 => (if t211 = 0 then ((cottonpadref06_within.f a2 0 (wrap64 ((l0_0.length : Int) - 1))).bind fun t212 => (if t212 = true then ((cottonpadref06_Ends.f k l0_0 l0_1 l1 false).bind fun bt213 => ((cottonpadref06_Ends.f k l0_0 l0_1 l1 true).bind fun bt219 => (cottonpadref06_Leaves.l0 k a2 bt213.2 bt219.2 ([] : List (S36)) 0))) else (some (([] : List (S36)), 2)))) else (some (([] : List (S36)), t211)))
theorem cottonpadref06_Leaves.mono_l : ∀ k, (∀ y0 y1 y2 y3 y4, LeO (cottonpadref06_Leaves.l0 k y0 y1 y2 y3 y4) (cottonpadref06_Leaves.l0 (k + 1) y0 y1 y2 y3 y4))
 | 0 => fun _ _ _ _ _ r h => by simp [cottonpadref06_Leaves.l0] at h
 | k + 1 => by
  have ih0 := cottonpadref06_Leaves.mono_l k
  ·intro y0 y1 y2 y3 y4
   unfold cottonpadref06_Leaves.l0
   repeat' first
   | (with_reducible exact ih0 _ _ _ _ _)
   | (with_reducible exact cottonpadref06_Check.mono _ _ _ _)
   | (with_reducible exact cottonpadref06_Ends.mono _ _ _ _ _)
   | (with_reducible exact LeO.refl _)
   | (with_reducible exact LeO.none _)
   | (with_reducible refine LeO.ite ?_ ?_)
   | (with_reducible refine LeO.bind ?_ (fun _ => ?_))
   | exact ih0 _ _ _ _ _
   | exact cottonpadref06_Check.mono _ _ _ _
   | exact cottonpadref06_Ends.mono _ _ _ _ _
   | exact LeO.none _
   | refine LeO.ite ?_ ?_
   | refine LeO.bind ?_ (fun _ => ?_)
theorem cottonpadref06_Leaves.mono : ∀ a0 a1 a2 a3 k, LeO (cottonpadref06_Leaves.f k a0 a1 a2 a3) (cottonpadref06_Leaves.f (k + 1) a0 a1 a2 a3) := by
 intro a0 a1 a2 a3 k
 have ih0 := cottonpadref06_Leaves.mono_l k
 unfold cottonpadref06_Leaves.f
 repeat' first
   | (with_reducible exact ih0 _ _ _ _ _)
   | (with_reducible exact cottonpadref06_Check.mono _ _ _ _)
   | (with_reducible exact cottonpadref06_Ends.mono _ _ _ _ _)
   | (with_reducible exact LeO.refl _)
   | (with_reducible exact LeO.none _)
   | (with_reducible refine LeO.ite ?_ ?_)
   | (with_reducible refine LeO.bind ?_ (fun _ => ?_))
   | exact ih0 _ _ _ _ _
   | exact cottonpadref06_Check.mono _ _ _ _
   | exact cottonpadref06_Ends.mono _ _ _ _ _
   | exact LeO.none _
   | refine LeO.ite ?_ ?_
   | refine LeO.bind ?_ (fun _ => ?_)
def cottonpadref06_Leaves.T12 : Bool × List (List Nat × List Nat) := (true, [([], []), ([], []), ([], []), ([1, 2], [1, 2]), ([3], [3]), ([], []), ([4, 5], [4, 5]), ([6], [6]), ([], []), ([], []), ([8, 9], [8, 9]), ([10], [10]), ([], []), ([11, 12], [11, 12]), ([13], [13]), ([7, 14], [7, 14]), ([15], [15]), ([0, 16], [0, 16]), ([17, 17, 0, 1, 2, 3, 4, 5, 6, 7, 8, 9, 10, 11, 12, 13, 14, 15, 16, 17], [0, 17])])
def cottonpadref06_Leaves.B12 : List Nat := [0, 0, 0, 6, 14, 0, 62, 126, 0, 0, 768, 1792, 0, 7936, 16128, 32766, 65534, 131071, 262143]
theorem cottonpadref06_Leaves.tab12 : rtab .any (opsOf Tryd.f18 12) = cottonpadref06_Leaves.T12 := by kernel_rfl
theorem cottonpadref06_Leaves.bits12 : waitsOk cottonpadref06_Leaves.T12.2 cottonpadref06_Leaves.B12 = true := by kernel_rfl
set_option maxHeartbeats 8000000 in
set_option maxRecDepth 100000 in
theorem cottonpadref06_Leaves.calls (k : Nat) (A0_0 : Option Addr) (c0_0 : Nat) (l0_0 : List (S62)) (A0_1 : Option Addr) (c0_1 : Nat) (l0_1 : List (S81)) (A1 : Option Addr) (c1 : Nat) (l1 : List (S48)) (a2 : Int) (r1 : List (S36)) (r2 : Int) (w : World) (hr0_0 : Kd.C k62 w A0_0 l0_0.length l0_0) (hc0_0 : l0_0.length ≤ c0_0) (hr0_1 : Kd.C k81 w A0_1 l0_1.length l0_1) (hc0_1 : l0_1.length ≤ c0_1) (hr1 : Kd.C k48 w A1 l1.length l1) (hc1 : l1.length ≤ c1) (h : cottonpadref06_Leaves.f k l0_0 l0_1 l1 a2 = some (r1, r2)) :
  Calls Tryd.prog 18 #[.agg #[.slice A0_0 l0_0.length c0_0, .slice A0_1 l0_1.length c0_1], .slice A1 l1.length c1, .int .i64 a2] w fun e w' => ∃ v0_ : Value, e = .returned (.tuple #[v0_, .int .i64 r2]) ∧ Kd.R k36 36 w' w.heap.size (fun _ => True) v0_ r1 ∧ Below w.heap.size w w' := by
 have hu25 := Tryd.underlying25
 have hu36 := Tryd.underlying36
 have HR0_0 := Aside0.mk hr0_0
 have HC0_0 := Aside0.mk hc0_0
 clear hr0_0 hc0_0
 have HR0_1 := Aside0.mk hr0_1
 have HC0_1 := Aside0.mk hc0_1
 clear hr0_1 hc0_1
 have HR1 := Aside0.mk hr1
 have HC1 := Aside0.mk hc1
 clear hr1 hc1
 have HB := Aside0.mk (Below.refl w.heap.size w)
 have H : ((cottonpadref06_Check.f k l0_0 l0_1 l1).bind fun t211 => (if t211 = 0 then ((cottonpadref06_within.f a2 0 (wrap64 ((l0_0.length : Int) - 1))).bind fun t212 => (if t212 = true then ((cottonpadref06_Ends.f k l0_0 l0_1 l1 false).bind fun bt213 => ((cottonpadref06_Ends.f k l0_0 l0_1 l1 true).bind fun bt219 => (cottonpadref06_Leaves.l0 k a2 bt213.2 bt219.2 ([] : List (S36)) 0))) else (some (([] : List (S36)), 2)))) else (some (([] : List (S36)), t211)))) = some (r1, r2) := h
 clear h
 replace H := Option.bind_eq_some_iff.mp H
 obtain ⟨t211, A40, H⟩ := H
 replace H : (if t211 = 0 then ((cottonpadref06_within.f a2 0 (wrap64 ((l0_0.length : Int) - 1))).bind fun t212 => (if t212 = true then ((cottonpadref06_Ends.f k l0_0 l0_1 l1 false).bind fun bt213 => ((cottonpadref06_Ends.f k l0_0 l0_1 l1 true).bind fun bt219 => (cottonpadref06_Leaves.l0 k a2 bt213.2 bt219.2 ([] : List (S36)) 0))) else (some (([] : List (S36)), 2)))) else (some (([] : List (S36)), t211))) = some (r1, r2) := H
 have A4 := Aside0.mk A40
 clear A40
 by_cases c5 : t211 = 0
 ·rw [if_pos c5] at H
  have c5b0 : (t211 == 0) = true := beq_iff_eq.mpr c5
  have c5b1 : (t211 != 0) = false := bne_eq_false_iff_eq.mpr c5
  clear c5
  replace H := Option.bind_eq_some_iff.mp H
  obtain ⟨t212, A60, H⟩ := H
  replace H : (if t212 = true then ((cottonpadref06_Ends.f k l0_0 l0_1 l1 false).bind fun bt213 => ((cottonpadref06_Ends.f k l0_0 l0_1 l1 true).bind fun bt219 => (cottonpadref06_Leaves.l0 k a2 bt213.2 bt219.2 ([] : List (S36)) 0))) else (some (([] : List (S36)), 2))) = some (r1, r2) := H
  have A6 := Aside0.mk A60
  clear A60
  by_cases c7 : t212 = true
  ·subst c7
   have H1 : ((cottonpadref06_Ends.f k l0_0 l0_1 l1 false).bind fun bt213 => ((cottonpadref06_Ends.f k l0_0 l0_1 l1 true).bind fun bt219 => (cottonpadref06_Leaves.l0 k a2 bt213.2 bt219.2 ([] : List (S36)) 0))) = some (r1, r2) := by rw [if_pos rfl] at H; exact H
   clear H
   have H := H1
   clear H1
   replace H := Option.bind_eq_some_iff.mp H
   obtain ⟨⟨t213, t216⟩, A80, H⟩ := H
   replace H : ((cottonpadref06_Ends.f k l0_0 l0_1 l1 true).bind fun bt219 => (cottonpadref06_Leaves.l0 k a2 t216 bt219.2 ([] : List (S36)) 0)) = some (r1, r2) := H
   have A8 := Aside0.mk A80
   clear A80
   replace H := Option.bind_eq_some_iff.mp H
   obtain ⟨⟨t219, t222⟩, A90, H⟩ := H
   replace H : (cottonpadref06_Leaves.l0 k a2 t216 t222 ([] : List (S36)) 0) = some (r1, r2) := H
   have A9 := Aside0.mk A90
   clear A90
   have H' := Aside0.mk H
   clear H
   go_enter Tryd.func18, Tryd.ntmps18
   go_wp2_with (first | ((with_reducible refine gate_dst (N := 3) rfl ?_); refine box_event ?hg (N := 3) ?hd (cs := #[.slice A0_0 l0_0.length c0_0, .slice A0_1 l0_1.length c0_1]) (t := 25) ?hr ?_; (case hd => rfl); (case hg => rfl); (case hr => exact gs_); intro gb210 hg w10 hbox hb; have n0_ := Aside0.mk (below_step (be_ HB) hb); have n1_ := Aside0.mk (hbox); have n2_ := Aside0.mk ((by rw [hg]; exact (below_size (be_ HB)) : w.heap.size ≤ gb210)); have n3_ := Aside0.mk ((by rw [hg]; exact (below_size (be_ HB)) : w.heap.size ≤ gb210)); clear HB; have HB := n0_; have BK210 := n1_; have GW210 := n2_; have GE210 := n3_; clear n0_ n1_ n2_ n3_; clear hb hbox hg; have hcz11_0 : w10.cell? ⟨gb210, 0, none⟩ = some (.slice A0_0 l0_0.length c0_0) := bc_ BK210 0; have hcz11_1 : w10.cell? ⟨gb210, 1, none⟩ = some (.slice A0_1 l0_1.length c0_1) := bc_ BK210 1; have hfz11_0 := blk_frozen BK210.out 0; have hfz11_1 := blk_frozen BK210.out 1) | ((with_reducible refine gate_callee (f := 22) rfl ?_); refine goesL_ (some 17) rfl rfl Tryd.func22 (by kernel_rfl) rfl #[.agg #[.slice A0_0 l0_0.length c0_0, .slice A0_1 l0_1.length c0_1], .slice A1 l1.length c1] rfl ls_ ?_; (with_reducible refine (cottonpadref06_Check.calls k _ _ l0_0 _ _ l0_1 _ _ l1 t211 _ ?side1 ?side2 ?side3 ?side4 ?side5 ?side6 A4.out).mono ?_); (case side1 => exact kc_ HR0_0 HB); (case side2 => exact HC0_0.out); (case side3 => exact kc_ HR0_1 HB); (case side4 => exact HC0_1.out); (case side5 => exact kc_ HR1 HB); (case side6 => exact HC1.out); rintro e w12 ⟨rfl, hb⟩; refine ⟨_, rfl, ?_⟩; have n0_ := Aside0.mk (blk_below (bk_ BK210) hb); have n1_ := Aside0.mk (below_step (be1_ HB GE210) hb); clear BK210; clear HB; have BK210 := n0_; have HB := n1_; clear n0_ n1_; (try clear hb); (try clear hb2); (try clear hk); (try clear hi); have hcz13_0 : w12.cell? ⟨gb210, 0, none⟩ = some (.slice A0_0 l0_0.length c0_0) := bc_ BK210 0; have hcz13_1 : w12.cell? ⟨gb210, 1, none⟩ = some (.slice A0_1 l0_1.length c0_1) := bc_ BK210 1; have hfz13_0 := blk_frozen BK210.out 0; have hfz13_1 := blk_frozen BK210.out 1) | ((with_reducible refine gate_callee (f := 55) rfl ?_); refine goesL_ (some 26) rfl rfl Tryd.func55 (by kernel_rfl) rfl #[.int .i64 a2, .int .i64 0, .int .i64 (wrap64 ((l0_0.length : Int) - 1))] rfl ls_ ?_; (with_reducible refine (cottonpadref06_within.calls a2 0 (wrap64 ((l0_0.length : Int) - 1)) true _ A6.out).mono ?_); rintro e w' ⟨rfl, ⟨nd, rfl⟩⟩; refine ⟨_, rfl, ?_⟩) | ((with_reducible refine gate_callee (f := 56) rfl ?_); refine goesL_ (some 31) rfl rfl Tryd.func56 (by kernel_rfl) rfl #[.agg #[.slice A0_0 l0_0.length c0_0, .slice A0_1 l0_1.length c0_1], .slice A1 l1.length c1, .bool false] rfl ls_ ?_; (with_reducible refine (cottonpadref06_Ends.calls k _ _ l0_0 _ _ l0_1 _ _ l1 false t213 t216 _ ?side1 ?side2 ?side3 ?side4 ?side5 ?side6 A8.out).mono ?_); (case side1 => repeat (first | exact (Kd.C_below HR0_0.out (be1_ HB GE210)) | (with_reducible refine Kd.C_alloc ?_ _) | (with_reducible refine Kd.C_drewN ?_ _) | (with_reducible refine Kd.C_drew ?_))); (case side2 => exact HC0_0.out); (case side3 => repeat (first | exact (Kd.C_below HR0_1.out (be1_ HB GE210)) | (with_reducible refine Kd.C_alloc ?_ _) | (with_reducible refine Kd.C_drewN ?_ _) | (with_reducible refine Kd.C_drew ?_))); (case side4 => exact HC0_1.out); (case side5 => repeat (first | exact (Kd.C_below HR1.out (be1_ HB GE210)) | (with_reducible refine Kd.C_alloc ?_ _) | (with_reducible refine Kd.C_drewN ?_ _) | (with_reducible refine Kd.C_drew ?_))); (case side6 => exact HC1.out); rintro e w14 ⟨v214, v217, rfl, ho0, ho1, hb⟩; refine ⟨_, rfl, ?_⟩; have n0_ := Aside0.mk (Kd.R_lower ho0 (below_size (be1_ HB GE210))); have n1_ := Aside0.mk (Kd.S_lower ho1 (below_size (be1_ HB GE210))); have n2_ := Aside0.mk (blk_below (bk_ BK210) hb); have n3_ := Aside0.mk (below_step (be1_ HB GE210) hb); clear BK210; clear HB; have HO215 := n0_; have HO218 := n1_; have BK210 := n2_; have HB := n3_; clear n0_ n1_ n2_ n3_; (try clear hb); (try clear hb2); (try clear hk); (try clear hi); (try clear ho0); (try clear ho1); have hcz15_0 : w14.cell? ⟨gb210, 0, none⟩ = some (.slice A0_0 l0_0.length c0_0) := bc_ BK210 0; have hcz15_1 : w14.cell? ⟨gb210, 1, none⟩ = some (.slice A0_1 l0_1.length c0_1) := bc_ BK210 1; have hfz15_0 := blk_frozen BK210.out 0; have hfz15_1 := blk_frozen BK210.out 1) | ((with_reducible refine gate_callee (f := 56) rfl ?_); refine goesL_ (some 37) rfl rfl Tryd.func56 (by kernel_rfl) rfl #[.agg #[.slice A0_0 l0_0.length c0_0, .slice A0_1 l0_1.length c0_1], .slice A1 l1.length c1, .bool true] rfl ls_ ?_; (with_reducible refine (cottonpadref06_Ends.calls k _ _ l0_0 _ _ l0_1 _ _ l1 true t219 t222 _ ?side1 ?side2 ?side3 ?side4 ?side5 ?side6 A9.out).mono ?_); (case side1 => exact kc_ HR0_0 HB); (case side2 => exact HC0_0.out); (case side3 => exact kc_ HR0_1 HB); (case side4 => exact HC0_1.out); (case side5 => exact kc_ HR1 HB); (case side6 => exact HC1.out); rintro e w16 ⟨v220, v223, rfl, ho0, ho1, hb⟩; refine ⟨_, rfl, ?_⟩; have n0_ := Aside0.mk (Kd.R_elder' (ro_ HO215) (Kd.R_base ho0) hb); have n1_ := Aside0.mk (Kd.S_mono (Kd.S_told (Kd.S_told (Kd.S_old (by (with_reducible repeat (first | apply Kd.S_alloc | apply Kd.S_drewN | apply Kd.S_drew)); exact HO218.out) hb) (Kd.R_base ho0)) (Kd.S_base ho1)) (fun _ h_ => h_.1)); have n2_ := Aside0.mk (Kd.R_lower (Kd.R_new' ho0 (Kd.R_lt (ro_ HO215))) (below_size (be1_ HB GE210))); have n3_ := Aside0.mk (Kd.S_lower (Kd.S_new' (Kd.S_new' ho1 (Kd.R_lt (ro_ HO215))) (Kd.S_lt (by (with_reducible repeat (first | apply Kd.S_alloc | apply Kd.S_drewN | apply Kd.S_drew)); exact HO218.out))) (below_size (be1_ HB GE210))); have n4_ := Aside0.mk (blk_below (bk_ BK210) hb); have n5_ := Aside0.mk (below_step (be1_ HB GE210) hb); clear HO215; clear HO218; clear BK210; clear HB; have HO215 := n0_; have HO218 := n1_; have HO221 := n2_; have HO224 := n3_; have BK210 := n4_; have HB := n5_; clear n0_ n1_ n2_ n3_ n4_ n5_; (try clear hb); (try clear hb2); (try clear hk); (try clear hi); (try clear ho0); (try clear ho1)))
   go_loopg [13, 14] k (fun kq v13 v14 w' => ∃ (x13_1 : List (S36)) (x14_1 : Int), v14 = .int .i64 x14_1 ∧ Aside0 (cottonpadref06_Leaves.l0 kq a2 t216 t222 x13_1 x14_1 = some (r1, r2)) ∧ Aside0 (kq ≤ k) ∧ Aside0 (Kd.S (Kd.slice 3 (Kd.int .i64)) 67 w' w.heap.size (fun k_ => some k_ ≠ (v223 : Value).ownBlock) v217 t216) ∧ Aside0 (Kd.S (Kd.slice 3 (Kd.int .i64)) 67 w' w.heap.size (fun k_ => some k_ ≠ (v217 : Value).ownBlock) v223 t222) ∧ Aside0 (Kd.R k36 36 w' w.heap.size (fun _ => True) v13 x13_1) ∧ Aside0 (w'.heap[gb210]? = some (.cells #[(.slice A0_0 l0_0.length c0_0), (.slice A0_1 l0_1.length c0_1)] 25 (0, 0))) ∧ Aside0 (Below w.heap.size w w'))
   case atStart => exact ⟨(([] : List (S36))), (0), (by first | rfl | (simp; done) | (simp [*]; done)), H', ⟨Nat.le_refl _⟩, ⟨by (with_reducible repeat (first | apply Kd.S_alloc | apply Kd.S_drewN | apply Kd.S_drew)); exact Kd.S_mono HO218.out (fun _ hk => hk.2)⟩, ⟨by (with_reducible repeat (first | apply Kd.S_alloc | apply Kd.S_drewN | apply Kd.S_drew)); exact Kd.S_mono HO224.out (fun _ hk => hk.2)⟩, ⟨by first | exact Kd.R_nil _ _ _ _ _ | exact Kd.N_nil _ _ _ _ _ | exact Kd.V_nil _ _ _ _ _ | exact Kd.Q_nil _ _ _ _ _ | exact Kd.S_nil _ _ _ _ _⟩, ⟨by (with_reducible repeat (first | refine blk_drewN ?_ _ | refine blk_drew ?_ | refine blk_alloc ?_ _)); exact BK210.out⟩, ⟨be1_ HB GE210⟩⟩
   case round =>
    clear H'
    try clear c1
    try clear c2
    try clear p2
    try clear c5
    try clear c5b0
    try clear c5b1
    try clear p6
    try clear c7
    try clear hcz11_0
    try clear hcz11_1
    try clear hcz13_0
    try clear hcz13_1
    try clear hcz15_0
    try clear hcz15_1
    try clear hfz11_0
    try clear hfz11_1
    try clear hfz13_0
    try clear hfz13_1
    try clear hfz15_0
    try clear hfz15_1
    obtain ⟨x13_1, x14_1, rfl, HA, HK1, HO_10, HO_12, HO_13, BK210, HB⟩ := hrel
    cases gk with
    | zero => exact absurd HA.out (by simp [cottonpadref06_Leaves.l0])
    | succ k1 =>
     have H := HA.out
     clear HA
     simp only [cottonpadref06_Leaves.l0] at H
     by_cases c17 : 0 ≤ a2
     ·rw [if_pos c17] at H
      have c17b0 : decide (0 ≤ a2) = true := decide_eq_true c17
      clear c17
      by_cases c18 : a2 < (t216.length : Int)
      ·rw [if_pos c18] at H
       have c18b0 : decide (a2 < (t216.length : Int)) = true := decide_eq_true c18
       clear c18
       by_cases c19 : x14_1 < ((rd_L11 t216 a2).length : Int)
       ·rw [if_pos c19] at H
        have c19b0 : decide (x14_1 < ((rd_L11 t216 a2).length : Int)) = true := decide_eq_true c19
        clear c19
        by_cases c20 : 0 ≤ x14_1
        ·rw [if_pos c20] at H
         have c20b0 : decide (0 ≤ x14_1) = true := decide_eq_true c20
         clear c20
         by_cases c21 : a2 < (t222.length : Int)
         ·rw [if_pos c21] at H
          have c21b0 : decide (a2 < (t222.length : Int)) = true := decide_eq_true c21
          clear c21
          by_cases c22 : x14_1 < ((rd_L11 t222 a2).length : Int)
          ·rw [if_pos c22] at H
           have c22b0 : decide (x14_1 < ((rd_L11 t222 a2).length : Int)) = true := decide_eq_true c22
           clear c22
           by_cases c23 : x13_1.length < 8796093022208
           ·rw [if_pos c23] at H
            have LMc23 := Aside0.mk c23
            clear c23
            obtain ⟨y230, hy230⟩ : ∃ y_ : List (S36), y_ = (x13_1 ++ [(⟨rd (rd_L11 t216 a2) x14_1, rd (rd_L11 t222 a2) x14_1⟩ : S36)]) := ⟨_, rfl⟩
            replace H : (cottonpadref06_Leaves.l0 k1 a2 t216 t222 y230 (wrap64 (x14_1 + 1))) = some (r1, r2) := by first | (rw [hy230]; with_reducible exact H) | (have H2_ := (Option.bind_some _ _).symm.trans H; rw [hy230]; with_reducible exact H2_) | (have H2_ := (Option.bind_some _ _).symm.trans H; with_reducible exact H2_) | with_reducible exact H | (rw [hy230]; exact H) | exact H
            have Ny230 := Aside0.mk hy230
            clear hy230
            have H' := Aside0.mk H
            clear H
            obtain ⟨Ao24, co24, eo24⟩ := Kd.S_slice HO_10.out
            subst eo24
            have p225 : 0 ≤ (a2 : Int) := of_decide_eq_true as_
            have q225 : a2 < (t216.length : Int) := of_decide_eq_true as_
            obtain ⟨ad225, A225_0, c225_0, e225, hx225_0, hl225_0, hi225_0⟩ := at_L11 (Kd.S_reads' HO_10.out).2.2 a2 p225 q225
            cases e225
            obtain ⟨ce225, hce225, hMe225, hcc225⟩ := Kd.S_get HO_10.out [] a2 p225 (by first | exact q225 | exact of_decide_eq_true as_ | (have e_ := (Kd.S_reads' HO_10.out).1; omega))
            obtain ⟨ve225_0, rfl, ge225_0⟩ := hMe225
            have hv225_0 := hcc225 0 _ rfl
            rw [Nat.add_zero, show ((Kd.slice 3 (Kd.int .i64))).sz = 1 from rfl, Nat.mul_one] at hv225_0
            replace hv225_0 := Option.some.inj (hv225_0.symm.trans hx225_0)
            rw [hv225_0] at ge225_0
            have HL225_0 := Aside0.mk (show Kd.R (Kd.int .i64) 3 _ _ _ _ (rd_L11 t216 a2) from ge225_0)
            clear hv225_0 ge225_0
            clear hcc225 hce225
            have HR225_0 := Aside0.mk hi225_0
            have HC225_0 := Aside0.mk hl225_0
            clear hi225_0 hl225_0
            replace p225 := eq_true p225
            replace q225 := eq_true q225
            try go_wp2
            have n0_ := Aside0.mk (Kd.S_drew HO_10.out)
            have n1_ := Aside0.mk (Kd.S_drew HO_12.out)
            have n2_ := Aside0.mk (Kd.R_drew HO_13.out)
            have n3_ := Aside0.mk (Kd.R_drew HL225_0.out)
            have n4_ := Aside0.mk (blk_drew BK210.out)
            have n5_ := Aside0.mk (Kd.C_drew HR225_0.out)
            have n6_ := Aside0.mk (below_drew1 HB.out)
            clear HO_10
            clear HO_12
            clear HO_13
            clear HL225_0
            clear BK210
            clear HR225_0
            clear HB
            have HO_10 := n0_
            have HO_12 := n1_
            have HO_13 := n2_
            have HL225_0 := n3_
            have BK210 := n4_
            have HR225_0 := n5_
            have HB := n6_
            clear n0_ n1_ n2_ n3_ n4_ n5_ n6_
            have p226 : 0 ≤ (a2 : Int) := of_decide_eq_true as_
            have q226 : a2 < (t216.length : Int) := of_decide_eq_true as_
            obtain ⟨ad226, A226_0, c226_0, e226, hx226_0, hl226_0, hi226_0⟩ := at_L11 (Kd.S_reads' HO_10.out).2.2 a2 p226 q226
            obtain rfl : ad225 = ad226 := (by injection e226)
            obtain ⟨ce226, hce226, hMe226, hcc226⟩ := Kd.S_get HO_10.out [] a2 p226 (by first | exact q226 | exact of_decide_eq_true as_ | (have e_ := (Kd.S_reads' HO_10.out).1; omega))
            obtain ⟨ve226_0, rfl, ge226_0⟩ := hMe226
            have hv226_0 := hcc226 0 _ rfl
            rw [Nat.add_zero, show ((Kd.slice 3 (Kd.int .i64))).sz = 1 from rfl, Nat.mul_one] at hv226_0
            replace hv226_0 := Option.some.inj (hv226_0.symm.trans hx226_0)
            rw [hv226_0] at ge226_0
            have HL226_0 := Aside0.mk (show Kd.R (Kd.int .i64) 3 _ _ _ _ (rd_L11 t216 a2) from ge226_0)
            clear hv226_0 ge226_0
            clear hcc226 hce226
            have HR226_0 := Aside0.mk hi226_0
            have HC226_0 := Aside0.mk hl226_0
            clear hi226_0 hl226_0
            replace p226 := eq_true p226
            replace q226 := eq_true q226
            have p227 : 0 ≤ (x14_1 : Int) := of_decide_eq_true as_
            have q227 : x14_1 < ((rd_L11 t216 a2).length : Int) := of_decide_eq_true as_
            obtain ⟨ad227, e227, hx227_0⟩ := Kd.at_int (by repeat (first | (with_reducible exact HR226_0.out) | (with_reducible refine Kd.C_alloc ?_ _) | (with_reducible refine Kd.C_drewN ?_ _) | (with_reducible refine Kd.C_drew ?_) | exact HR226_0.out)) x14_1 p227 q227
            cases e227
            replace p227 := eq_true p227
            replace q227 := eq_true q227
            obtain ⟨Ao26, co26, eo26⟩ := Kd.S_slice HO_12.out
            (first | subst eo26 | (injection eo26 with f1_ f2_ f3_; have f4_ := f1_.symm; have f5_ := f3_.symm; clear f1_ f2_ f3_; subst f4_; subst f5_))
            have p228 : 0 ≤ (a2 : Int) := of_decide_eq_true as_
            have q228 : a2 < (t222.length : Int) := of_decide_eq_true as_
            obtain ⟨ad228, A228_0, c228_0, e228, hx228_0, hl228_0, hi228_0⟩ := at_L11 (Kd.S_reads' HO_12.out).2.2 a2 p228 q228
            cases e228
            obtain ⟨ce228, hce228, hMe228, hcc228⟩ := Kd.S_get HO_12.out [] a2 p228 (by first | exact q228 | exact of_decide_eq_true as_ | (have e_ := (Kd.S_reads' HO_12.out).1; omega))
            obtain ⟨ve228_0, rfl, ge228_0⟩ := hMe228
            have hv228_0 := hcc228 0 _ rfl
            rw [Nat.add_zero, show ((Kd.slice 3 (Kd.int .i64))).sz = 1 from rfl, Nat.mul_one] at hv228_0
            replace hv228_0 := Option.some.inj (hv228_0.symm.trans hx228_0)
            rw [hv228_0] at ge228_0
            have HL228_0 := Aside0.mk (show Kd.R (Kd.int .i64) 3 _ _ _ _ (rd_L11 t222 a2) from ge228_0)
            clear hv228_0 ge228_0
            clear hcc228 hce228
            have HR228_0 := Aside0.mk hi228_0
            have HC228_0 := Aside0.mk hl228_0
            clear hi228_0 hl228_0
            replace p228 := eq_true p228
            replace q228 := eq_true q228
            have p229 : 0 ≤ (x14_1 : Int) := of_decide_eq_true as_
            have q229 : x14_1 < ((rd_L11 t222 a2).length : Int) := of_decide_eq_true as_
            obtain ⟨ad229, e229, hx229_0⟩ := Kd.at_int (by repeat (first | (with_reducible exact HR228_0.out) | (with_reducible refine Kd.C_alloc ?_ _) | (with_reducible refine Kd.C_drewN ?_ _) | (with_reducible refine Kd.C_drew ?_) | exact HR228_0.out)) x14_1 p229 q229
            cases e229
            replace p229 := eq_true p229
            replace q229 := eq_true q229
            refine start_ (n := 19) (S := fun w' => w'.cell? (ad225.add (a2).toNat) = some (.slice (some ad227) (rd_L11 t216 a2).length c226_0) ∧ w'.cell? (ad227.add (x14_1).toNat) = some (.int .i64 (rd (rd_L11 t216 a2) x14_1)) ∧ w'.cell? (ad228.add (a2).toNat) = some (.slice (some ad229) (rd_L11 t222 a2).length c228_0) ∧ w'.cell? (ad229.add (x14_1).toNat) = some (.int .i64 (rd (rd_L11 t222 a2) x14_1))) (ds := [16, 17]) (bm_ 19 0) (by kernel_rfl) rfl rfl ⟨hx226_0, hx227_0, hx228_0, hx229_0⟩ (fun hHeld => ?_); refine with_tabW cottonpadref06_Leaves.tab12 cottonpadref06_Leaves.bits12 (fun HT_ HW_ => ?_)
            generalize wr.drew = w25 at HO_10 HO_12 HO_13 HL225_0 BK210 HR225_0 HB HL226_0 HL228_0 HR226_0 HR228_0 hx226_0 hx227_0 hx228_0 hx229_0 hHeld ⊢
            refine pure_ (i := 0) (N := some 49) (v := ?_) (a' := ?_) (bm_ 19 1) rfl rfl (any_of HT_.out (by kernel_rfl)) (fun _ _ _ h => h) (Or.inl ⟨by rfl, ?_⟩) ?_ ?_
            rotate_left
            ·intro w'
             go_simp
             with_reducible rfl
            rotate_left
            ·exact pt_
            refine pure_ (i := 1) (N := some 50) (v := ?_) (a' := ?_) (bm_ 19 3) rfl rfl (any_of HT_.out (by kernel_rfl)) (fun _ _ _ h => h) (Or.inl ⟨by rfl, ?_⟩) ?_ ?_
            rotate_left
            ·intro w'
             go_simp
             with_reducible rfl
            rotate_left
            ·exact pt_
            refine pure_ (i := 2) (N := some 51) (v := ?_) (a' := ?_) (bm_ 19 7) rfl rfl (any_of HT_.out (by kernel_rfl)) (fun _ _ _ h => h) (Or.inl ⟨by rfl, ?_⟩) ?_ ?_
            rotate_left
            ·intro w'
             go_simp
             with_reducible rfl
            rotate_left
            ·exact pt_
            refine pure_ (i := 3) (N := some 52) (v := ?_) (a' := ?_) (bm_ 19 15) rfl rfl (any_of HT_.out (by kernel_rfl)) (fun _ _ _ h => h) (Or.inl ⟨by rfl, ?_⟩) ?_ ?_
            rotate_left
            ·intro w'
             go_simp
             with_reducible rfl
            rotate_left
            ·exact pt_
            refine pure_ (i := 5) (N := some 54) (v := ?_) (a' := ?_) (bm_ 19 47) rfl rfl (any_of HT_.out (by kernel_rfl)) (fun _ _ _ h => h) (Or.inl ⟨by rfl, ?_⟩) ?_ ?_
            rotate_left
            ·intro w'
             go_simp
             with_reducible rfl
            rotate_left
            ·exact pt_
            refine pure_ (i := 8) (N := some 57) (v := ?_) (a' := ?_) (bm_ 19 303) rfl rfl (any_of HT_.out (by kernel_rfl)) (fun _ _ _ h => h) (Or.inl ⟨by rfl, ?_⟩) ?_ ?_
            rotate_left
            ·intro w'
             go_simp
             with_reducible rfl
            rotate_left
            ·exact pt_
            refine pure_ (i := 9) (N := some 58) (v := ?_) (a' := ?_) (bm_ 19 815) rfl rfl (any_of HT_.out (by kernel_rfl)) (fun _ _ _ h => h) (Or.inl ⟨by rfl, ?_⟩) ?_ ?_
            rotate_left
            ·intro w'
             go_simp
             with_reducible rfl
            rotate_left
            ·exact pt_
            refine pure_ (i := 10) (N := some 59) (v := ?_) (a' := ?_) (bm_ 19 1839) rfl rfl (any_of HT_.out (by kernel_rfl)) (fun _ _ _ h => h) (Or.inl ⟨by rfl, ?_⟩) ?_ ?_
            rotate_left
            ·intro w'
             go_simp
             with_reducible rfl
            rotate_left
            ·exact pt_
            refine pure_ (i := 12) (N := some 61) (v := ?_) (a' := ?_) (bm_ 19 5935) rfl rfl (any_of HT_.out (by kernel_rfl)) (fun _ _ _ h => h) (Or.inl ⟨by rfl, ?_⟩) ?_ ?_
            rotate_left
            ·intro w'
             go_simp
             with_reducible rfl
            rotate_left
            ·exact pt_
            refine take_ (i := 4) (N := some 53) (v := ?_) (a' := ?_) (bm_ 19 5951) rfl rfl (take_ofW HT_.out HW_.out (by kernel_rfl)) (fun _ _ _ h => h) (Or.inl ⟨by rfl, ?_⟩) hHeld ?_ ?_
            rotate_left
            ·rintro w' ⟨s0, s1, s2, s3⟩
             go_simp
             with_reducible rfl
            rotate_left
            ·exact pt_
            refine pure_ (i := 6) (N := some 55) (v := ?_) (a' := ?_) (bm_ 19 6015) rfl rfl (any_of HT_.out (by kernel_rfl)) (fun _ _ _ h => h) (Or.inl ⟨by rfl, ?_⟩) ?_ ?_
            rotate_left
            ·intro w'
             go_simp
             with_reducible rfl
            rotate_left
            ·exact pt_
            refine take_ (i := 7) (N := some 56) (v := ?_) (a' := ?_) (bm_ 19 6143) rfl rfl (take_ofW HT_.out HW_.out (by kernel_rfl)) (fun _ _ _ h => h) (Or.inl ⟨by rfl, ?_⟩) hHeld ?_ ?_
            rotate_left
            ·rintro w' ⟨s0, s1, s2, s3⟩
             go_simp
             with_reducible rfl
            rotate_left
            ·exact pt_
            refine take_ (i := 11) (N := some 60) (v := ?_) (a' := ?_) (bm_ 19 8191) rfl rfl (take_ofW HT_.out HW_.out (by kernel_rfl)) (fun _ _ _ h => h) (Or.inl ⟨by rfl, ?_⟩) hHeld ?_ ?_
            rotate_left
            ·rintro w' ⟨s0, s1, s2, s3⟩
             go_simp
             with_reducible rfl
            rotate_left
            ·exact pt_
            refine pure_ (i := 13) (N := some 62) (v := ?_) (a' := ?_) (bm_ 19 16383) rfl rfl (any_of HT_.out (by kernel_rfl)) (fun _ _ _ h => h) (Or.inl ⟨by rfl, ?_⟩) ?_ ?_
            rotate_left
            ·intro w'
             go_simp
             with_reducible rfl
            rotate_left
            ·exact pt_
            refine take_ (i := 14) (N := some 63) (v := ?_) (a' := ?_) (bm_ 19 32767) rfl rfl (take_ofW HT_.out HW_.out (by kernel_rfl)) (fun _ _ _ h => h) (Or.inl ⟨by rfl, ?_⟩) hHeld ?_ ?_
            rotate_left
            ·rintro w' ⟨s0, s1, s2, s3⟩
             go_simp
             with_reducible rfl
            rotate_left
            ·exact pt_
            refine pure_ (i := 15) (N := some 64) (v := ?_) (a' := ?_) (bm_ 19 65535) rfl rfl (any_of HT_.out (by kernel_rfl)) (fun _ _ _ h => h) (Or.inl ⟨by rfl, ?_⟩) ?_ ?_
            rotate_left
            ·intro w'
             go_simp
             with_reducible rfl
            rotate_left
            ·exact pt_
            refine last_ (i := 16) (N := some 65) (bm_ 19 131071) rfl rfl (one_of HT_.out (by kernel_rfl)) (by decide) (fun K hK => ?_)
            refine value_ (w1 := ?_) (v := ?_) (by rfl) rfl ?_ ?_
            rotate_left 2
            ·go_simp
             constructor
             ·rfl
             ·rfl
            refine hK.out _ _ ?_
            clear hK K
            refine norm_ (a' := ?_) ?_ ?_
            rotate_left
            ·show Act.put _ (some 65) _ = _
             simp only [Act.put, List.setIfInBounds_toArray, List.set_cons_zero, List.set_cons_succ, i64_w, i32_w]
             rfl
            refine last_ (i := 17) (N := some 66) (bm_ 19 262143) rfl rfl (one_of HT_.out (by kernel_rfl)) (by decide) (fun K hK => ?_)
            refine Kd.R_append_step k36 (w0 := w) w.heap.size (by rfl) (.tmp 49) (.tmp 65) 29 36 (.agg #[(.int .i64 0), (.int .i64 0)]) 16 rfl Tryd.underlying29 info36 rfl (by decide) (by omega) u13 x13_1 (⟨rd (rd_L11 t216 a2) x14_1, rd (rd_L11 t222 a2) x14_1⟩ : S36) [.int .i64 (rd (rd_L11 t216 a2) x14_1), .int .i64 (rd (rd_L11 t222 a2) x14_1)] (fun _ => True) (fun _ => False) rfl rfl ?aP (fun _ hk => hk.elim) ?aF ?aO ?aB ?aS ?aL ?_
            (case aP => exact k36_mkM _ _ _ (⟨rd (rd_L11 t216 a2) x14_1, rd (rd_L11 t222 a2) x14_1⟩ : S36))
            (case aB => exact (be1_ HB GE210))
            (case aF => exact (fun _ _ => trivial))
            (case aO => exact (ro_ HO_13))
            (case aS => exact (below_size (be1_ HB GE210)))
            (case aL => have := LMc23.out; omega)
            intro v231 w27 ho hb hg hat
            rw [← Ny230.out] at ho
            have n0_ := Aside0.mk (Kd.S_over' (by (with_reducible repeat (first | apply Kd.S_alloc | apply Kd.S_drewN | apply Kd.S_drew)); exact HO_10.out) (Kd.R_typed (ro_ HO_13)) (by decide) hg)
            have n1_ := Aside0.mk (Kd.S_over' (by (with_reducible repeat (first | apply Kd.S_alloc | apply Kd.S_drewN | apply Kd.S_drew)); exact HO_12.out) (Kd.R_typed (ro_ HO_13)) (by decide) hg)
            have n2_ := Aside0.mk (blk_grown (g := gb210) (o := .cells #[.slice A0_0 l0_0.length c0_0, .slice A0_1 l0_1.length c0_1] 25 (0, 0)) (bk_ BK210) hg (Kd.R_ne HO_13.out BK210.out (by decide)))
            have n3_ := Aside0.mk (Kd.R_over' (by (with_reducible repeat (first | apply Kd.R_alloc | apply Kd.R_drewN | apply Kd.R_drew)); exact HL225_0.out) (Kd.R_typed (ro_ HO_13)) (by decide) hg)
            have n4_ := Aside0.mk (Kd.R_over' (by (with_reducible repeat (first | apply Kd.R_alloc | apply Kd.R_drewN | apply Kd.R_drew)); exact HL226_0.out) (Kd.R_typed (ro_ HO_13)) (by decide) hg)
            have n5_ := Aside0.mk (Kd.R_over' (by (with_reducible repeat (first | apply Kd.R_alloc | apply Kd.R_drewN | apply Kd.R_drew)); exact HL228_0.out) (Kd.R_typed (ro_ HO_13)) (by decide) hg)
            have n6_ := Aside0.mk (hb)
            have n7_ := Aside0.mk (ho)
            clear HO_10
            clear HO_12
            clear BK210
            clear HL225_0
            clear HL226_0
            clear HL228_0
            clear HB
            clear HO_13
            have HO_10 := n0_
            have HO_12 := n1_
            have BK210 := n2_
            have HL225_0 := n3_
            have HL226_0 := n4_
            have HL228_0 := n5_
            have HB := n6_
            have HO232 := n7_
            clear n0_ n1_ n2_ n3_ n4_ n5_ n6_ n7_
            clear ho hb hg hat
            refine hK.out _ _ ?_
            clear hK K
            refine norm_ (a' := ?_) ?_ ?_
            rotate_left
            ·show Act.put _ (some 66) _ = _
             simp only [Act.put, List.setIfInBounds_toArray, List.set_cons_zero, List.set_cons_succ, i64_w, i32_w]
             rfl
            refine pure_ (i := 18) (N := some 13) (v := ?_) (a' := ?_) (bm_ 19 524287) rfl rfl (any_of HT_.out (by kernel_rfl)) (fun _ _ _ h => h) (Or.inl ⟨by rfl, ?_⟩) ?_ ?_
            rotate_left
            ·intro w'
             go_simp
             with_reducible rfl
            rotate_left
            ·exact pt_
            refine done_ (done_of HT_.out (by kernel_rfl)) ?_
            try go_wp2
            go_roundg k1
            case measure => have := HK1.out; omega
            case rel => exact ⟨(y230), (wrap64 (x14_1 + 1)), (by first | rfl | (simp; done) | (simp [*]; done)), H', ⟨by have := HK1.out; omega⟩, ⟨by (with_reducible repeat (first | apply Kd.S_alloc | apply Kd.S_drewN | apply Kd.S_drew)); exact HO_10.out⟩, ⟨by (with_reducible repeat (first | apply Kd.S_alloc | apply Kd.S_drewN | apply Kd.S_drew)); exact HO_12.out⟩, ⟨by (with_reducible repeat (first | apply Kd.R_alloc | apply Kd.R_drewN | apply Kd.R_drew)); exact HO232.out⟩, ⟨by (with_reducible repeat (first | refine blk_drewN ?_ _ | refine blk_drew ?_ | refine blk_alloc ?_ _)); exact BK210.out⟩, ⟨be1_ HB GE210⟩⟩
           ·rw [if_neg c23] at H
            exact absurd H (by simp)
          ·rw [if_neg c22] at H
           exact absurd H (by simp)
         ·rw [if_neg c21] at H
          exact absurd H (by simp)
        ·rw [if_neg c20] at H
         exact absurd H (by simp)
       ·rw [if_neg c19] at H
        have c19b0 : decide (x14_1 < ((rd_L11 t216 a2).length : Int)) = false := decide_eq_false c19
        clear c19
        simp only [Option.some.injEq, Prod.mk.injEq] at H
        obtain ⟨rfl, rfl⟩ := H
        obtain ⟨Ao28, co28, eo28⟩ := Kd.S_slice HO_10.out
        subst eo28
        have p225 : 0 ≤ (a2 : Int) := of_decide_eq_true as_
        have q225 : a2 < (t216.length : Int) := of_decide_eq_true as_
        obtain ⟨ad225, A225_0, c225_0, e225, hx225_0, hl225_0, hi225_0⟩ := at_L11 (Kd.S_reads' HO_10.out).2.2 a2 p225 q225
        cases e225
        obtain ⟨ce225, hce225, hMe225, hcc225⟩ := Kd.S_get HO_10.out [] a2 p225 (by first | exact q225 | exact of_decide_eq_true as_ | (have e_ := (Kd.S_reads' HO_10.out).1; omega))
        obtain ⟨ve225_0, rfl, ge225_0⟩ := hMe225
        have hv225_0 := hcc225 0 _ rfl
        rw [Nat.add_zero, show ((Kd.slice 3 (Kd.int .i64))).sz = 1 from rfl, Nat.mul_one] at hv225_0
        replace hv225_0 := Option.some.inj (hv225_0.symm.trans hx225_0)
        rw [hv225_0] at ge225_0
        have HL225_0 := Aside0.mk (show Kd.R (Kd.int .i64) 3 _ _ _ _ (rd_L11 t216 a2) from ge225_0)
        clear hv225_0 ge225_0
        clear hcc225 hce225
        have HR225_0 := Aside0.mk hi225_0
        have HC225_0 := Aside0.mk hl225_0
        clear hi225_0 hl225_0
        replace p225 := eq_true p225
        replace q225 := eq_true q225
        go_wp2
        go_ret2
        exact ⟨_, rf_, by (with_reducible repeat (first | apply Kd.R_alloc | apply Kd.R_drewN | apply Kd.R_drew)); exact HO_13.out, be1_ HB GE210⟩
      ·rw [if_neg c18] at H
       exact absurd H (by simp)
     ·rw [if_neg c17] at H
      exact absurd H (by simp)
  ·replace c7 := Bool.eq_false_iff.mpr c7
   subst c7
   have H1 : (some (([] : List (S36)), 2)) = some (r1, r2) := by rw [if_neg (show ¬ (false = true) by decide)] at H; exact H
   clear H
   have H := H1
   clear H1
   simp only [Option.some.injEq, Prod.mk.injEq] at H
   obtain ⟨rfl, rfl⟩ := H
   go_enter Tryd.func18, Tryd.ntmps18
   go_wp2_with (first | ((with_reducible refine gate_dst (N := 3) rfl ?_); refine box_event ?hg (N := 3) ?hd (cs := #[.slice A0_0 l0_0.length c0_0, .slice A0_1 l0_1.length c0_1]) (t := 25) ?hr ?_; (case hd => rfl); (case hg => rfl); (case hr => exact gs_); intro gb210 hg w29 hbox hb; have n0_ := Aside0.mk (below_step (be_ HB) hb); have n1_ := Aside0.mk (hbox); have n2_ := Aside0.mk ((by rw [hg]; exact (below_size (be_ HB)) : w.heap.size ≤ gb210)); have n3_ := Aside0.mk ((by rw [hg]; exact (below_size (be_ HB)) : w.heap.size ≤ gb210)); clear HB; have HB := n0_; have BK210 := n1_; have GW210 := n2_; have GE210 := n3_; clear n0_ n1_ n2_ n3_; clear hb hbox hg; have hcz30_0 : w29.cell? ⟨gb210, 0, none⟩ = some (.slice A0_0 l0_0.length c0_0) := bc_ BK210 0; have hcz30_1 : w29.cell? ⟨gb210, 1, none⟩ = some (.slice A0_1 l0_1.length c0_1) := bc_ BK210 1; have hfz30_0 := blk_frozen BK210.out 0; have hfz30_1 := blk_frozen BK210.out 1) | ((with_reducible refine gate_callee (f := 22) rfl ?_); refine goesL_ (some 17) rfl rfl Tryd.func22 (by kernel_rfl) rfl #[.agg #[.slice A0_0 l0_0.length c0_0, .slice A0_1 l0_1.length c0_1], .slice A1 l1.length c1] rfl ls_ ?_; (with_reducible refine (cottonpadref06_Check.calls k _ _ l0_0 _ _ l0_1 _ _ l1 t211 _ ?side1 ?side2 ?side3 ?side4 ?side5 ?side6 A4.out).mono ?_); (case side1 => exact kc_ HR0_0 HB); (case side2 => exact HC0_0.out); (case side3 => exact kc_ HR0_1 HB); (case side4 => exact HC0_1.out); (case side5 => exact kc_ HR1 HB); (case side6 => exact HC1.out); rintro e w31 ⟨rfl, hb⟩; refine ⟨_, rfl, ?_⟩; have n0_ := Aside0.mk (blk_below (bk_ BK210) hb); have n1_ := Aside0.mk (below_step (be1_ HB GE210) hb); clear BK210; clear HB; have BK210 := n0_; have HB := n1_; clear n0_ n1_; (try clear hb); (try clear hb2); (try clear hk); (try clear hi); have hcz32_0 : w31.cell? ⟨gb210, 0, none⟩ = some (.slice A0_0 l0_0.length c0_0) := bc_ BK210 0; have hcz32_1 : w31.cell? ⟨gb210, 1, none⟩ = some (.slice A0_1 l0_1.length c0_1) := bc_ BK210 1; have hfz32_0 := blk_frozen BK210.out 0; have hfz32_1 := blk_frozen BK210.out 1) | ((with_reducible refine gate_callee (f := 55) rfl ?_); refine goesL_ (some 26) rfl rfl Tryd.func55 (by kernel_rfl) rfl #[.int .i64 a2, .int .i64 0, .int .i64 (wrap64 ((l0_0.length : Int) - 1))] rfl ls_ ?_; (with_reducible refine (cottonpadref06_within.calls a2 0 (wrap64 ((l0_0.length : Int) - 1)) false _ A6.out).mono ?_); rintro e w' ⟨rfl, ⟨nd, rfl⟩⟩; refine ⟨_, rfl, ?_⟩))
   go_ret2
   exact ⟨_, rf_, by first | exact Kd.R_nil _ _ _ _ _ | exact Kd.N_nil _ _ _ _ _ | exact Kd.V_nil _ _ _ _ _ | exact Kd.Q_nil _ _ _ _ _ | exact Kd.S_nil _ _ _ _ _, be1_ HB GE210⟩
 ·rw [if_neg c5] at H
  have c5b0 : (t211 == 0) = false := beq_eq_false_iff_ne.mpr c5
  have c5b1 : (t211 != 0) = true := bne_iff_ne.mpr c5
  simp only [Option.some.injEq, Prod.mk.injEq] at H
  obtain ⟨rfl, rfl⟩ := H
  go_enter Tryd.func18, Tryd.ntmps18
  go_wp2_with (first | ((with_reducible refine gate_dst (N := 3) rfl ?_); refine box_event ?hg (N := 3) ?hd (cs := #[.slice A0_0 l0_0.length c0_0, .slice A0_1 l0_1.length c0_1]) (t := 25) ?hr ?_; (case hd => rfl); (case hg => rfl); (case hr => exact gs_); intro gb210 hg w33 hbox hb; have n0_ := Aside0.mk (below_step (be_ HB) hb); have n1_ := Aside0.mk (hbox); have n2_ := Aside0.mk ((by rw [hg]; exact (below_size (be_ HB)) : w.heap.size ≤ gb210)); have n3_ := Aside0.mk ((by rw [hg]; exact (below_size (be_ HB)) : w.heap.size ≤ gb210)); clear HB; have HB := n0_; have BK210 := n1_; have GW210 := n2_; have GE210 := n3_; clear n0_ n1_ n2_ n3_; clear hb hbox hg; have hcz34_0 : w33.cell? ⟨gb210, 0, none⟩ = some (.slice A0_0 l0_0.length c0_0) := bc_ BK210 0; have hcz34_1 : w33.cell? ⟨gb210, 1, none⟩ = some (.slice A0_1 l0_1.length c0_1) := bc_ BK210 1; have hfz34_0 := blk_frozen BK210.out 0; have hfz34_1 := blk_frozen BK210.out 1) | ((with_reducible refine gate_callee (f := 22) rfl ?_); refine goesL_ (some 17) rfl rfl Tryd.func22 (by kernel_rfl) rfl #[.agg #[.slice A0_0 l0_0.length c0_0, .slice A0_1 l0_1.length c0_1], .slice A1 l1.length c1] rfl ls_ ?_; (with_reducible refine (cottonpadref06_Check.calls k _ _ l0_0 _ _ l0_1 _ _ l1 t211 _ ?side1 ?side2 ?side3 ?side4 ?side5 ?side6 A4.out).mono ?_); (case side1 => exact kc_ HR0_0 HB); (case side2 => exact HC0_0.out); (case side3 => exact kc_ HR0_1 HB); (case side4 => exact HC0_1.out); (case side5 => exact kc_ HR1 HB); (case side6 => exact HC1.out); rintro e w35 ⟨rfl, hb⟩; refine ⟨_, rfl, ?_⟩; have n0_ := Aside0.mk (blk_below (bk_ BK210) hb); have n1_ := Aside0.mk (below_step (be1_ HB GE210) hb); clear BK210; clear HB; have BK210 := n0_; have HB := n1_; clear n0_ n1_; (try clear hb); (try clear hb2); (try clear hk); (try clear hi)))
  go_ret2
  exact ⟨_, rf_, by first | exact Kd.R_nil _ _ _ _ _ | exact Kd.N_nil _ _ _ _ _ | exact Kd.V_nil _ _ _ _ _ | exact Kd.Q_nil _ _ _ _ _ | exact Kd.S_nil _ _ _ _ _, be1_ HB GE210⟩

-- NOT PRINTED: function 57 (exits_house_last)

-- BY HAND: function 19 (exits_Out)

/-! ### cottonpadref06_all: function 58 -/
def cottonpadref06_all.l0 : Nat → List (List Int) → Int → Int → List (S62) → List (S81) → Option (Int)
 | 0, _, _, _, _, _ => none
 | k + 1, x1, x5, x6, x234000, x234001 => if x6 < (x1.length : Int) then (if 0 ≤ x6 then (if ((rd_L11 x1 x6).length : Int) > 0 then (if x6 < (x234000.length : Int) then (if ((rd_T62 x234000 x6).f0) = (-1) then (if 0 ≤ (wrap64 (((rd_L11 x1 x6).length : Int) - 1)) then (if (wrap64 (((rd_L11 x1 x6).length : Int) - 1)) < ((rd_L11 x1 x6).length : Int) then (cottonpadref06_all.l0 k x1 (mx x5 (rd (rd_L11 x1 x6) (wrap64 (((rd_L11 x1 x6).length : Int) - 1)))) (wrap64 (x6 + 1)) x234000 x234001) else (none)) else (none)) else (cottonpadref06_all.l0 k x1 x5 (wrap64 (x6 + 1)) x234000 x234001)) else (none)) else (cottonpadref06_all.l0 k x1 x5 (wrap64 (x6 + 1)) x234000 x234001)) else (none)) else (some x5)
def cottonpadref06_all.f (k : Nat) (l0_0 : List (S62)) (l0_1 : List (S81)) (l1 : List (List Int)) : Option (Int) := cottonpadref06_all.l0 k l1 0 0 l0_0 l0_1
theorem cottonpadref06_all.mono_l : ∀ k, (∀ y0 y1 y2 y3 y4, LeO (cottonpadref06_all.l0 k y0 y1 y2 y3 y4) (cottonpadref06_all.l0 (k + 1) y0 y1 y2 y3 y4))
 | 0 => fun _ _ _ _ _ r h => by simp [cottonpadref06_all.l0] at h
 | k + 1 => by
  have ih0 := cottonpadref06_all.mono_l k
  ·intro y0 y1 y2 y3 y4
   unfold cottonpadref06_all.l0
   repeat' first
   | (with_reducible exact ih0 _ _ _ _ _)
   | (with_reducible exact LeO.refl _)
   | (with_reducible exact LeO.none _)
   | (with_reducible refine LeO.ite ?_ ?_)
   | (with_reducible refine LeO.bind ?_ (fun _ => ?_))
   | exact ih0 _ _ _ _ _
   | exact LeO.none _
   | refine LeO.ite ?_ ?_
   | refine LeO.bind ?_ (fun _ => ?_)
theorem cottonpadref06_all.mono : ∀ a0 a1 a2 k, LeO (cottonpadref06_all.f k a0 a1 a2) (cottonpadref06_all.f (k + 1) a0 a1 a2) := by
 intro a0 a1 a2 k
 have ih0 := cottonpadref06_all.mono_l k
 unfold cottonpadref06_all.f
 repeat' first
   | (with_reducible exact ih0 _ _ _ _ _)
   | (with_reducible exact LeO.refl _)
   | (with_reducible exact LeO.none _)
   | (with_reducible refine LeO.ite ?_ ?_)
   | (with_reducible refine LeO.bind ?_ (fun _ => ?_))
   | exact ih0 _ _ _ _ _
   | exact LeO.none _
   | refine LeO.ite ?_ ?_
   | refine LeO.bind ?_ (fun _ => ?_)
set_option maxHeartbeats 8000000 in
set_option maxRecDepth 100000 in
theorem cottonpadref06_all.calls (k : Nat) (A0_0 : Option Addr) (c0_0 : Nat) (l0_0 : List (S62)) (A0_1 : Option Addr) (c0_1 : Nat) (l0_1 : List (S81)) (A1 : Option Addr) (c1 : Nat) (l1 : List (List Int)) (r : Int) (w : World) (hr0_0 : Kd.C k62 w A0_0 l0_0.length l0_0) (hc0_0 : l0_0.length ≤ c0_0) (hr0_1 : Kd.C k81 w A0_1 l0_1.length l0_1) (hc0_1 : l0_1.length ≤ c0_1) (hr1 : Kd.C (Kd.slice 3 (Kd.int .i64)) w A1 l1.length l1) (hc1 : l1.length ≤ c1) (h : cottonpadref06_all.f k l0_0 l0_1 l1 = some r) :
  Calls Tryd.prog 58 #[.agg #[.slice A0_0 l0_0.length c0_0, .slice A0_1 l0_1.length c0_1], .slice A1 l1.length c1] w fun e w' => e = .returned (.int .i64 r) ∧ Below w.heap.size w w' := by
 have hu25 := Tryd.underlying25
 have HR0_0 := Aside0.mk hr0_0
 have HC0_0 := Aside0.mk hc0_0
 clear hr0_0 hc0_0
 have HR0_1 := Aside0.mk hr0_1
 have HC0_1 := Aside0.mk hc0_1
 clear hr0_1 hc0_1
 have HR1 := Aside0.mk hr1
 have HC1 := Aside0.mk hc1
 clear hr1 hc1
 have HB := Aside0.mk (Below.refl w.heap.size w)
 have H : (cottonpadref06_all.l0 k l1 0 0 l0_0 l0_1) = some r := h
 clear h
 have H' := Aside0.mk H
 clear H
 go_enter Tryd.func58, Tryd.ntmps58
 go_wp2_with (first | ((with_reducible refine gate_dst (N := 2) rfl ?_); refine box_event ?hg (N := 2) ?hd (cs := #[.slice A0_0 l0_0.length c0_0, .slice A0_1 l0_1.length c0_1]) (t := 25) ?hr ?_; (case hd => rfl); (case hg => rfl); (case hr => exact gs_); intro gb233 hg w3 hbox hb; have n0_ := Aside0.mk (below_step (be_ HB) hb); have n1_ := Aside0.mk (hbox); have n2_ := Aside0.mk ((by rw [hg]; exact (below_size (be_ HB)) : w.heap.size ≤ gb233)); have n3_ := Aside0.mk ((by rw [hg]; exact (below_size (be_ HB)) : w.heap.size ≤ gb233)); clear HB; have HB := n0_; have BK233 := n1_; have GW233 := n2_; have GE233 := n3_; clear n0_ n1_ n2_ n3_; clear hb hbox hg))
 go_loopg [5, 6] k (fun kq v5 v6 w' => ∃ (x5_1 : Int) (x6_1 : Int), v5 = .int .i64 x5_1 ∧ v6 = .int .i64 x6_1 ∧ Aside0 (cottonpadref06_all.l0 kq l1 x5_1 x6_1 l0_0 l0_1 = some r) ∧ Aside0 (kq ≤ k) ∧ Aside0 (w'.heap[gb233]? = some (.cells #[(.slice A0_0 l0_0.length c0_0), (.slice A0_1 l0_1.length c0_1)] 25 (0, 0))) ∧ Aside0 (Below w.heap.size w w'))
 case atStart => exact ⟨(0), (0), (by first | rfl | (simp; done) | (simp [*]; done)), (by first | rfl | (simp; done) | (simp [*]; done)), H', ⟨Nat.le_refl _⟩, ⟨by (with_reducible repeat (first | refine blk_drewN ?_ _ | refine blk_drew ?_ | refine blk_alloc ?_ _)); exact BK233.out⟩, ⟨be1_ HB GE233⟩⟩
 case round =>
  clear H'
  try clear c1
  try clear p2
  obtain ⟨x5_1, x6_1, rfl, rfl, HA, HK1, BK233, HB⟩ := hrel
  cases gk with
  | zero => exact absurd HA.out (by simp [cottonpadref06_all.l0])
  | succ k1 =>
   have H := HA.out
   clear HA
   simp only [cottonpadref06_all.l0] at H
   by_cases c4 : x6_1 < (l1.length : Int)
   ·rw [if_pos c4] at H
    have c4b0 : decide (x6_1 < (l1.length : Int)) = true := decide_eq_true c4
    clear c4
    by_cases c5 : 0 ≤ x6_1
    ·rw [if_pos c5] at H
     have c5b0 : decide (0 ≤ x6_1) = true := decide_eq_true c5
     clear c5
     by_cases c6 : ((rd_L11 l1 x6_1).length : Int) > 0
     ·rw [if_pos c6] at H
      have c6b0 : decide (0 < ((rd_L11 l1 x6_1).length : Int)) = true := decide_eq_true c6
      have c6b1 : decide (0 < (rd_L11 l1 x6_1).length) = true := decide_eq_true (by omega)
      clear c6
      by_cases c7 : x6_1 < (l0_0.length : Int)
      ·rw [if_pos c7] at H
       have c7b0 : decide (x6_1 < (l0_0.length : Int)) = true := decide_eq_true c7
       clear c7
       by_cases c8 : ((rd_T62 l0_0 x6_1).f0) = (-1)
       ·rw [if_pos c8] at H
        have c8b0 : (((rd_T62 l0_0 x6_1).f0) == (-1)) = true := beq_iff_eq.mpr c8
        have c8b1 : (((rd_T62 l0_0 x6_1).f0) != (-1)) = false := bne_eq_false_iff_eq.mpr c8
        clear c8
        obtain ⟨ji9, hji9⟩ : ∃ j_ : Int, (wrap64 (((rd_L11 l1 x6_1).length : Int) - 1)) = j_ := ⟨_, rfl⟩
        replace H : (if 0 ≤ (ji9) then (if (ji9) < ((rd_L11 l1 x6_1).length : Int) then (cottonpadref06_all.l0 k1 l1 (mx x5_1 (rd (rd_L11 l1 x6_1) (ji9))) (wrap64 (x6_1 + 1)) l0_0 l0_1) else (none)) else (none)) = some r := by first | (rw [hji9] at H; exact H) | (simp only [hji9] at H ⊢; exact H)
        have hji9w : (IntKind.i64.wrap (((rd_L11 l1 x6_1).length : Int) - 1)) = ji9 := (i64_w _).trans hji9
        by_cases c10 : 0 ≤ (ji9)
        ·rw [if_pos c10] at H
         have c10b0 : decide (0 ≤ (ji9)) = true := decide_eq_true c10
         clear c10
         by_cases c11 : (ji9) < ((rd_L11 l1 x6_1).length : Int)
         ·rw [if_pos c11] at H
          have c11b0 : decide ((ji9) < ((rd_L11 l1 x6_1).length : Int)) = true := decide_eq_true c11
          clear c11
          obtain ⟨ji12, hji12⟩ : ∃ j_ : Int, (mx x5_1 (rd (rd_L11 l1 x6_1) (ji9))) = j_ := ⟨_, rfl⟩
          replace H : (cottonpadref06_all.l0 k1 l1 ji12 (wrap64 (x6_1 + 1)) l0_0 l0_1) = some r := by first | (rw [hji12] at H; exact H) | (simp only [hji12] at H ⊢; exact H)
          have hji12_ : (if x5_1 < (rd (rd_L11 l1 x6_1) (ji9)) then (rd (rd_L11 l1 x6_1) (ji9)) else x5_1) = ji12 := hji12
          have H' := Aside0.mk H
          clear H
          have p234 : 0 ≤ (x6_1 : Int) := of_decide_eq_true as_
          have q234 : x6_1 < (l1.length : Int) := of_decide_eq_true as_
          obtain ⟨ad234, A234_0, c234_0, e234, hx234_0, hl234_0, hi234_0⟩ := at_L11 HR1.out x6_1 p234 q234
          cases e234
          try replace hx234_0 := ce_ HB hx234_0
          have HR234_0 := Aside0.mk hi234_0
          have HC234_0 := Aside0.mk hl234_0
          clear hi234_0 hl234_0
          replace p234 := eq_true p234
          replace q234 := eq_true q234
          have hcz13_0 : wr.cell? ⟨gb233, 0, none⟩ = some (.slice A0_0 l0_0.length c0_0) := bc_ BK233 0
          have hcz13_1 : wr.cell? ⟨gb233, 1, none⟩ = some (.slice A0_1 l0_1.length c0_1) := bc_ BK233 1
          have hfz13_0 := blk_frozen BK233.out 0
          have hfz13_1 := blk_frozen BK233.out 1
          have p235 : 0 ≤ (x6_1 : Int) := of_decide_eq_true as_
          have q235 : x6_1 < (l0_0.length : Int) := of_decide_eq_true as_
          obtain ⟨ad235, e235, hx235_0, hx235_1, hx235_2, hx235_3, hx235_4, hx235_5⟩ := at_T62 HR0_0.out x6_1 p235 q235
          cases e235
          try replace hx235_0 := ce_ HB hx235_0
          try replace hx235_1 := ce_ HB hx235_1
          try replace hx235_2 := ce_ HB hx235_2
          try replace hx235_3 := ce_ HB hx235_3
          try replace hx235_4 := ce_ HB hx235_4
          try replace hx235_5 := ce_ HB hx235_5
          replace p235 := eq_true p235
          replace q235 := eq_true q235
          have p236 : 0 ≤ (x6_1 : Int) := of_decide_eq_true as_
          have q236 : x6_1 < (l1.length : Int) := of_decide_eq_true as_
          obtain ⟨ad236, A236_0, c236_0, e236, hx236_0, hl236_0, hi236_0⟩ := at_L11 HR1.out x6_1 p236 q236
          obtain rfl : ad234 = ad236 := (by injection e236)
          try replace hx236_0 := ce_ HB hx236_0
          have HR236_0 := Aside0.mk hi236_0
          have HC236_0 := Aside0.mk hl236_0
          clear hi236_0 hl236_0
          replace p236 := eq_true p236
          replace q236 := eq_true q236
          have ea_ := Option.some.inj (hx234_0.symm.trans hx236_0)
          injection ea_ with ea_ en_ ec_
          subst ea_
          subst ec_
          clear en_
          have p237 : 0 ≤ ((ji9) : Int) := of_decide_eq_true as_
          have q237 : (ji9) < ((rd_L11 l1 x6_1).length : Int) := of_decide_eq_true as_
          obtain ⟨ad237, e237, hx237_0⟩ := Kd.at_int HR236_0.out (ji9) p237 q237
          cases e237
          try replace hx237_0 := ce_ HB hx237_0
          replace p237 := eq_true p237
          replace q237 := eq_true q237
          go_wp2
          go_roundg k1
          case measure => have := HK1.out; omega
          case rel => exact ⟨(ji12), (wrap64 (x6_1 + 1)), (by first | rfl | (simp; done) | (simp only [← hji12] <;> (first | rfl | simp)) | (simp [*]; done)), (by first | rfl | (simp; done) | (simp [*]; done)), H', ⟨by have := HK1.out; omega⟩, ⟨by (with_reducible repeat (first | refine blk_drewN ?_ _ | refine blk_drew ?_ | refine blk_alloc ?_ _)); exact BK233.out⟩, ⟨be1_ HB GE233⟩⟩
         ·rw [if_neg c11] at H
          exact absurd H (by simp)
        ·rw [if_neg c10] at H
         exact absurd H (by simp)
       ·rw [if_neg c8] at H
        have c8b0 : (((rd_T62 l0_0 x6_1).f0) == (-1)) = false := beq_eq_false_iff_ne.mpr c8
        have c8b1 : (((rd_T62 l0_0 x6_1).f0) != (-1)) = true := bne_iff_ne.mpr c8
        have H' := Aside0.mk H
        clear H
        have p234 : 0 ≤ (x6_1 : Int) := of_decide_eq_true as_
        have q234 : x6_1 < (l1.length : Int) := of_decide_eq_true as_
        obtain ⟨ad234, A234_0, c234_0, e234, hx234_0, hl234_0, hi234_0⟩ := at_L11 HR1.out x6_1 p234 q234
        cases e234
        try replace hx234_0 := ce_ HB hx234_0
        have HR234_0 := Aside0.mk hi234_0
        have HC234_0 := Aside0.mk hl234_0
        clear hi234_0 hl234_0
        replace p234 := eq_true p234
        replace q234 := eq_true q234
        have hcz14_0 : wr.cell? ⟨gb233, 0, none⟩ = some (.slice A0_0 l0_0.length c0_0) := bc_ BK233 0
        have hcz14_1 : wr.cell? ⟨gb233, 1, none⟩ = some (.slice A0_1 l0_1.length c0_1) := bc_ BK233 1
        have hfz14_0 := blk_frozen BK233.out 0
        have hfz14_1 := blk_frozen BK233.out 1
        have p235 : 0 ≤ (x6_1 : Int) := of_decide_eq_true as_
        have q235 : x6_1 < (l0_0.length : Int) := of_decide_eq_true as_
        obtain ⟨ad235, e235, hx235_0, hx235_1, hx235_2, hx235_3, hx235_4, hx235_5⟩ := at_T62 HR0_0.out x6_1 p235 q235
        cases e235
        try replace hx235_0 := ce_ HB hx235_0
        try replace hx235_1 := ce_ HB hx235_1
        try replace hx235_2 := ce_ HB hx235_2
        try replace hx235_3 := ce_ HB hx235_3
        try replace hx235_4 := ce_ HB hx235_4
        try replace hx235_5 := ce_ HB hx235_5
        replace p235 := eq_true p235
        replace q235 := eq_true q235
        go_wp2
        go_roundg k1
        case measure => have := HK1.out; omega
        case rel => exact ⟨(x5_1), (wrap64 (x6_1 + 1)), (by first | rfl | (simp; done) | (simp [*]; done)), (by first | rfl | (simp; done) | (simp [*]; done)), H', ⟨by have := HK1.out; omega⟩, ⟨by (with_reducible repeat (first | refine blk_drewN ?_ _ | refine blk_drew ?_ | refine blk_alloc ?_ _)); exact BK233.out⟩, ⟨be1_ HB GE233⟩⟩
      ·rw [if_neg c7] at H
       exact absurd H (by simp)
     ·rw [if_neg c6] at H
      have c6b0 : decide (0 < ((rd_L11 l1 x6_1).length : Int)) = false := decide_eq_false c6
      have c6b1 : decide (0 < (rd_L11 l1 x6_1).length) = false := decide_eq_false (by omega)
      clear c6
      have H' := Aside0.mk H
      clear H
      have p234 : 0 ≤ (x6_1 : Int) := of_decide_eq_true as_
      have q234 : x6_1 < (l1.length : Int) := of_decide_eq_true as_
      obtain ⟨ad234, A234_0, c234_0, e234, hx234_0, hl234_0, hi234_0⟩ := at_L11 HR1.out x6_1 p234 q234
      cases e234
      try replace hx234_0 := ce_ HB hx234_0
      have HR234_0 := Aside0.mk hi234_0
      have HC234_0 := Aside0.mk hl234_0
      clear hi234_0 hl234_0
      replace p234 := eq_true p234
      replace q234 := eq_true q234
      go_wp2
      go_roundg k1
      case measure => have := HK1.out; omega
      case rel => exact ⟨(x5_1), (wrap64 (x6_1 + 1)), (by first | rfl | (simp; done) | (simp [*]; done)), (by first | rfl | (simp; done) | (simp [*]; done)), H', ⟨by have := HK1.out; omega⟩, ⟨by (with_reducible repeat (first | refine blk_drewN ?_ _ | refine blk_drew ?_ | refine blk_alloc ?_ _)); exact BK233.out⟩, ⟨be1_ HB GE233⟩⟩
    ·rw [if_neg c5] at H
     exact absurd H (by simp)
   ·rw [if_neg c4] at H
    have c4b0 : decide (x6_1 < (l1.length : Int)) = false := decide_eq_false c4
    clear c4
    obtain rfl := Option.some.inj H
    go_wp2
    go_ret
    exact ⟨rf_, be1_ HB GE233⟩

end Go.Proofs.YtdeaccbolnlgpaaDoor.X
