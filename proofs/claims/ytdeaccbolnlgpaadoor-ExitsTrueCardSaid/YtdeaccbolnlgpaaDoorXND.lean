import Derived.Test.YtdeaccbolnlgpaaDoorX0
import Derived.Test.YtdeaccbolnlgpaaDoorXC13
namespace Go.Proofs.YtdeaccbolnlgpaaDoor.X
open Go.RowKit Go.Proofs.YtdeaccbolnlgpaaDoorW.PrintWords Go.Proofs.YtdeaccbolnlgpaaDoorW.PrintLast Go.Proofs.YtdeaccbolnlgpaaDoorW.PrintMore
attribute [local go_sem] max2_int min2_int max_two min_two max_three min_three max_four min_four   -- for this text's walks alone
set_option linter.unusedVariables false
set_option linter.unusedSimpArgs false

/-! ### cottonpadlaw06_choose: function 51 -/
def cottonpadlaw06_choose.f (l0 : List Int) (a1 : Int) : Option (Int) := if (l0.length : Int) = 0 then (some 0) else (if 0 ≤ (Int.tmod a1 (l0.length : Int)) then (if (Int.tmod a1 (l0.length : Int)) < (l0.length : Int) then (some (wrap64 (rd l0 (Int.tmod a1 (l0.length : Int))))) else (none)) else (none))
set_option maxHeartbeats 8000000 in
set_option maxRecDepth 100000 in
theorem cottonpadlaw06_choose.calls (A0 : Option Addr) (c0 : Nat) (l0 : List Int) (a1 : Int) (r : Int) (w : World) (hr0 : Kd.C (Kd.int .u32) w A0 l0.length l0) (hc0 : l0.length ≤ c0) (h : cottonpadlaw06_choose.f l0 a1 = some r) :
  Calls Tryd.prog 51 #[.slice A0 l0.length c0, .int .i64 a1] w fun e w' => e = .returned (.int .i64 r) ∧ Drawn0 w w' := by
 have HR0 := Aside0.mk hr0
 have HC0 := Aside0.mk hc0
 clear hr0 hc0
 have H : (if (l0.length : Int) = 0 then (some 0) else (if 0 ≤ (Int.tmod a1 (l0.length : Int)) then (if (Int.tmod a1 (l0.length : Int)) < (l0.length : Int) then (some (wrap64 (rd l0 (Int.tmod a1 (l0.length : Int))))) else (none)) else (none))) = some r := h
 clear h
 by_cases c3 : (l0.length : Int) = 0
 ·rw [if_pos c3] at H
  have c3b0 : ((l0.length : Int) == 0) = true := beq_iff_eq.mpr c3
  have c3b1 : ((l0.length : Int) != 0) = false := bne_eq_false_iff_eq.mpr c3
  clear c3
  obtain rfl := Option.some.inj H
  go_enter Tryd.func51, Tryd.ntmps51
  go_wp2
  go_ret
  exact ⟨by first | rfl | (simp; done) | (simp [*]; done), by repeat (first | exact Drawn0.refl _ | apply Drawn0.step)⟩
 ·rw [if_neg c3] at H
  have c3b0 : ((l0.length : Int) == 0) = false := beq_eq_false_iff_ne.mpr c3
  have c3b1 : ((l0.length : Int) != 0) = true := bne_iff_ne.mpr c3
  have c3b2 : ¬ (l0 = []) := fun h_ => c3 (by rw [h_]; rfl)
  obtain ⟨ji4, hji4⟩ : ∃ j_ : Int, (Int.tmod a1 (l0.length : Int)) = j_ := ⟨_, rfl⟩
  replace H : (if 0 ≤ (ji4) then (if (ji4) < (l0.length : Int) then (some (wrap64 (rd l0 (ji4)))) else (none)) else (none)) = some r := by first | (rw [hji4] at H; exact H) | (simp only [hji4] at H ⊢; exact H)
  by_cases c5 : 0 ≤ (ji4)
  ·rw [if_pos c5] at H
   have c5b0 : decide (0 ≤ (ji4)) = true := decide_eq_true c5
   clear c5
   by_cases c6 : (ji4) < (l0.length : Int)
   ·rw [if_pos c6] at H
    have c6b0 : decide ((ji4) < (l0.length : Int)) = true := decide_eq_true c6
    clear c6
    obtain rfl := Option.some.inj H
    have p627 : 0 ≤ ((ji4) : Int) := of_decide_eq_true as_
    have q627 : (ji4) < (l0.length : Int) := of_decide_eq_true as_
    obtain ⟨ad627, e627, hx627_0⟩ := Kd.at_int HR0.out (ji4) p627 q627
    cases e627
    replace p627 := eq_true p627
    replace q627 := eq_true q627
    go_enter Tryd.func51, Tryd.ntmps51
    go_wp2
    go_ret
    exact ⟨by first | rfl | (simp; done) | (simp only [← hji4] <;> (first | rfl | simp)) | (simp [*]; done), by repeat (first | exact Drawn0.refl _ | apply Drawn0.step)⟩
   ·rw [if_neg c6] at H
    exact absurd H (by simp)
  ·rw [if_neg c5] at H
   exact absurd H (by simp)

end Go.Proofs.YtdeaccbolnlgpaaDoor.X

namespace Go.Proofs.YtdeaccbolnlgpaaDoor.X
open Go.RowKit Go.Proofs.YtdeaccbolnlgpaaDoorW.PrintWords Go.Proofs.YtdeaccbolnlgpaaDoorW.PrintLast Go.Proofs.YtdeaccbolnlgpaaDoorW.PrintMore
attribute [local go_sem] max2_int min2_int max_two min_two max_three min_three max_four min_four   -- for this text's walks alone
set_option linter.unusedVariables false
set_option linter.unusedSimpArgs false

/-! ### cottonpadlaw06_pick: function 68 -/
def cottonpadlaw06_pick.f (a0_0 : Int) (a0_1 : Int) (a1 : Int) : Option (Int) := if (wrap64 ((wrap64 (a0_1 - a0_0)) + 1)) = 0 then (none) else (some (wrap64 (a0_0 + (Int.tmod a1 (wrap64 ((wrap64 (a0_1 - a0_0)) + 1))))))
set_option maxHeartbeats 8000000 in
set_option maxRecDepth 100000 in
theorem cottonpadlaw06_pick.calls (a0_0 : Int) (a0_1 : Int) (a1 : Int) (r : Int) (w : World) (h : cottonpadlaw06_pick.f a0_0 a0_1 a1 = some r) :
  Calls Tryd.prog 68 #[.agg #[.int .i64 a0_0, .int .i64 a0_1], .int .i64 a1] w fun e w' => e = .returned (.int .i64 r) ∧ Below w.heap.size w w' := by
 have hu36 := Tryd.underlying36
 have HB := Aside0.mk (Below.refl w.heap.size w)
 have H : (if (wrap64 ((wrap64 (a0_1 - a0_0)) + 1)) = 0 then (none) else (some (wrap64 (a0_0 + (Int.tmod a1 (wrap64 ((wrap64 (a0_1 - a0_0)) + 1))))))) = some r := h
 clear h
 by_cases c3 : (wrap64 ((wrap64 (a0_1 - a0_0)) + 1)) = 0
 ·rw [if_pos c3] at H
  exact absurd H (by simp)
 ·rw [if_neg c3] at H
  have c3b0 : ((wrap64 ((wrap64 (a0_1 - a0_0)) + 1)) == 0) = false := beq_eq_false_iff_ne.mpr c3
  have c3b1 : ((wrap64 ((wrap64 (a0_1 - a0_0)) + 1)) != 0) = true := bne_iff_ne.mpr c3
  obtain rfl := Option.some.inj H
  go_enter Tryd.func68, Tryd.ntmps68
  go_wp2_with (first | ((with_reducible refine gate_dst (N := 2) rfl ?_); refine box_event ?hg (N := 2) ?hd (cs := #[.int .i64 a0_0, .int .i64 a0_1]) (t := 36) ?hr ?_; (case hd => rfl); (case hg => rfl); (case hr => exact gs_); intro gb628 hg w4 hbox hb; have BK628 := Aside0.mk (hbox); have GW628 := hl_ hg (be_ HB); have GE628 := hl_ hg (be_ HB); replace HB := bs_ HB hb; clear hb hbox hg; have hcz5_0 : w4.cell? ⟨gb628, 0, none⟩ = some (.int .i64 a0_0) := bc_ BK628 0; have hcz5_1 : w4.cell? ⟨gb628, 1, none⟩ = some (.int .i64 a0_1) := bc_ BK628 1; have hfz5_0 := blk_frozen BK628.out 0; have hfz5_1 := blk_frozen BK628.out 1))
  repeat (go_quiet (first | ((with_reducible refine gate_dst (N := 2) rfl ?_); refine box_event ?hg (N := 2) ?hd (cs := #[.int .i64 a0_0, .int .i64 a0_1]) (t := 36) ?hr ?_; (case hd => rfl); (case hg => rfl); (case hr => exact gs_); intro gb628 hg w4 hbox hb; have BK628 := Aside0.mk (hbox); have GW628 := hl_ hg (be_ HB); have GE628 := hl_ hg (be_ HB); replace HB := bs_ HB hb; clear hb hbox hg; have hcz5_0 : w4.cell? ⟨gb628, 0, none⟩ = some (.int .i64 a0_0) := bc_ BK628 0; have hcz5_1 : w4.cell? ⟨gb628, 1, none⟩ = some (.int .i64 a0_1) := bc_ BK628 1; have hfz5_0 := blk_frozen BK628.out 0; have hfz5_1 := blk_frozen BK628.out 1)); try go_wp2_with (first | ((with_reducible refine gate_dst (N := 2) rfl ?_); refine box_event ?hg (N := 2) ?hd (cs := #[.int .i64 a0_0, .int .i64 a0_1]) (t := 36) ?hr ?_; (case hd => rfl); (case hg => rfl); (case hr => exact gs_); intro gb628 hg w4 hbox hb; have BK628 := Aside0.mk (hbox); have GW628 := hl_ hg (be_ HB); have GE628 := hl_ hg (be_ HB); replace HB := bs_ HB hb; clear hb hbox hg; have hcz5_0 : w4.cell? ⟨gb628, 0, none⟩ = some (.int .i64 a0_0) := bc_ BK628 0; have hcz5_1 : w4.cell? ⟨gb628, 1, none⟩ = some (.int .i64 a0_1) := bc_ BK628 1; have hfz5_0 := blk_frozen BK628.out 0; have hfz5_1 := blk_frozen BK628.out 1)))
  go_ret
  exact ⟨rf_, be1_ HB GE628⟩

end Go.Proofs.YtdeaccbolnlgpaaDoor.X

namespace Go.Proofs.YtdeaccbolnlgpaaDoor.X
open Go.RowKit Go.Proofs.YtdeaccbolnlgpaaDoorW.PrintWords Go.Proofs.YtdeaccbolnlgpaaDoorW.PrintLast Go.Proofs.YtdeaccbolnlgpaaDoorW.PrintMore
attribute [local go_sem] max2_int min2_int max_two min_two max_three min_three max_four min_four   -- for this text's walks alone
set_option linter.unusedVariables false
set_option linter.unusedSimpArgs false

/-! ### cottonpadlaw06_truth: function 37 -/
mutual
def cottonpadlaw06_truth.l0 : Nat → List (S48) → List Int → List Int → List Int → List (S48) → Int → Int → List (S62) → List (S81) → Option (List Int × (List (List Int)) × Bool)
 | 0, _, _, _, _, _, _, _, _, _ => none
 | k + 1, x1, x2, x9, x10, x25, x26, x27, x630000, x630001 => if x27 < x26 then (if 0 ≤ x27 then (if x27 < (x25.length : Int) then ((cottonpadlaw06_choose.f x2 (wrap64 (2 * x27))).bind fun t632 => ((cottonpadlaw06_pick.f ((rd_T48 x25 x27).f1.f0) ((rd_T48 x25 x27).f1.f1) t632).bind fun t633 => (if x9.length < 17592186044416 then ((cottonpadlaw06_choose.f x2 (wrap64 ((wrap64 (2 * x27)) + 1))).bind fun t637 => ((cottonpadlaw06_pick.f ((rd_T48 x25 x27).f2.f0) ((rd_T48 x25 x27).f2.f1) t637).bind fun t638 => (if x10.length < 17592186044416 then (cottonpadlaw06_truth.l0 k x1 x2 (x9 ++ [t633]) (x10 ++ [t638]) x25 x26 (wrap64 (x27 + 1)) x630000 x630001) else (none)))) else (none)))) else (none)) else (none)) else (cottonpadlaw06_truth.l1 k x1 x2 x9 x10 ([] : List Int) x630000 (x630000.length : Int) 0 x630000 x630001)
def cottonpadlaw06_truth.l1 : Nat → List (S48) → List Int → List Int → List Int → List Int → List (S62) → Int → Int → List (S62) → List (S81) → Option (List Int × (List (List Int)) × Bool)
 | 0, _, _, _, _, _, _, _, _, _, _ => none
 | k + 1, x1, x2, x9, x10, x11, x55, x56, x57, x630000, x630001 => if x57 < x56 then (if 0 ≤ x57 then (if x57 < (x55.length : Int) then ((cottonpadlaw06_choose.f x2 (wrap64 (50 + x57))).bind fun t644 => ((cottonpadlaw06_pick.f ((rd_T62 x55 x57).f2.f0) ((rd_T62 x55 x57).f2.f1) t644).bind fun t645 => (if x11.length < 17592186044416 then (cottonpadlaw06_truth.l1 k x1 x2 x9 x10 (x11 ++ [t645]) x55 x56 (wrap64 (x57 + 1)) x630000 x630001) else (none)))) else (none)) else (none)) else ((cottonpadref06_Go.f x630000 x630001 x1 x9 x10 x11).bind fun bt649 => (cottonpadlaw06_truth.l2 k x2 bt649.1 bt649.2 true x1 (x1.length : Int) 0 x630000 x630001))
def cottonpadlaw06_truth.l2 : Nat → List Int → List Int → List (List Int) → Bool → List (S48) → Int → Int → List (S62) → List (S81) → Option (List Int × (List (List Int)) × Bool)
 | 0, _, _, _, _, _, _, _, _, _ => none
 | k + 1, x2, x16, x17, x18, x82, x83, x84, x630000, x630001 => if x84 < x83 then (if 0 ≤ x84 then (if x84 < (x82.length : Int) then (if x18 = true then (if x84 < (x16.length : Int) then (if 0 ≤ ((rd_T48 x82 x84).f0) then (if ((rd_T48 x82 x84).f0) < (x630001.length : Int) then ((cottonpadlaw06_choose.f x2 (wrap64 (60 + ((rd_T48 x82 x84).f0)))).bind fun t659 => ((cottonpadlaw06_pick.f ((rd_T81 x630001 ((rd_T48 x82 x84).f0)).f2.f0) ((rd_T81 x630001 ((rd_T48 x82 x84).f0)).f2.f1) t659).bind fun t660 => (cottonpadlaw06_truth.l2 k x2 x16 x17 (decide ((rd x16 x84) ≤ t660)) x82 x83 (wrap64 (x84 + 1)) x630000 x630001))) else (none)) else (none)) else (none)) else (cottonpadlaw06_truth.l2 k x2 x16 x17 false x82 x83 (wrap64 (x84 + 1)) x630000 x630001)) else (none)) else (none)) else (cottonpadlaw06_truth.l3 k x2 x16 x17 x18 x630000 (x630000.length : Int) 0)
def cottonpadlaw06_truth.l3 : Nat → List Int → List Int → List (List Int) → Bool → List (S62) → Int → Int → Option (List Int × (List (List Int)) × Bool)
 | 0, _, _, _, _, _, _, _ => none
 | k + 1, x2, x16, x17, x18, x112, x113, x114 => if x114 < x113 then (if 0 ≤ x114 then (if x114 < (x112.length : Int) then (if x114 < (x17.length : Int) then (cottonpadlaw06_truth.l4 k x2 x16 x17 x18 x114 x112 x113 x114 (rd_L11 x17 x114) ((rd_L11 x17 x114).length : Int) 0 ((rd_T62 x112 x114).f0) ((rd_T62 x112 x114).f1) ((rd_T62 x112 x114).f2.f0) ((rd_T62 x112 x114).f2.f1) ((rd_T62 x112 x114).f3.f0) ((rd_T62 x112 x114).f3.f1)) else (none)) else (none)) else (none)) else (some (x16, x17, x18))
def cottonpadlaw06_truth.l4 : Nat → List Int → List Int → List (List Int) → Bool → Int → List (S62) → Int → Int → List Int → Int → Int → Int → Int → Int → Int → Int → Int → Option (List Int × (List (List Int)) × Bool)
 | 0, _, _, _, _, _, _, _, _, _, _, _, _, _, _, _, _, _ => none
 | k + 1, x2, x16, x17, x18, x21, x112, x113, x114, x122, x123, x124, x663000, x663001, x663002, x663003, x663004, x663005 => if x124 < x123 then (if 0 ≤ x124 then (if x124 < (x122.length : Int) then (if x18 = true then ((cottonpadlaw06_choose.f x2 (wrap64 (70 + x21))).bind fun t665 => ((cottonpadlaw06_pick.f x663004 x663005 t665).bind fun t666 => (cottonpadlaw06_truth.l4 k x2 x16 x17 (decide ((rd x122 x124) ≤ t666)) x21 x112 x113 x114 x122 x123 (wrap64 (x124 + 1)) x663000 x663001 x663002 x663003 x663004 x663005))) else (cottonpadlaw06_truth.l4 k x2 x16 x17 false x21 x112 x113 x114 x122 x123 (wrap64 (x124 + 1)) x663000 x663001 x663002 x663003 x663004 x663005)) else (none)) else (none)) else (cottonpadlaw06_truth.l3 k x2 x16 x17 x18 x112 x113 (wrap64 (x114 + 1)))
end
def cottonpadlaw06_truth.f (k : Nat) (l0_0 : List (S62)) (l0_1 : List (S81)) (l1 : List (S48)) (l2 : List Int) : Option (List Int × (List (List Int)) × Bool) := cottonpadlaw06_truth.l0 k l1 l2 ([] : List Int) ([] : List Int) l1 (l1.length : Int) 0 l0_0 l0_1
theorem cottonpadlaw06_truth.mono_l : ∀ k, (∀ y0 y1 y2 y3 y4 y5 y6 y7 y8, LeO (cottonpadlaw06_truth.l0 k y0 y1 y2 y3 y4 y5 y6 y7 y8) (cottonpadlaw06_truth.l0 (k + 1) y0 y1 y2 y3 y4 y5 y6 y7 y8)) ∧ (∀ y0 y1 y2 y3 y4 y5 y6 y7 y8 y9, LeO (cottonpadlaw06_truth.l1 k y0 y1 y2 y3 y4 y5 y6 y7 y8 y9) (cottonpadlaw06_truth.l1 (k + 1) y0 y1 y2 y3 y4 y5 y6 y7 y8 y9)) ∧ (∀ y0 y1 y2 y3 y4 y5 y6 y7 y8, LeO (cottonpadlaw06_truth.l2 k y0 y1 y2 y3 y4 y5 y6 y7 y8) (cottonpadlaw06_truth.l2 (k + 1) y0 y1 y2 y3 y4 y5 y6 y7 y8)) ∧ (∀ y0 y1 y2 y3 y4 y5 y6, LeO (cottonpadlaw06_truth.l3 k y0 y1 y2 y3 y4 y5 y6) (cottonpadlaw06_truth.l3 (k + 1) y0 y1 y2 y3 y4 y5 y6)) ∧ (∀ y0 y1 y2 y3 y4 y5 y6 y7 y8 y9 y10 y11 y12 y13 y14 y15 y16, LeO (cottonpadlaw06_truth.l4 k y0 y1 y2 y3 y4 y5 y6 y7 y8 y9 y10 y11 y12 y13 y14 y15 y16) (cottonpadlaw06_truth.l4 (k + 1) y0 y1 y2 y3 y4 y5 y6 y7 y8 y9 y10 y11 y12 y13 y14 y15 y16))
 | 0 => ⟨fun _ _ _ _ _ _ _ _ _ r h => by simp [cottonpadlaw06_truth.l0] at h, fun _ _ _ _ _ _ _ _ _ _ r h => by simp [cottonpadlaw06_truth.l1] at h, fun _ _ _ _ _ _ _ _ _ r h => by simp [cottonpadlaw06_truth.l2] at h, fun _ _ _ _ _ _ _ r h => by simp [cottonpadlaw06_truth.l3] at h, fun _ _ _ _ _ _ _ _ _ _ _ _ _ _ _ _ _ r h => by simp [cottonpadlaw06_truth.l4] at h⟩
 | k + 1 => by
  obtain ⟨ih0, ih1, ih2, ih3, ih4⟩ := cottonpadlaw06_truth.mono_l k
  refine ⟨?_, ?_, ?_, ?_, ?_⟩
  ·intro y0 y1 y2 y3 y4 y5 y6 y7 y8
   unfold cottonpadlaw06_truth.l0
   repeat' (with_reducible first | exact ih0 .. | exact ih1 .. | exact ih2 .. | exact ih3 .. | exact ih4 .. | exact LeO.refl .. | exact LeO.none .. | refine LeO.ite ?_ ?_ | refine LeO.bind ?_ (fun _ => ?_))
  ·intro y0 y1 y2 y3 y4 y5 y6 y7 y8 y9
   unfold cottonpadlaw06_truth.l1
   repeat' (with_reducible first | exact ih0 .. | exact ih1 .. | exact ih2 .. | exact ih3 .. | exact ih4 .. | exact LeO.refl .. | exact LeO.none .. | refine LeO.ite ?_ ?_ | refine LeO.bind ?_ (fun _ => ?_))
  ·intro y0 y1 y2 y3 y4 y5 y6 y7 y8
   unfold cottonpadlaw06_truth.l2
   repeat' (with_reducible first | exact ih0 .. | exact ih1 .. | exact ih2 .. | exact ih3 .. | exact ih4 .. | exact LeO.refl .. | exact LeO.none .. | refine LeO.ite ?_ ?_ | refine LeO.bind ?_ (fun _ => ?_))
  ·intro y0 y1 y2 y3 y4 y5 y6
   unfold cottonpadlaw06_truth.l3
   repeat' (with_reducible first | exact ih0 .. | exact ih1 .. | exact ih2 .. | exact ih3 .. | exact ih4 .. | exact LeO.refl .. | exact LeO.none .. | refine LeO.ite ?_ ?_ | refine LeO.bind ?_ (fun _ => ?_))
  ·intro y0 y1 y2 y3 y4 y5 y6 y7 y8 y9 y10 y11 y12 y13 y14 y15 y16
   unfold cottonpadlaw06_truth.l4
   repeat' (with_reducible first | exact ih0 .. | exact ih1 .. | exact ih2 .. | exact ih3 .. | exact ih4 .. | exact LeO.refl .. | exact LeO.none .. | refine LeO.ite ?_ ?_ | refine LeO.bind ?_ (fun _ => ?_))
theorem cottonpadlaw06_truth.mono : ∀ a0 a1 a2 a3 k, LeO (cottonpadlaw06_truth.f k a0 a1 a2 a3) (cottonpadlaw06_truth.f (k + 1) a0 a1 a2 a3) := by
 intro a0 a1 a2 a3 k
 obtain ⟨ih0, ih1, ih2, ih3, ih4⟩ := cottonpadlaw06_truth.mono_l k
 unfold cottonpadlaw06_truth.f
 repeat' (with_reducible first | exact ih0 .. | exact ih1 .. | exact ih2 .. | exact ih3 .. | exact ih4 .. | exact LeO.refl .. | exact LeO.none .. | refine LeO.ite ?_ ?_ | refine LeO.bind ?_ (fun _ => ?_))
def cottonpadlaw06_truth.T5 : Bool × List (List Nat × List Nat) := (true, [([], []), ([], []), ([1], [1]), ([], []), ([], []), ([4], [4]), ([3, 5], [3, 5]), ([2, 6, 6], [2, 6]), ([7], [7]), ([0, 8, 7], [0, 8]), ([], []), ([], []), ([11], [11]), ([], []), ([], []), ([14], [14]), ([15], [15]), ([13, 16, 9], [13, 16]), ([12, 17, 17], [12, 17]), ([18], [18]), ([10, 19, 18], [10, 19]), ([9, 20, 0, 1, 2, 3, 4, 5, 6, 7, 8, 9], [0, 9]), ([20, 21, 0, 1, 2, 3, 4, 5, 6, 7, 8, 9, 10, 11, 12, 13, 14, 15, 16, 17, 18, 19, 20, 21], [10, 20])])
def cottonpadlaw06_truth.B5 : List Nat := [0, 0, 2, 0, 0, 16, 56, 126, 254, 511, 0, 0, 2048, 0, 0, 16384, 49152, 123903, 261119, 523263, 1048575, 2097151, 4194303]
theorem cottonpadlaw06_truth.tab5 : rtab .any (opsOf Tryd.f37 5) = cottonpadlaw06_truth.T5 := by kernel_rfl
theorem cottonpadlaw06_truth.bits5 : waitsOk cottonpadlaw06_truth.T5.2 cottonpadlaw06_truth.B5 = true := by kernel_rfl
def cottonpadlaw06_truth.T10 : Bool × List (List Nat × List Nat) := (true, [([], []), ([], []), ([1], [1]), ([], []), ([], []), ([4], [4]), ([3, 5], [3, 5]), ([2, 6, 6], [2, 6]), ([7], [7]), ([0, 8, 7], [0, 8]), ([9, 9, 0, 1, 2, 3, 4, 5, 6, 7, 8, 9], [0, 9])])
def cottonpadlaw06_truth.B10 : List Nat := [0, 0, 2, 0, 0, 16, 56, 126, 254, 511, 1023]
theorem cottonpadlaw06_truth.tab10 : rtab .any (opsOf Tryd.f37 10) = cottonpadlaw06_truth.T10 := by kernel_rfl
theorem cottonpadlaw06_truth.bits10 : waitsOk cottonpadlaw06_truth.T10.2 cottonpadlaw06_truth.B10 = true := by kernel_rfl
def cottonpadlaw06_truth.T17 : Bool × List (List Nat × List Nat) := (true, [([], []), ([0], [0]), ([1], [1]), ([1], [1]), ([2, 3, 1], [1, 2, 3]), ([4, 1], [1, 4]), ([1], [1]), ([6, 1], [1, 6]), ([1], [1]), ([8, 1], [1, 8]), ([7, 9, 1], [1, 7, 9]), ([10, 1], [1, 10]), ([11, 1], [1, 11]), ([1], [1]), ([1], [1]), ([14, 1], [1, 14]), ([15, 1], [1, 15]), ([13, 16, 1, 1], [1, 13, 16]), ([12, 17, 17, 1], [1, 12, 17]), ([5, 18, 1], [1, 5, 18]), ([1, 19], [1, 19]), ([20, 18, 0, 1, 2, 3, 4, 5, 6, 7, 8, 9, 10, 11, 12, 13, 14, 15, 16, 17, 18, 19, 20], [0, 20])])
def cottonpadlaw06_truth.B17 : List Nat := [0, 1, 3, 3, 15, 31, 3, 67, 3, 259, 963, 1987, 4035, 3, 3, 16387, 49155, 122883, 262083, 524287, 1048575, 2097151]
theorem cottonpadlaw06_truth.tab17 : rtab .any (opsOf Tryd.f37 17) = cottonpadlaw06_truth.T17 := by kernel_rfl
theorem cottonpadlaw06_truth.bits17 : waitsOk cottonpadlaw06_truth.T17.2 cottonpadlaw06_truth.B17 = true := by kernel_rfl
def cottonpadlaw06_truth.T25 : Bool × List (List Nat × List Nat) := (true, [([], []), ([0], [0]), ([1], [1]), ([1], [1]), ([3, 1], [1, 3]), ([1], [1]), ([1], [1]), ([6, 1], [1, 6]), ([5, 7, 1, 1], [1, 5, 7]), ([4, 8, 8, 1], [1, 4, 8]), ([2, 9, 1], [1, 2, 9]), ([1, 10], [1, 10]), ([11, 9, 0, 1, 2, 3, 4, 5, 6, 7, 8, 9, 10, 11], [0, 11])])
def cottonpadlaw06_truth.B25 : List Nat := [0, 1, 3, 3, 11, 3, 3, 67, 227, 507, 1023, 2047, 4095]
theorem cottonpadlaw06_truth.tab25 : rtab .any (opsOf Tryd.f37 25) = cottonpadlaw06_truth.T25 := by kernel_rfl
theorem cottonpadlaw06_truth.bits25 : waitsOk cottonpadlaw06_truth.T25.2 cottonpadlaw06_truth.B25 = true := by kernel_rfl
set_option maxHeartbeats 8000000 in
set_option maxRecDepth 100000 in
theorem cottonpadlaw06_truth.calls (k : Nat) (A0_0 : Option Addr) (c0_0 : Nat) (l0_0 : List (S62)) (A0_1 : Option Addr) (c0_1 : Nat) (l0_1 : List (S81)) (A1 : Option Addr) (c1 : Nat) (l1 : List (S48)) (A2 : Option Addr) (c2 : Nat) (l2 : List Int) (r1 : List Int) (r2 : List (List Int)) (r3 : Bool) (w : World) (hr0_0 : Kd.C k62 w A0_0 l0_0.length l0_0) (hc0_0 : l0_0.length ≤ c0_0) (hr0_1 : Kd.C k81 w A0_1 l0_1.length l0_1) (hc0_1 : l0_1.length ≤ c0_1) (hr1 : Kd.C k48 w A1 l1.length l1) (hc1 : l1.length ≤ c1) (hr2 : Kd.C (Kd.int .u32) w A2 l2.length l2) (hc2 : l2.length ≤ c2) (h : cottonpadlaw06_truth.f k l0_0 l0_1 l1 l2 = some (r1, r2, r3)) :
  Calls Tryd.prog 37 #[.agg #[.slice A0_0 l0_0.length c0_0, .slice A0_1 l0_1.length c0_1], .slice A1 l1.length c1, .slice A2 l2.length c2] w fun e w' => ∃ v0_ v1_ : Value, e = .returned (.tuple #[v0_, v1_, .bool r3]) ∧ Kd.R (Kd.int .i64) 3 w' w.heap.size (fun _ => True) v0_ r1 ∧ Kd.S (Kd.slice 3 (Kd.int .i64)) 67 w' w.heap.size (fun k_ => some k_ ≠ (v0_ : Value).ownBlock) v1_ r2 ∧ Below w.heap.size w w' := by
 have hu25 := Tryd.underlying25
 have hu48 := Tryd.underlying48
 have hu36 := Tryd.underlying36
 have hu62 := Tryd.underlying62
 have HR0_0 := Aside0.mk hr0_0
 have HC0_0 := Aside0.mk hc0_0
 clear hr0_0 hc0_0
 have HR0_1 := Aside0.mk hr0_1
 have HC0_1 := Aside0.mk hc0_1
 clear hr0_1 hc0_1
 have HR1 := Aside0.mk hr1
 have HC1 := Aside0.mk hc1
 clear hr1 hc1
 have HR2 := Aside0.mk hr2
 have HC2 := Aside0.mk hc2
 clear hr2 hc2
 have HB := Aside0.mk (Below.refl w.heap.size w)
 have H : (cottonpadlaw06_truth.l0 k l1 l2 ([] : List Int) ([] : List Int) l1 (l1.length : Int) 0 l0_0 l0_1) = some (r1, r2, r3) := h
 clear h
 have H' := Aside0.mk H
 clear H
 go_enter Tryd.func37, Tryd.ntmps37
 go_wp2_with (first | ((with_reducible refine gate_dst (N := 3) rfl ?_); refine box_event ?hg (N := 3) ?hd (cs := #[.slice A0_0 l0_0.length c0_0, .slice A0_1 l0_1.length c0_1]) (t := 25) ?hr ?_; (case hd => rfl); (case hg => rfl); (case hr => exact gs_); intro gb629 hg w4 hbox hb; have BK629 := Aside0.mk (hbox); have GW629 := hl_ hg (be_ HB); have GE629 := hl_ hg (be_ HB); replace HB := bs_ HB hb; clear hb hbox hg))
 go_loopg [9, 10, 27] k (fun kq v9 v10 v27 w' => ∃ (x9_1 : List Int) (x10_1 : List Int) (x27_1 : Int), v27 = .int .i64 x27_1 ∧ Aside0 (cottonpadlaw06_truth.l0 kq l1 l2 x9_1 x10_1 l1 (l1.length : Int) x27_1 l0_0 l0_1 = some (r1, r2, r3)) ∧ Aside0 (kq ≤ k) ∧ Aside0 (Kd.R (Kd.int .i64) 3 w' w.heap.size (fun k_ => some k_ ≠ (v10 : Value).ownBlock) v9 x9_1) ∧ Aside0 (Kd.R (Kd.int .i64) 3 w' w.heap.size (fun k_ => some k_ ≠ (v9 : Value).ownBlock) v10 x10_1) ∧ Aside0 (w'.heap[gb629]? = some (.cells #[(.slice A0_0 l0_0.length c0_0), (.slice A0_1 l0_1.length c0_1)] 25 (0, 0))) ∧ Aside0 (Below w.heap.size w w'))
 case atStart => exact ⟨(([] : List Int)), (([] : List Int)), (0), (by first | rfl | (simp; done) | (simp [*]; done)), H', ⟨Nat.le_refl _⟩, ⟨by first | exact Kd.R_nil _ _ _ _ _ | exact Kd.N_nil _ _ _ _ _ | exact Kd.V_nil _ _ _ _ _ | exact Kd.Q_nil _ _ _ _ _ | exact Kd.S_nil _ _ _ _ _⟩, ⟨by first | exact Kd.R_nil _ _ _ _ _ | exact Kd.N_nil _ _ _ _ _ | exact Kd.V_nil _ _ _ _ _ | exact Kd.Q_nil _ _ _ _ _ | exact Kd.S_nil _ _ _ _ _⟩, ⟨by refine bx_ ?_; exact BK629.out⟩, ⟨be1_ HB GE629⟩⟩
 case round =>
  clear H'
  try clear c1
  try clear c2
  try clear p2
  try clear c3
  obtain ⟨x9_1, x10_1, x27_1, rfl, HA, HK1, HO_9, HO_10, BK629, HB⟩ := hrel
  cases gk with
  | zero => exact absurd HA.out (by simp [cottonpadlaw06_truth.l0])
  | succ k1 =>
   have H := HA.out
   clear HA
   simp only [cottonpadlaw06_truth.l0] at H
   by_cases c5 : x27_1 < (l1.length : Int)
   ·rw [if_pos c5] at H
    have c5b0 : decide (x27_1 < (l1.length : Int)) = true := decide_eq_true c5
    clear c5
    by_cases c6 : 0 ≤ x27_1
    ·rw [if_pos c6] at H
     have c6b0 : decide (0 ≤ x27_1) = true := decide_eq_true c6
     clear c6
     by_cases c7 : x27_1 < (l1.length : Int)
     ·rw [if_pos c7] at H
      have c7b0 : decide (x27_1 < (l1.length : Int)) = true := decide_eq_true c7
      clear c7
      replace H := Option.bind_eq_some_iff.mp H
      obtain ⟨t632, A80, H⟩ := H
      replace H : ((cottonpadlaw06_pick.f ((rd_T48 l1 x27_1).f1.f0) ((rd_T48 l1 x27_1).f1.f1) t632).bind fun t633 => (if x9_1.length < 17592186044416 then ((cottonpadlaw06_choose.f l2 (wrap64 ((wrap64 (2 * x27_1)) + 1))).bind fun t637 => ((cottonpadlaw06_pick.f ((rd_T48 l1 x27_1).f2.f0) ((rd_T48 l1 x27_1).f2.f1) t637).bind fun t638 => (if x10_1.length < 17592186044416 then (cottonpadlaw06_truth.l0 k1 l1 l2 (x9_1 ++ [t633]) (x10_1 ++ [t638]) l1 (l1.length : Int) (wrap64 (x27_1 + 1)) l0_0 l0_1) else (none)))) else (none))) = some (r1, r2, r3) := H
      have A8 := Aside0.mk A80
      clear A80
      replace H := Option.bind_eq_some_iff.mp H
      obtain ⟨t633, A90, H⟩ := H
      replace H : (if x9_1.length < 17592186044416 then ((cottonpadlaw06_choose.f l2 (wrap64 ((wrap64 (2 * x27_1)) + 1))).bind fun t637 => ((cottonpadlaw06_pick.f ((rd_T48 l1 x27_1).f2.f0) ((rd_T48 l1 x27_1).f2.f1) t637).bind fun t638 => (if x10_1.length < 17592186044416 then (cottonpadlaw06_truth.l0 k1 l1 l2 (x9_1 ++ [t633]) (x10_1 ++ [t638]) l1 (l1.length : Int) (wrap64 (x27_1 + 1)) l0_0 l0_1) else (none)))) else (none)) = some (r1, r2, r3) := H
      have A9 := Aside0.mk A90
      clear A90
      by_cases c10 : x9_1.length < 17592186044416
      ·rw [if_pos c10] at H
       have LMc10 := Aside0.mk c10
       clear c10
       obtain ⟨y634, hy634⟩ : ∃ y_ : List Int, y_ = (x9_1 ++ [t633]) := ⟨_, rfl⟩
       replace H : ((cottonpadlaw06_choose.f l2 (wrap64 ((wrap64 (2 * x27_1)) + 1))).bind fun t637 => ((cottonpadlaw06_pick.f ((rd_T48 l1 x27_1).f2.f0) ((rd_T48 l1 x27_1).f2.f1) t637).bind fun t638 => (if x10_1.length < 17592186044416 then (cottonpadlaw06_truth.l0 k1 l1 l2 y634 (x10_1 ++ [t638]) l1 (l1.length : Int) (wrap64 (x27_1 + 1)) l0_0 l0_1) else (none)))) = some (r1, r2, r3) := by first | (rw [hy634]; with_reducible exact H) | (have H2_ := (Option.bind_some _ _).symm.trans H; rw [hy634]; with_reducible exact H2_) | (have H2_ := (Option.bind_some _ _).symm.trans H; with_reducible exact H2_) | with_reducible exact H | (rw [hy634]; exact H) | exact H
       have Ny634 := Aside0.mk hy634
       clear hy634
       replace H := Option.bind_eq_some_iff.mp H
       obtain ⟨t637, A110, H⟩ := H
       replace H : ((cottonpadlaw06_pick.f ((rd_T48 l1 x27_1).f2.f0) ((rd_T48 l1 x27_1).f2.f1) t637).bind fun t638 => (if x10_1.length < 17592186044416 then (cottonpadlaw06_truth.l0 k1 l1 l2 y634 (x10_1 ++ [t638]) l1 (l1.length : Int) (wrap64 (x27_1 + 1)) l0_0 l0_1) else (none))) = some (r1, r2, r3) := H
       have A11 := Aside0.mk A110
       clear A110
       replace H := Option.bind_eq_some_iff.mp H
       obtain ⟨t638, A120, H⟩ := H
       replace H : (if x10_1.length < 17592186044416 then (cottonpadlaw06_truth.l0 k1 l1 l2 y634 (x10_1 ++ [t638]) l1 (l1.length : Int) (wrap64 (x27_1 + 1)) l0_0 l0_1) else (none)) = some (r1, r2, r3) := H
       have A12 := Aside0.mk A120
       clear A120
       by_cases c13 : x10_1.length < 17592186044416
       ·rw [if_pos c13] at H
        have LMc13 := Aside0.mk c13
        clear c13
        obtain ⟨y639, hy639⟩ : ∃ y_ : List Int, y_ = (x10_1 ++ [t638]) := ⟨_, rfl⟩
        replace H : (cottonpadlaw06_truth.l0 k1 l1 l2 y634 y639 l1 (l1.length : Int) (wrap64 (x27_1 + 1)) l0_0 l0_1) = some (r1, r2, r3) := by first | (rw [hy639]; with_reducible exact H) | (have H2_ := (Option.bind_some _ _).symm.trans H; rw [hy639]; with_reducible exact H2_) | (have H2_ := (Option.bind_some _ _).symm.trans H; with_reducible exact H2_) | with_reducible exact H | (rw [hy639]; exact H) | exact H
        have Ny639 := Aside0.mk hy639
        clear hy639
        have H' := Aside0.mk H
        clear H
        have p630 : 0 ≤ (x27_1 : Int) := of_decide_eq_true as_
        have q630 : x27_1 < (l1.length : Int) := of_decide_eq_true as_
        obtain ⟨ad630, e630, hx630_0, hx630_1, hx630_2, hx630_3, hx630_4⟩ := at_T48 HR1.out x27_1 p630 q630
        cases e630
        try replace hx630_0 := ce_ HB hx630_0
        try replace hx630_1 := ce_ HB hx630_1
        try replace hx630_2 := ce_ HB hx630_2
        try replace hx630_3 := ce_ HB hx630_3
        try replace hx630_4 := ce_ HB hx630_4
        replace p630 := eq_true p630
        replace q630 := eq_true q630
        try go_wp2_with (first | ((with_reducible refine gate_dst (N := 13) rfl ?_); refine box_event ?hg (N := 13) ?hd (cs := #[.int .i64 0, .int .i64 0, .int .i64 0, .int .i64 0, .int .i64 0]) (t := 48) ?hr ?_; (case hd => rfl); (case hg => rfl); (case hr => exact gs_); intro gb631 hg w14 hbox hb; replace HO_9 := rb_ HO_9 hb; replace HO_10 := rb_ HO_10 hb; have BK631 := Aside0.mk (hbox); have GW631 := hl_ hg (be1_ HB GE629); have GE631 := hl_ hg (be1_ HB GE629); replace HB := bs1_ HB GE629 hb; have NB629_631 := Aside0.mk ((by rw [hg]; exact Nat.ne_of_lt (blk_lt (bk_ BK629)) : gb629 ≠ gb631)); have NB631_629 := Aside0.mk ((by rw [hg]; exact Nat.ne_of_gt (blk_lt (bk_ BK629)) : gb631 ≠ gb629)); replace BK629 := bb_ BK629 hb; clear hb hbox hg; have hnb15 := NB631_629.out; have hnc15 := NB629_631.out; have hcz16_0 : w14.cell? ⟨gb631, 0, none⟩ = some (.int .i64 0) := bc_ BK631 0; have hcz16_1 : w14.cell? ⟨gb631, 1, none⟩ = some (.int .i64 0) := bc_ BK631 1; have hcz16_2 : w14.cell? ⟨gb631, 2, none⟩ = some (.int .i64 0) := bc_ BK631 2; have hcz16_3 : w14.cell? ⟨gb631, 3, none⟩ = some (.int .i64 0) := bc_ BK631 3; have hcz16_4 : w14.cell? ⟨gb631, 4, none⟩ = some (.int .i64 0) := bc_ BK631 4; have hfz16_0 := blk_frozen BK631.out 0; have hfz16_1 := blk_frozen BK631.out 1; have hfz16_2 := blk_frozen BK631.out 2; have hfz16_3 := blk_frozen BK631.out 3; have hfz16_4 := blk_frozen BK631.out 4))
        have n0_ : Aside0 (Kd.R (Kd.int .i64) 3 (((((w14.setCell ⟨gb631, 0, none⟩ (.int .i64 ((rd_T48 l1 x27_1).f0))).setCell ⟨gb631, 1, none⟩ (.int .i64 ((rd_T48 l1 x27_1).f1.f0))).setCell ⟨gb631, 2, none⟩ (.int .i64 ((rd_T48 l1 x27_1).f1.f1))).setCell ⟨gb631, 3, none⟩ (.int .i64 ((rd_T48 l1 x27_1).f2.f0))).setCell ⟨gb631, 4, none⟩ (.int .i64 ((rd_T48 l1 x27_1).f2.f1))) w.heap.size (fun k_ => some k_ ≠ (u10 : Value).ownBlock) u9 x9_1) := ⟨by (with_reducible repeat (first | apply Kd.R_alloc | apply Kd.R_drewN | apply Kd.R_drew)); exact Kd.R_mono (Kd.R_far (p := ⟨gb631, 4, none⟩) (Kd.R_far (p := ⟨gb631, 3, none⟩) (Kd.R_far (p := ⟨gb631, 2, none⟩) (Kd.R_far (p := ⟨gb631, 1, none⟩) (Kd.R_far (p := ⟨gb631, 0, none⟩) (Kd.R_types HO_9.out BK631.out (by decide)) (fun _ hk => hk.2) (.int .i64 ((rd_T48 l1 x27_1).f0))) (fun _ hk => hk.2) (.int .i64 ((rd_T48 l1 x27_1).f1.f0))) (fun _ hk => hk.2) (.int .i64 ((rd_T48 l1 x27_1).f1.f1))) (fun _ hk => hk.2) (.int .i64 ((rd_T48 l1 x27_1).f2.f0))) (fun _ hk => hk.2) (.int .i64 ((rd_T48 l1 x27_1).f2.f1))) (fun _ hk => hk.1)⟩
        have n1_ : Aside0 (Kd.R (Kd.int .i64) 3 (((((w14.setCell ⟨gb631, 0, none⟩ (.int .i64 ((rd_T48 l1 x27_1).f0))).setCell ⟨gb631, 1, none⟩ (.int .i64 ((rd_T48 l1 x27_1).f1.f0))).setCell ⟨gb631, 2, none⟩ (.int .i64 ((rd_T48 l1 x27_1).f1.f1))).setCell ⟨gb631, 3, none⟩ (.int .i64 ((rd_T48 l1 x27_1).f2.f0))).setCell ⟨gb631, 4, none⟩ (.int .i64 ((rd_T48 l1 x27_1).f2.f1))) w.heap.size (fun k_ => some k_ ≠ (u9 : Value).ownBlock) u10 x10_1) := ⟨by (with_reducible repeat (first | apply Kd.R_alloc | apply Kd.R_drewN | apply Kd.R_drew)); exact Kd.R_mono (Kd.R_far (p := ⟨gb631, 4, none⟩) (Kd.R_far (p := ⟨gb631, 3, none⟩) (Kd.R_far (p := ⟨gb631, 2, none⟩) (Kd.R_far (p := ⟨gb631, 1, none⟩) (Kd.R_far (p := ⟨gb631, 0, none⟩) (Kd.R_types HO_10.out BK631.out (by decide)) (fun _ hk => hk.2) (.int .i64 ((rd_T48 l1 x27_1).f0))) (fun _ hk => hk.2) (.int .i64 ((rd_T48 l1 x27_1).f1.f0))) (fun _ hk => hk.2) (.int .i64 ((rd_T48 l1 x27_1).f1.f1))) (fun _ hk => hk.2) (.int .i64 ((rd_T48 l1 x27_1).f2.f0))) (fun _ hk => hk.2) (.int .i64 ((rd_T48 l1 x27_1).f2.f1))) (fun _ hk => hk.1)⟩
        have n2_ : Aside0 ((((((w14.setCell ⟨gb631, 0, none⟩ (.int .i64 ((rd_T48 l1 x27_1).f0))).setCell ⟨gb631, 1, none⟩ (.int .i64 ((rd_T48 l1 x27_1).f1.f0))).setCell ⟨gb631, 2, none⟩ (.int .i64 ((rd_T48 l1 x27_1).f1.f1))).setCell ⟨gb631, 3, none⟩ (.int .i64 ((rd_T48 l1 x27_1).f2.f0))).setCell ⟨gb631, 4, none⟩ (.int .i64 ((rd_T48 l1 x27_1).f2.f1))).heap[gb629]? = some (.cells #[.slice A0_0 l0_0.length c0_0, .slice A0_1 l0_1.length c0_1] 25 (0, 0))) := ⟨by refine bx_ ?_; refine blk_far ?_ NB629_631.out _; refine bx_ ?_; refine blk_far ?_ NB629_631.out _; refine bx_ ?_; refine blk_far ?_ NB629_631.out _; refine bx_ ?_; refine blk_far ?_ NB629_631.out _; refine bx_ ?_; refine blk_far ?_ NB629_631.out _; refine bx_ ?_; exact BK629.out⟩
        have n3_ : Aside0 ((((((w14.setCell ⟨gb631, 0, none⟩ (.int .i64 ((rd_T48 l1 x27_1).f0))).setCell ⟨gb631, 1, none⟩ (.int .i64 ((rd_T48 l1 x27_1).f1.f0))).setCell ⟨gb631, 2, none⟩ (.int .i64 ((rd_T48 l1 x27_1).f1.f1))).setCell ⟨gb631, 3, none⟩ (.int .i64 ((rd_T48 l1 x27_1).f2.f0))).setCell ⟨gb631, 4, none⟩ (.int .i64 ((rd_T48 l1 x27_1).f2.f1))).heap[gb631]? = some (.cells #[.int .i64 ((rd_T48 l1 x27_1).f0), .int .i64 ((rd_T48 l1 x27_1).f1.f0), .int .i64 ((rd_T48 l1 x27_1).f1.f1), .int .i64 ((rd_T48 l1 x27_1).f2.f0), .int .i64 ((rd_T48 l1 x27_1).f2.f1)] 48 (0, 0))) := ⟨by refine bx_ ?_; refine blk_put (cs := #[.int .i64 ((rd_T48 l1 x27_1).f0), .int .i64 ((rd_T48 l1 x27_1).f1.f0), .int .i64 ((rd_T48 l1 x27_1).f1.f1), .int .i64 ((rd_T48 l1 x27_1).f2.f0), .int .i64 0]) ?_ 4 _ rfl; refine bx_ ?_; refine blk_put (cs := #[.int .i64 ((rd_T48 l1 x27_1).f0), .int .i64 ((rd_T48 l1 x27_1).f1.f0), .int .i64 ((rd_T48 l1 x27_1).f1.f1), .int .i64 0, .int .i64 0]) ?_ 3 _ rfl; refine bx_ ?_; refine blk_put (cs := #[.int .i64 ((rd_T48 l1 x27_1).f0), .int .i64 ((rd_T48 l1 x27_1).f1.f0), .int .i64 0, .int .i64 0, .int .i64 0]) ?_ 2 _ rfl; refine bx_ ?_; refine blk_put (cs := #[.int .i64 ((rd_T48 l1 x27_1).f0), .int .i64 0, .int .i64 0, .int .i64 0, .int .i64 0]) ?_ 1 _ rfl; refine bx_ ?_; refine blk_put (cs := #[.int .i64 0, .int .i64 0, .int .i64 0, .int .i64 0, .int .i64 0]) ?_ 0 _ rfl; refine bx_ ?_; exact BK631.out⟩
        have n4_ : Aside0 (Below w.heap.size w (((((w14.setCell ⟨gb631, 0, none⟩ (.int .i64 ((rd_T48 l1 x27_1).f0))).setCell ⟨gb631, 1, none⟩ (.int .i64 ((rd_T48 l1 x27_1).f1.f0))).setCell ⟨gb631, 2, none⟩ (.int .i64 ((rd_T48 l1 x27_1).f1.f1))).setCell ⟨gb631, 3, none⟩ (.int .i64 ((rd_T48 l1 x27_1).f2.f0))).setCell ⟨gb631, 4, none⟩ (.int .i64 ((rd_T48 l1 x27_1).f2.f1)))) := ⟨be2_ HB GE629 GE631⟩
        (try clear HO_9)
        (try clear HO_10)
        (try clear BK629)
        (try clear BK631)
        (try clear HB)
        generalize (((((w14.setCell ⟨gb631, 0, none⟩ (.int .i64 ((rd_T48 l1 x27_1).f0))).setCell ⟨gb631, 1, none⟩ (.int .i64 ((rd_T48 l1 x27_1).f1.f0))).setCell ⟨gb631, 2, none⟩ (.int .i64 ((rd_T48 l1 x27_1).f1.f1))).setCell ⟨gb631, 3, none⟩ (.int .i64 ((rd_T48 l1 x27_1).f2.f0))).setCell ⟨gb631, 4, none⟩ (.int .i64 ((rd_T48 l1 x27_1).f2.f1))) = w17 at n0_ n1_ n2_ n3_ n4_ ⊢
        have HO_9 := n0_
        have HO_10 := n1_
        have BK629 := n2_
        have BK631 := n3_
        have HB := n4_
        clear n0_ n1_ n2_ n3_ n4_
        replace HO_9 := Aside0.mk (Kd.R_drew HO_9.out)
        replace HO_10 := Aside0.mk (Kd.R_drew HO_10.out)
        replace BK629 := Aside0.mk (blk_drew BK629.out)
        replace BK631 := Aside0.mk (blk_drew BK631.out)
        replace HB := Aside0.mk (below_drew1 HB.out)
        refine start_ (n := 23) (S := fun w' => w'.cell? ⟨gb631, 0, none⟩ = some (.int .i64 ((rd_T48 l1 x27_1).f0)) ∧ w'.cell? ⟨gb631, 1, none⟩ = some (.int .i64 ((rd_T48 l1 x27_1).f1.f0)) ∧ w'.cell? ⟨gb631, 2, none⟩ = some (.int .i64 ((rd_T48 l1 x27_1).f1.f1)) ∧ w'.cell? ⟨gb631, 3, none⟩ = some (.int .i64 ((rd_T48 l1 x27_1).f2.f0)) ∧ w'.cell? ⟨gb631, 4, none⟩ = some (.int .i64 ((rd_T48 l1 x27_1).f2.f1))) (ds := []) (bm_ 23 0) (by kernel_rfl) rfl rfl ⟨bc_ BK631 0, bc_ BK631 1, bc_ BK631 2, bc_ BK631 3, bc_ BK631 4⟩ (fun hHeld => ?_); refine with_tabW cottonpadlaw06_truth.tab5 cottonpadlaw06_truth.bits5 (fun HT_ HW_ => ?_)
        generalize w17.drew = w18 at HO_9 HO_10 BK629 BK631 HB hHeld ⊢
        refine pr_ 0 32 23 1 HT_ rfl rfl ?_
        refine pr_ 1 33 23 3 HT_ rfl rfl ?_
        refine pr_ 3 35 23 11 HT_ rfl rfl ?_
        refine pr_ 4 36 23 27 HT_ rfl rfl ?_
        refine pr_ 5 37 23 59 HT_ rfl rfl ?_
        refine pr_ 10 42 23 1083 HT_ rfl rfl ?_
        refine pr_ 11 43 23 3131 HT_ rfl rfl ?_
        refine pr_ 13 45 23 11323 HT_ rfl rfl ?_
        refine pr_ 14 46 23 27707 HT_ rfl rfl ?_
        refine pr_ 15 47 23 60475 HT_ rfl rfl ?_
        refine pr_ 16 48 23 126011 HT_ rfl rfl ?_
        refine ta_ 2 34 23 126015 HT_ HW_ rfl rfl hHeld ?_
        refine ta_ 12 44 23 130111 HT_ HW_ rfl rfl hHeld ?_
        refine one_ (i := 6) (N := some 38) (bm_ 23 130175) rfl rfl (one_of HT_.out (by kernel_rfl)) (by decide) (fun K hK => ?_)
        refine goes_ Tryd.func51 (by kernel_rfl) rfl #[.slice A2 l2.length c2, .int .i64 (wrap64 (2 * x27_1))] (by rfl) rfl rfl ls_ ?_
        with_reducible refine (cottonpadlaw06_choose.calls _ _ l2 (wrap64 (2 * x27_1)) t632 _ ?side1 ?side2 A8.out).mono ?_
        (case side1 => exact kc_ HR2 HB)
        (case side2 => exact HC2.out)
        rintro e w' ⟨rfl, ⟨nd, rfl⟩⟩
        refine ⟨_, rfl, ?_⟩
        refine hK.out _ _ ⟨bc_ BK631 0, bc_ BK631 1, bc_ BK631 2, bc_ BK631 3, bc_ BK631 4⟩ (fun hHeld => ?_)
        clear hK K
        refine norm_ (a' := ?_) ?_ ?_
        rotate_left
        ·show Act.put _ (some 38) _ = _
         simp only [Act.put, List.setIfInBounds_toArray, List.set_cons_zero, List.set_cons_succ, i64_w, i32_w]
         rfl
        refine one_ (i := 7) (N := some 39) (bm_ 23 130303) rfl rfl (one_of HT_.out (by kernel_rfl)) (by decide) (fun K hK => ?_)
        refine goes_ Tryd.func68 (by kernel_rfl) rfl #[.agg #[.int .i64 ((rd_T48 l1 x27_1).f1.f0), .int .i64 ((rd_T48 l1 x27_1).f1.f1)], .int .i64 t632] (by rfl) rfl rfl ls_ ?_
        with_reducible refine (cottonpadlaw06_pick.calls ((rd_T48 l1 x27_1).f1.f0) ((rd_T48 l1 x27_1).f1.f1) t632 t633 _ A9.out).mono ?_
        rintro e w19 ⟨rfl, hb⟩
        refine ⟨_, rfl, ?_⟩
        replace HO_9 := rb_ HO_9 hb
        replace HO_10 := rb_ HO_10 hb
        replace BK629 := bb_ BK629 hb
        replace BK631 := bb_ BK631 hb
        replace HB := bs2_ HB GE629 GE631 hb
        (try clear hb)
        (try clear hb2)
        (try clear hk)
        (try clear hi)
        refine hK.out _ _ ⟨bc_ BK631 0, bc_ BK631 1, bc_ BK631 2, bc_ BK631 3, bc_ BK631 4⟩ (fun hHeld => ?_)
        clear hK K
        refine norm_ (a' := ?_) ?_ ?_
        rotate_left
        ·show Act.put _ (some 39) _ = _
         simp only [Act.put, List.setIfInBounds_toArray, List.set_cons_zero, List.set_cons_succ, i64_w, i32_w]
         rfl
        refine one_ (i := 8) (N := some 40) (bm_ 23 130559) rfl rfl (one_of HT_.out (by kernel_rfl)) (by decide) (fun K hK => ?_)
        refine value_ (w1 := ?_) (v := ?_) (by rfl) rfl ?_ ?_
        rotate_left 2
        ·go_simp
         constructor
         ·rfl
         ·rfl
        refine hK.out _ _ ⟨(blk_cell (blk_alloc BK631.out _) 0).trans rfl, (blk_cell (blk_alloc BK631.out _) 1).trans rfl, (blk_cell (blk_alloc BK631.out _) 2).trans rfl, (blk_cell (blk_alloc BK631.out _) 3).trans rfl, (blk_cell (blk_alloc BK631.out _) 4).trans rfl⟩ (fun hHeld => ?_)
        clear hK K
        refine norm_ (a' := ?_) ?_ ?_
        rotate_left
        ·show Act.put _ (some 40) _ = _
         simp only [Act.put, List.setIfInBounds_toArray, List.set_cons_zero, List.set_cons_succ, i64_w, i32_w]
         rfl
        refine one_ (i := 9) (N := some 41) (bm_ 23 131071) rfl rfl (one_of HT_.out (by kernel_rfl)) (by decide) (fun K hK => ?_)
        refine Kd.R_append_step (Kd.int .i64) (w0 := w) w.heap.size (by rfl) (.tmp 32) (.tmp 40) 67 3 (.int .i64 0) 8 rfl Tryd.underlying67 info3 rfl (by decide) (by omega) u9 x9_1 t633 [.int .i64 t633] (fun k_ => some k_ ≠ (u10 : Value).ownBlock) (fun _ => False) rfl rfl ?aP (fun _ hk => hk.elim) ?aF ?aO ?aB ?aS ?aL ?_
        (case aP => exact rfl)
        (case aB => exact (be2_ HB GE629 GE631))
        (case aF => exact (fun k_ hk => Kd.fresh' (Kd.R_lt (ro_ HO_10)) k_ hk))
        (case aO => exact (ro_ HO_9))
        (case aS => exact (below_size (be2_ HB GE629 GE631)))
        (case aL => have := LMc10.out; omega)
        intro v635 w20 ho hb hg hat
        rw [← Ny634.out] at ho
        replace HO_10 := Aside0.mk (Kd.R_after (ok := (fun _ => True)) (by (with_reducible repeat (first | apply Kd.R_alloc | apply Kd.R_drewN | apply Kd.R_drew)); exact Kd.R_mono HO_10.out (fun _ hk => ⟨trivial, hk⟩)) hg hat)
        replace BK629 := Aside0.mk (blk_grown (g := gb629) (o := .cells #[.slice A0_0 l0_0.length c0_0, .slice A0_1 l0_1.length c0_1] 25 (0, 0)) (bk_ BK629) hg (Kd.R_ne HO_9.out BK629.out (by decide)))
        replace BK631 := Aside0.mk (blk_grown (g := gb631) (o := .cells #[.int .i64 ((rd_T48 l1 x27_1).f0), .int .i64 ((rd_T48 l1 x27_1).f1.f0), .int .i64 ((rd_T48 l1 x27_1).f1.f1), .int .i64 ((rd_T48 l1 x27_1).f2.f0), .int .i64 ((rd_T48 l1 x27_1).f2.f1)] 48 (0, 0)) (bk_ BK631) hg (Kd.R_ne HO_9.out BK631.out (by decide)))
        replace HB := Aside0.mk (hb)
        have HO636 := Aside0.mk (ho)
        clear HO_9
        clear ho hb hg hat
        refine hK.out _ _ ⟨bc_ BK631 0, bc_ BK631 1, bc_ BK631 2, bc_ BK631 3, bc_ BK631 4⟩ (fun hHeld => ?_)
        clear hK K
        refine norm_ (a' := ?_) ?_ ?_
        rotate_left
        ·show Act.put _ (some 41) _ = _
         simp only [Act.put, List.setIfInBounds_toArray, List.set_cons_zero, List.set_cons_succ, i64_w, i32_w]
         rfl
        refine one_ (i := 17) (N := some 49) (bm_ 23 262143) rfl rfl (one_of HT_.out (by kernel_rfl)) (by decide) (fun K hK => ?_)
        refine goes_ Tryd.func51 (by kernel_rfl) rfl #[.slice A2 l2.length c2, .int .i64 (wrap64 ((wrap64 (2 * x27_1)) + 1))] (by rfl) rfl rfl ls_ ?_
        with_reducible refine (cottonpadlaw06_choose.calls _ _ l2 (wrap64 ((wrap64 (2 * x27_1)) + 1)) t637 _ ?side1 ?side2 A11.out).mono ?_
        (case side1 => exact kc_ HR2 HB)
        (case side2 => exact HC2.out)
        rintro e w' ⟨rfl, ⟨nd, rfl⟩⟩
        refine ⟨_, rfl, ?_⟩
        refine hK.out _ _ ⟨bc_ BK631 0, bc_ BK631 1, bc_ BK631 2, bc_ BK631 3, bc_ BK631 4⟩ (fun hHeld => ?_)
        clear hK K
        refine norm_ (a' := ?_) ?_ ?_
        rotate_left
        ·show Act.put _ (some 49) _ = _
         simp only [Act.put, List.setIfInBounds_toArray, List.set_cons_zero, List.set_cons_succ, i64_w, i32_w]
         rfl
        refine one_ (i := 18) (N := some 50) (bm_ 23 524287) rfl rfl (one_of HT_.out (by kernel_rfl)) (by decide) (fun K hK => ?_)
        refine goes_ Tryd.func68 (by kernel_rfl) rfl #[.agg #[.int .i64 ((rd_T48 l1 x27_1).f2.f0), .int .i64 ((rd_T48 l1 x27_1).f2.f1)], .int .i64 t637] (by rfl) rfl rfl ls_ ?_
        with_reducible refine (cottonpadlaw06_pick.calls ((rd_T48 l1 x27_1).f2.f0) ((rd_T48 l1 x27_1).f2.f1) t637 t638 _ A12.out).mono ?_
        rintro e w21 ⟨rfl, hb⟩
        refine ⟨_, rfl, ?_⟩
        replace HO_10 := rb_ HO_10 hb
        replace HO636 := rb_ HO636 hb
        replace BK629 := bb_ BK629 hb
        replace BK631 := bb_ BK631 hb
        replace HB := bs2_ HB GE629 GE631 hb
        (try clear hb)
        (try clear hb2)
        (try clear hk)
        (try clear hi)
        refine hK.out _ _ ⟨bc_ BK631 0, bc_ BK631 1, bc_ BK631 2, bc_ BK631 3, bc_ BK631 4⟩ (fun hHeld => ?_)
        clear hK K
        refine norm_ (a' := ?_) ?_ ?_
        rotate_left
        ·show Act.put _ (some 50) _ = _
         simp only [Act.put, List.setIfInBounds_toArray, List.set_cons_zero, List.set_cons_succ, i64_w, i32_w]
         rfl
        refine one_ (i := 19) (N := some 51) (bm_ 23 1048575) rfl rfl (one_of HT_.out (by kernel_rfl)) (by decide) (fun K hK => ?_)
        refine value_ (w1 := ?_) (v := ?_) (by rfl) rfl ?_ ?_
        rotate_left 2
        ·go_simp
         constructor
         ·rfl
         ·rfl
        refine hK.out _ _ ⟨(blk_cell (blk_alloc BK631.out _) 0).trans rfl, (blk_cell (blk_alloc BK631.out _) 1).trans rfl, (blk_cell (blk_alloc BK631.out _) 2).trans rfl, (blk_cell (blk_alloc BK631.out _) 3).trans rfl, (blk_cell (blk_alloc BK631.out _) 4).trans rfl⟩ (fun hHeld => ?_)
        clear hK K
        refine norm_ (a' := ?_) ?_ ?_
        rotate_left
        ·show Act.put _ (some 51) _ = _
         simp only [Act.put, List.setIfInBounds_toArray, List.set_cons_zero, List.set_cons_succ, i64_w, i32_w]
         rfl
        refine one_ (i := 20) (N := some 52) (bm_ 23 2097151) rfl rfl (one_of HT_.out (by kernel_rfl)) (by decide) (fun K hK => ?_)
        refine Kd.R_append_step (Kd.int .i64) (w0 := w) w.heap.size (by rfl) (.tmp 42) (.tmp 51) 67 3 (.int .i64 0) 8 rfl Tryd.underlying67 info3 rfl (by decide) (by omega) u10 x10_1 t638 [.int .i64 t638] (fun k_ => some k_ ≠ (v635 : Value).ownBlock) (fun _ => False) rfl rfl ?aP (fun _ hk => hk.elim) ?aF ?aO ?aB ?aS ?aL ?_
        (case aP => exact rfl)
        (case aB => exact (be2_ HB GE629 GE631))
        (case aF => exact (fun k_ hk => Kd.fresh' (Kd.R_lt (ro_ HO636)) k_ hk))
        (case aO => exact (by (with_reducible repeat (first | apply Kd.R_alloc | apply Kd.R_drewN | apply Kd.R_drew)); exact Kd.R_mono HO_10.out (fun _ hk => hk.2)))
        (case aS => exact (below_size (be2_ HB GE629 GE631)))
        (case aL => have := LMc13.out; omega)
        intro v640 w22 ho hb hg hat
        rw [← Ny639.out] at ho
        replace BK629 := Aside0.mk (blk_grown (g := gb629) (o := .cells #[.slice A0_0 l0_0.length c0_0, .slice A0_1 l0_1.length c0_1] 25 (0, 0)) (bk_ BK629) hg (Kd.R_ne HO_10.out BK629.out (by decide)))
        replace BK631 := Aside0.mk (blk_grown (g := gb631) (o := .cells #[.int .i64 ((rd_T48 l1 x27_1).f0), .int .i64 ((rd_T48 l1 x27_1).f1.f0), .int .i64 ((rd_T48 l1 x27_1).f1.f1), .int .i64 ((rd_T48 l1 x27_1).f2.f0), .int .i64 ((rd_T48 l1 x27_1).f2.f1)] 48 (0, 0)) (bk_ BK631) hg (Kd.R_ne HO_10.out BK631.out (by decide)))
        replace HO636 := Aside0.mk (Kd.R_after (ok := (fun _ => True)) (by (with_reducible repeat (first | apply Kd.R_alloc | apply Kd.R_drewN | apply Kd.R_drew)); exact Kd.R_mono HO636.out (fun _ hk => ⟨trivial, hk⟩)) hg hat)
        replace HB := Aside0.mk (hb)
        have HO641 := Aside0.mk (ho)
        clear HO_10
        clear ho hb hg hat
        refine hK.out _ _ ⟨bc_ BK631 0, bc_ BK631 1, bc_ BK631 2, bc_ BK631 3, bc_ BK631 4⟩ (fun hHeld => ?_)
        clear hK K
        refine norm_ (a' := ?_) ?_ ?_
        rotate_left
        ·show Act.put _ (some 52) _ = _
         simp only [Act.put, List.setIfInBounds_toArray, List.set_cons_zero, List.set_cons_succ, i64_w, i32_w]
         rfl
        refine pr_ 21 9 23 4194303 HT_ rfl rfl ?_
        refine pr_ 22 10 23 8388607 HT_ rfl rfl ?_
        refine done_ (done_of HT_.out (by kernel_rfl)) ?_
        try go_wp2
        go_roundg k1
        case measure => have := HK1.out; omega
        case rel => exact ⟨(y634), (y639), (wrap64 (x27_1 + 1)), (by first | rfl | (simp; done) | (simp [*]; done)), H', ⟨by have := HK1.out; omega⟩, ⟨by (with_reducible repeat (first | apply Kd.R_alloc | apply Kd.R_drewN | apply Kd.R_drew)); exact Kd.R_mono HO636.out (fun _ hk => hk.2)⟩, ⟨by (with_reducible repeat (first | apply Kd.R_alloc | apply Kd.R_drewN | apply Kd.R_drew)); exact HO641.out⟩, ⟨by refine bx_ ?_; exact BK629.out⟩, ⟨be2_ HB GE629 GE631⟩⟩
       ·rw [if_neg c13] at H
        exact absurd H (by simp)
      ·rw [if_neg c10] at H
       exact absurd H (by simp)
     ·rw [if_neg c7] at H
      exact absurd H (by simp)
    ·rw [if_neg c6] at H
     exact absurd H (by simp)
   ·rw [if_neg c5] at H
    have c5b0 : decide (x27_1 < (l1.length : Int)) = false := decide_eq_false c5
    clear c5
    have H' := Aside0.mk H
    clear H
    have hcz23_0 : wr.cell? ⟨gb629, 0, none⟩ = some (.slice A0_0 l0_0.length c0_0) := bc_ BK629 0
    have hcz23_1 : wr.cell? ⟨gb629, 1, none⟩ = some (.slice A0_1 l0_1.length c0_1) := bc_ BK629 1
    have hfz23_0 := blk_frozen BK629.out 0
    have hfz23_1 := blk_frozen BK629.out 1
    go_wp2
    go_loopg [11, 57] k1 (fun kq v11 v57 w' => ∃ (x11_2 : List Int) (x57_2 : Int), v57 = .int .i64 x57_2 ∧ Aside0 (cottonpadlaw06_truth.l1 kq l1 l2 x9_1 x10_1 x11_2 l0_0 (l0_0.length : Int) x57_2 l0_0 l0_1 = some (r1, r2, r3)) ∧ Aside0 (kq ≤ k1) ∧ Aside0 (Kd.R (Kd.int .i64) 3 w' w.heap.size (fun k_ => some k_ ≠ (u10 : Value).ownBlock ∧ some k_ ≠ (v11 : Value).ownBlock) u9 x9_1) ∧ Aside0 (Kd.R (Kd.int .i64) 3 w' w.heap.size (fun k_ => some k_ ≠ (u9 : Value).ownBlock ∧ some k_ ≠ (v11 : Value).ownBlock) u10 x10_1) ∧ Aside0 (Kd.R (Kd.int .i64) 3 w' w.heap.size (fun k_ => some k_ ≠ (u9 : Value).ownBlock ∧ some k_ ≠ (u10 : Value).ownBlock) v11 x11_2) ∧ Aside0 (w'.heap[gb629]? = some (.cells #[(.slice A0_0 l0_0.length c0_0), (.slice A0_1 l0_1.length c0_1)] 25 (0, 0))) ∧ Aside0 (Below w.heap.size w w'))
    case atStart => exact ⟨(([] : List Int)), (0), (by first | rfl | (simp; done) | (simp [*]; done)), H', ⟨Nat.le_refl _⟩, ⟨by (with_reducible repeat (first | apply Kd.R_alloc | apply Kd.R_drewN | apply Kd.R_drew)); exact Kd.R_mono HO_9.out (fun _ hk => ⟨hk, (by simp [Value.ownBlock])⟩)⟩, ⟨by (with_reducible repeat (first | apply Kd.R_alloc | apply Kd.R_drewN | apply Kd.R_drew)); exact Kd.R_mono HO_10.out (fun _ hk => ⟨hk, (by simp [Value.ownBlock])⟩)⟩, ⟨by first | exact Kd.R_nil _ _ _ _ _ | exact Kd.N_nil _ _ _ _ _ | exact Kd.V_nil _ _ _ _ _ | exact Kd.Q_nil _ _ _ _ _ | exact Kd.S_nil _ _ _ _ _⟩, ⟨by refine bx_ ?_; exact BK629.out⟩, ⟨be1_ HB GE629⟩⟩
    case round =>
     clear H'
     try clear c1
     try clear c2
     try clear p2
     try clear c3
     try clear c5
     try clear c5b0
     try clear c6
     try clear c6b0
     try clear p6
     try clear q6
     try clear hx6
     try clear c7
     try clear c7b0
     try clear c10
     try clear c13
     try clear c15
     try clear hcz16_0
     try clear hcz16_1
     try clear hcz16_2
     try clear hcz16_3
     try clear hcz16_4
     try clear hcz23_0
     try clear hcz23_1
     try clear hfz16_0
     try clear hfz16_1
     try clear hfz16_2
     try clear hfz16_3
     try clear hfz16_4
     try clear hfz23_0
     try clear hfz23_1
     try clear hx630_0
     try clear hx630_1
     try clear hx630_2
     try clear hx630_3
     try clear hx630_4
     try clear p2
     try clear p630
     try clear q630
     obtain ⟨x11_2, x57_2, rfl, HA, HK2, HO_9, HO_10, HO_11, BK629, HB⟩ := hrel
     cases gk with
     | zero => exact absurd HA.out (by simp [cottonpadlaw06_truth.l1])
     | succ k2 =>
      have H := HA.out
      clear HA
      simp only [cottonpadlaw06_truth.l1] at H
      by_cases c24 : x57_2 < (l0_0.length : Int)
      ·rw [if_pos c24] at H
       have c24b0 : decide (x57_2 < (l0_0.length : Int)) = true := decide_eq_true c24
       clear c24
       by_cases c25 : 0 ≤ x57_2
       ·rw [if_pos c25] at H
        have c25b0 : decide (0 ≤ x57_2) = true := decide_eq_true c25
        clear c25
        by_cases c26 : x57_2 < (l0_0.length : Int)
        ·rw [if_pos c26] at H
         have c26b0 : decide (x57_2 < (l0_0.length : Int)) = true := decide_eq_true c26
         clear c26
         replace H := Option.bind_eq_some_iff.mp H
         obtain ⟨t644, A270, H⟩ := H
         replace H : ((cottonpadlaw06_pick.f ((rd_T62 l0_0 x57_2).f2.f0) ((rd_T62 l0_0 x57_2).f2.f1) t644).bind fun t645 => (if x11_2.length < 17592186044416 then (cottonpadlaw06_truth.l1 k2 l1 l2 x9_1 x10_1 (x11_2 ++ [t645]) l0_0 (l0_0.length : Int) (wrap64 (x57_2 + 1)) l0_0 l0_1) else (none))) = some (r1, r2, r3) := H
         have A27 := Aside0.mk A270
         clear A270
         replace H := Option.bind_eq_some_iff.mp H
         obtain ⟨t645, A280, H⟩ := H
         replace H : (if x11_2.length < 17592186044416 then (cottonpadlaw06_truth.l1 k2 l1 l2 x9_1 x10_1 (x11_2 ++ [t645]) l0_0 (l0_0.length : Int) (wrap64 (x57_2 + 1)) l0_0 l0_1) else (none)) = some (r1, r2, r3) := H
         have A28 := Aside0.mk A280
         clear A280
         by_cases c29 : x11_2.length < 17592186044416
         ·rw [if_pos c29] at H
          have LMc29 := Aside0.mk c29
          clear c29
          obtain ⟨y646, hy646⟩ : ∃ y_ : List Int, y_ = (x11_2 ++ [t645]) := ⟨_, rfl⟩
          replace H : (cottonpadlaw06_truth.l1 k2 l1 l2 x9_1 x10_1 y646 l0_0 (l0_0.length : Int) (wrap64 (x57_2 + 1)) l0_0 l0_1) = some (r1, r2, r3) := by first | (rw [hy646]; with_reducible exact H) | (have H2_ := (Option.bind_some _ _).symm.trans H; rw [hy646]; with_reducible exact H2_) | (have H2_ := (Option.bind_some _ _).symm.trans H; with_reducible exact H2_) | with_reducible exact H | (rw [hy646]; exact H) | exact H
          have Ny646 := Aside0.mk hy646
          clear hy646
          have H' := Aside0.mk H
          clear H
          have p642 : 0 ≤ (x57_2 : Int) := of_decide_eq_true as_
          have q642 : x57_2 < (l0_0.length : Int) := of_decide_eq_true as_
          obtain ⟨ad642, e642, hx642_0, hx642_1, hx642_2, hx642_3, hx642_4, hx642_5⟩ := at_T62 HR0_0.out x57_2 p642 q642
          cases e642
          try replace hx642_0 := ce_ HB hx642_0
          try replace hx642_1 := ce_ HB hx642_1
          try replace hx642_2 := ce_ HB hx642_2
          try replace hx642_3 := ce_ HB hx642_3
          try replace hx642_4 := ce_ HB hx642_4
          try replace hx642_5 := ce_ HB hx642_5
          replace p642 := eq_true p642
          replace q642 := eq_true q642
          try go_wp2_with (first | ((with_reducible refine gate_dst (N := 15) rfl ?_); refine box_event ?hg (N := 15) ?hd (cs := #[.int .i64 0, .int .i64 0, .int .i64 0, .int .i64 0, .int .i64 0, .int .i64 0]) (t := 62) ?hr ?_; (case hd => rfl); (case hg => rfl); (case hr => exact gs_); intro gb643 hg w30 hbox hb; replace HO_9 := rb_ HO_9 hb; replace HO_10 := rb_ HO_10 hb; replace HO_11 := rb_ HO_11 hb; have BK643 := Aside0.mk (hbox); have GW643 := hl_ hg (be1_ HB GE629); have GE643 := hl_ hg (be1_ HB GE629); replace HB := bs1_ HB GE629 hb; have NB629_643 := Aside0.mk ((by rw [hg]; exact Nat.ne_of_lt (blk_lt (bk_ BK629)) : gb629 ≠ gb643)); have NB643_629 := Aside0.mk ((by rw [hg]; exact Nat.ne_of_gt (blk_lt (bk_ BK629)) : gb643 ≠ gb629)); replace BK629 := bb_ BK629 hb; clear hb hbox hg; have hnb31 := NB643_629.out; have hnc31 := NB629_643.out; have hcz32_0 : w30.cell? ⟨gb643, 0, none⟩ = some (.int .i64 0) := bc_ BK643 0; have hcz32_1 : w30.cell? ⟨gb643, 1, none⟩ = some (.int .i64 0) := bc_ BK643 1; have hcz32_2 : w30.cell? ⟨gb643, 2, none⟩ = some (.int .i64 0) := bc_ BK643 2; have hcz32_3 : w30.cell? ⟨gb643, 3, none⟩ = some (.int .i64 0) := bc_ BK643 3; have hcz32_4 : w30.cell? ⟨gb643, 4, none⟩ = some (.int .i64 0) := bc_ BK643 4; have hcz32_5 : w30.cell? ⟨gb643, 5, none⟩ = some (.int .i64 0) := bc_ BK643 5; have hfz32_0 := blk_frozen BK643.out 0; have hfz32_1 := blk_frozen BK643.out 1; have hfz32_2 := blk_frozen BK643.out 2; have hfz32_3 := blk_frozen BK643.out 3; have hfz32_4 := blk_frozen BK643.out 4; have hfz32_5 := blk_frozen BK643.out 5))
          have n0_ : Aside0 (Kd.R (Kd.int .i64) 3 ((((((w30.setCell ⟨gb643, 0, none⟩ (.int .i64 ((rd_T62 l0_0 x57_2).f0))).setCell ⟨gb643, 1, none⟩ (.int .i64 ((rd_T62 l0_0 x57_2).f1))).setCell ⟨gb643, 2, none⟩ (.int .i64 ((rd_T62 l0_0 x57_2).f2.f0))).setCell ⟨gb643, 3, none⟩ (.int .i64 ((rd_T62 l0_0 x57_2).f2.f1))).setCell ⟨gb643, 4, none⟩ (.int .i64 ((rd_T62 l0_0 x57_2).f3.f0))).setCell ⟨gb643, 5, none⟩ (.int .i64 ((rd_T62 l0_0 x57_2).f3.f1))) w.heap.size (fun k_ => some k_ ≠ (u10 : Value).ownBlock ∧ some k_ ≠ (u11 : Value).ownBlock) u9 x9_1) := ⟨by (with_reducible repeat (first | apply Kd.R_alloc | apply Kd.R_drewN | apply Kd.R_drew)); exact Kd.R_mono (Kd.R_far (p := ⟨gb643, 5, none⟩) (Kd.R_far (p := ⟨gb643, 4, none⟩) (Kd.R_far (p := ⟨gb643, 3, none⟩) (Kd.R_far (p := ⟨gb643, 2, none⟩) (Kd.R_far (p := ⟨gb643, 1, none⟩) (Kd.R_far (p := ⟨gb643, 0, none⟩) (Kd.R_types HO_9.out BK643.out (by decide)) (fun _ hk => hk.2) (.int .i64 ((rd_T62 l0_0 x57_2).f0))) (fun _ hk => hk.2) (.int .i64 ((rd_T62 l0_0 x57_2).f1))) (fun _ hk => hk.2) (.int .i64 ((rd_T62 l0_0 x57_2).f2.f0))) (fun _ hk => hk.2) (.int .i64 ((rd_T62 l0_0 x57_2).f2.f1))) (fun _ hk => hk.2) (.int .i64 ((rd_T62 l0_0 x57_2).f3.f0))) (fun _ hk => hk.2) (.int .i64 ((rd_T62 l0_0 x57_2).f3.f1))) (fun _ hk => ⟨hk.1.1, hk.1.2⟩)⟩
          have n1_ : Aside0 (Kd.R (Kd.int .i64) 3 ((((((w30.setCell ⟨gb643, 0, none⟩ (.int .i64 ((rd_T62 l0_0 x57_2).f0))).setCell ⟨gb643, 1, none⟩ (.int .i64 ((rd_T62 l0_0 x57_2).f1))).setCell ⟨gb643, 2, none⟩ (.int .i64 ((rd_T62 l0_0 x57_2).f2.f0))).setCell ⟨gb643, 3, none⟩ (.int .i64 ((rd_T62 l0_0 x57_2).f2.f1))).setCell ⟨gb643, 4, none⟩ (.int .i64 ((rd_T62 l0_0 x57_2).f3.f0))).setCell ⟨gb643, 5, none⟩ (.int .i64 ((rd_T62 l0_0 x57_2).f3.f1))) w.heap.size (fun k_ => some k_ ≠ (u9 : Value).ownBlock ∧ some k_ ≠ (u11 : Value).ownBlock) u10 x10_1) := ⟨by (with_reducible repeat (first | apply Kd.R_alloc | apply Kd.R_drewN | apply Kd.R_drew)); exact Kd.R_mono (Kd.R_far (p := ⟨gb643, 5, none⟩) (Kd.R_far (p := ⟨gb643, 4, none⟩) (Kd.R_far (p := ⟨gb643, 3, none⟩) (Kd.R_far (p := ⟨gb643, 2, none⟩) (Kd.R_far (p := ⟨gb643, 1, none⟩) (Kd.R_far (p := ⟨gb643, 0, none⟩) (Kd.R_types HO_10.out BK643.out (by decide)) (fun _ hk => hk.2) (.int .i64 ((rd_T62 l0_0 x57_2).f0))) (fun _ hk => hk.2) (.int .i64 ((rd_T62 l0_0 x57_2).f1))) (fun _ hk => hk.2) (.int .i64 ((rd_T62 l0_0 x57_2).f2.f0))) (fun _ hk => hk.2) (.int .i64 ((rd_T62 l0_0 x57_2).f2.f1))) (fun _ hk => hk.2) (.int .i64 ((rd_T62 l0_0 x57_2).f3.f0))) (fun _ hk => hk.2) (.int .i64 ((rd_T62 l0_0 x57_2).f3.f1))) (fun _ hk => ⟨hk.1.1, hk.1.2⟩)⟩
          have n2_ : Aside0 (Kd.R (Kd.int .i64) 3 ((((((w30.setCell ⟨gb643, 0, none⟩ (.int .i64 ((rd_T62 l0_0 x57_2).f0))).setCell ⟨gb643, 1, none⟩ (.int .i64 ((rd_T62 l0_0 x57_2).f1))).setCell ⟨gb643, 2, none⟩ (.int .i64 ((rd_T62 l0_0 x57_2).f2.f0))).setCell ⟨gb643, 3, none⟩ (.int .i64 ((rd_T62 l0_0 x57_2).f2.f1))).setCell ⟨gb643, 4, none⟩ (.int .i64 ((rd_T62 l0_0 x57_2).f3.f0))).setCell ⟨gb643, 5, none⟩ (.int .i64 ((rd_T62 l0_0 x57_2).f3.f1))) w.heap.size (fun k_ => some k_ ≠ (u9 : Value).ownBlock ∧ some k_ ≠ (u10 : Value).ownBlock) u11 x11_2) := ⟨by (with_reducible repeat (first | apply Kd.R_alloc | apply Kd.R_drewN | apply Kd.R_drew)); exact Kd.R_mono (Kd.R_far (p := ⟨gb643, 5, none⟩) (Kd.R_far (p := ⟨gb643, 4, none⟩) (Kd.R_far (p := ⟨gb643, 3, none⟩) (Kd.R_far (p := ⟨gb643, 2, none⟩) (Kd.R_far (p := ⟨gb643, 1, none⟩) (Kd.R_far (p := ⟨gb643, 0, none⟩) (Kd.R_types HO_11.out BK643.out (by decide)) (fun _ hk => hk.2) (.int .i64 ((rd_T62 l0_0 x57_2).f0))) (fun _ hk => hk.2) (.int .i64 ((rd_T62 l0_0 x57_2).f1))) (fun _ hk => hk.2) (.int .i64 ((rd_T62 l0_0 x57_2).f2.f0))) (fun _ hk => hk.2) (.int .i64 ((rd_T62 l0_0 x57_2).f2.f1))) (fun _ hk => hk.2) (.int .i64 ((rd_T62 l0_0 x57_2).f3.f0))) (fun _ hk => hk.2) (.int .i64 ((rd_T62 l0_0 x57_2).f3.f1))) (fun _ hk => ⟨hk.1.1, hk.1.2⟩)⟩
          have n3_ : Aside0 (((((((w30.setCell ⟨gb643, 0, none⟩ (.int .i64 ((rd_T62 l0_0 x57_2).f0))).setCell ⟨gb643, 1, none⟩ (.int .i64 ((rd_T62 l0_0 x57_2).f1))).setCell ⟨gb643, 2, none⟩ (.int .i64 ((rd_T62 l0_0 x57_2).f2.f0))).setCell ⟨gb643, 3, none⟩ (.int .i64 ((rd_T62 l0_0 x57_2).f2.f1))).setCell ⟨gb643, 4, none⟩ (.int .i64 ((rd_T62 l0_0 x57_2).f3.f0))).setCell ⟨gb643, 5, none⟩ (.int .i64 ((rd_T62 l0_0 x57_2).f3.f1))).heap[gb629]? = some (.cells #[.slice (some ad642) l0_0.length c0_0, .slice A0_1 l0_1.length c0_1] 25 (0, 0))) := ⟨by refine bx_ ?_; refine blk_far ?_ NB629_643.out _; refine bx_ ?_; refine blk_far ?_ NB629_643.out _; refine bx_ ?_; refine blk_far ?_ NB629_643.out _; refine bx_ ?_; refine blk_far ?_ NB629_643.out _; refine bx_ ?_; refine blk_far ?_ NB629_643.out _; refine bx_ ?_; refine blk_far ?_ NB629_643.out _; refine bx_ ?_; exact BK629.out⟩
          have n4_ : Aside0 (((((((w30.setCell ⟨gb643, 0, none⟩ (.int .i64 ((rd_T62 l0_0 x57_2).f0))).setCell ⟨gb643, 1, none⟩ (.int .i64 ((rd_T62 l0_0 x57_2).f1))).setCell ⟨gb643, 2, none⟩ (.int .i64 ((rd_T62 l0_0 x57_2).f2.f0))).setCell ⟨gb643, 3, none⟩ (.int .i64 ((rd_T62 l0_0 x57_2).f2.f1))).setCell ⟨gb643, 4, none⟩ (.int .i64 ((rd_T62 l0_0 x57_2).f3.f0))).setCell ⟨gb643, 5, none⟩ (.int .i64 ((rd_T62 l0_0 x57_2).f3.f1))).heap[gb643]? = some (.cells #[.int .i64 ((rd_T62 l0_0 x57_2).f0), .int .i64 ((rd_T62 l0_0 x57_2).f1), .int .i64 ((rd_T62 l0_0 x57_2).f2.f0), .int .i64 ((rd_T62 l0_0 x57_2).f2.f1), .int .i64 ((rd_T62 l0_0 x57_2).f3.f0), .int .i64 ((rd_T62 l0_0 x57_2).f3.f1)] 62 (0, 0))) := ⟨by refine bx_ ?_; refine blk_put (cs := #[.int .i64 ((rd_T62 l0_0 x57_2).f0), .int .i64 ((rd_T62 l0_0 x57_2).f1), .int .i64 ((rd_T62 l0_0 x57_2).f2.f0), .int .i64 ((rd_T62 l0_0 x57_2).f2.f1), .int .i64 ((rd_T62 l0_0 x57_2).f3.f0), .int .i64 0]) ?_ 5 _ rfl; refine bx_ ?_; refine blk_put (cs := #[.int .i64 ((rd_T62 l0_0 x57_2).f0), .int .i64 ((rd_T62 l0_0 x57_2).f1), .int .i64 ((rd_T62 l0_0 x57_2).f2.f0), .int .i64 ((rd_T62 l0_0 x57_2).f2.f1), .int .i64 0, .int .i64 0]) ?_ 4 _ rfl; refine bx_ ?_; refine blk_put (cs := #[.int .i64 ((rd_T62 l0_0 x57_2).f0), .int .i64 ((rd_T62 l0_0 x57_2).f1), .int .i64 ((rd_T62 l0_0 x57_2).f2.f0), .int .i64 0, .int .i64 0, .int .i64 0]) ?_ 3 _ rfl; refine bx_ ?_; refine blk_put (cs := #[.int .i64 ((rd_T62 l0_0 x57_2).f0), .int .i64 ((rd_T62 l0_0 x57_2).f1), .int .i64 0, .int .i64 0, .int .i64 0, .int .i64 0]) ?_ 2 _ rfl; refine bx_ ?_; refine blk_put (cs := #[.int .i64 ((rd_T62 l0_0 x57_2).f0), .int .i64 0, .int .i64 0, .int .i64 0, .int .i64 0, .int .i64 0]) ?_ 1 _ rfl; refine bx_ ?_; refine blk_put (cs := #[.int .i64 0, .int .i64 0, .int .i64 0, .int .i64 0, .int .i64 0, .int .i64 0]) ?_ 0 _ rfl; refine bx_ ?_; exact BK643.out⟩
          have n5_ : Aside0 (Below w.heap.size w ((((((w30.setCell ⟨gb643, 0, none⟩ (.int .i64 ((rd_T62 l0_0 x57_2).f0))).setCell ⟨gb643, 1, none⟩ (.int .i64 ((rd_T62 l0_0 x57_2).f1))).setCell ⟨gb643, 2, none⟩ (.int .i64 ((rd_T62 l0_0 x57_2).f2.f0))).setCell ⟨gb643, 3, none⟩ (.int .i64 ((rd_T62 l0_0 x57_2).f2.f1))).setCell ⟨gb643, 4, none⟩ (.int .i64 ((rd_T62 l0_0 x57_2).f3.f0))).setCell ⟨gb643, 5, none⟩ (.int .i64 ((rd_T62 l0_0 x57_2).f3.f1)))) := ⟨be2_ HB GE629 GE643⟩
          (try clear HO_9)
          (try clear HO_10)
          (try clear HO_11)
          (try clear BK629)
          (try clear BK643)
          (try clear HB)
          generalize ((((((w30.setCell ⟨gb643, 0, none⟩ (.int .i64 ((rd_T62 l0_0 x57_2).f0))).setCell ⟨gb643, 1, none⟩ (.int .i64 ((rd_T62 l0_0 x57_2).f1))).setCell ⟨gb643, 2, none⟩ (.int .i64 ((rd_T62 l0_0 x57_2).f2.f0))).setCell ⟨gb643, 3, none⟩ (.int .i64 ((rd_T62 l0_0 x57_2).f2.f1))).setCell ⟨gb643, 4, none⟩ (.int .i64 ((rd_T62 l0_0 x57_2).f3.f0))).setCell ⟨gb643, 5, none⟩ (.int .i64 ((rd_T62 l0_0 x57_2).f3.f1))) = w33 at n0_ n1_ n2_ n3_ n4_ n5_ ⊢
          have HO_9 := n0_
          have HO_10 := n1_
          have HO_11 := n2_
          have BK629 := n3_
          have BK643 := n4_
          have HB := n5_
          clear n0_ n1_ n2_ n3_ n4_ n5_
          replace HO_9 := Aside0.mk (Kd.R_drew HO_9.out)
          replace HO_10 := Aside0.mk (Kd.R_drew HO_10.out)
          replace HO_11 := Aside0.mk (Kd.R_drew HO_11.out)
          replace BK629 := Aside0.mk (blk_drew BK629.out)
          replace BK643 := Aside0.mk (blk_drew BK643.out)
          replace HB := Aside0.mk (below_drew1 HB.out)
          refine start_ (n := 11) (S := fun w' => w'.cell? ⟨gb643, 0, none⟩ = some (.int .i64 ((rd_T62 l0_0 x57_2).f0)) ∧ w'.cell? ⟨gb643, 1, none⟩ = some (.int .i64 ((rd_T62 l0_0 x57_2).f1)) ∧ w'.cell? ⟨gb643, 2, none⟩ = some (.int .i64 ((rd_T62 l0_0 x57_2).f2.f0)) ∧ w'.cell? ⟨gb643, 3, none⟩ = some (.int .i64 ((rd_T62 l0_0 x57_2).f2.f1)) ∧ w'.cell? ⟨gb643, 4, none⟩ = some (.int .i64 ((rd_T62 l0_0 x57_2).f3.f0)) ∧ w'.cell? ⟨gb643, 5, none⟩ = some (.int .i64 ((rd_T62 l0_0 x57_2).f3.f1))) (ds := []) (bm_ 11 0) (by kernel_rfl) rfl rfl ⟨bc_ BK643 0, bc_ BK643 1, bc_ BK643 2, bc_ BK643 3, bc_ BK643 4, bc_ BK643 5⟩ (fun hHeld => ?_); refine with_tabW cottonpadlaw06_truth.tab10 cottonpadlaw06_truth.bits10 (fun HT_ HW_ => ?_)
          generalize w33.drew = w34 at HO_9 HO_10 HO_11 BK629 BK643 HB hHeld ⊢
          refine pr_ 0 62 11 1 HT_ rfl rfl ?_
          refine pr_ 1 63 11 3 HT_ rfl rfl ?_
          refine pr_ 3 65 11 11 HT_ rfl rfl ?_
          refine pr_ 4 66 11 27 HT_ rfl rfl ?_
          refine pr_ 5 67 11 59 HT_ rfl rfl ?_
          refine ta_ 2 64 11 63 HT_ HW_ rfl rfl hHeld ?_
          refine one_ (i := 6) (N := some 68) (bm_ 11 127) rfl rfl (one_of HT_.out (by kernel_rfl)) (by decide) (fun K hK => ?_)
          refine goes_ Tryd.func51 (by kernel_rfl) rfl #[.slice A2 l2.length c2, .int .i64 (wrap64 (50 + x57_2))] (by rfl) rfl rfl ls_ ?_
          with_reducible refine (cottonpadlaw06_choose.calls _ _ l2 (wrap64 (50 + x57_2)) t644 _ ?side1 ?side2 A27.out).mono ?_
          (case side1 => exact kc_ HR2 HB)
          (case side2 => exact HC2.out)
          rintro e w' ⟨rfl, ⟨nd, rfl⟩⟩
          refine ⟨_, rfl, ?_⟩
          refine hK.out _ _ ⟨bc_ BK643 0, bc_ BK643 1, bc_ BK643 2, bc_ BK643 3, bc_ BK643 4, bc_ BK643 5⟩ (fun hHeld => ?_)
          clear hK K
          refine norm_ (a' := ?_) ?_ ?_
          rotate_left
          ·show Act.put _ (some 68) _ = _
           simp only [Act.put, List.setIfInBounds_toArray, List.set_cons_zero, List.set_cons_succ, i64_w, i32_w]
           rfl
          refine one_ (i := 7) (N := some 69) (bm_ 11 255) rfl rfl (one_of HT_.out (by kernel_rfl)) (by decide) (fun K hK => ?_)
          refine goes_ Tryd.func68 (by kernel_rfl) rfl #[.agg #[.int .i64 ((rd_T62 l0_0 x57_2).f2.f0), .int .i64 ((rd_T62 l0_0 x57_2).f2.f1)], .int .i64 t644] (by rfl) rfl rfl ls_ ?_
          with_reducible refine (cottonpadlaw06_pick.calls ((rd_T62 l0_0 x57_2).f2.f0) ((rd_T62 l0_0 x57_2).f2.f1) t644 t645 _ A28.out).mono ?_
          rintro e w35 ⟨rfl, hb⟩
          refine ⟨_, rfl, ?_⟩
          replace HO_9 := rb_ HO_9 hb
          replace HO_10 := rb_ HO_10 hb
          replace HO_11 := rb_ HO_11 hb
          replace BK629 := bb_ BK629 hb
          replace BK643 := bb_ BK643 hb
          replace HB := bs2_ HB GE629 GE643 hb
          (try clear hb)
          (try clear hb2)
          (try clear hk)
          (try clear hi)
          refine hK.out _ _ ⟨bc_ BK643 0, bc_ BK643 1, bc_ BK643 2, bc_ BK643 3, bc_ BK643 4, bc_ BK643 5⟩ (fun hHeld => ?_)
          clear hK K
          refine norm_ (a' := ?_) ?_ ?_
          rotate_left
          ·show Act.put _ (some 69) _ = _
           simp only [Act.put, List.setIfInBounds_toArray, List.set_cons_zero, List.set_cons_succ, i64_w, i32_w]
           rfl
          refine one_ (i := 8) (N := some 70) (bm_ 11 511) rfl rfl (one_of HT_.out (by kernel_rfl)) (by decide) (fun K hK => ?_)
          refine value_ (w1 := ?_) (v := ?_) (by rfl) rfl ?_ ?_
          rotate_left 2
          ·go_simp
           constructor
           ·rfl
           ·rfl
          refine hK.out _ _ ⟨(blk_cell (blk_alloc BK643.out _) 0).trans rfl, (blk_cell (blk_alloc BK643.out _) 1).trans rfl, (blk_cell (blk_alloc BK643.out _) 2).trans rfl, (blk_cell (blk_alloc BK643.out _) 3).trans rfl, (blk_cell (blk_alloc BK643.out _) 4).trans rfl, (blk_cell (blk_alloc BK643.out _) 5).trans rfl⟩ (fun hHeld => ?_)
          clear hK K
          refine norm_ (a' := ?_) ?_ ?_
          rotate_left
          ·show Act.put _ (some 70) _ = _
           simp only [Act.put, List.setIfInBounds_toArray, List.set_cons_zero, List.set_cons_succ, i64_w, i32_w]
           rfl
          refine one_ (i := 9) (N := some 71) (bm_ 11 1023) rfl rfl (one_of HT_.out (by kernel_rfl)) (by decide) (fun K hK => ?_)
          refine Kd.R_append_step (Kd.int .i64) (w0 := w) w.heap.size (by rfl) (.tmp 62) (.tmp 70) 67 3 (.int .i64 0) 8 rfl Tryd.underlying67 info3 rfl (by decide) (by omega) u11 x11_2 t645 [.int .i64 t645] (fun k_ => some k_ ≠ (u9 : Value).ownBlock ∧ some k_ ≠ (u10 : Value).ownBlock) (fun _ => False) rfl rfl ?aP (fun _ hk => hk.elim) ?aF ?aO ?aB ?aS ?aL ?_
          (case aP => exact rfl)
          (case aB => exact (be2_ HB GE629 GE643))
          (case aF => exact (fun k_ hk => ⟨Kd.fresh' (Kd.R_lt (ro_ HO_9)) k_ hk, Kd.fresh' (Kd.R_lt (ro_ HO_10)) k_ hk⟩))
          (case aO => exact (ro_ HO_11))
          (case aS => exact (below_size (be2_ HB GE629 GE643)))
          (case aL => have := LMc29.out; omega)
          intro v647 w36 ho hb hg hat
          rw [← Ny646.out] at ho
          replace HO_9 := Aside0.mk (Kd.R_after (ok := (fun k_ => some k_ ≠ (u10 : Value).ownBlock)) (ro_ HO_9) hg hat)
          replace HO_10 := Aside0.mk (Kd.R_after (ok := (fun k_ => some k_ ≠ (u9 : Value).ownBlock)) (ro_ HO_10) hg hat)
          replace BK629 := Aside0.mk (blk_grown (g := gb629) (o := .cells #[.slice (some ad642) l0_0.length c0_0, .slice A0_1 l0_1.length c0_1] 25 (0, 0)) (bk_ BK629) hg (Kd.R_ne HO_11.out BK629.out (by decide)))
          replace BK643 := Aside0.mk (blk_grown (g := gb643) (o := .cells #[.int .i64 ((rd_T62 l0_0 x57_2).f0), .int .i64 ((rd_T62 l0_0 x57_2).f1), .int .i64 ((rd_T62 l0_0 x57_2).f2.f0), .int .i64 ((rd_T62 l0_0 x57_2).f2.f1), .int .i64 ((rd_T62 l0_0 x57_2).f3.f0), .int .i64 ((rd_T62 l0_0 x57_2).f3.f1)] 62 (0, 0)) (bk_ BK643) hg (Kd.R_ne HO_11.out BK643.out (by decide)))
          replace HB := Aside0.mk (hb)
          have HO648 := Aside0.mk (ho)
          clear HO_11
          clear ho hb hg hat
          refine hK.out _ _ ⟨bc_ BK643 0, bc_ BK643 1, bc_ BK643 2, bc_ BK643 3, bc_ BK643 4, bc_ BK643 5⟩ (fun hHeld => ?_)
          clear hK K
          refine norm_ (a' := ?_) ?_ ?_
          rotate_left
          ·show Act.put _ (some 71) _ = _
           simp only [Act.put, List.setIfInBounds_toArray, List.set_cons_zero, List.set_cons_succ, i64_w, i32_w]
           rfl
          refine pr_ 10 11 11 2047 HT_ rfl rfl ?_
          refine done_ (done_of HT_.out (by kernel_rfl)) ?_
          try go_wp2
          go_roundg k2
          case measure => have := HK1.out; have := HK2.out; omega
          case rel => exact ⟨(y646), (wrap64 (x57_2 + 1)), (by first | rfl | (simp; done) | (simp [*]; done)), H', ⟨by have := HK1.out; have := HK2.out; omega⟩, ⟨by (with_reducible repeat (first | apply Kd.R_alloc | apply Kd.R_drewN | apply Kd.R_drew)); exact HO_9.out⟩, ⟨by (with_reducible repeat (first | apply Kd.R_alloc | apply Kd.R_drewN | apply Kd.R_drew)); exact HO_10.out⟩, ⟨by (with_reducible repeat (first | apply Kd.R_alloc | apply Kd.R_drewN | apply Kd.R_drew)); exact HO648.out⟩, ⟨by refine bx_ ?_; exact BK629.out⟩, ⟨be2_ HB GE629 GE643⟩⟩
         ·rw [if_neg c29] at H
          exact absurd H (by simp)
        ·rw [if_neg c26] at H
         exact absurd H (by simp)
       ·rw [if_neg c25] at H
        exact absurd H (by simp)
      ·rw [if_neg c24] at H
       have c24b0 : decide (x57_2 < (l0_0.length : Int)) = false := decide_eq_false c24
       clear c24
       replace H := Option.bind_eq_some_iff.mp H
       obtain ⟨⟨t649, t652⟩, A370, H⟩ := H
       replace H : (cottonpadlaw06_truth.l2 k2 l2 t649 t652 true l1 (l1.length : Int) 0 l0_0 l0_1) = some (r1, r2, r3) := H
       have A37 := Aside0.mk A370
       clear A370
       have H' := Aside0.mk H
       clear H
       have hcz38_0 : wr.cell? ⟨gb629, 0, none⟩ = some (.slice A0_0 l0_0.length c0_0) := bc_ BK629 0
       have hcz38_1 : wr.cell? ⟨gb629, 1, none⟩ = some (.slice A0_1 l0_1.length c0_1) := bc_ BK629 1
       have hfz38_0 := blk_frozen BK629.out 0
       have hfz38_1 := blk_frozen BK629.out 1
       obtain ⟨Ao39, co39, eo39⟩ := Kd.R_slice HO_9.out
       subst eo39
       obtain ⟨Ao40, co40, eo40⟩ := Kd.R_slice HO_10.out
       subst eo40
       obtain ⟨Ao41, co41, eo41⟩ := Kd.R_slice HO_11.out
       subst eo41
       go_wp2_with (first | ((with_reducible refine gate_callee (f := 69) rfl ?_); refine goesL_ (some 79) rfl rfl Tryd.func69 (by kernel_rfl) rfl #[.agg #[.slice A0_0 l0_0.length c0_0, .slice A0_1 l0_1.length c0_1], .slice A1 l1.length c1, .slice Ao39 x9_1.length co39, .slice Ao40 x10_1.length co40, .slice Ao41 x11_2.length co41] rfl ls_ ?_; (with_reducible refine (cottonpadref06_Go.calls _ _ l0_0 _ _ l0_1 _ _ l1 _ _ x9_1 _ _ x10_1 _ _ x11_2 t649 t652 _ ?side1 ?side2 ?side3 ?side4 ?side5 ?side6 ?side7 ?side8 ?side9 ?side10 ?side11 ?side12 A37.out).mono ?_); (case side1 => exact kc_ HR0_0 HB); (case side2 => exact HC0_0.out); (case side3 => exact kc_ HR0_1 HB); (case side4 => exact HC0_1.out); (case side5 => exact kc_ HR1 HB); (case side6 => exact HC1.out); (case side7 => exact kd_ (Kd.R_reads' HO_9.out).2.2); (case side8 => exact (Kd.R_reads' HO_9.out).2.1); (case side9 => exact kd_ (Kd.R_reads' HO_10.out).2.2); (case side10 => exact (Kd.R_reads' HO_10.out).2.1); (case side11 => exact kd_ (Kd.R_reads' HO_11.out).2.2); (case side12 => exact (Kd.R_reads' HO_11.out).2.1); rintro e w42 ⟨v650, v653, rfl, ho0, ho1, hb⟩; refine ⟨_, rfl, ?_⟩; have HO651 := Aside0.mk (Kd.R_lower (Kd.R_new' (Kd.R_new' (Kd.R_new' ho0 (Kd.R_lt (ro_ HO_9))) (Kd.R_lt (ro_ HO_10))) (Kd.R_lt (ro_ HO_11))) (below_size (be1_ HB GE629))); have HO654 := Aside0.mk (Kd.S_lower (Kd.S_new' (Kd.S_new' (Kd.S_new' ho1 (Kd.R_lt (ro_ HO_9))) (Kd.R_lt (ro_ HO_10))) (Kd.R_lt (ro_ HO_11))) (below_size (be1_ HB GE629))); replace HO_9 := Aside0.mk (Kd.R_elder' (ro_ HO_9) (Kd.R_base ho0) hb); replace HO_10 := Aside0.mk (Kd.R_elder' (ro_ HO_10) (Kd.R_base ho0) hb); replace HO_11 := Aside0.mk (Kd.R_elder' (ro_ HO_11) (Kd.R_base ho0) hb); replace BK629 := bb_ BK629 hb; replace HB := bs1_ HB GE629 hb; (try clear hb); (try clear hb2); (try clear hk); (try clear hi); (try clear ho0); (try clear ho1)))
       go_loopg [18, 84] k2 (fun kq v18 v84 w' => ∃ (x18_3 : Bool) (x84_3 : Int), v18 = .bool x18_3 ∧ v84 = .int .i64 x84_3 ∧ Aside0 (cottonpadlaw06_truth.l2 kq l2 t649 t652 x18_3 l1 (l1.length : Int) x84_3 l0_0 l0_1 = some (r1, r2, r3)) ∧ Aside0 (kq ≤ k2) ∧ Aside0 (Kd.R (Kd.int .i64) 3 w' w.heap.size (fun _ => True) v650 t649) ∧ Aside0 (Kd.S (Kd.slice 3 (Kd.int .i64)) 67 w' w.heap.size (fun k_ => some k_ ≠ (v650 : Value).ownBlock) v653 t652) ∧ Aside0 (w'.heap[gb629]? = some (.cells #[(.slice A0_0 l0_0.length c0_0), (.slice A0_1 l0_1.length c0_1)] 25 (0, 0))) ∧ Aside0 (Below w.heap.size w w'))
       case atStart => exact ⟨(true), (0), (by first | rfl | (simp; done) | (simp [*]; done)), (by first | rfl | (simp; done) | (simp [*]; done)), H', ⟨Nat.le_refl _⟩, ⟨by (with_reducible repeat (first | apply Kd.R_alloc | apply Kd.R_drewN | apply Kd.R_drew)); exact Kd.R_mono HO651.out (fun _ hk => trivial)⟩, ⟨by (with_reducible repeat (first | apply Kd.S_alloc | apply Kd.S_drewN | apply Kd.S_drew)); exact Kd.S_mono HO654.out (fun _ hk => hk.1.1.1)⟩, ⟨by refine bx_ ?_; exact BK629.out⟩, ⟨be1_ HB GE629⟩⟩
       case round =>
        clear H'
        try clear c1
        try clear c2
        try clear p2
        try clear c3
        try clear c5
        try clear c5b0
        try clear c6
        try clear c6b0
        try clear p6
        try clear q6
        try clear hx6
        try clear c7
        try clear c7b0
        try clear c10
        try clear c13
        try clear c15
        try clear c24
        try clear c24b0
        try clear c25
        try clear c25b0
        try clear c26
        try clear c26b0
        try clear c29
        try clear c31
        try clear hcz16_0
        try clear hcz16_1
        try clear hcz16_2
        try clear hcz16_3
        try clear hcz16_4
        try clear hcz23_0
        try clear hcz23_1
        try clear hcz32_0
        try clear hcz32_1
        try clear hcz32_2
        try clear hcz32_3
        try clear hcz32_4
        try clear hcz32_5
        try clear hcz38_0
        try clear hcz38_1
        try clear hfz16_0
        try clear hfz16_1
        try clear hfz16_2
        try clear hfz16_3
        try clear hfz16_4
        try clear hfz23_0
        try clear hfz23_1
        try clear hfz32_0
        try clear hfz32_1
        try clear hfz32_2
        try clear hfz32_3
        try clear hfz32_4
        try clear hfz32_5
        try clear hfz38_0
        try clear hfz38_1
        try clear hx630_0
        try clear hx630_1
        try clear hx630_2
        try clear hx630_3
        try clear hx630_4
        try clear hx642_0
        try clear hx642_1
        try clear hx642_2
        try clear hx642_3
        try clear hx642_4
        try clear hx642_5
        try clear p2
        try clear p6
        try clear p630
        try clear p642
        try clear q6
        try clear q630
        try clear q642
        obtain ⟨x18_3, x84_3, rfl, rfl, HA, HK3, HO_16, HO_17, BK629, HB⟩ := hrel
        cases gk with
        | zero => exact absurd HA.out (by simp [cottonpadlaw06_truth.l2])
        | succ k3 =>
         have H := HA.out
         clear HA
         simp only [cottonpadlaw06_truth.l2] at H
         by_cases c43 : x84_3 < (l1.length : Int)
         ·rw [if_pos c43] at H
          have c43b0 : decide (x84_3 < (l1.length : Int)) = true := decide_eq_true c43
          clear c43
          by_cases c44 : 0 ≤ x84_3
          ·rw [if_pos c44] at H
           have c44b0 : decide (0 ≤ x84_3) = true := decide_eq_true c44
           clear c44
           by_cases c45 : x84_3 < (l1.length : Int)
           ·rw [if_pos c45] at H
            have c45b0 : decide (x84_3 < (l1.length : Int)) = true := decide_eq_true c45
            clear c45
            by_cases c46 : x18_3 = true
            ·subst c46
             have H1 : (if x84_3 < (t649.length : Int) then (if 0 ≤ ((rd_T48 l1 x84_3).f0) then (if ((rd_T48 l1 x84_3).f0) < (l0_1.length : Int) then ((cottonpadlaw06_choose.f l2 (wrap64 (60 + ((rd_T48 l1 x84_3).f0)))).bind fun t659 => ((cottonpadlaw06_pick.f ((rd_T81 l0_1 ((rd_T48 l1 x84_3).f0)).f2.f0) ((rd_T81 l0_1 ((rd_T48 l1 x84_3).f0)).f2.f1) t659).bind fun t660 => (cottonpadlaw06_truth.l2 k3 l2 t649 t652 (decide ((rd t649 x84_3) ≤ t660)) l1 (l1.length : Int) (wrap64 (x84_3 + 1)) l0_0 l0_1))) else (none)) else (none)) else (none)) = some (r1, r2, r3) := by rw [if_pos rfl] at H; exact H
             clear H
             have H := H1
             clear H1
             by_cases c47 : x84_3 < (t649.length : Int)
             ·rw [if_pos c47] at H
              have c47b0 : decide (x84_3 < (t649.length : Int)) = true := decide_eq_true c47
              clear c47
              by_cases c48 : 0 ≤ ((rd_T48 l1 x84_3).f0)
              ·rw [if_pos c48] at H
               have c48b0 : decide (0 ≤ ((rd_T48 l1 x84_3).f0)) = true := decide_eq_true c48
               clear c48
               by_cases c49 : ((rd_T48 l1 x84_3).f0) < (l0_1.length : Int)
               ·rw [if_pos c49] at H
                have c49b0 : decide (((rd_T48 l1 x84_3).f0) < (l0_1.length : Int)) = true := decide_eq_true c49
                clear c49
                replace H := Option.bind_eq_some_iff.mp H
                obtain ⟨t659, A500, H⟩ := H
                replace H : ((cottonpadlaw06_pick.f ((rd_T81 l0_1 ((rd_T48 l1 x84_3).f0)).f2.f0) ((rd_T81 l0_1 ((rd_T48 l1 x84_3).f0)).f2.f1) t659).bind fun t660 => (cottonpadlaw06_truth.l2 k3 l2 t649 t652 (decide ((rd t649 x84_3) ≤ t660)) l1 (l1.length : Int) (wrap64 (x84_3 + 1)) l0_0 l0_1)) = some (r1, r2, r3) := H
                have A50 := Aside0.mk A500
                clear A500
                replace H := Option.bind_eq_some_iff.mp H
                obtain ⟨t660, A510, H⟩ := H
                replace H : (cottonpadlaw06_truth.l2 k3 l2 t649 t652 (decide ((rd t649 x84_3) ≤ t660)) l1 (l1.length : Int) (wrap64 (x84_3 + 1)) l0_0 l0_1) = some (r1, r2, r3) := H
                have A51 := Aside0.mk A510
                clear A510
                have H' := Aside0.mk H
                clear H
                have p655 : 0 ≤ (x84_3 : Int) := of_decide_eq_true as_
                have q655 : x84_3 < (l1.length : Int) := of_decide_eq_true as_
                obtain ⟨ad655, e655, hx655_0, hx655_1, hx655_2, hx655_3, hx655_4⟩ := at_T48 HR1.out x84_3 p655 q655
                cases e655
                try replace hx655_0 := ce_ HB hx655_0
                try replace hx655_1 := ce_ HB hx655_1
                try replace hx655_2 := ce_ HB hx655_2
                try replace hx655_3 := ce_ HB hx655_3
                try replace hx655_4 := ce_ HB hx655_4
                replace p655 := eq_true p655
                replace q655 := eq_true q655
                try go_wp2_with (first | ((with_reducible refine gate_dst (N := 20) rfl ?_); refine box_event ?hg (N := 20) ?hd (cs := #[.int .i64 0, .int .i64 0, .int .i64 0, .int .i64 0, .int .i64 0]) (t := 48) ?hr ?_; (case hd => rfl); (case hg => rfl); (case hr => exact gs_); intro gb656 hg w52 hbox hb; replace HO_16 := rb_ HO_16 hb; replace HO_17 := Aside0.mk (Kd.S_below (by (with_reducible repeat (first | apply Kd.S_alloc | apply Kd.S_drewN | apply Kd.S_drew)); exact HO_17.out) hb); have BK656 := Aside0.mk (hbox); have GW656 := hl_ hg (be1_ HB GE629); have GE656 := hl_ hg (be1_ HB GE629); replace HB := bs1_ HB GE629 hb; have NB629_656 := Aside0.mk ((by rw [hg]; exact Nat.ne_of_lt (blk_lt (bk_ BK629)) : gb629 ≠ gb656)); have NB656_629 := Aside0.mk ((by rw [hg]; exact Nat.ne_of_gt (blk_lt (bk_ BK629)) : gb656 ≠ gb629)); replace BK629 := bb_ BK629 hb; clear hb hbox hg; have hnb53 := NB656_629.out; have hnc53 := NB629_656.out; have hcz54_0 : w52.cell? ⟨gb656, 0, none⟩ = some (.int .i64 0) := bc_ BK656 0; have hcz54_1 : w52.cell? ⟨gb656, 1, none⟩ = some (.int .i64 0) := bc_ BK656 1; have hcz54_2 : w52.cell? ⟨gb656, 2, none⟩ = some (.int .i64 0) := bc_ BK656 2; have hcz54_3 : w52.cell? ⟨gb656, 3, none⟩ = some (.int .i64 0) := bc_ BK656 3; have hcz54_4 : w52.cell? ⟨gb656, 4, none⟩ = some (.int .i64 0) := bc_ BK656 4; have hfz54_0 := blk_frozen BK656.out 0; have hfz54_1 := blk_frozen BK656.out 1; have hfz54_2 := blk_frozen BK656.out 2; have hfz54_3 := blk_frozen BK656.out 3; have hfz54_4 := blk_frozen BK656.out 4))
                have n0_ : Aside0 (Kd.R (Kd.int .i64) 3 (((((w52.setCell ⟨gb656, 0, none⟩ (.int .i64 ((rd_T48 l1 x84_3).f0))).setCell ⟨gb656, 1, none⟩ (.int .i64 ((rd_T48 l1 x84_3).f1.f0))).setCell ⟨gb656, 2, none⟩ (.int .i64 ((rd_T48 l1 x84_3).f1.f1))).setCell ⟨gb656, 3, none⟩ (.int .i64 ((rd_T48 l1 x84_3).f2.f0))).setCell ⟨gb656, 4, none⟩ (.int .i64 ((rd_T48 l1 x84_3).f2.f1))) w.heap.size (fun _ => True) v650 t649) := ⟨by (with_reducible repeat (first | apply Kd.R_alloc | apply Kd.R_drewN | apply Kd.R_drew)); exact Kd.R_mono (Kd.R_far (p := ⟨gb656, 4, none⟩) (Kd.R_far (p := ⟨gb656, 3, none⟩) (Kd.R_far (p := ⟨gb656, 2, none⟩) (Kd.R_far (p := ⟨gb656, 1, none⟩) (Kd.R_far (p := ⟨gb656, 0, none⟩) (Kd.R_types HO_16.out BK656.out (by decide)) (fun _ hk => hk.2) (.int .i64 ((rd_T48 l1 x84_3).f0))) (fun _ hk => hk.2) (.int .i64 ((rd_T48 l1 x84_3).f1.f0))) (fun _ hk => hk.2) (.int .i64 ((rd_T48 l1 x84_3).f1.f1))) (fun _ hk => hk.2) (.int .i64 ((rd_T48 l1 x84_3).f2.f0))) (fun _ hk => hk.2) (.int .i64 ((rd_T48 l1 x84_3).f2.f1))) (fun _ hk => trivial)⟩
                have n1_ : Aside0 (Kd.S (Kd.slice 3 (Kd.int .i64)) 67 (((((w52.setCell ⟨gb656, 0, none⟩ (.int .i64 ((rd_T48 l1 x84_3).f0))).setCell ⟨gb656, 1, none⟩ (.int .i64 ((rd_T48 l1 x84_3).f1.f0))).setCell ⟨gb656, 2, none⟩ (.int .i64 ((rd_T48 l1 x84_3).f1.f1))).setCell ⟨gb656, 3, none⟩ (.int .i64 ((rd_T48 l1 x84_3).f2.f0))).setCell ⟨gb656, 4, none⟩ (.int .i64 ((rd_T48 l1 x84_3).f2.f1))) w.heap.size (fun k_ => some k_ ≠ (v650 : Value).ownBlock) v653 t652) := ⟨by (with_reducible repeat (first | apply Kd.S_alloc | apply Kd.S_drewN | apply Kd.S_drew)); exact Kd.S_mono (Kd.S_far (p := ⟨gb656, 4, none⟩) (Kd.S_far (p := ⟨gb656, 3, none⟩) (Kd.S_far (p := ⟨gb656, 2, none⟩) (Kd.S_far (p := ⟨gb656, 1, none⟩) (Kd.S_far (p := ⟨gb656, 0, none⟩) (Kd.S_types HO_17.out BK656.out (by decide)) (fun _ hk => hk.2) (.int .i64 ((rd_T48 l1 x84_3).f0))) (fun _ hk => hk.2) (.int .i64 ((rd_T48 l1 x84_3).f1.f0))) (fun _ hk => hk.2) (.int .i64 ((rd_T48 l1 x84_3).f1.f1))) (fun _ hk => hk.2) (.int .i64 ((rd_T48 l1 x84_3).f2.f0))) (fun _ hk => hk.2) (.int .i64 ((rd_T48 l1 x84_3).f2.f1))) (fun _ hk => hk.1)⟩
                have n2_ : Aside0 ((((((w52.setCell ⟨gb656, 0, none⟩ (.int .i64 ((rd_T48 l1 x84_3).f0))).setCell ⟨gb656, 1, none⟩ (.int .i64 ((rd_T48 l1 x84_3).f1.f0))).setCell ⟨gb656, 2, none⟩ (.int .i64 ((rd_T48 l1 x84_3).f1.f1))).setCell ⟨gb656, 3, none⟩ (.int .i64 ((rd_T48 l1 x84_3).f2.f0))).setCell ⟨gb656, 4, none⟩ (.int .i64 ((rd_T48 l1 x84_3).f2.f1))).heap[gb629]? = some (.cells #[.slice A0_0 l0_0.length c0_0, .slice A0_1 l0_1.length c0_1] 25 (0, 0))) := ⟨by refine bx_ ?_; refine blk_far ?_ NB629_656.out _; refine bx_ ?_; refine blk_far ?_ NB629_656.out _; refine bx_ ?_; refine blk_far ?_ NB629_656.out _; refine bx_ ?_; refine blk_far ?_ NB629_656.out _; refine bx_ ?_; refine blk_far ?_ NB629_656.out _; refine bx_ ?_; exact BK629.out⟩
                have n3_ : Aside0 ((((((w52.setCell ⟨gb656, 0, none⟩ (.int .i64 ((rd_T48 l1 x84_3).f0))).setCell ⟨gb656, 1, none⟩ (.int .i64 ((rd_T48 l1 x84_3).f1.f0))).setCell ⟨gb656, 2, none⟩ (.int .i64 ((rd_T48 l1 x84_3).f1.f1))).setCell ⟨gb656, 3, none⟩ (.int .i64 ((rd_T48 l1 x84_3).f2.f0))).setCell ⟨gb656, 4, none⟩ (.int .i64 ((rd_T48 l1 x84_3).f2.f1))).heap[gb656]? = some (.cells #[.int .i64 ((rd_T48 l1 x84_3).f0), .int .i64 ((rd_T48 l1 x84_3).f1.f0), .int .i64 ((rd_T48 l1 x84_3).f1.f1), .int .i64 ((rd_T48 l1 x84_3).f2.f0), .int .i64 ((rd_T48 l1 x84_3).f2.f1)] 48 (0, 0))) := ⟨by refine bx_ ?_; refine blk_put (cs := #[.int .i64 ((rd_T48 l1 x84_3).f0), .int .i64 ((rd_T48 l1 x84_3).f1.f0), .int .i64 ((rd_T48 l1 x84_3).f1.f1), .int .i64 ((rd_T48 l1 x84_3).f2.f0), .int .i64 0]) ?_ 4 _ rfl; refine bx_ ?_; refine blk_put (cs := #[.int .i64 ((rd_T48 l1 x84_3).f0), .int .i64 ((rd_T48 l1 x84_3).f1.f0), .int .i64 ((rd_T48 l1 x84_3).f1.f1), .int .i64 0, .int .i64 0]) ?_ 3 _ rfl; refine bx_ ?_; refine blk_put (cs := #[.int .i64 ((rd_T48 l1 x84_3).f0), .int .i64 ((rd_T48 l1 x84_3).f1.f0), .int .i64 0, .int .i64 0, .int .i64 0]) ?_ 2 _ rfl; refine bx_ ?_; refine blk_put (cs := #[.int .i64 ((rd_T48 l1 x84_3).f0), .int .i64 0, .int .i64 0, .int .i64 0, .int .i64 0]) ?_ 1 _ rfl; refine bx_ ?_; refine blk_put (cs := #[.int .i64 0, .int .i64 0, .int .i64 0, .int .i64 0, .int .i64 0]) ?_ 0 _ rfl; refine bx_ ?_; exact BK656.out⟩
                have n4_ : Aside0 (Below w.heap.size w (((((w52.setCell ⟨gb656, 0, none⟩ (.int .i64 ((rd_T48 l1 x84_3).f0))).setCell ⟨gb656, 1, none⟩ (.int .i64 ((rd_T48 l1 x84_3).f1.f0))).setCell ⟨gb656, 2, none⟩ (.int .i64 ((rd_T48 l1 x84_3).f1.f1))).setCell ⟨gb656, 3, none⟩ (.int .i64 ((rd_T48 l1 x84_3).f2.f0))).setCell ⟨gb656, 4, none⟩ (.int .i64 ((rd_T48 l1 x84_3).f2.f1)))) := ⟨be2_ HB GE629 GE656⟩
                (try clear HO_16)
                (try clear HO_17)
                (try clear BK629)
                (try clear BK656)
                (try clear HB)
                generalize (((((w52.setCell ⟨gb656, 0, none⟩ (.int .i64 ((rd_T48 l1 x84_3).f0))).setCell ⟨gb656, 1, none⟩ (.int .i64 ((rd_T48 l1 x84_3).f1.f0))).setCell ⟨gb656, 2, none⟩ (.int .i64 ((rd_T48 l1 x84_3).f1.f1))).setCell ⟨gb656, 3, none⟩ (.int .i64 ((rd_T48 l1 x84_3).f2.f0))).setCell ⟨gb656, 4, none⟩ (.int .i64 ((rd_T48 l1 x84_3).f2.f1))) = w55 at n0_ n1_ n2_ n3_ n4_ ⊢
                have HO_16 := n0_
                have HO_17 := n1_
                have BK629 := n2_
                have BK656 := n3_
                have HB := n4_
                clear n0_ n1_ n2_ n3_ n4_
                replace HO_16 := Aside0.mk (Kd.R_drew HO_16.out)
                replace HO_17 := Aside0.mk (Kd.S_drew HO_17.out)
                replace BK629 := Aside0.mk (blk_drew BK629.out)
                replace BK656 := Aside0.mk (blk_drew BK656.out)
                replace HB := Aside0.mk (below_drew1 HB.out)
                obtain ⟨Ao57, co57, eo57⟩ := Kd.R_slice HO_16.out
                (first | subst eo57 | (injection eo57 with f1_ f2_ f3_; have f4_ := f1_.symm; have f5_ := f3_.symm; clear f1_ f2_ f3_; subst f4_; subst f5_))
                have p657 : 0 ≤ (x84_3 : Int) := of_decide_eq_true as_
                have q657 : x84_3 < (t649.length : Int) := of_decide_eq_true as_
                obtain ⟨ad657, e657, hx657_0⟩ := Kd.at_int (Kd.R_reads' HO_16.out).2.2 x84_3 p657 q657
                cases e657
                replace p657 := eq_true p657
                replace q657 := eq_true q657
                have p658 : 0 ≤ (((rd_T48 l1 x84_3).f0) : Int) := of_decide_eq_true as_
                have q658 : ((rd_T48 l1 x84_3).f0) < (l0_1.length : Int) := of_decide_eq_true as_
                obtain ⟨ad658, e658, hx658_0, hx658_1, hx658_2, hx658_3⟩ := at_T81 HR0_1.out ((rd_T48 l1 x84_3).f0) p658 q658
                have hw658_3 := hx658_3
                have hw658_2 := hx658_2
                have hw658_1 := hx658_1
                have hw658_0 := hx658_0
                cases e658
                try replace hx658_0 := ce_ HB hx658_0
                try replace hx658_1 := ce_ HB hx658_1
                try replace hx658_2 := ce_ HB hx658_2
                try replace hx658_3 := ce_ HB hx658_3
                replace p658 := eq_true p658
                replace q658 := eq_true q658
                refine start_ (n := 22) (S := fun w' => w'.cell? ⟨gb629, 0, none⟩ = some (.slice A0_0 l0_0.length c0_0) ∧ w'.cell? ⟨gb629, 1, none⟩ = some (.slice (some ad658) l0_1.length c0_1) ∧ w'.cell? ⟨gb656, 0, none⟩ = some (.int .i64 ((rd_T48 l1 x84_3).f0)) ∧ w'.cell? ⟨gb656, 1, none⟩ = some (.int .i64 ((rd_T48 l1 x84_3).f1.f0)) ∧ w'.cell? ⟨gb656, 2, none⟩ = some (.int .i64 ((rd_T48 l1 x84_3).f1.f1)) ∧ w'.cell? ⟨gb656, 3, none⟩ = some (.int .i64 ((rd_T48 l1 x84_3).f2.f0)) ∧ w'.cell? ⟨gb656, 4, none⟩ = some (.int .i64 ((rd_T48 l1 x84_3).f2.f1)) ∧ w'.cell? (ad657.add (x84_3).toNat) = some (.int .i64 (rd t649 x84_3)) ∧ w'.cell? (ad658.add ((((rd_T48 l1 x84_3).f0)).toNat * 4)) = some (.int .i64 ((rd_T81 l0_1 ((rd_T48 l1 x84_3).f0)).f0)) ∧ w'.cell? ⟨(ad658.add ((((rd_T48 l1 x84_3).f0)).toNat * 4)).block, (ad658.add ((((rd_T48 l1 x84_3).f0)).toNat * 4)).off + 1, none⟩ = some (.int .i64 ((rd_T81 l0_1 ((rd_T48 l1 x84_3).f0)).f1)) ∧ w'.cell? ⟨(ad658.add ((((rd_T48 l1 x84_3).f0)).toNat * 4)).block, (ad658.add ((((rd_T48 l1 x84_3).f0)).toNat * 4)).off + 2, none⟩ = some (.int .i64 ((rd_T81 l0_1 ((rd_T48 l1 x84_3).f0)).f2.f0)) ∧ w'.cell? ⟨(ad658.add ((((rd_T48 l1 x84_3).f0)).toNat * 4)).block, (ad658.add ((((rd_T48 l1 x84_3).f0)).toNat * 4)).off + 3, none⟩ = some (.int .i64 ((rd_T81 l0_1 ((rd_T48 l1 x84_3).f0)).f2.f1))) (ds := []) (bm_ 22 0) (by kernel_rfl) rfl rfl ⟨bc_ BK629 0, bc_ BK629 1, bc_ BK656 0, bc_ BK656 1, bc_ BK656 2, bc_ BK656 3, bc_ BK656 4, hx657_0, (cf_ HB hw658_0), (cf_ HB hw658_1), (cf_ HB hw658_2), (cf_ HB hw658_3)⟩ (fun hHeld => ?_); refine with_tabW cottonpadlaw06_truth.tab17 cottonpadlaw06_truth.bits17 (fun HT_ HW_ => ?_)
                generalize w55.drew = w56 at HO_16 HO_17 BK629 BK656 HB hx657_0 hx658_0 hx658_1 hx658_2 hx658_3 hHeld ⊢
                refine pr_ 0 89 22 1 HT_ rfl rfl ?_
                refine pr_ 1 90 22 3 HT_ rfl rfl ?_
                refine pr_ 2 91 22 7 HT_ rfl rfl ?_
                refine pr_ 3 92 22 15 HT_ rfl rfl ?_
                refine pr_ 4 93 22 31 HT_ rfl rfl ?_
                refine pr_ 6 95 22 95 HT_ rfl rfl ?_
                refine pr_ 8 97 22 351 HT_ rfl rfl ?_
                refine pr_ 13 102 22 8543 HT_ rfl rfl ?_
                refine pr_ 14 103 22 24927 HT_ rfl rfl ?_
                refine ta_ 5 94 22 24959 HT_ HW_ rfl rfl hHeld ?_
                refine ta_ 7 96 22 25087 HT_ HW_ rfl rfl hHeld ?_
                refine ta_ 9 98 22 25599 HT_ HW_ rfl rfl hHeld ?_
                refine pr_ 10 99 22 26623 HT_ rfl rfl ?_
                refine pr_ 11 100 22 28671 HT_ rfl rfl ?_
                refine ta_ 12 101 22 32767 HT_ HW_ rfl rfl hHeld ?_
                refine ta_ 15 104 22 65535 HT_ HW_ rfl rfl hHeld ?_
                refine pr_ 16 105 22 131071 HT_ rfl rfl ?_
                refine one_ (i := 17) (N := some 106) (bm_ 22 262143) rfl rfl (one_of HT_.out (by kernel_rfl)) (by decide) (fun K hK => ?_)
                refine goes_ Tryd.func51 (by kernel_rfl) rfl #[.slice A2 l2.length c2, .int .i64 (wrap64 (60 + ((rd_T48 l1 x84_3).f0)))] (by rfl) rfl rfl ls_ ?_
                with_reducible refine (cottonpadlaw06_choose.calls _ _ l2 (wrap64 (60 + ((rd_T48 l1 x84_3).f0))) t659 _ ?side1 ?side2 A50.out).mono ?_
                (case side1 => exact kc_ HR2 HB)
                (case side2 => exact HC2.out)
                rintro e w' ⟨rfl, ⟨nd, rfl⟩⟩
                refine ⟨_, rfl, ?_⟩
                refine hK.out _ _ ⟨bc_ BK629 0, bc_ BK629 1, bc_ BK656 0, bc_ BK656 1, bc_ BK656 2, bc_ BK656 3, bc_ BK656 4, hHeld.2.2.2.2.2.2.2.1, (cf_ HB hw658_0), (cf_ HB hw658_1), (cf_ HB hw658_2), (cf_ HB hw658_3)⟩ (fun hHeld => ?_)
                clear hK K
                refine norm_ (a' := ?_) ?_ ?_
                rotate_left
                ·show Act.put _ (some 106) _ = _
                 simp only [Act.put, List.setIfInBounds_toArray, List.set_cons_zero, List.set_cons_succ, i64_w, i32_w]
                 rfl
                refine one_ (i := 18) (N := some 107) (bm_ 22 524287) rfl rfl (one_of HT_.out (by kernel_rfl)) (by decide) (fun K hK => ?_)
                refine goes_ Tryd.func68 (by kernel_rfl) rfl #[.agg #[.int .i64 ((rd_T81 l0_1 ((rd_T48 l1 x84_3).f0)).f2.f0), .int .i64 ((rd_T81 l0_1 ((rd_T48 l1 x84_3).f0)).f2.f1)], .int .i64 t659] (by rfl) rfl rfl ls_ ?_
                with_reducible refine (cottonpadlaw06_pick.calls ((rd_T81 l0_1 ((rd_T48 l1 x84_3).f0)).f2.f0) ((rd_T81 l0_1 ((rd_T48 l1 x84_3).f0)).f2.f1) t659 t660 _ A51.out).mono ?_
                rintro e w58 ⟨rfl, hb⟩
                have HS7_ := (hb.cell (World.block_lt_of_cell? _ _ (hHeld.2.2.2.2.2.2.2.1))).trans (hHeld.2.2.2.2.2.2.2.1)
                refine ⟨_, rfl, ?_⟩
                replace HO_16 := rb_ HO_16 hb
                replace HO_17 := Aside0.mk (Kd.S_below (by (with_reducible repeat (first | apply Kd.S_alloc | apply Kd.S_drewN | apply Kd.S_drew)); exact HO_17.out) hb)
                replace BK629 := bb_ BK629 hb
                replace BK656 := bb_ BK656 hb
                replace HB := bs2_ HB GE629 GE656 hb
                (try clear hb)
                (try clear hb2)
                (try clear hk)
                (try clear hi)
                refine hK.out _ _ ⟨bc_ BK629 0, bc_ BK629 1, bc_ BK656 0, bc_ BK656 1, bc_ BK656 2, bc_ BK656 3, bc_ BK656 4, HS7_, (cf_ HB hw658_0), (cf_ HB hw658_1), (cf_ HB hw658_2), (cf_ HB hw658_3)⟩ (fun hHeld => ?_)
                clear hK K
                refine norm_ (a' := ?_) ?_ ?_
                rotate_left
                ·show Act.put _ (some 107) _ = _
                 simp only [Act.put, List.setIfInBounds_toArray, List.set_cons_zero, List.set_cons_succ, i64_w, i32_w]
                 rfl
                refine pr_ 19 108 22 1048575 HT_ rfl rfl ?_
                refine pr_ 20 109 22 2097151 HT_ rfl rfl ?_
                refine pr_ 21 18 22 4194303 HT_ rfl rfl ?_
                refine done_ (done_of HT_.out (by kernel_rfl)) ?_
                try go_wp2
                go_roundg k3
                case measure => have := HK1.out; have := HK2.out; have := HK3.out; omega
                case rel => exact ⟨(decide ((rd t649 x84_3) ≤ t660)), (wrap64 (x84_3 + 1)), (by first | rfl | (simp; done) | (simp [*]; done)), (by first | rfl | (simp; done) | (simp [*]; done)), H', ⟨by have := HK1.out; have := HK2.out; have := HK3.out; omega⟩, ⟨by (with_reducible repeat (first | apply Kd.R_alloc | apply Kd.R_drewN | apply Kd.R_drew)); exact HO_16.out⟩, ⟨by (with_reducible repeat (first | apply Kd.S_alloc | apply Kd.S_drewN | apply Kd.S_drew)); exact HO_17.out⟩, ⟨by refine bx_ ?_; exact BK629.out⟩, ⟨be2_ HB GE629 GE656⟩⟩
               ·rw [if_neg c49] at H
                exact absurd H (by simp)
              ·rw [if_neg c48] at H
               exact absurd H (by simp)
             ·rw [if_neg c47] at H
              exact absurd H (by simp)
            ·replace c46 := Bool.eq_false_iff.mpr c46
             subst c46
             have H1 : (cottonpadlaw06_truth.l2 k3 l2 t649 t652 false l1 (l1.length : Int) (wrap64 (x84_3 + 1)) l0_0 l0_1) = some (r1, r2, r3) := by rw [if_neg (show ¬ (false = true) by decide)] at H; exact H
             clear H
             have H := H1
             clear H1
             have H' := Aside0.mk H
             clear H
             have p655 : 0 ≤ (x84_3 : Int) := of_decide_eq_true as_
             have q655 : x84_3 < (l1.length : Int) := of_decide_eq_true as_
             obtain ⟨ad655, e655, hx655_0, hx655_1, hx655_2, hx655_3, hx655_4⟩ := at_T48 HR1.out x84_3 p655 q655
             cases e655
             try replace hx655_0 := ce_ HB hx655_0
             try replace hx655_1 := ce_ HB hx655_1
             try replace hx655_2 := ce_ HB hx655_2
             try replace hx655_3 := ce_ HB hx655_3
             try replace hx655_4 := ce_ HB hx655_4
             replace p655 := eq_true p655
             replace q655 := eq_true q655
             try go_wp2_with (first | ((with_reducible refine gate_dst (N := 20) rfl ?_); refine box_event ?hg (N := 20) ?hd (cs := #[.int .i64 0, .int .i64 0, .int .i64 0, .int .i64 0, .int .i64 0]) (t := 48) ?hr ?_; (case hd => rfl); (case hg => rfl); (case hr => exact gs_); intro gb656 hg w59 hbox hb; replace HO_16 := rb_ HO_16 hb; replace HO_17 := Aside0.mk (Kd.S_below (by (with_reducible repeat (first | apply Kd.S_alloc | apply Kd.S_drewN | apply Kd.S_drew)); exact HO_17.out) hb); have BK656 := Aside0.mk (hbox); have GW656 := hl_ hg (be1_ HB GE629); have GE656 := hl_ hg (be1_ HB GE629); replace HB := bs1_ HB GE629 hb; have NB629_656 := Aside0.mk ((by rw [hg]; exact Nat.ne_of_lt (blk_lt (bk_ BK629)) : gb629 ≠ gb656)); have NB656_629 := Aside0.mk ((by rw [hg]; exact Nat.ne_of_gt (blk_lt (bk_ BK629)) : gb656 ≠ gb629)); replace BK629 := bb_ BK629 hb; clear hb hbox hg; have hnb60 := NB656_629.out; have hnc60 := NB629_656.out; have hcz61_0 : w59.cell? ⟨gb656, 0, none⟩ = some (.int .i64 0) := bc_ BK656 0; have hcz61_1 : w59.cell? ⟨gb656, 1, none⟩ = some (.int .i64 0) := bc_ BK656 1; have hcz61_2 : w59.cell? ⟨gb656, 2, none⟩ = some (.int .i64 0) := bc_ BK656 2; have hcz61_3 : w59.cell? ⟨gb656, 3, none⟩ = some (.int .i64 0) := bc_ BK656 3; have hcz61_4 : w59.cell? ⟨gb656, 4, none⟩ = some (.int .i64 0) := bc_ BK656 4; have hfz61_0 := blk_frozen BK656.out 0; have hfz61_1 := blk_frozen BK656.out 1; have hfz61_2 := blk_frozen BK656.out 2; have hfz61_3 := blk_frozen BK656.out 3; have hfz61_4 := blk_frozen BK656.out 4))
             have n0_ : Aside0 (Kd.R (Kd.int .i64) 3 (((((w59.setCell ⟨gb656, 0, none⟩ (.int .i64 ((rd_T48 l1 x84_3).f0))).setCell ⟨gb656, 1, none⟩ (.int .i64 ((rd_T48 l1 x84_3).f1.f0))).setCell ⟨gb656, 2, none⟩ (.int .i64 ((rd_T48 l1 x84_3).f1.f1))).setCell ⟨gb656, 3, none⟩ (.int .i64 ((rd_T48 l1 x84_3).f2.f0))).setCell ⟨gb656, 4, none⟩ (.int .i64 ((rd_T48 l1 x84_3).f2.f1))) w.heap.size (fun _ => True) v650 t649) := ⟨by (with_reducible repeat (first | apply Kd.R_alloc | apply Kd.R_drewN | apply Kd.R_drew)); exact Kd.R_mono (Kd.R_far (p := ⟨gb656, 4, none⟩) (Kd.R_far (p := ⟨gb656, 3, none⟩) (Kd.R_far (p := ⟨gb656, 2, none⟩) (Kd.R_far (p := ⟨gb656, 1, none⟩) (Kd.R_far (p := ⟨gb656, 0, none⟩) (Kd.R_types HO_16.out BK656.out (by decide)) (fun _ hk => hk.2) (.int .i64 ((rd_T48 l1 x84_3).f0))) (fun _ hk => hk.2) (.int .i64 ((rd_T48 l1 x84_3).f1.f0))) (fun _ hk => hk.2) (.int .i64 ((rd_T48 l1 x84_3).f1.f1))) (fun _ hk => hk.2) (.int .i64 ((rd_T48 l1 x84_3).f2.f0))) (fun _ hk => hk.2) (.int .i64 ((rd_T48 l1 x84_3).f2.f1))) (fun _ hk => trivial)⟩
             have n1_ : Aside0 (Kd.S (Kd.slice 3 (Kd.int .i64)) 67 (((((w59.setCell ⟨gb656, 0, none⟩ (.int .i64 ((rd_T48 l1 x84_3).f0))).setCell ⟨gb656, 1, none⟩ (.int .i64 ((rd_T48 l1 x84_3).f1.f0))).setCell ⟨gb656, 2, none⟩ (.int .i64 ((rd_T48 l1 x84_3).f1.f1))).setCell ⟨gb656, 3, none⟩ (.int .i64 ((rd_T48 l1 x84_3).f2.f0))).setCell ⟨gb656, 4, none⟩ (.int .i64 ((rd_T48 l1 x84_3).f2.f1))) w.heap.size (fun k_ => some k_ ≠ (v650 : Value).ownBlock) v653 t652) := ⟨by (with_reducible repeat (first | apply Kd.S_alloc | apply Kd.S_drewN | apply Kd.S_drew)); exact Kd.S_mono (Kd.S_far (p := ⟨gb656, 4, none⟩) (Kd.S_far (p := ⟨gb656, 3, none⟩) (Kd.S_far (p := ⟨gb656, 2, none⟩) (Kd.S_far (p := ⟨gb656, 1, none⟩) (Kd.S_far (p := ⟨gb656, 0, none⟩) (Kd.S_types HO_17.out BK656.out (by decide)) (fun _ hk => hk.2) (.int .i64 ((rd_T48 l1 x84_3).f0))) (fun _ hk => hk.2) (.int .i64 ((rd_T48 l1 x84_3).f1.f0))) (fun _ hk => hk.2) (.int .i64 ((rd_T48 l1 x84_3).f1.f1))) (fun _ hk => hk.2) (.int .i64 ((rd_T48 l1 x84_3).f2.f0))) (fun _ hk => hk.2) (.int .i64 ((rd_T48 l1 x84_3).f2.f1))) (fun _ hk => hk.1)⟩
             have n2_ : Aside0 ((((((w59.setCell ⟨gb656, 0, none⟩ (.int .i64 ((rd_T48 l1 x84_3).f0))).setCell ⟨gb656, 1, none⟩ (.int .i64 ((rd_T48 l1 x84_3).f1.f0))).setCell ⟨gb656, 2, none⟩ (.int .i64 ((rd_T48 l1 x84_3).f1.f1))).setCell ⟨gb656, 3, none⟩ (.int .i64 ((rd_T48 l1 x84_3).f2.f0))).setCell ⟨gb656, 4, none⟩ (.int .i64 ((rd_T48 l1 x84_3).f2.f1))).heap[gb629]? = some (.cells #[.slice A0_0 l0_0.length c0_0, .slice A0_1 l0_1.length c0_1] 25 (0, 0))) := ⟨by refine bx_ ?_; refine blk_far ?_ NB629_656.out _; refine bx_ ?_; refine blk_far ?_ NB629_656.out _; refine bx_ ?_; refine blk_far ?_ NB629_656.out _; refine bx_ ?_; refine blk_far ?_ NB629_656.out _; refine bx_ ?_; refine blk_far ?_ NB629_656.out _; refine bx_ ?_; exact BK629.out⟩
             have n3_ : Aside0 ((((((w59.setCell ⟨gb656, 0, none⟩ (.int .i64 ((rd_T48 l1 x84_3).f0))).setCell ⟨gb656, 1, none⟩ (.int .i64 ((rd_T48 l1 x84_3).f1.f0))).setCell ⟨gb656, 2, none⟩ (.int .i64 ((rd_T48 l1 x84_3).f1.f1))).setCell ⟨gb656, 3, none⟩ (.int .i64 ((rd_T48 l1 x84_3).f2.f0))).setCell ⟨gb656, 4, none⟩ (.int .i64 ((rd_T48 l1 x84_3).f2.f1))).heap[gb656]? = some (.cells #[.int .i64 ((rd_T48 l1 x84_3).f0), .int .i64 ((rd_T48 l1 x84_3).f1.f0), .int .i64 ((rd_T48 l1 x84_3).f1.f1), .int .i64 ((rd_T48 l1 x84_3).f2.f0), .int .i64 ((rd_T48 l1 x84_3).f2.f1)] 48 (0, 0))) := ⟨by refine bx_ ?_; refine blk_put (cs := #[.int .i64 ((rd_T48 l1 x84_3).f0), .int .i64 ((rd_T48 l1 x84_3).f1.f0), .int .i64 ((rd_T48 l1 x84_3).f1.f1), .int .i64 ((rd_T48 l1 x84_3).f2.f0), .int .i64 0]) ?_ 4 _ rfl; refine bx_ ?_; refine blk_put (cs := #[.int .i64 ((rd_T48 l1 x84_3).f0), .int .i64 ((rd_T48 l1 x84_3).f1.f0), .int .i64 ((rd_T48 l1 x84_3).f1.f1), .int .i64 0, .int .i64 0]) ?_ 3 _ rfl; refine bx_ ?_; refine blk_put (cs := #[.int .i64 ((rd_T48 l1 x84_3).f0), .int .i64 ((rd_T48 l1 x84_3).f1.f0), .int .i64 0, .int .i64 0, .int .i64 0]) ?_ 2 _ rfl; refine bx_ ?_; refine blk_put (cs := #[.int .i64 ((rd_T48 l1 x84_3).f0), .int .i64 0, .int .i64 0, .int .i64 0, .int .i64 0]) ?_ 1 _ rfl; refine bx_ ?_; refine blk_put (cs := #[.int .i64 0, .int .i64 0, .int .i64 0, .int .i64 0, .int .i64 0]) ?_ 0 _ rfl; refine bx_ ?_; exact BK656.out⟩
             have n4_ : Aside0 (Below w.heap.size w (((((w59.setCell ⟨gb656, 0, none⟩ (.int .i64 ((rd_T48 l1 x84_3).f0))).setCell ⟨gb656, 1, none⟩ (.int .i64 ((rd_T48 l1 x84_3).f1.f0))).setCell ⟨gb656, 2, none⟩ (.int .i64 ((rd_T48 l1 x84_3).f1.f1))).setCell ⟨gb656, 3, none⟩ (.int .i64 ((rd_T48 l1 x84_3).f2.f0))).setCell ⟨gb656, 4, none⟩ (.int .i64 ((rd_T48 l1 x84_3).f2.f1)))) := ⟨be2_ HB GE629 GE656⟩
             (try clear HO_16)
             (try clear HO_17)
             (try clear BK629)
             (try clear BK656)
             (try clear HB)
             generalize (((((w59.setCell ⟨gb656, 0, none⟩ (.int .i64 ((rd_T48 l1 x84_3).f0))).setCell ⟨gb656, 1, none⟩ (.int .i64 ((rd_T48 l1 x84_3).f1.f0))).setCell ⟨gb656, 2, none⟩ (.int .i64 ((rd_T48 l1 x84_3).f1.f1))).setCell ⟨gb656, 3, none⟩ (.int .i64 ((rd_T48 l1 x84_3).f2.f0))).setCell ⟨gb656, 4, none⟩ (.int .i64 ((rd_T48 l1 x84_3).f2.f1))) = w62 at n0_ n1_ n2_ n3_ n4_ ⊢
             have HO_16 := n0_
             have HO_17 := n1_
             have BK629 := n2_
             have BK656 := n3_
             have HB := n4_
             clear n0_ n1_ n2_ n3_ n4_
             replace HO_16 := Aside0.mk (Kd.R_drew HO_16.out)
             replace HO_17 := Aside0.mk (Kd.S_drew HO_17.out)
             replace BK629 := Aside0.mk (blk_drew BK629.out)
             replace BK656 := Aside0.mk (blk_drew BK656.out)
             replace HB := Aside0.mk (below_drew1 HB.out)
             refine start_ (n := 22) (S := fun w' => True) (ds := []) (bm_ 22 0) (by kernel_rfl) rfl rfl trivial (fun hHeld => ?_); refine with_tabW cottonpadlaw06_truth.tab17 cottonpadlaw06_truth.bits17 (fun HT_ HW_ => ?_)
             generalize w62.drew = w63 at HO_16 HO_17 BK629 BK656 HB hHeld ⊢
             refine pr_ 0 89 22 1 HT_ rfl rfl ?_
             refine pr_ 1 90 22 3 HT_ rfl rfl ?_
             refine pn_ 2 91 22 7 HT_ rfl rfl ?_
             refine pn_ 3 92 22 15 HT_ rfl rfl ?_
             refine pn_ 4 93 22 31 HT_ rfl rfl ?_
             refine pn_ 5 94 22 63 HT_ rfl rfl ?_
             refine pn_ 6 95 22 127 HT_ rfl rfl ?_
             refine pn_ 7 96 22 255 HT_ rfl rfl ?_
             refine pn_ 8 97 22 511 HT_ rfl rfl ?_
             refine pn_ 9 98 22 1023 HT_ rfl rfl ?_
             refine pn_ 10 99 22 2047 HT_ rfl rfl ?_
             refine pn_ 11 100 22 4095 HT_ rfl rfl ?_
             refine pn_ 12 101 22 8191 HT_ rfl rfl ?_
             refine pn_ 13 102 22 16383 HT_ rfl rfl ?_
             refine pn_ 14 103 22 32767 HT_ rfl rfl ?_
             refine pn_ 15 104 22 65535 HT_ rfl rfl ?_
             refine pn_ 16 105 22 131071 HT_ rfl rfl ?_
             refine pn_ 17 106 22 262143 HT_ rfl rfl ?_
             refine pn_ 18 107 22 524287 HT_ rfl rfl ?_
             refine pn_ 19 108 22 1048575 HT_ rfl rfl ?_
             refine pr_ 20 109 22 2097151 HT_ rfl rfl ?_
             refine pr_ 21 18 22 4194303 HT_ rfl rfl ?_
             refine done_ (done_of HT_.out (by kernel_rfl)) ?_
             try go_wp2
             go_roundg k3
             case measure => have := HK1.out; have := HK2.out; have := HK3.out; omega
             case rel => exact ⟨(false), (wrap64 (x84_3 + 1)), (by first | rfl | (simp; done) | (simp [*]; done)), (by first | rfl | (simp; done) | (simp [*]; done)), H', ⟨by have := HK1.out; have := HK2.out; have := HK3.out; omega⟩, ⟨by (with_reducible repeat (first | apply Kd.R_alloc | apply Kd.R_drewN | apply Kd.R_drew)); exact HO_16.out⟩, ⟨by (with_reducible repeat (first | apply Kd.S_alloc | apply Kd.S_drewN | apply Kd.S_drew)); exact HO_17.out⟩, ⟨by refine bx_ ?_; exact BK629.out⟩, ⟨be2_ HB GE629 GE656⟩⟩
           ·rw [if_neg c45] at H
            exact absurd H (by simp)
          ·rw [if_neg c44] at H
           exact absurd H (by simp)
         ·rw [if_neg c43] at H
          have c43b0 : decide (x84_3 < (l1.length : Int)) = false := decide_eq_false c43
          clear c43
          have H' := Aside0.mk H
          clear H
          have hcz64_0 : wr.cell? ⟨gb629, 0, none⟩ = some (.slice A0_0 l0_0.length c0_0) := bc_ BK629 0
          have hcz64_1 : wr.cell? ⟨gb629, 1, none⟩ = some (.slice A0_1 l0_1.length c0_1) := bc_ BK629 1
          have hfz64_0 := blk_frozen BK629.out 0
          have hfz64_1 := blk_frozen BK629.out 1
          go_wp2
          go_loopg [18, 114] k3 (fun kq v18 v114 w' => ∃ (x18_4 : Bool) (x114_4 : Int), v18 = .bool x18_4 ∧ v114 = .int .i64 x114_4 ∧ Aside0 (cottonpadlaw06_truth.l3 kq l2 t649 t652 x18_4 l0_0 (l0_0.length : Int) x114_4 = some (r1, r2, r3)) ∧ Aside0 (kq ≤ k3) ∧ Aside0 (Kd.R (Kd.int .i64) 3 w' w.heap.size (fun _ => True) v650 t649) ∧ Aside0 (Kd.S (Kd.slice 3 (Kd.int .i64)) 67 w' w.heap.size (fun k_ => some k_ ≠ (v650 : Value).ownBlock) v653 t652) ∧ Aside0 (w'.heap[gb629]? = some (.cells #[(.slice A0_0 l0_0.length c0_0), (.slice A0_1 l0_1.length c0_1)] 25 (0, 0))) ∧ Aside0 (Below w.heap.size w w'))
          case atStart => exact ⟨(x18_3), (0), (by first | rfl | (simp; done) | (simp [*]; done)), (by first | rfl | (simp; done) | (simp [*]; done)), H', ⟨Nat.le_refl _⟩, ⟨by (with_reducible repeat (first | apply Kd.R_alloc | apply Kd.R_drewN | apply Kd.R_drew)); exact HO_16.out⟩, ⟨by (with_reducible repeat (first | apply Kd.S_alloc | apply Kd.S_drewN | apply Kd.S_drew)); exact HO_17.out⟩, ⟨by refine bx_ ?_; exact BK629.out⟩, ⟨be1_ HB GE629⟩⟩
          case round =>
           clear H'
           try clear c1
           try clear c2
           try clear p2
           try clear c3
           try clear c4
           try clear c5
           try clear c5b0
           try clear c6
           try clear c6b0
           try clear p6
           try clear q6
           try clear hx6
           try clear c7
           try clear c7b0
           try clear c10
           try clear c13
           try clear c15
           try clear c24
           try clear c24b0
           try clear c25
           try clear c25b0
           try clear c26
           try clear c26b0
           try clear c29
           try clear c31
           try clear c43
           try clear c43b0
           try clear c44
           try clear c44b0
           try clear c45
           try clear c45b0
           try clear c46
           try clear c47
           try clear c47b0
           try clear c48
           try clear c48b0
           try clear c49
           try clear c49b0
           try clear c51
           try clear c53
           try clear c60
           try clear p63
           try clear q63
           try clear hx63
           try clear p64
           try clear q64
           try clear hx64
           try clear hcz16_0
           try clear hcz16_1
           try clear hcz16_2
           try clear hcz16_3
           try clear hcz16_4
           try clear hcz23_0
           try clear hcz23_1
           try clear hcz32_0
           try clear hcz32_1
           try clear hcz32_2
           try clear hcz32_3
           try clear hcz32_4
           try clear hcz32_5
           try clear hcz38_0
           try clear hcz38_1
           try clear hcz54_0
           try clear hcz54_1
           try clear hcz54_2
           try clear hcz54_3
           try clear hcz54_4
           try clear hcz61_0
           try clear hcz61_1
           try clear hcz61_2
           try clear hcz61_3
           try clear hcz61_4
           try clear hcz64_0
           try clear hcz64_1
           try clear hfz16_0
           try clear hfz16_1
           try clear hfz16_2
           try clear hfz16_3
           try clear hfz16_4
           try clear hfz23_0
           try clear hfz23_1
           try clear hfz32_0
           try clear hfz32_1
           try clear hfz32_2
           try clear hfz32_3
           try clear hfz32_4
           try clear hfz32_5
           try clear hfz38_0
           try clear hfz38_1
           try clear hfz54_0
           try clear hfz54_1
           try clear hfz54_2
           try clear hfz54_3
           try clear hfz54_4
           try clear hfz61_0
           try clear hfz61_1
           try clear hfz61_2
           try clear hfz61_3
           try clear hfz61_4
           try clear hfz64_0
           try clear hfz64_1
           try clear hx630_0
           try clear hx630_1
           try clear hx630_2
           try clear hx630_3
           try clear hx630_4
           try clear hx642_0
           try clear hx642_1
           try clear hx642_2
           try clear hx642_3
           try clear hx642_4
           try clear hx642_5
           try clear hx655_0
           try clear hx655_1
           try clear hx655_2
           try clear hx655_3
           try clear hx655_4
           try clear hx657_0
           try clear hx658_0
           try clear hx658_1
           try clear hx658_2
           try clear hx658_3
           try clear p2
           try clear p6
           try clear p630
           try clear p642
           try clear p655
           try clear p657
           try clear p658
           try clear q6
           try clear q630
           try clear q642
           try clear q655
           try clear q657
           try clear q658
           obtain ⟨x18_4, x114_4, rfl, rfl, HA, HK4, HO_16, HO_17, BK629, HB⟩ := hrel
           cases gk with
           | zero => exact absurd HA.out (by simp [cottonpadlaw06_truth.l3])
           | succ k4 =>
            have H := HA.out
            clear HA
            simp only [cottonpadlaw06_truth.l3] at H
            by_cases c65 : x114_4 < (l0_0.length : Int)
            ·rw [if_pos c65] at H
             have c65b0 : decide (x114_4 < (l0_0.length : Int)) = true := decide_eq_true c65
             clear c65
             by_cases c66 : 0 ≤ x114_4
             ·rw [if_pos c66] at H
              have c66b0 : decide (0 ≤ x114_4) = true := decide_eq_true c66
              clear c66
              by_cases c67 : x114_4 < (l0_0.length : Int)
              ·rw [if_pos c67] at H
               have c67b0 : decide (x114_4 < (l0_0.length : Int)) = true := decide_eq_true c67
               clear c67
               by_cases c68 : x114_4 < (t652.length : Int)
               ·rw [if_pos c68] at H
                have c68b0 : decide (x114_4 < (t652.length : Int)) = true := decide_eq_true c68
                clear c68
                have H' := Aside0.mk H
                clear H
                have p661 : 0 ≤ (x114_4 : Int) := of_decide_eq_true as_
                have q661 : x114_4 < (l0_0.length : Int) := of_decide_eq_true as_
                obtain ⟨ad661, e661, hx661_0, hx661_1, hx661_2, hx661_3, hx661_4, hx661_5⟩ := at_T62 HR0_0.out x114_4 p661 q661
                cases e661
                try replace hx661_0 := ce_ HB hx661_0
                try replace hx661_1 := ce_ HB hx661_1
                try replace hx661_2 := ce_ HB hx661_2
                try replace hx661_3 := ce_ HB hx661_3
                try replace hx661_4 := ce_ HB hx661_4
                try replace hx661_5 := ce_ HB hx661_5
                replace p661 := eq_true p661
                replace q661 := eq_true q661
                go_wp2_with (first | ((with_reducible refine gate_dst (N := 22) rfl ?_); refine box_event ?hg (N := 22) ?hd (cs := #[.int .i64 0, .int .i64 0, .int .i64 0, .int .i64 0, .int .i64 0, .int .i64 0]) (t := 62) ?hr ?_; (case hd => rfl); (case hg => rfl); (case hr => exact gs_); intro gb662 hg w69 hbox hb; replace HO_16 := rb_ HO_16 hb; replace HO_17 := Aside0.mk (Kd.S_below (by (with_reducible repeat (first | apply Kd.S_alloc | apply Kd.S_drewN | apply Kd.S_drew)); exact HO_17.out) hb); have BK662 := Aside0.mk (hbox); have GW662 := hl_ hg (be1_ HB GE629); have GE662 := hl_ hg (be1_ HB GE629); replace HB := bs1_ HB GE629 hb; have NB629_662 := Aside0.mk ((by rw [hg]; exact Nat.ne_of_lt (blk_lt (bk_ BK629)) : gb629 ≠ gb662)); have NB662_629 := Aside0.mk ((by rw [hg]; exact Nat.ne_of_gt (blk_lt (bk_ BK629)) : gb662 ≠ gb629)); replace BK629 := bb_ BK629 hb; clear hb hbox hg; have hnb70 := NB662_629.out; have hnc70 := NB629_662.out; have hcz71_0 : w69.cell? ⟨gb662, 0, none⟩ = some (.int .i64 0) := bc_ BK662 0; have hcz71_1 : w69.cell? ⟨gb662, 1, none⟩ = some (.int .i64 0) := bc_ BK662 1; have hcz71_2 : w69.cell? ⟨gb662, 2, none⟩ = some (.int .i64 0) := bc_ BK662 2; have hcz71_3 : w69.cell? ⟨gb662, 3, none⟩ = some (.int .i64 0) := bc_ BK662 3; have hcz71_4 : w69.cell? ⟨gb662, 4, none⟩ = some (.int .i64 0) := bc_ BK662 4; have hcz71_5 : w69.cell? ⟨gb662, 5, none⟩ = some (.int .i64 0) := bc_ BK662 5; have hfz71_0 := blk_frozen BK662.out 0; have hfz71_1 := blk_frozen BK662.out 1; have hfz71_2 := blk_frozen BK662.out 2; have hfz71_3 := blk_frozen BK662.out 3; have hfz71_4 := blk_frozen BK662.out 4; have hfz71_5 := blk_frozen BK662.out 5) | ((with_reducible refine gate_store (t := 62) (p := 22) rfl ?_); refine store_event (t := 62) (p := 22) (v := ?vo_w72) (w1 := ((((((w69.setCell ⟨gb662, 0, none⟩ (.int .i64 ((rd_T62 l0_0 x114_4).f0))).setCell ⟨gb662, 1, none⟩ (.int .i64 ((rd_T62 l0_0 x114_4).f1))).setCell ⟨gb662, 2, none⟩ (.int .i64 ((rd_T62 l0_0 x114_4).f2.f0))).setCell ⟨gb662, 3, none⟩ (.int .i64 ((rd_T62 l0_0 x114_4).f2.f1))).setCell ⟨gb662, 4, none⟩ (.int .i64 ((rd_T62 l0_0 x114_4).f3.f0))).setCell ⟨gb662, 5, none⟩ (.int .i64 ((rd_T62 l0_0 x114_4).f3.f1)))) ?hg ?ho ?hn ?hr ?_; (case ho => rfl); (case hg => rfl); (case hn => rfl); (case hr => exact gs_); intro w72 hw; replace HO_16 : Aside0 (Kd.R (Kd.int .i64) 3 w72 w.heap.size (fun _ => True) v650 t649) := ⟨(by rw [hw]; exact (by refine rx_ ?_; exact Kd.R_mono (Kd.R_far (p := ⟨gb662, 5, none⟩) (Kd.R_far (p := ⟨gb662, 4, none⟩) (Kd.R_far (p := ⟨gb662, 3, none⟩) (Kd.R_far (p := ⟨gb662, 2, none⟩) (Kd.R_far (p := ⟨gb662, 1, none⟩) (Kd.R_far (p := ⟨gb662, 0, none⟩) (Kd.R_types HO_16.out BK662.out (by decide)) (fun _ hk => hk.2) (.int .i64 ((rd_T62 l0_0 x114_4).f0))) (fun _ hk => hk.2) (.int .i64 ((rd_T62 l0_0 x114_4).f1))) (fun _ hk => hk.2) (.int .i64 ((rd_T62 l0_0 x114_4).f2.f0))) (fun _ hk => hk.2) (.int .i64 ((rd_T62 l0_0 x114_4).f2.f1))) (fun _ hk => hk.2) (.int .i64 ((rd_T62 l0_0 x114_4).f3.f0))) (fun _ hk => hk.2) (.int .i64 ((rd_T62 l0_0 x114_4).f3.f1))) (fun _ hk => trivial)))⟩; replace HO_17 : Aside0 (Kd.S (Kd.slice 3 (Kd.int .i64)) 67 w72 w.heap.size (fun k_ => some k_ ≠ (v650 : Value).ownBlock) v653 t652) := ⟨(by rw [hw]; exact (by (with_reducible repeat (first | apply Kd.S_alloc | apply Kd.S_drewN | apply Kd.S_drew)); exact Kd.S_mono (Kd.S_far (p := ⟨gb662, 5, none⟩) (Kd.S_far (p := ⟨gb662, 4, none⟩) (Kd.S_far (p := ⟨gb662, 3, none⟩) (Kd.S_far (p := ⟨gb662, 2, none⟩) (Kd.S_far (p := ⟨gb662, 1, none⟩) (Kd.S_far (p := ⟨gb662, 0, none⟩) (Kd.S_types HO_17.out BK662.out (by decide)) (fun _ hk => hk.2) (.int .i64 ((rd_T62 l0_0 x114_4).f0))) (fun _ hk => hk.2) (.int .i64 ((rd_T62 l0_0 x114_4).f1))) (fun _ hk => hk.2) (.int .i64 ((rd_T62 l0_0 x114_4).f2.f0))) (fun _ hk => hk.2) (.int .i64 ((rd_T62 l0_0 x114_4).f2.f1))) (fun _ hk => hk.2) (.int .i64 ((rd_T62 l0_0 x114_4).f3.f0))) (fun _ hk => hk.2) (.int .i64 ((rd_T62 l0_0 x114_4).f3.f1))) (fun _ hk => hk.1)))⟩; replace BK629 : Aside0 (w72.heap[gb629]? = some (.cells #[.slice (some ad661) l0_0.length c0_0, .slice A0_1 l0_1.length c0_1] 25 (0, 0))) := ⟨(by rw [hw]; exact (by refine bx_ ?_; refine blk_far ?_ NB629_662.out _; refine bx_ ?_; refine blk_far ?_ NB629_662.out _; refine bx_ ?_; refine blk_far ?_ NB629_662.out _; refine bx_ ?_; refine blk_far ?_ NB629_662.out _; refine bx_ ?_; refine blk_far ?_ NB629_662.out _; refine bx_ ?_; refine blk_far ?_ NB629_662.out _; refine bx_ ?_; exact BK629.out))⟩; replace BK662 : Aside0 (w72.heap[gb662]? = some (.cells #[.int .i64 ((rd_T62 l0_0 x114_4).f0), .int .i64 ((rd_T62 l0_0 x114_4).f1), .int .i64 ((rd_T62 l0_0 x114_4).f2.f0), .int .i64 ((rd_T62 l0_0 x114_4).f2.f1), .int .i64 ((rd_T62 l0_0 x114_4).f3.f0), .int .i64 ((rd_T62 l0_0 x114_4).f3.f1)] 62 (0, 0))) := ⟨(by rw [hw]; exact (by refine bx_ ?_; refine blk_put (cs := #[.int .i64 ((rd_T62 l0_0 x114_4).f0), .int .i64 ((rd_T62 l0_0 x114_4).f1), .int .i64 ((rd_T62 l0_0 x114_4).f2.f0), .int .i64 ((rd_T62 l0_0 x114_4).f2.f1), .int .i64 ((rd_T62 l0_0 x114_4).f3.f0), .int .i64 0]) ?_ 5 _ rfl; refine bx_ ?_; refine blk_put (cs := #[.int .i64 ((rd_T62 l0_0 x114_4).f0), .int .i64 ((rd_T62 l0_0 x114_4).f1), .int .i64 ((rd_T62 l0_0 x114_4).f2.f0), .int .i64 ((rd_T62 l0_0 x114_4).f2.f1), .int .i64 0, .int .i64 0]) ?_ 4 _ rfl; refine bx_ ?_; refine blk_put (cs := #[.int .i64 ((rd_T62 l0_0 x114_4).f0), .int .i64 ((rd_T62 l0_0 x114_4).f1), .int .i64 ((rd_T62 l0_0 x114_4).f2.f0), .int .i64 0, .int .i64 0, .int .i64 0]) ?_ 3 _ rfl; refine bx_ ?_; refine blk_put (cs := #[.int .i64 ((rd_T62 l0_0 x114_4).f0), .int .i64 ((rd_T62 l0_0 x114_4).f1), .int .i64 0, .int .i64 0, .int .i64 0, .int .i64 0]) ?_ 2 _ rfl; refine bx_ ?_; refine blk_put (cs := #[.int .i64 ((rd_T62 l0_0 x114_4).f0), .int .i64 0, .int .i64 0, .int .i64 0, .int .i64 0, .int .i64 0]) ?_ 1 _ rfl; refine bx_ ?_; refine blk_put (cs := #[.int .i64 0, .int .i64 0, .int .i64 0, .int .i64 0, .int .i64 0, .int .i64 0]) ?_ 0 _ rfl; refine bx_ ?_; exact BK662.out))⟩; replace HB : Aside0 (Below w.heap.size w w72) := ⟨(by rw [hw]; exact (be2_ HB GE629 GE662))⟩; clear hw; obtain ⟨Ao73, co73, eo73⟩ := Kd.S_slice HO_17.out; subst eo73; have p663 : 0 ≤ (x114_4 : Int) := of_decide_eq_true as_; have q663 : x114_4 < (t652.length : Int) := of_decide_eq_true as_; obtain ⟨ad663, A663_0, c663_0, e663, hx663_0, hl663_0, hi663_0⟩ := at_L11 (Kd.S_reads' HO_17.out).2.2 x114_4 p663 q663; cases e663; obtain ⟨ce663, hce663, hMe663, hcc663⟩ := Kd.S_get HO_17.out [] x114_4 p663 (by first | exact q663 | exact of_decide_eq_true as_ | (have e_ := (Kd.S_reads' HO_17.out).1; omega)); obtain ⟨ve663_0, rfl, ge663_0⟩ := hMe663; have hv663_0 := hcc663 0 _ rfl; rw [Nat.add_zero, show ((Kd.slice 3 (Kd.int .i64))).sz = 1 from rfl, Nat.mul_one] at hv663_0; replace hv663_0 := Option.some.inj (hv663_0.symm.trans hx663_0); rw [hv663_0] at ge663_0; have HL663_0 := Aside0.mk (show Kd.R (Kd.int .i64) 3 _ _ _ _ (rd_L11 t652 x114_4) from ge663_0); clear hv663_0 ge663_0; clear hcc663 hce663; have HR663_0 := Aside0.mk hi663_0; have HC663_0 := Aside0.mk hl663_0; clear hi663_0 hl663_0; replace p663 := eq_true p663; replace q663 := eq_true q663))
                go_loopg [18, 124] k4 (fun kq v18 v124 w' => ∃ (x18_5 : Bool) (x124_5 : Int), v18 = .bool x18_5 ∧ v124 = .int .i64 x124_5 ∧ Aside0 (cottonpadlaw06_truth.l4 kq l2 t649 t652 x18_5 x114_4 l0_0 (l0_0.length : Int) x114_4 (rd_L11 t652 x114_4) ((rd_L11 t652 x114_4).length : Int) x124_5 ((rd_T62 l0_0 x114_4).f0) ((rd_T62 l0_0 x114_4).f1) ((rd_T62 l0_0 x114_4).f2.f0) ((rd_T62 l0_0 x114_4).f2.f1) ((rd_T62 l0_0 x114_4).f3.f0) ((rd_T62 l0_0 x114_4).f3.f1) = some (r1, r2, r3)) ∧ Aside0 (kq ≤ k4) ∧ Aside0 (Kd.R (Kd.int .i64) 3 w' w.heap.size (fun _ => True) v650 t649) ∧ Aside0 (Kd.S (Kd.slice 3 (Kd.int .i64)) 67 w' w.heap.size (fun k_ => some k_ ≠ (v650 : Value).ownBlock) (.slice (some ad663) t652.length co73) t652) ∧ Aside0 (w'.heap[gb629]? = some (.cells #[(.slice (some ad661) l0_0.length c0_0), (.slice A0_1 l0_1.length c0_1)] 25 (0, 0))) ∧ Aside0 (w'.heap[gb662]? = some (.cells #[.int .i64 ((rd_T62 l0_0 x114_4).f0), .int .i64 ((rd_T62 l0_0 x114_4).f1), .int .i64 ((rd_T62 l0_0 x114_4).f2.f0), .int .i64 ((rd_T62 l0_0 x114_4).f2.f1), .int .i64 ((rd_T62 l0_0 x114_4).f3.f0), .int .i64 ((rd_T62 l0_0 x114_4).f3.f1)] 62 (0, 0))) ∧ Aside0 (Kd.C (Kd.int .i64) w' A663_0 (rd_L11 t652 x114_4).length (rd_L11 t652 x114_4)) ∧ Aside0 (Below w.heap.size w w'))
                case atStart => exact ⟨(x18_4), (0), (by first | rfl | (simp; done) | (simp [*]; done)), (by first | rfl | (simp; done) | (simp [*]; done)), H', ⟨Nat.le_refl _⟩, ⟨by (with_reducible repeat (first | apply Kd.R_alloc | apply Kd.R_drewN | apply Kd.R_drew)); exact HO_16.out⟩, ⟨by (with_reducible repeat (first | apply Kd.S_alloc | apply Kd.S_drewN | apply Kd.S_drew)); exact HO_17.out⟩, ⟨by refine bx_ ?_; exact BK629.out⟩, ⟨by refine bx_ ?_; exact BK662.out⟩, ⟨by repeat (first | (with_reducible exact HR663_0.out) | (with_reducible refine Kd.C_alloc ?_ _) | (with_reducible refine Kd.C_drewN ?_ _) | (with_reducible refine Kd.C_drew ?_) | exact HR663_0.out)⟩, ⟨be2_ HB GE629 GE662⟩⟩
                case round =>
                 clear H'
                 try clear c1
                 try clear c2
                 try clear p2
                 try clear c3
                 try clear c4
                 try clear c5
                 try clear c5b0
                 try clear c6
                 try clear c6b0
                 try clear p6
                 try clear q6
                 try clear hx6
                 try clear c7
                 try clear c7b0
                 try clear c10
                 try clear c13
                 try clear c15
                 try clear c24
                 try clear c24b0
                 try clear c25
                 try clear c25b0
                 try clear c26
                 try clear c26b0
                 try clear c29
                 try clear c31
                 try clear c43
                 try clear c43b0
                 try clear c44
                 try clear c44b0
                 try clear c45
                 try clear c45b0
                 try clear c46
                 try clear c47
                 try clear c47b0
                 try clear c48
                 try clear c48b0
                 try clear c49
                 try clear c49b0
                 try clear c51
                 try clear c53
                 try clear c60
                 try clear p63
                 try clear q63
                 try clear hx63
                 try clear p64
                 try clear q64
                 try clear hx64
                 try clear c65
                 try clear c65b0
                 try clear p65
                 try clear q65
                 try clear hx65
                 try clear c66
                 try clear c66b0
                 try clear p66
                 try clear q66
                 try clear hx66
                 try clear c67
                 try clear c67b0
                 try clear c68
                 try clear c68b0
                 try clear c70
                 try clear hcz16_0
                 try clear hcz16_1
                 try clear hcz16_2
                 try clear hcz16_3
                 try clear hcz16_4
                 try clear hcz23_0
                 try clear hcz23_1
                 try clear hcz32_0
                 try clear hcz32_1
                 try clear hcz32_2
                 try clear hcz32_3
                 try clear hcz32_4
                 try clear hcz32_5
                 try clear hcz38_0
                 try clear hcz38_1
                 try clear hcz54_0
                 try clear hcz54_1
                 try clear hcz54_2
                 try clear hcz54_3
                 try clear hcz54_4
                 try clear hcz61_0
                 try clear hcz61_1
                 try clear hcz61_2
                 try clear hcz61_3
                 try clear hcz61_4
                 try clear hcz64_0
                 try clear hcz64_1
                 try clear hcz71_0
                 try clear hcz71_1
                 try clear hcz71_2
                 try clear hcz71_3
                 try clear hcz71_4
                 try clear hcz71_5
                 try clear hfz16_0
                 try clear hfz16_1
                 try clear hfz16_2
                 try clear hfz16_3
                 try clear hfz16_4
                 try clear hfz23_0
                 try clear hfz23_1
                 try clear hfz32_0
                 try clear hfz32_1
                 try clear hfz32_2
                 try clear hfz32_3
                 try clear hfz32_4
                 try clear hfz32_5
                 try clear hfz38_0
                 try clear hfz38_1
                 try clear hfz54_0
                 try clear hfz54_1
                 try clear hfz54_2
                 try clear hfz54_3
                 try clear hfz54_4
                 try clear hfz61_0
                 try clear hfz61_1
                 try clear hfz61_2
                 try clear hfz61_3
                 try clear hfz61_4
                 try clear hfz64_0
                 try clear hfz64_1
                 try clear hfz71_0
                 try clear hfz71_1
                 try clear hfz71_2
                 try clear hfz71_3
                 try clear hfz71_4
                 try clear hfz71_5
                 try clear hx630_0
                 try clear hx630_1
                 try clear hx630_2
                 try clear hx630_3
                 try clear hx630_4
                 try clear hx642_0
                 try clear hx642_1
                 try clear hx642_2
                 try clear hx642_3
                 try clear hx642_4
                 try clear hx642_5
                 try clear hx655_0
                 try clear hx655_1
                 try clear hx655_2
                 try clear hx655_3
                 try clear hx655_4
                 try clear hx657_0
                 try clear hx658_0
                 try clear hx658_1
                 try clear hx658_2
                 try clear hx658_3
                 try clear hx661_0
                 try clear hx661_1
                 try clear hx661_2
                 try clear hx661_3
                 try clear hx661_4
                 try clear hx661_5
                 try clear hx663_0
                 try clear p2
                 try clear p6
                 try clear p63
                 try clear p630
                 try clear p64
                 try clear p642
                 try clear p655
                 try clear p657
                 try clear p658
                 try clear p661
                 try clear p663
                 try clear q6
                 try clear q63
                 try clear q630
                 try clear q64
                 try clear q642
                 try clear q655
                 try clear q657
                 try clear q658
                 try clear q661
                 try clear q663
                 obtain ⟨x18_5, x124_5, rfl, rfl, HA, HK5, HO_16, HO_17, BK629, BK662, HR663_0, HB⟩ := hrel
                 cases gk with
                 | zero => exact absurd HA.out (by simp [cottonpadlaw06_truth.l4])
                 | succ k5 =>
                  have H := HA.out
                  clear HA
                  simp only [cottonpadlaw06_truth.l4] at H
                  by_cases c74 : x124_5 < ((rd_L11 t652 x114_4).length : Int)
                  ·rw [if_pos c74] at H
                   have c74b0 : decide (x124_5 < ((rd_L11 t652 x114_4).length : Int)) = true := decide_eq_true c74
                   clear c74
                   by_cases c75 : 0 ≤ x124_5
                   ·rw [if_pos c75] at H
                    have c75b0 : decide (0 ≤ x124_5) = true := decide_eq_true c75
                    clear c75
                    by_cases c76 : x124_5 < ((rd_L11 t652 x114_4).length : Int)
                    ·rw [if_pos c76] at H
                     have c76b0 : decide (x124_5 < ((rd_L11 t652 x114_4).length : Int)) = true := decide_eq_true c76
                     clear c76
                     by_cases c77 : x18_5 = true
                     ·subst c77
                      have H1 : ((cottonpadlaw06_choose.f l2 (wrap64 (70 + x114_4))).bind fun t665 => ((cottonpadlaw06_pick.f ((rd_T62 l0_0 x114_4).f3.f0) ((rd_T62 l0_0 x114_4).f3.f1) t665).bind fun t666 => (cottonpadlaw06_truth.l4 k5 l2 t649 t652 (decide ((rd (rd_L11 t652 x114_4) x124_5) ≤ t666)) x114_4 l0_0 (l0_0.length : Int) x114_4 (rd_L11 t652 x114_4) ((rd_L11 t652 x114_4).length : Int) (wrap64 (x124_5 + 1)) ((rd_T62 l0_0 x114_4).f0) ((rd_T62 l0_0 x114_4).f1) ((rd_T62 l0_0 x114_4).f2.f0) ((rd_T62 l0_0 x114_4).f2.f1) ((rd_T62 l0_0 x114_4).f3.f0) ((rd_T62 l0_0 x114_4).f3.f1)))) = some (r1, r2, r3) := by rw [if_pos rfl] at H; exact H
                      clear H
                      have H := H1
                      clear H1
                      replace H := Option.bind_eq_some_iff.mp H
                      obtain ⟨t665, A780, H⟩ := H
                      replace H : ((cottonpadlaw06_pick.f ((rd_T62 l0_0 x114_4).f3.f0) ((rd_T62 l0_0 x114_4).f3.f1) t665).bind fun t666 => (cottonpadlaw06_truth.l4 k5 l2 t649 t652 (decide ((rd (rd_L11 t652 x114_4) x124_5) ≤ t666)) x114_4 l0_0 (l0_0.length : Int) x114_4 (rd_L11 t652 x114_4) ((rd_L11 t652 x114_4).length : Int) (wrap64 (x124_5 + 1)) ((rd_T62 l0_0 x114_4).f0) ((rd_T62 l0_0 x114_4).f1) ((rd_T62 l0_0 x114_4).f2.f0) ((rd_T62 l0_0 x114_4).f2.f1) ((rd_T62 l0_0 x114_4).f3.f0) ((rd_T62 l0_0 x114_4).f3.f1))) = some (r1, r2, r3) := H
                      have A78 := Aside0.mk A780
                      clear A780
                      replace H := Option.bind_eq_some_iff.mp H
                      obtain ⟨t666, A790, H⟩ := H
                      replace H : (cottonpadlaw06_truth.l4 k5 l2 t649 t652 (decide ((rd (rd_L11 t652 x114_4) x124_5) ≤ t666)) x114_4 l0_0 (l0_0.length : Int) x114_4 (rd_L11 t652 x114_4) ((rd_L11 t652 x114_4).length : Int) (wrap64 (x124_5 + 1)) ((rd_T62 l0_0 x114_4).f0) ((rd_T62 l0_0 x114_4).f1) ((rd_T62 l0_0 x114_4).f2.f0) ((rd_T62 l0_0 x114_4).f2.f1) ((rd_T62 l0_0 x114_4).f3.f0) ((rd_T62 l0_0 x114_4).f3.f1)) = some (r1, r2, r3) := H
                      have A79 := Aside0.mk A790
                      clear A790
                      have H' := Aside0.mk H
                      clear H
                      have p664 : 0 ≤ (x124_5 : Int) := of_decide_eq_true as_
                      have q664 : x124_5 < ((rd_L11 t652 x114_4).length : Int) := of_decide_eq_true as_
                      obtain ⟨ad664, e664, hx664_0⟩ := Kd.at_int HR663_0.out x124_5 p664 q664
                      cases e664
                      try replace hx664_0 := ce_ HB hx664_0
                      replace p664 := eq_true p664
                      replace q664 := eq_true q664
                      try go_wp2
                      replace HO_16 := Aside0.mk (Kd.R_drew HO_16.out)
                      replace HO_17 := Aside0.mk (Kd.S_drew HO_17.out)
                      replace BK629 := Aside0.mk (blk_drew BK629.out)
                      replace BK662 := Aside0.mk (blk_drew BK662.out)
                      replace HR663_0 := Aside0.mk (Kd.C_drew HR663_0.out)
                      replace HB := Aside0.mk (below_drew1 HB.out)
                      refine start_ (n := 13) (S := fun w' => w'.cell? ⟨gb662, 0, none⟩ = some (.int .i64 ((rd_T62 l0_0 x114_4).f0)) ∧ w'.cell? ⟨gb662, 1, none⟩ = some (.int .i64 ((rd_T62 l0_0 x114_4).f1)) ∧ w'.cell? ⟨gb662, 2, none⟩ = some (.int .i64 ((rd_T62 l0_0 x114_4).f2.f0)) ∧ w'.cell? ⟨gb662, 3, none⟩ = some (.int .i64 ((rd_T62 l0_0 x114_4).f2.f1)) ∧ w'.cell? ⟨gb662, 4, none⟩ = some (.int .i64 ((rd_T62 l0_0 x114_4).f3.f0)) ∧ w'.cell? ⟨gb662, 5, none⟩ = some (.int .i64 ((rd_T62 l0_0 x114_4).f3.f1))) (ds := []) (bm_ 13 0) (by kernel_rfl) rfl rfl ⟨bc_ BK662 0, bc_ BK662 1, bc_ BK662 2, bc_ BK662 3, bc_ BK662 4, bc_ BK662 5⟩ (fun hHeld => ?_); refine with_tabW cottonpadlaw06_truth.tab25 cottonpadlaw06_truth.bits25 (fun HT_ HW_ => ?_)
                      generalize wr.drew = w80 at HO_16 HO_17 BK629 BK662 HR663_0 HB hHeld ⊢
                      refine pr_ 0 128 13 1 HT_ rfl rfl ?_
                      refine pr_ 1 129 13 3 HT_ rfl rfl ?_
                      refine pr_ 2 130 13 7 HT_ rfl rfl ?_
                      refine pr_ 3 131 13 15 HT_ rfl rfl ?_
                      refine pr_ 5 133 13 47 HT_ rfl rfl ?_
                      refine pr_ 6 134 13 111 HT_ rfl rfl ?_
                      refine pr_ 7 135 13 239 HT_ rfl rfl ?_
                      refine ta_ 4 132 13 255 HT_ HW_ rfl rfl hHeld ?_
                      refine one_ (i := 8) (N := some 136) (bm_ 13 511) rfl rfl (one_of HT_.out (by kernel_rfl)) (by decide) (fun K hK => ?_)
                      refine goes_ Tryd.func51 (by kernel_rfl) rfl #[.slice A2 l2.length c2, .int .i64 (wrap64 (70 + x114_4))] (by rfl) rfl rfl ls_ ?_
                      with_reducible refine (cottonpadlaw06_choose.calls _ _ l2 (wrap64 (70 + x114_4)) t665 _ ?side1 ?side2 A78.out).mono ?_
                      (case side1 => exact kc_ HR2 HB)
                      (case side2 => exact HC2.out)
                      rintro e w' ⟨rfl, ⟨nd, rfl⟩⟩
                      refine ⟨_, rfl, ?_⟩
                      refine hK.out _ _ ⟨bc_ BK662 0, bc_ BK662 1, bc_ BK662 2, bc_ BK662 3, bc_ BK662 4, bc_ BK662 5⟩ (fun hHeld => ?_)
                      clear hK K
                      refine norm_ (a' := ?_) ?_ ?_
                      rotate_left
                      ·show Act.put _ (some 136) _ = _
                       simp only [Act.put, List.setIfInBounds_toArray, List.set_cons_zero, List.set_cons_succ, i64_w, i32_w]
                       rfl
                      refine one_ (i := 9) (N := some 137) (bm_ 13 1023) rfl rfl (one_of HT_.out (by kernel_rfl)) (by decide) (fun K hK => ?_)
                      refine goes_ Tryd.func68 (by kernel_rfl) rfl #[.agg #[.int .i64 ((rd_T62 l0_0 x114_4).f3.f0), .int .i64 ((rd_T62 l0_0 x114_4).f3.f1)], .int .i64 t665] (by rfl) rfl rfl ls_ ?_
                      with_reducible refine (cottonpadlaw06_pick.calls ((rd_T62 l0_0 x114_4).f3.f0) ((rd_T62 l0_0 x114_4).f3.f1) t665 t666 _ A79.out).mono ?_
                      rintro e w81 ⟨rfl, hb⟩
                      refine ⟨_, rfl, ?_⟩
                      replace HO_16 := rb_ HO_16 hb
                      replace HO_17 := Aside0.mk (Kd.S_below (by (with_reducible repeat (first | apply Kd.S_alloc | apply Kd.S_drewN | apply Kd.S_drew)); exact HO_17.out) hb)
                      replace BK629 := bb_ BK629 hb
                      replace BK662 := bb_ BK662 hb
                      replace HR663_0 := Aside0.mk (Kd.C_below (by repeat (first | (with_reducible exact HR663_0.out) | (with_reducible refine Kd.C_alloc ?_ _) | (with_reducible refine Kd.C_drewN ?_ _) | (with_reducible refine Kd.C_drew ?_) | exact HR663_0.out)) hb)
                      replace HB := bs2_ HB GE629 GE662 hb
                      (try clear hb)
                      (try clear hb2)
                      (try clear hk)
                      (try clear hi)
                      refine hK.out _ _ ⟨bc_ BK662 0, bc_ BK662 1, bc_ BK662 2, bc_ BK662 3, bc_ BK662 4, bc_ BK662 5⟩ (fun hHeld => ?_)
                      clear hK K
                      refine norm_ (a' := ?_) ?_ ?_
                      rotate_left
                      ·show Act.put _ (some 137) _ = _
                       simp only [Act.put, List.setIfInBounds_toArray, List.set_cons_zero, List.set_cons_succ, i64_w, i32_w]
                       rfl
                      refine pr_ 10 138 13 2047 HT_ rfl rfl ?_
                      refine pr_ 11 139 13 4095 HT_ rfl rfl ?_
                      refine pr_ 12 18 13 8191 HT_ rfl rfl ?_
                      refine done_ (done_of HT_.out (by kernel_rfl)) ?_
                      try go_wp2
                      go_roundg k5
                      case measure => have := HK1.out; have := HK2.out; have := HK3.out; have := HK4.out; have := HK5.out; omega
                      case rel => exact ⟨(decide ((rd (rd_L11 t652 x114_4) x124_5) ≤ t666)), (wrap64 (x124_5 + 1)), (by first | rfl | (simp; done) | (simp [*]; done)), (by first | rfl | (simp; done) | (simp [*]; done)), H', ⟨by have := HK1.out; have := HK2.out; have := HK3.out; have := HK4.out; have := HK5.out; omega⟩, ⟨by (with_reducible repeat (first | apply Kd.R_alloc | apply Kd.R_drewN | apply Kd.R_drew)); exact HO_16.out⟩, ⟨by (with_reducible repeat (first | apply Kd.S_alloc | apply Kd.S_drewN | apply Kd.S_drew)); exact HO_17.out⟩, ⟨by refine bx_ ?_; exact BK629.out⟩, ⟨by refine bx_ ?_; exact BK662.out⟩, ⟨by repeat (first | (with_reducible exact HR663_0.out) | (with_reducible refine Kd.C_alloc ?_ _) | (with_reducible refine Kd.C_drewN ?_ _) | (with_reducible refine Kd.C_drew ?_) | exact HR663_0.out)⟩, ⟨be2_ HB GE629 GE662⟩⟩
                     ·replace c77 := Bool.eq_false_iff.mpr c77
                      subst c77
                      have H1 : (cottonpadlaw06_truth.l4 k5 l2 t649 t652 false x114_4 l0_0 (l0_0.length : Int) x114_4 (rd_L11 t652 x114_4) ((rd_L11 t652 x114_4).length : Int) (wrap64 (x124_5 + 1)) ((rd_T62 l0_0 x114_4).f0) ((rd_T62 l0_0 x114_4).f1) ((rd_T62 l0_0 x114_4).f2.f0) ((rd_T62 l0_0 x114_4).f2.f1) ((rd_T62 l0_0 x114_4).f3.f0) ((rd_T62 l0_0 x114_4).f3.f1)) = some (r1, r2, r3) := by rw [if_neg (show ¬ (false = true) by decide)] at H; exact H
                      clear H
                      have H := H1
                      clear H1
                      have H' := Aside0.mk H
                      clear H
                      have p664 : 0 ≤ (x124_5 : Int) := of_decide_eq_true as_
                      have q664 : x124_5 < ((rd_L11 t652 x114_4).length : Int) := of_decide_eq_true as_
                      obtain ⟨ad664, e664, hx664_0⟩ := Kd.at_int HR663_0.out x124_5 p664 q664
                      cases e664
                      try replace hx664_0 := ce_ HB hx664_0
                      replace p664 := eq_true p664
                      replace q664 := eq_true q664
                      try go_wp2
                      replace HO_16 := Aside0.mk (Kd.R_drew HO_16.out)
                      replace HO_17 := Aside0.mk (Kd.S_drew HO_17.out)
                      replace BK629 := Aside0.mk (blk_drew BK629.out)
                      replace BK662 := Aside0.mk (blk_drew BK662.out)
                      replace HR663_0 := Aside0.mk (Kd.C_drew HR663_0.out)
                      replace HB := Aside0.mk (below_drew1 HB.out)
                      refine start_ (n := 13) (S := fun w' => True) (ds := []) (bm_ 13 0) (by kernel_rfl) rfl rfl trivial (fun hHeld => ?_); refine with_tabW cottonpadlaw06_truth.tab25 cottonpadlaw06_truth.bits25 (fun HT_ HW_ => ?_)
                      generalize wr.drew = w82 at HO_16 HO_17 BK629 BK662 HR663_0 HB hHeld ⊢
                      refine pr_ 0 128 13 1 HT_ rfl rfl ?_
                      refine pr_ 1 129 13 3 HT_ rfl rfl ?_
                      refine pn_ 2 130 13 7 HT_ rfl rfl ?_
                      refine pn_ 3 131 13 15 HT_ rfl rfl ?_
                      refine pn_ 4 132 13 31 HT_ rfl rfl ?_
                      refine pn_ 5 133 13 63 HT_ rfl rfl ?_
                      refine pn_ 6 134 13 127 HT_ rfl rfl ?_
                      refine pn_ 7 135 13 255 HT_ rfl rfl ?_
                      refine pn_ 8 136 13 511 HT_ rfl rfl ?_
                      refine pn_ 9 137 13 1023 HT_ rfl rfl ?_
                      refine pn_ 10 138 13 2047 HT_ rfl rfl ?_
                      refine pr_ 11 139 13 4095 HT_ rfl rfl ?_
                      refine pr_ 12 18 13 8191 HT_ rfl rfl ?_
                      refine done_ (done_of HT_.out (by kernel_rfl)) ?_
                      try go_wp2
                      go_roundg k5
                      case measure => have := HK1.out; have := HK2.out; have := HK3.out; have := HK4.out; have := HK5.out; omega
                      case rel => exact ⟨(false), (wrap64 (x124_5 + 1)), (by first | rfl | (simp; done) | (simp [*]; done)), (by first | rfl | (simp; done) | (simp [*]; done)), H', ⟨by have := HK1.out; have := HK2.out; have := HK3.out; have := HK4.out; have := HK5.out; omega⟩, ⟨by (with_reducible repeat (first | apply Kd.R_alloc | apply Kd.R_drewN | apply Kd.R_drew)); exact HO_16.out⟩, ⟨by (with_reducible repeat (first | apply Kd.S_alloc | apply Kd.S_drewN | apply Kd.S_drew)); exact HO_17.out⟩, ⟨by refine bx_ ?_; exact BK629.out⟩, ⟨by refine bx_ ?_; exact BK662.out⟩, ⟨by repeat (first | (with_reducible exact HR663_0.out) | (with_reducible refine Kd.C_alloc ?_ _) | (with_reducible refine Kd.C_drewN ?_ _) | (with_reducible refine Kd.C_drew ?_) | exact HR663_0.out)⟩, ⟨be2_ HB GE629 GE662⟩⟩
                    ·rw [if_neg c76] at H
                     exact absurd H (by simp)
                   ·rw [if_neg c75] at H
                    exact absurd H (by simp)
                  ·rw [if_neg c74] at H
                   have c74b0 : decide (x124_5 < ((rd_L11 t652 x114_4).length : Int)) = false := decide_eq_false c74
                   clear c74
                   have H' := Aside0.mk H
                   clear H
                   go_wp2
                   go_roundg k5
                   case measure => have := HK1.out; have := HK2.out; have := HK3.out; have := HK4.out; have := HK5.out; omega
                   case rel => exact ⟨(x18_5), (wrap64 (x114_4 + 1)), (by first | rfl | (simp; done) | (simp [*]; done)), (by first | rfl | (simp; done) | (simp [*]; done)), H', ⟨by have := HK1.out; have := HK2.out; have := HK3.out; have := HK4.out; have := HK5.out; omega⟩, ⟨by (with_reducible repeat (first | apply Kd.R_alloc | apply Kd.R_drewN | apply Kd.R_drew)); exact HO_16.out⟩, ⟨by (with_reducible repeat (first | apply Kd.S_alloc | apply Kd.S_drewN | apply Kd.S_drew)); exact HO_17.out⟩, ⟨by refine bx_ ?_; exact BK629.out⟩, ⟨be2_ HB GE629 GE662⟩⟩
               ·rw [if_neg c68] at H
                exact absurd H (by simp)
              ·rw [if_neg c67] at H
               exact absurd H (by simp)
             ·rw [if_neg c66] at H
              exact absurd H (by simp)
            ·rw [if_neg c65] at H
             have c65b0 : decide (x114_4 < (l0_0.length : Int)) = false := decide_eq_false c65
             clear c65
             simp only [Option.some.injEq, Prod.mk.injEq] at H
             obtain ⟨rfl, rfl, rfl⟩ := H
             go_wp2
             go_ret3
             exact ⟨_, _, rf_, by (with_reducible repeat (first | apply Kd.R_alloc | apply Kd.R_drewN | apply Kd.R_drew)); exact HO_16.out, by (with_reducible repeat (first | apply Kd.S_alloc | apply Kd.S_drewN | apply Kd.S_drew)); exact HO_17.out, be1_ HB GE629⟩

end Go.Proofs.YtdeaccbolnlgpaaDoor.X
