import Derived.Test.YtdeaccbolnlgpaaDoorX0
namespace Go.Proofs.YtdeaccbolnlgpaaDoor.X
open Go.RowKit Go.Proofs.YtdeaccbolnlgpaaDoorW.PrintWords Go.Proofs.YtdeaccbolnlgpaaDoorW.PrintLast Go.Proofs.YtdeaccbolnlgpaaDoorW.PrintMore
attribute [local go_sem] max2_int min2_int max_two min_two max_three min_three max_four min_four   -- for this text's walks alone
set_option linter.unusedVariables false
set_option linter.unusedSimpArgs false

/-! ### cottonpadref06_Great: function 15 -/
def cottonpadref06_Great.f (l0_0 : List (S62)) (l0_1 : List (S81)) (l1 : List (S48)) : Option (Bool) := if (l0_0.length : Int) > 10 then (some true) else (if (l0_1.length : Int) > 12 then (some true) else (some (decide ((l1.length : Int) > 30))))
set_option maxHeartbeats 8000000 in
set_option maxRecDepth 100000 in
theorem cottonpadref06_Great.calls (A0_0 : Option Addr) (c0_0 : Nat) (l0_0 : List (S62)) (A0_1 : Option Addr) (c0_1 : Nat) (l0_1 : List (S81)) (A1 : Option Addr) (c1 : Nat) (l1 : List (S48)) (r : Bool) (w : World) (hr0_0 : Kd.C k62 w A0_0 l0_0.length l0_0) (hc0_0 : l0_0.length ≤ c0_0) (hr0_1 : Kd.C k81 w A0_1 l0_1.length l0_1) (hc0_1 : l0_1.length ≤ c0_1) (hr1 : Kd.C k48 w A1 l1.length l1) (hc1 : l1.length ≤ c1) (h : cottonpadref06_Great.f l0_0 l0_1 l1 = some r) :
  Calls Tryd.prog 15 #[.agg #[.slice A0_0 l0_0.length c0_0, .slice A0_1 l0_1.length c0_1], .slice A1 l1.length c1] w fun e w' => e = .returned (.bool r) ∧ Below w.heap.size w w' := by
 have hu25 := Tryd.underlying25
 have HR0_0 := Aside0.mk hr0_0
 have HC0_0 := Aside0.mk hc0_0
 clear hr0_0 hc0_0
 have HR0_1 := Aside0.mk hr0_1
 have HC0_1 := Aside0.mk hc0_1
 clear hr0_1 hc0_1
 have HR1 := Aside0.mk hr1
 have HC1 := Aside0.mk hc1
 clear hr1 hc1
 have HB := Aside0.mk (Below.refl w.heap.size w)
 have H : (if (l0_0.length : Int) > 10 then (some true) else (if (l0_1.length : Int) > 12 then (some true) else (some (decide ((l1.length : Int) > 30))))) = some r := h
 clear h
 by_cases c3 : (l0_0.length : Int) > 10
 ·rw [if_pos c3] at H
  have c3b0 : decide (10 < (l0_0.length : Int)) = true := decide_eq_true c3
  have c3b1 : decide (10 < l0_0.length) = true := decide_eq_true (by omega)
  clear c3
  obtain rfl := Option.some.inj H
  go_enter Tryd.func15, Tryd.ntmps15
  go_wp2_with (first | ((with_reducible refine gate_dst (N := 2) rfl ?_); (try (refine gate_guard (by rfl) ?_; dsimp only)); refine box_event ?hg (N := 2) ?hd (cs := #[.slice A0_0 l0_0.length c0_0, .slice A0_1 l0_1.length c0_1]) (t := 25) ?hr ?_; (case hd => rfl); (case hg => rfl); (case hr => exact gs_); intro gb101 hg w4 hbox hb; have BK101 := Aside0.mk (hbox); have GW101 := hl_ hg (be_ HB); have GE101 := hl_ hg (be_ HB); replace HB := bs_ HB hb; clear hb hbox hg; have hcz5_0 : w4.cell? ⟨gb101, 0, none⟩ = some (.slice A0_0 l0_0.length c0_0) := bc_ BK101 0; have hcz5_1 : w4.cell? ⟨gb101, 1, none⟩ = some (.slice A0_1 l0_1.length c0_1) := bc_ BK101 1; have hfz5_0 := blk_frozen BK101.out 0; have hfz5_1 := blk_frozen BK101.out 1))
  go_ret
  exact ⟨rf_, be1_ HB GE101⟩
 ·rw [if_neg c3] at H
  have c3b0 : decide (10 < (l0_0.length : Int)) = false := decide_eq_false c3
  have c3b1 : decide (10 < l0_0.length) = false := decide_eq_false (by omega)
  clear c3
  by_cases c6 : (l0_1.length : Int) > 12
  ·rw [if_pos c6] at H
   have c6b0 : decide (12 < (l0_1.length : Int)) = true := decide_eq_true c6
   have c6b1 : decide (12 < l0_1.length) = true := decide_eq_true (by omega)
   clear c6
   obtain rfl := Option.some.inj H
   go_enter Tryd.func15, Tryd.ntmps15
   go_wp2_with (first | ((with_reducible refine gate_dst (N := 2) rfl ?_); (try (refine gate_guard (by rfl) ?_; dsimp only)); refine box_event ?hg (N := 2) ?hd (cs := #[.slice A0_0 l0_0.length c0_0, .slice A0_1 l0_1.length c0_1]) (t := 25) ?hr ?_; (case hd => rfl); (case hg => rfl); (case hr => exact gs_); intro gb101 hg w7 hbox hb; have BK101 := Aside0.mk (hbox); have GW101 := hl_ hg (be_ HB); have GE101 := hl_ hg (be_ HB); replace HB := bs_ HB hb; clear hb hbox hg; have hcz8_0 : w7.cell? ⟨gb101, 0, none⟩ = some (.slice A0_0 l0_0.length c0_0) := bc_ BK101 0; have hcz8_1 : w7.cell? ⟨gb101, 1, none⟩ = some (.slice A0_1 l0_1.length c0_1) := bc_ BK101 1; have hfz8_0 := blk_frozen BK101.out 0; have hfz8_1 := blk_frozen BK101.out 1))
   go_ret
   exact ⟨rf_, be1_ HB GE101⟩
  ·rw [if_neg c6] at H
   have c6b0 : decide (12 < (l0_1.length : Int)) = false := decide_eq_false c6
   have c6b1 : decide (12 < l0_1.length) = false := decide_eq_false (by omega)
   clear c6
   obtain rfl := Option.some.inj H
   go_enter Tryd.func15, Tryd.ntmps15
   go_wp2_with (first | ((with_reducible refine gate_dst (N := 2) rfl ?_); (try (refine gate_guard (by rfl) ?_; dsimp only)); refine box_event ?hg (N := 2) ?hd (cs := #[.slice A0_0 l0_0.length c0_0, .slice A0_1 l0_1.length c0_1]) (t := 25) ?hr ?_; (case hd => rfl); (case hg => rfl); (case hr => exact gs_); intro gb101 hg w9 hbox hb; have BK101 := Aside0.mk (hbox); have GW101 := hl_ hg (be_ HB); have GE101 := hl_ hg (be_ HB); replace HB := bs_ HB hb; clear hb hbox hg; have hcz10_0 : w9.cell? ⟨gb101, 0, none⟩ = some (.slice A0_0 l0_0.length c0_0) := bc_ BK101 0; have hcz10_1 : w9.cell? ⟨gb101, 1, none⟩ = some (.slice A0_1 l0_1.length c0_1) := bc_ BK101 1; have hfz10_0 := blk_frozen BK101.out 0; have hfz10_1 := blk_frozen BK101.out 1))
   go_ret
   exact ⟨rf_, be1_ HB GE101⟩

end Go.Proofs.YtdeaccbolnlgpaaDoor.X

namespace Go.Proofs.YtdeaccbolnlgpaaDoor.X
open Go.RowKit Go.Proofs.YtdeaccbolnlgpaaDoorW.PrintWords Go.Proofs.YtdeaccbolnlgpaaDoorW.PrintLast Go.Proofs.YtdeaccbolnlgpaaDoorW.PrintMore
attribute [local go_sem] max2_int min2_int max_two min_two max_three min_three max_four min_four   -- for this text's walks alone
set_option linter.unusedVariables false
set_option linter.unusedSimpArgs false

/-! ### cottonpadref06_within: function 55 -/
def cottonpadref06_within.f (a0 : Int) (a1 : Int) (a2 : Int) : Option (Bool) := if a0 ≥ a1 then (some (decide (a0 ≤ a2))) else (some false)
set_option maxHeartbeats 8000000 in
set_option maxRecDepth 100000 in
theorem cottonpadref06_within.calls (a0 : Int) (a1 : Int) (a2 : Int) (r : Bool) (w : World) (h : cottonpadref06_within.f a0 a1 a2 = some r) :
  Calls Tryd.prog 55 #[.int .i64 a0, .int .i64 a1, .int .i64 a2] w fun e w' => e = .returned (.bool r) ∧ Drawn0 w w' := by
 have H : (if a0 ≥ a1 then (some (decide (a0 ≤ a2))) else (some false)) = some r := h
 clear h
 by_cases c4 : a0 ≥ a1
 ·rw [if_pos c4] at H
  have c4b0 : decide (a1 ≤ a0) = true := decide_eq_true c4
  clear c4
  obtain rfl := Option.some.inj H
  go_enter Tryd.func55, Tryd.ntmps55
  go_wp2
  go_ret
  exact ⟨by first | rfl | (simp; done) | (simp [*]; done), by repeat (first | exact Drawn0.refl _ | apply Drawn0.step)⟩
 ·rw [if_neg c4] at H
  have c4b0 : decide (a1 ≤ a0) = false := decide_eq_false c4
  clear c4
  obtain rfl := Option.some.inj H
  go_enter Tryd.func55, Tryd.ntmps55
  go_wp2
  go_ret
  exact ⟨by first | rfl | (simp; done) | (simp [*]; done), by repeat (first | exact Drawn0.refl _ | apply Drawn0.step)⟩

end Go.Proofs.YtdeaccbolnlgpaaDoor.X

namespace Go.Proofs.YtdeaccbolnlgpaaDoor.X
open Go.RowKit Go.Proofs.YtdeaccbolnlgpaaDoorW.PrintWords Go.Proofs.YtdeaccbolnlgpaaDoorW.PrintLast Go.Proofs.YtdeaccbolnlgpaaDoorW.PrintMore
attribute [local go_sem] max2_int min2_int max_two min_two max_three min_three max_four min_four   -- for this text's walks alone
set_option linter.unusedVariables false
set_option linter.unusedSimpArgs false

/-! ### cottonpadref06_spanned: function 90 -/
def cottonpadref06_spanned.f (a0_0 : Int) (a0_1 : Int) (a1 : Int) (a2 : Int) : Option (Bool) := if a0_0 ≥ a1 then (if a0_0 ≤ a0_1 then (some (decide (a0_1 ≤ a2))) else (some false)) else (some false)
set_option maxHeartbeats 8000000 in
set_option maxRecDepth 100000 in
theorem cottonpadref06_spanned.calls (a0_0 : Int) (a0_1 : Int) (a1 : Int) (a2 : Int) (r : Bool) (w : World) (h : cottonpadref06_spanned.f a0_0 a0_1 a1 a2 = some r) :
  Calls Tryd.prog 90 #[.agg #[.int .i64 a0_0, .int .i64 a0_1], .int .i64 a1, .int .i64 a2] w fun e w' => e = .returned (.bool r) ∧ Below w.heap.size w w' := by
 have hu36 := Tryd.underlying36
 have HB := Aside0.mk (Below.refl w.heap.size w)
 have H : (if a0_0 ≥ a1 then (if a0_0 ≤ a0_1 then (some (decide (a0_1 ≤ a2))) else (some false)) else (some false)) = some r := h
 clear h
 by_cases c4 : a0_0 ≥ a1
 ·rw [if_pos c4] at H
  have c4b0 : decide (a1 ≤ a0_0) = true := decide_eq_true c4
  clear c4
  by_cases c5 : a0_0 ≤ a0_1
  ·rw [if_pos c5] at H
   have c5b0 : decide (a0_0 ≤ a0_1) = true := decide_eq_true c5
   clear c5
   obtain rfl := Option.some.inj H
   go_enter Tryd.func90, Tryd.ntmps90
   go_wp2_with (first | ((with_reducible refine gate_dst (N := 3) rfl ?_); refine box_event ?hg (N := 3) ?hd (cs := #[.int .i64 a0_0, .int .i64 a0_1]) (t := 36) ?hr ?_; (case hd => rfl); (case hg => rfl); (case hr => exact gs_); intro gb121 hg w6 hbox hb; have BK121 := Aside0.mk (hbox); have GW121 := hl_ hg (be_ HB); have GE121 := hl_ hg (be_ HB); replace HB := bs_ HB hb; clear hb hbox hg; have hcz7_0 : w6.cell? ⟨gb121, 0, none⟩ = some (.int .i64 a0_0) := bc_ BK121 0; have hcz7_1 : w6.cell? ⟨gb121, 1, none⟩ = some (.int .i64 a0_1) := bc_ BK121 1; have hfz7_0 := blk_frozen BK121.out 0; have hfz7_1 := blk_frozen BK121.out 1))
   go_ret
   exact ⟨rf_, be1_ HB GE121⟩
  ·rw [if_neg c5] at H
   have c5b0 : decide (a0_0 ≤ a0_1) = false := decide_eq_false c5
   clear c5
   obtain rfl := Option.some.inj H
   go_enter Tryd.func90, Tryd.ntmps90
   go_wp2_with (first | ((with_reducible refine gate_dst (N := 3) rfl ?_); refine box_event ?hg (N := 3) ?hd (cs := #[.int .i64 a0_0, .int .i64 a0_1]) (t := 36) ?hr ?_; (case hd => rfl); (case hg => rfl); (case hr => exact gs_); intro gb121 hg w8 hbox hb; have BK121 := Aside0.mk (hbox); have GW121 := hl_ hg (be_ HB); have GE121 := hl_ hg (be_ HB); replace HB := bs_ HB hb; clear hb hbox hg; have hcz9_0 : w8.cell? ⟨gb121, 0, none⟩ = some (.int .i64 a0_0) := bc_ BK121 0; have hcz9_1 : w8.cell? ⟨gb121, 1, none⟩ = some (.int .i64 a0_1) := bc_ BK121 1; have hfz9_0 := blk_frozen BK121.out 0; have hfz9_1 := blk_frozen BK121.out 1))
   go_ret
   exact ⟨rf_, be1_ HB GE121⟩
 ·rw [if_neg c4] at H
  have c4b0 : decide (a1 ≤ a0_0) = false := decide_eq_false c4
  clear c4
  obtain rfl := Option.some.inj H
  go_enter Tryd.func90, Tryd.ntmps90
  go_wp2_with (first | ((with_reducible refine gate_dst (N := 3) rfl ?_); refine box_event ?hg (N := 3) ?hd (cs := #[.int .i64 a0_0, .int .i64 a0_1]) (t := 36) ?hr ?_; (case hd => rfl); (case hg => rfl); (case hr => exact gs_); intro gb121 hg w10 hbox hb; have BK121 := Aside0.mk (hbox); have GW121 := hl_ hg (be_ HB); have GE121 := hl_ hg (be_ HB); replace HB := bs_ HB hb; clear hb hbox hg; have hcz11_0 : w10.cell? ⟨gb121, 0, none⟩ = some (.int .i64 a0_0) := bc_ BK121 0; have hcz11_1 : w10.cell? ⟨gb121, 1, none⟩ = some (.int .i64 a0_1) := bc_ BK121 1; have hfz11_0 := blk_frozen BK121.out 0; have hfz11_1 := blk_frozen BK121.out 1))
  go_ret
  exact ⟨rf_, be1_ HB GE121⟩

end Go.Proofs.YtdeaccbolnlgpaaDoor.X

namespace Go.Proofs.YtdeaccbolnlgpaaDoor.X
open Go.RowKit Go.Proofs.YtdeaccbolnlgpaaDoorW.PrintWords Go.Proofs.YtdeaccbolnlgpaaDoorW.PrintLast Go.Proofs.YtdeaccbolnlgpaaDoorW.PrintMore
attribute [local go_sem] max2_int min2_int max_two min_two max_three min_three max_four min_four   -- for this text's walks alone
set_option linter.unusedVariables false
set_option linter.unusedSimpArgs false

/-! ### cottonpadref06_Building: function 63 -/
mutual
def cottonpadref06_Building.j0 : Nat → Bool → List (S62) → List (S81) → Option (Bool)
 | 0, _, _, _ => none
 | k + 1, x18, x123000, x123001 => if x18 = true then (some false) else (cottonpadref06_Building.l0 k 0 x123000 x123001)
def cottonpadref06_Building.l0 : Nat → Int → List (S62) → List (S81) → Option (Bool)
 | 0, _, _, _ => none
 | k + 1, x3, x123000, x123001 => if x3 < (x123000.length : Int) then (if 0 ≤ x3 then (if ((rd_T62 x123000 x3).f0) = (-1) then ((cottonpadref06_within.f ((rd_T62 x123000 x3).f1) 0 60).bind fun t127 => (if t127 = true then ((cottonpadref06_spanned.f ((rd_T62 x123000 x3).f2.f0) ((rd_T62 x123000 x3).f2.f1) 0 600).bind fun t128 => (if t128 = true then ((cottonpadref06_spanned.f ((rd_T62 x123000 x3).f3.f0) ((rd_T62 x123000 x3).f3.f1) 0 36000).bind fun t129 => (if t129 = true then (cottonpadref06_Building.l0 k (wrap64 (x3 + 1)) x123000 x123001) else (some false))) else (some false))) else (some false))) else ((cottonpadref06_within.f ((rd_T62 x123000 x3).f0) (wrap64 (x3 + 1)) (wrap64 ((x123000.length : Int) - 1))).bind fun t130 => (if t130 = true then ((cottonpadref06_within.f ((rd_T62 x123000 x3).f1) 0 60).bind fun t131 => (if t131 = true then ((cottonpadref06_spanned.f ((rd_T62 x123000 x3).f2.f0) ((rd_T62 x123000 x3).f2.f1) 0 600).bind fun t132 => (if t132 = true then ((cottonpadref06_spanned.f ((rd_T62 x123000 x3).f3.f0) ((rd_T62 x123000 x3).f3.f1) 0 36000).bind fun t133 => (if t133 = true then (cottonpadref06_Building.l0 k (wrap64 (x3 + 1)) x123000 x123001) else (some false))) else (some false))) else (some false))) else (some false)))) else (none)) else (cottonpadref06_Building.l1 k 0 x123000 x123001)
def cottonpadref06_Building.l1 : Nat → Int → List (S62) → List (S81) → Option (Bool)
 | 0, _, _, _ => none
 | k + 1, x5, x123000, x123001 => if x5 < (x123001.length : Int) then (if 0 ≤ x5 then ((cottonpadref06_within.f ((rd_T81 x123001 x5).f0) 0 (wrap64 ((x123000.length : Int) - 1))).bind fun t136 => (if t136 = true then ((cottonpadref06_within.f ((rd_T81 x123001 x5).f1) 0 100000).bind fun t137 => (if t137 = true then ((cottonpadref06_spanned.f ((rd_T81 x123001 x5).f2.f0) ((rd_T81 x123001 x5).f2.f1) 0 36000).bind fun t138 => (if t138 = true then (cottonpadref06_Building.l1 k (wrap64 (x5 + 1)) x123000 x123001) else (some false))) else (some false))) else (some false))) else (none)) else (some true)
end
def cottonpadref06_Building.f (k : Nat) (l0_0 : List (S62)) (l0_1 : List (S81)) : Option (Bool) := (cottonpadref06_within.f (l0_0.length : Int) 1 6).bind fun t123 => (if t123 = true then ((cottonpadref06_within.f (l0_1.length : Int) 1 8).bind fun t124 => (cottonpadref06_Building.j0 k (!t124) l0_0 l0_1)) else (cottonpadref06_Building.j0 k true l0_0 l0_1))
theorem cottonpadref06_Building.mono_l : ∀ k, (∀ y0 y1 y2, LeO (cottonpadref06_Building.j0 k y0 y1 y2) (cottonpadref06_Building.j0 (k + 1) y0 y1 y2)) ∧ (∀ y0 y1 y2, LeO (cottonpadref06_Building.l0 k y0 y1 y2) (cottonpadref06_Building.l0 (k + 1) y0 y1 y2)) ∧ (∀ y0 y1 y2, LeO (cottonpadref06_Building.l1 k y0 y1 y2) (cottonpadref06_Building.l1 (k + 1) y0 y1 y2))
 | 0 => ⟨fun _ _ _ r h => by simp [cottonpadref06_Building.j0] at h, fun _ _ _ r h => by simp [cottonpadref06_Building.l0] at h, fun _ _ _ r h => by simp [cottonpadref06_Building.l1] at h⟩
 | k + 1 => by
  obtain ⟨ih0, ih1, ih2⟩ := cottonpadref06_Building.mono_l k
  refine ⟨?_, ?_, ?_⟩
  ·intro y0 y1 y2
   unfold cottonpadref06_Building.j0
   repeat' (with_reducible first | exact ih0 .. | exact ih1 .. | exact ih2 .. | exact LeO.refl .. | exact LeO.none .. | refine LeO.ite ?_ ?_ | refine LeO.bind ?_ (fun _ => ?_))
  ·intro y0 y1 y2
   unfold cottonpadref06_Building.l0
   repeat' (with_reducible first | exact ih0 .. | exact ih1 .. | exact ih2 .. | exact LeO.refl .. | exact LeO.none .. | refine LeO.ite ?_ ?_ | refine LeO.bind ?_ (fun _ => ?_))
  ·intro y0 y1 y2
   unfold cottonpadref06_Building.l1
   repeat' (with_reducible first | exact ih0 .. | exact ih1 .. | exact ih2 .. | exact LeO.refl .. | exact LeO.none .. | refine LeO.ite ?_ ?_ | refine LeO.bind ?_ (fun _ => ?_))
theorem cottonpadref06_Building.mono : ∀ a0 a1 k, LeO (cottonpadref06_Building.f k a0 a1) (cottonpadref06_Building.f (k + 1) a0 a1) := by
 intro a0 a1 k
 obtain ⟨ih0, ih1, ih2⟩ := cottonpadref06_Building.mono_l k
 unfold cottonpadref06_Building.f
 repeat' (with_reducible first | exact ih0 .. | exact ih1 .. | exact ih2 .. | exact LeO.refl .. | exact LeO.none .. | refine LeO.ite ?_ ?_ | refine LeO.bind ?_ (fun _ => ?_))
set_option maxHeartbeats 8000000 in
set_option maxRecDepth 100000 in
theorem cottonpadref06_Building.calls (k : Nat) (A0_0 : Option Addr) (c0_0 : Nat) (l0_0 : List (S62)) (A0_1 : Option Addr) (c0_1 : Nat) (l0_1 : List (S81)) (r : Bool) (w : World) (hr0_0 : Kd.C k62 w A0_0 l0_0.length l0_0) (hc0_0 : l0_0.length ≤ c0_0) (hr0_1 : Kd.C k81 w A0_1 l0_1.length l0_1) (hc0_1 : l0_1.length ≤ c0_1) (h : cottonpadref06_Building.f k l0_0 l0_1 = some r) :
  Calls Tryd.prog 63 #[.agg #[.slice A0_0 l0_0.length c0_0, .slice A0_1 l0_1.length c0_1]] w fun e w' => e = .returned (.bool r) ∧ Below w.heap.size w w' := by
 have hu25 := Tryd.underlying25
 have hu62 := Tryd.underlying62
 have hu36 := Tryd.underlying36
 have hu81 := Tryd.underlying81
 have HR0_0 := Aside0.mk hr0_0
 have HC0_0 := Aside0.mk hc0_0
 clear hr0_0 hc0_0
 have HR0_1 := Aside0.mk hr0_1
 have HC0_1 := Aside0.mk hc0_1
 clear hr0_1 hc0_1
 have HB := Aside0.mk (Below.refl w.heap.size w)
 have H : ((cottonpadref06_within.f (l0_0.length : Int) 1 6).bind fun t123 => (if t123 = true then ((cottonpadref06_within.f (l0_1.length : Int) 1 8).bind fun t124 => (cottonpadref06_Building.j0 k (!t124) l0_0 l0_1)) else (cottonpadref06_Building.j0 k true l0_0 l0_1))) = some r := h
 clear h
 have HC2 := Aside0.mk H
 clear H
 go_enter Tryd.func63, Tryd.ntmps63
 go_upto_region 1 with (first | ((with_reducible refine gate_dst (N := 1) rfl ?_); (try (refine gate_guard (by rfl) ?_; dsimp only)); refine box_event ?hg (N := 1) ?hd (cs := #[.slice A0_0 l0_0.length c0_0, .slice A0_1 l0_1.length c0_1]) (t := 25) ?hr ?_; (case hd => rfl); (case hg => rfl); (case hr => exact gs_); intro gb122 hg w3 hbox hb; have BK122 := Aside0.mk (hbox); have GW122 := hl_ hg (be_ HB); have GE122 := hl_ hg (be_ HB); replace HB := bs_ HB hb; clear hb hbox hg))
 (try simp only [Act.put, List.setIfInBounds_toArray, List.set_cons_zero, List.set_cons_succ])
 go_cut [18] (fun v18 wc => ∃ (kq : Nat) (x18_1 : Bool), v18 = .bool x18_1 ∧ Aside0 (cottonpadref06_Building.j0 kq x18_1 l0_0 l0_1 = some r) ∧ Aside0 (kq ≤ k) ∧ Aside0 (wc.heap[gb122]? = some (.cells #[(.slice A0_0 l0_0.length c0_0), (.slice A0_1 l0_1.length c0_1)] 25 (0, 0))) ∧ Aside0 (Below w.heap.size w wc))
 case first =>
  have H := HC2.out
  clear HC2
  replace H := Option.bind_eq_some_iff.mp H
  obtain ⟨t123, A40, H⟩ := H
  replace H : (if t123 = true then ((cottonpadref06_within.f (l0_1.length : Int) 1 8).bind fun t124 => (cottonpadref06_Building.j0 k (!t124) l0_0 l0_1)) else (cottonpadref06_Building.j0 k true l0_0 l0_1)) = some r := H
  have A4 := Aside0.mk A40
  clear A40
  by_cases c5 : t123 = true
  ·subst c5
   have H1 : ((cottonpadref06_within.f (l0_1.length : Int) 1 8).bind fun t124 => (cottonpadref06_Building.j0 k (!t124) l0_0 l0_1)) = some r := by rw [if_pos rfl] at H; exact H
   clear H
   have H := H1
   clear H1
   replace H := Option.bind_eq_some_iff.mp H
   obtain ⟨t124, A60, H⟩ := H
   replace H : (cottonpadref06_Building.j0 k (!t124) l0_0 l0_1) = some r := H
   have A6 := Aside0.mk A60
   clear A60
   have H' := Aside0.mk H
   clear H
   have hcz7_0 : w3.cell? ⟨gb122, 0, none⟩ = some (.slice A0_0 l0_0.length c0_0) := bc_ BK122 0
   have hcz7_1 : w3.cell? ⟨gb122, 1, none⟩ = some (.slice A0_1 l0_1.length c0_1) := bc_ BK122 1
   have hfz7_0 := blk_frozen BK122.out 0
   have hfz7_1 := blk_frozen BK122.out 1
   go_wp2_with (first | ((with_reducible refine gate_callee (f := 55) rfl ?_); refine goesL_ (some 10) rfl rfl Tryd.func55 (by kernel_rfl) rfl #[.int .i64 (l0_0.length : Int), .int .i64 1, .int .i64 6] rfl ls_ ?_; (with_reducible refine (cottonpadref06_within.calls (l0_0.length : Int) 1 6 true _ A4.out).mono ?_); rintro e w' ⟨rfl, ⟨nd, rfl⟩⟩; refine ⟨_, rfl, ?_⟩) | (go_at_call 55; (with_reducible refine (cottonpadref06_within.calls (l0_1.length : Int) 1 8 t124 _ A6.out).mono ?_); rintro e w' ⟨rfl, ⟨nd, rfl⟩⟩))
   go_meet
   case rel => exact ⟨_, (!t124), (by first | rfl | (simp; done) | (simp [*]; done)), H', ⟨by first | omega | exact Nat.le_refl _⟩, ⟨by refine bx_ ?_; exact BK122.out⟩, ⟨be1_ HB GE122⟩⟩
  ·replace c5 := Bool.eq_false_iff.mpr c5
   subst c5
   have H1 : (cottonpadref06_Building.j0 k true l0_0 l0_1) = some r := by rw [if_neg (show ¬ (false = true) by decide)] at H; exact H
   clear H
   have H := H1
   clear H1
   have H' := Aside0.mk H
   clear H
   have hcz8_0 : w3.cell? ⟨gb122, 0, none⟩ = some (.slice A0_0 l0_0.length c0_0) := bc_ BK122 0
   have hcz8_1 : w3.cell? ⟨gb122, 1, none⟩ = some (.slice A0_1 l0_1.length c0_1) := bc_ BK122 1
   have hfz8_0 := blk_frozen BK122.out 0
   have hfz8_1 := blk_frozen BK122.out 1
   go_wp2_with (first | ((with_reducible refine gate_callee (f := 55) rfl ?_); refine goesL_ (some 10) rfl rfl Tryd.func55 (by kernel_rfl) rfl #[.int .i64 (l0_0.length : Int), .int .i64 1, .int .i64 6] rfl ls_ ?_; (with_reducible refine (cottonpadref06_within.calls (l0_0.length : Int) 1 6 false _ A4.out).mono ?_); rintro e w' ⟨rfl, ⟨nd, rfl⟩⟩; refine ⟨_, rfl, ?_⟩))
   go_meet
   case rel => exact ⟨_, (true), (by first | rfl | (simp; done) | (simp [*]; done)), H', ⟨by first | omega | exact Nat.le_refl _⟩, ⟨by refine bx_ ?_; exact BK122.out⟩, ⟨be1_ HB GE122⟩⟩
 case rest =>
  clear HC2
  try clear p2
  try clear c5
  try clear c6
  try clear hcz7_0
  try clear hcz7_1
  try clear hcz8_0
  try clear hcz8_1
  try clear hfz7_0
  try clear hfz7_1
  try clear hfz8_0
  try clear hfz8_1
  obtain ⟨kq, x18_1, rfl, HA, HJ1, BK122, HB⟩ := hcut
  cases kq with
  | zero => exact absurd HA.out (by simp [cottonpadref06_Building.j0])
  | succ kj1 =>
   have H := HA.out
   clear HA
   simp only [cottonpadref06_Building.j0] at H
   by_cases c9 : x18_1 = true
   ·subst c9
    have H1 : (some false) = some r := by rw [if_pos rfl] at H; exact H
    clear H
    have H := H1
    clear H1
    obtain rfl := Option.some.inj H
    go_wp2
    go_ret
    exact ⟨rf_, be1_ HB GE122⟩
   ·replace c9 := Bool.eq_false_iff.mpr c9
    subst c9
    have H1 : (cottonpadref06_Building.l0 kj1 0 l0_0 l0_1) = some r := by rw [if_neg (show ¬ (false = true) by decide)] at H; exact H
    clear H
    have H := H1
    clear H1
    have H' := Aside0.mk H
    clear H
    go_wp2
    go_loopg [3] kj1 (fun kq v3 w' => ∃ (x3_2 : Int), v3 = .int .i64 x3_2 ∧ Aside0 (cottonpadref06_Building.l0 kq x3_2 l0_0 l0_1 = some r) ∧ Aside0 (kq ≤ kj1) ∧ Aside0 (w'.heap[gb122]? = some (.cells #[(.slice A0_0 l0_0.length c0_0), (.slice A0_1 l0_1.length c0_1)] 25 (0, 0))) ∧ Aside0 (Below w.heap.size w w'))
    case atStart => exact ⟨(0), (by first | rfl | (simp; done) | (simp [*]; done)), H', ⟨Nat.le_refl _⟩, ⟨by refine bx_ ?_; exact BK122.out⟩, ⟨be1_ HB GE122⟩⟩
    case round =>
     clear H'
     try clear p2
     try clear c5
     try clear c6
     try clear c9
     try clear hcz7_0
     try clear hcz7_1
     try clear hcz8_0
     try clear hcz8_1
     try clear hfz7_0
     try clear hfz7_1
     try clear hfz8_0
     try clear hfz8_1
     try clear p2
     obtain ⟨x3_2, rfl, HA, HK2, BK122, HB⟩ := hrel
     cases gk with
     | zero => exact absurd HA.out (by simp [cottonpadref06_Building.l0])
     | succ k2 =>
      have H := HA.out
      clear HA
      simp only [cottonpadref06_Building.l0] at H
      by_cases c10 : x3_2 < (l0_0.length : Int)
      ·rw [if_pos c10] at H
       have c10b0 : decide (x3_2 < (l0_0.length : Int)) = true := decide_eq_true c10
       clear c10
       by_cases c11 : 0 ≤ x3_2
       ·rw [if_pos c11] at H
        have c11b0 : decide (0 ≤ x3_2) = true := decide_eq_true c11
        clear c11
        by_cases c12 : ((rd_T62 l0_0 x3_2).f0) = (-1)
        ·rw [if_pos c12] at H
         have c12b0 : (((rd_T62 l0_0 x3_2).f0) == (-1)) = true := beq_iff_eq.mpr c12
         have c12b1 : (((rd_T62 l0_0 x3_2).f0) != (-1)) = false := bne_eq_false_iff_eq.mpr c12
         clear c12
         replace H := Option.bind_eq_some_iff.mp H
         obtain ⟨t127, A130, H⟩ := H
         replace H : (if t127 = true then ((cottonpadref06_spanned.f ((rd_T62 l0_0 x3_2).f2.f0) ((rd_T62 l0_0 x3_2).f2.f1) 0 600).bind fun t128 => (if t128 = true then ((cottonpadref06_spanned.f ((rd_T62 l0_0 x3_2).f3.f0) ((rd_T62 l0_0 x3_2).f3.f1) 0 36000).bind fun t129 => (if t129 = true then (cottonpadref06_Building.l0 k2 (wrap64 (x3_2 + 1)) l0_0 l0_1) else (some false))) else (some false))) else (some false)) = some r := H
         have A13 := Aside0.mk A130
         clear A130
         by_cases c14 : t127 = true
         ·subst c14
          have H1 : ((cottonpadref06_spanned.f ((rd_T62 l0_0 x3_2).f2.f0) ((rd_T62 l0_0 x3_2).f2.f1) 0 600).bind fun t128 => (if t128 = true then ((cottonpadref06_spanned.f ((rd_T62 l0_0 x3_2).f3.f0) ((rd_T62 l0_0 x3_2).f3.f1) 0 36000).bind fun t129 => (if t129 = true then (cottonpadref06_Building.l0 k2 (wrap64 (x3_2 + 1)) l0_0 l0_1) else (some false))) else (some false))) = some r := by rw [if_pos rfl] at H; exact H
          clear H
          have H := H1
          clear H1
          replace H := Option.bind_eq_some_iff.mp H
          obtain ⟨t128, A150, H⟩ := H
          replace H : (if t128 = true then ((cottonpadref06_spanned.f ((rd_T62 l0_0 x3_2).f3.f0) ((rd_T62 l0_0 x3_2).f3.f1) 0 36000).bind fun t129 => (if t129 = true then (cottonpadref06_Building.l0 k2 (wrap64 (x3_2 + 1)) l0_0 l0_1) else (some false))) else (some false)) = some r := H
          have A15 := Aside0.mk A150
          clear A150
          by_cases c16 : t128 = true
          ·subst c16
           have H1 : ((cottonpadref06_spanned.f ((rd_T62 l0_0 x3_2).f3.f0) ((rd_T62 l0_0 x3_2).f3.f1) 0 36000).bind fun t129 => (if t129 = true then (cottonpadref06_Building.l0 k2 (wrap64 (x3_2 + 1)) l0_0 l0_1) else (some false))) = some r := by rw [if_pos rfl] at H; exact H
           clear H
           have H := H1
           clear H1
           replace H := Option.bind_eq_some_iff.mp H
           obtain ⟨t129, A170, H⟩ := H
           replace H : (if t129 = true then (cottonpadref06_Building.l0 k2 (wrap64 (x3_2 + 1)) l0_0 l0_1) else (some false)) = some r := H
           have A17 := Aside0.mk A170
           clear A170
           by_cases c18 : t129 = true
           ·subst c18
            have H1 : (cottonpadref06_Building.l0 k2 (wrap64 (x3_2 + 1)) l0_0 l0_1) = some r := by rw [if_pos rfl] at H; exact H
            clear H
            have H := H1
            clear H1
            have H' := Aside0.mk H
            clear H
            have hcz19_0 : wr.cell? ⟨gb122, 0, none⟩ = some (.slice A0_0 l0_0.length c0_0) := bc_ BK122 0
            have hcz19_1 : wr.cell? ⟨gb122, 1, none⟩ = some (.slice A0_1 l0_1.length c0_1) := bc_ BK122 1
            have hfz19_0 := blk_frozen BK122.out 0
            have hfz19_1 := blk_frozen BK122.out 1
            have p125 : 0 ≤ (x3_2 : Int) := of_decide_eq_true as_
            have q125 : x3_2 < (l0_0.length : Int) := of_decide_eq_true as_
            obtain ⟨ad125, e125, hx125_0, hx125_1, hx125_2, hx125_3, hx125_4, hx125_5⟩ := at_T62 HR0_0.out x3_2 p125 q125
            cases e125
            try replace hx125_0 := ce_ HB hx125_0
            try replace hx125_1 := ce_ HB hx125_1
            try replace hx125_2 := ce_ HB hx125_2
            try replace hx125_3 := ce_ HB hx125_3
            try replace hx125_4 := ce_ HB hx125_4
            try replace hx125_5 := ce_ HB hx125_5
            replace p125 := eq_true p125
            replace q125 := eq_true q125
            go_wp2_with (first | ((with_reducible refine gate_dst (N := 4) rfl ?_); (try (refine gate_guard (by rfl) ?_; dsimp only)); refine box_event ?hg (N := 4) ?hd (cs := #[.int .i64 0, .int .i64 0, .int .i64 0, .int .i64 0, .int .i64 0, .int .i64 0]) (t := 62) ?hr ?_; (case hd => rfl); (case hg => rfl); (case hr => exact gs_); intro gb126 hg w20 hbox hb; have BK126 := Aside0.mk (hbox); have GW126 := hl_ hg (be1_ HB GE122); have GE126 := hl_ hg (be1_ HB GE122); replace HB := bs1_ HB GE122 hb; have NB122_126 := Aside0.mk ((by rw [hg]; exact Nat.ne_of_lt (blk_lt (bk_ BK122)) : gb122 ≠ gb126)); have NB126_122 := Aside0.mk ((by rw [hg]; exact Nat.ne_of_gt (blk_lt (bk_ BK122)) : gb126 ≠ gb122)); replace BK122 := bb_ BK122 hb; clear hb hbox hg; have hnb21 := NB126_122.out; have hnc21 := NB122_126.out; have hcz22_0 : w20.cell? ⟨gb126, 0, none⟩ = some (.int .i64 0) := bc_ BK126 0; have hcz22_1 : w20.cell? ⟨gb126, 1, none⟩ = some (.int .i64 0) := bc_ BK126 1; have hcz22_2 : w20.cell? ⟨gb126, 2, none⟩ = some (.int .i64 0) := bc_ BK126 2; have hcz22_3 : w20.cell? ⟨gb126, 3, none⟩ = some (.int .i64 0) := bc_ BK126 3; have hcz22_4 : w20.cell? ⟨gb126, 4, none⟩ = some (.int .i64 0) := bc_ BK126 4; have hcz22_5 : w20.cell? ⟨gb126, 5, none⟩ = some (.int .i64 0) := bc_ BK126 5; have hfz22_0 := blk_frozen BK126.out 0; have hfz22_1 := blk_frozen BK126.out 1; have hfz22_2 := blk_frozen BK126.out 2; have hfz22_3 := blk_frozen BK126.out 3; have hfz22_4 := blk_frozen BK126.out 4; have hfz22_5 := blk_frozen BK126.out 5) | (go_at_call 55; (with_reducible refine (cottonpadref06_within.calls ((rd_T62 l0_0 x3_2).f1) 0 60 true _ A13.out).mono ?_); rintro e w' ⟨rfl, ⟨nd, rfl⟩⟩) | (go_at_call 90; (with_reducible refine (cottonpadref06_spanned.calls ((rd_T62 l0_0 x3_2).f2.f0) ((rd_T62 l0_0 x3_2).f2.f1) 0 600 true _ A15.out).mono ?_); rintro e w23 ⟨rfl, hb⟩; replace BK122 := Aside0.mk (blk_below (g := gb122) (o := .cells #[.slice (some ad125) l0_0.length c0_0, .slice A0_1 l0_1.length c0_1] 25 (0, 0)) (by refine bx_ ?_; refine blk_far ?_ NB122_126.out _; refine bx_ ?_; refine blk_far ?_ NB122_126.out _; refine bx_ ?_; refine blk_far ?_ NB122_126.out _; refine bx_ ?_; refine blk_far ?_ NB122_126.out _; refine bx_ ?_; refine blk_far ?_ NB122_126.out _; refine bx_ ?_; refine blk_far ?_ NB122_126.out _; refine bx_ ?_; exact BK122.out) hb); replace BK126 := Aside0.mk (blk_below (g := gb126) (o := .cells #[.int .i64 ((rd_T62 l0_0 x3_2).f0), .int .i64 ((rd_T62 l0_0 x3_2).f1), .int .i64 ((rd_T62 l0_0 x3_2).f2.f0), .int .i64 ((rd_T62 l0_0 x3_2).f2.f1), .int .i64 ((rd_T62 l0_0 x3_2).f3.f0), .int .i64 ((rd_T62 l0_0 x3_2).f3.f1)] 62 (0, 0)) (by refine bx_ ?_; refine blk_put (cs := #[.int .i64 ((rd_T62 l0_0 x3_2).f0), .int .i64 ((rd_T62 l0_0 x3_2).f1), .int .i64 ((rd_T62 l0_0 x3_2).f2.f0), .int .i64 ((rd_T62 l0_0 x3_2).f2.f1), .int .i64 ((rd_T62 l0_0 x3_2).f3.f0), .int .i64 0]) ?_ 5 _ rfl; refine bx_ ?_; refine blk_put (cs := #[.int .i64 ((rd_T62 l0_0 x3_2).f0), .int .i64 ((rd_T62 l0_0 x3_2).f1), .int .i64 ((rd_T62 l0_0 x3_2).f2.f0), .int .i64 ((rd_T62 l0_0 x3_2).f2.f1), .int .i64 0, .int .i64 0]) ?_ 4 _ rfl; refine bx_ ?_; refine blk_put (cs := #[.int .i64 ((rd_T62 l0_0 x3_2).f0), .int .i64 ((rd_T62 l0_0 x3_2).f1), .int .i64 ((rd_T62 l0_0 x3_2).f2.f0), .int .i64 0, .int .i64 0, .int .i64 0]) ?_ 3 _ rfl; refine bx_ ?_; refine blk_put (cs := #[.int .i64 ((rd_T62 l0_0 x3_2).f0), .int .i64 ((rd_T62 l0_0 x3_2).f1), .int .i64 0, .int .i64 0, .int .i64 0, .int .i64 0]) ?_ 2 _ rfl; refine bx_ ?_; refine blk_put (cs := #[.int .i64 ((rd_T62 l0_0 x3_2).f0), .int .i64 0, .int .i64 0, .int .i64 0, .int .i64 0, .int .i64 0]) ?_ 1 _ rfl; refine bx_ ?_; refine blk_put (cs := #[.int .i64 0, .int .i64 0, .int .i64 0, .int .i64 0, .int .i64 0, .int .i64 0]) ?_ 0 _ rfl; refine bx_ ?_; exact BK126.out) hb); replace HB := bs2_ HB GE122 GE126 hb; (try clear hb); (try clear hb2); (try clear hk); (try clear hi); have hcz24_0 : w23.cell? ⟨gb126, 0, none⟩ = some (.int .i64 ((rd_T62 l0_0 x3_2).f0)) := bc_ BK126 0; have hcz24_1 : w23.cell? ⟨gb126, 1, none⟩ = some (.int .i64 ((rd_T62 l0_0 x3_2).f1)) := bc_ BK126 1; have hcz24_2 : w23.cell? ⟨gb126, 2, none⟩ = some (.int .i64 ((rd_T62 l0_0 x3_2).f2.f0)) := bc_ BK126 2; have hcz24_3 : w23.cell? ⟨gb126, 3, none⟩ = some (.int .i64 ((rd_T62 l0_0 x3_2).f2.f1)) := bc_ BK126 3; have hcz24_4 : w23.cell? ⟨gb126, 4, none⟩ = some (.int .i64 ((rd_T62 l0_0 x3_2).f3.f0)) := bc_ BK126 4; have hcz24_5 : w23.cell? ⟨gb126, 5, none⟩ = some (.int .i64 ((rd_T62 l0_0 x3_2).f3.f1)) := bc_ BK126 5; have hfz24_0 := blk_frozen BK126.out 0; have hfz24_1 := blk_frozen BK126.out 1; have hfz24_2 := blk_frozen BK126.out 2; have hfz24_3 := blk_frozen BK126.out 3; have hfz24_4 := blk_frozen BK126.out 4; have hfz24_5 := blk_frozen BK126.out 5) | (go_at_call 90; (with_reducible refine (cottonpadref06_spanned.calls ((rd_T62 l0_0 x3_2).f3.f0) ((rd_T62 l0_0 x3_2).f3.f1) 0 36000 true _ A17.out).mono ?_); rintro e w25 ⟨rfl, hb⟩; replace BK122 := bb_ BK122 hb; replace BK126 := bb_ BK126 hb; replace HB := bs2_ HB GE122 GE126 hb; (try clear hb); (try clear hb2); (try clear hk); (try clear hi)))
            go_roundg k2
            case measure => have := HJ1.out; have := HK2.out; omega
            case rel => exact ⟨(wrap64 (x3_2 + 1)), (by first | rfl | (simp; done) | (simp [*]; done)), H', ⟨by have := HJ1.out; have := HK2.out; omega⟩, ⟨by refine bx_ ?_; exact BK122.out⟩, ⟨be2_ HB GE122 GE126⟩⟩
           ·replace c18 := Bool.eq_false_iff.mpr c18
            subst c18
            have H1 : (some false) = some r := by rw [if_neg (show ¬ (false = true) by decide)] at H; exact H
            clear H
            have H := H1
            clear H1
            obtain rfl := Option.some.inj H
            have hcz26_0 : wr.cell? ⟨gb122, 0, none⟩ = some (.slice A0_0 l0_0.length c0_0) := bc_ BK122 0
            have hcz26_1 : wr.cell? ⟨gb122, 1, none⟩ = some (.slice A0_1 l0_1.length c0_1) := bc_ BK122 1
            have hfz26_0 := blk_frozen BK122.out 0
            have hfz26_1 := blk_frozen BK122.out 1
            have p125 : 0 ≤ (x3_2 : Int) := of_decide_eq_true as_
            have q125 : x3_2 < (l0_0.length : Int) := of_decide_eq_true as_
            obtain ⟨ad125, e125, hx125_0, hx125_1, hx125_2, hx125_3, hx125_4, hx125_5⟩ := at_T62 HR0_0.out x3_2 p125 q125
            cases e125
            try replace hx125_0 := ce_ HB hx125_0
            try replace hx125_1 := ce_ HB hx125_1
            try replace hx125_2 := ce_ HB hx125_2
            try replace hx125_3 := ce_ HB hx125_3
            try replace hx125_4 := ce_ HB hx125_4
            try replace hx125_5 := ce_ HB hx125_5
            replace p125 := eq_true p125
            replace q125 := eq_true q125
            go_wp2_with (first | ((with_reducible refine gate_dst (N := 4) rfl ?_); (try (refine gate_guard (by rfl) ?_; dsimp only)); refine box_event ?hg (N := 4) ?hd (cs := #[.int .i64 0, .int .i64 0, .int .i64 0, .int .i64 0, .int .i64 0, .int .i64 0]) (t := 62) ?hr ?_; (case hd => rfl); (case hg => rfl); (case hr => exact gs_); intro gb126 hg w27 hbox hb; have BK126 := Aside0.mk (hbox); have GW126 := hl_ hg (be1_ HB GE122); have GE126 := hl_ hg (be1_ HB GE122); replace HB := bs1_ HB GE122 hb; have NB122_126 := Aside0.mk ((by rw [hg]; exact Nat.ne_of_lt (blk_lt (bk_ BK122)) : gb122 ≠ gb126)); have NB126_122 := Aside0.mk ((by rw [hg]; exact Nat.ne_of_gt (blk_lt (bk_ BK122)) : gb126 ≠ gb122)); replace BK122 := bb_ BK122 hb; clear hb hbox hg; have hnb28 := NB126_122.out; have hnc28 := NB122_126.out; have hcz29_0 : w27.cell? ⟨gb126, 0, none⟩ = some (.int .i64 0) := bc_ BK126 0; have hcz29_1 : w27.cell? ⟨gb126, 1, none⟩ = some (.int .i64 0) := bc_ BK126 1; have hcz29_2 : w27.cell? ⟨gb126, 2, none⟩ = some (.int .i64 0) := bc_ BK126 2; have hcz29_3 : w27.cell? ⟨gb126, 3, none⟩ = some (.int .i64 0) := bc_ BK126 3; have hcz29_4 : w27.cell? ⟨gb126, 4, none⟩ = some (.int .i64 0) := bc_ BK126 4; have hcz29_5 : w27.cell? ⟨gb126, 5, none⟩ = some (.int .i64 0) := bc_ BK126 5; have hfz29_0 := blk_frozen BK126.out 0; have hfz29_1 := blk_frozen BK126.out 1; have hfz29_2 := blk_frozen BK126.out 2; have hfz29_3 := blk_frozen BK126.out 3; have hfz29_4 := blk_frozen BK126.out 4; have hfz29_5 := blk_frozen BK126.out 5) | (go_at_call 55; (with_reducible refine (cottonpadref06_within.calls ((rd_T62 l0_0 x3_2).f1) 0 60 true _ A13.out).mono ?_); rintro e w' ⟨rfl, ⟨nd, rfl⟩⟩) | (go_at_call 90; (with_reducible refine (cottonpadref06_spanned.calls ((rd_T62 l0_0 x3_2).f2.f0) ((rd_T62 l0_0 x3_2).f2.f1) 0 600 true _ A15.out).mono ?_); rintro e w30 ⟨rfl, hb⟩; replace BK122 := Aside0.mk (blk_below (g := gb122) (o := .cells #[.slice (some ad125) l0_0.length c0_0, .slice A0_1 l0_1.length c0_1] 25 (0, 0)) (by refine bx_ ?_; refine blk_far ?_ NB122_126.out _; refine bx_ ?_; refine blk_far ?_ NB122_126.out _; refine bx_ ?_; refine blk_far ?_ NB122_126.out _; refine bx_ ?_; refine blk_far ?_ NB122_126.out _; refine bx_ ?_; refine blk_far ?_ NB122_126.out _; refine bx_ ?_; refine blk_far ?_ NB122_126.out _; refine bx_ ?_; exact BK122.out) hb); replace BK126 := Aside0.mk (blk_below (g := gb126) (o := .cells #[.int .i64 ((rd_T62 l0_0 x3_2).f0), .int .i64 ((rd_T62 l0_0 x3_2).f1), .int .i64 ((rd_T62 l0_0 x3_2).f2.f0), .int .i64 ((rd_T62 l0_0 x3_2).f2.f1), .int .i64 ((rd_T62 l0_0 x3_2).f3.f0), .int .i64 ((rd_T62 l0_0 x3_2).f3.f1)] 62 (0, 0)) (by refine bx_ ?_; refine blk_put (cs := #[.int .i64 ((rd_T62 l0_0 x3_2).f0), .int .i64 ((rd_T62 l0_0 x3_2).f1), .int .i64 ((rd_T62 l0_0 x3_2).f2.f0), .int .i64 ((rd_T62 l0_0 x3_2).f2.f1), .int .i64 ((rd_T62 l0_0 x3_2).f3.f0), .int .i64 0]) ?_ 5 _ rfl; refine bx_ ?_; refine blk_put (cs := #[.int .i64 ((rd_T62 l0_0 x3_2).f0), .int .i64 ((rd_T62 l0_0 x3_2).f1), .int .i64 ((rd_T62 l0_0 x3_2).f2.f0), .int .i64 ((rd_T62 l0_0 x3_2).f2.f1), .int .i64 0, .int .i64 0]) ?_ 4 _ rfl; refine bx_ ?_; refine blk_put (cs := #[.int .i64 ((rd_T62 l0_0 x3_2).f0), .int .i64 ((rd_T62 l0_0 x3_2).f1), .int .i64 ((rd_T62 l0_0 x3_2).f2.f0), .int .i64 0, .int .i64 0, .int .i64 0]) ?_ 3 _ rfl; refine bx_ ?_; refine blk_put (cs := #[.int .i64 ((rd_T62 l0_0 x3_2).f0), .int .i64 ((rd_T62 l0_0 x3_2).f1), .int .i64 0, .int .i64 0, .int .i64 0, .int .i64 0]) ?_ 2 _ rfl; refine bx_ ?_; refine blk_put (cs := #[.int .i64 ((rd_T62 l0_0 x3_2).f0), .int .i64 0, .int .i64 0, .int .i64 0, .int .i64 0, .int .i64 0]) ?_ 1 _ rfl; refine bx_ ?_; refine blk_put (cs := #[.int .i64 0, .int .i64 0, .int .i64 0, .int .i64 0, .int .i64 0, .int .i64 0]) ?_ 0 _ rfl; refine bx_ ?_; exact BK126.out) hb); replace HB := bs2_ HB GE122 GE126 hb; (try clear hb); (try clear hb2); (try clear hk); (try clear hi); have hcz31_0 : w30.cell? ⟨gb126, 0, none⟩ = some (.int .i64 ((rd_T62 l0_0 x3_2).f0)) := bc_ BK126 0; have hcz31_1 : w30.cell? ⟨gb126, 1, none⟩ = some (.int .i64 ((rd_T62 l0_0 x3_2).f1)) := bc_ BK126 1; have hcz31_2 : w30.cell? ⟨gb126, 2, none⟩ = some (.int .i64 ((rd_T62 l0_0 x3_2).f2.f0)) := bc_ BK126 2; have hcz31_3 : w30.cell? ⟨gb126, 3, none⟩ = some (.int .i64 ((rd_T62 l0_0 x3_2).f2.f1)) := bc_ BK126 3; have hcz31_4 : w30.cell? ⟨gb126, 4, none⟩ = some (.int .i64 ((rd_T62 l0_0 x3_2).f3.f0)) := bc_ BK126 4; have hcz31_5 : w30.cell? ⟨gb126, 5, none⟩ = some (.int .i64 ((rd_T62 l0_0 x3_2).f3.f1)) := bc_ BK126 5; have hfz31_0 := blk_frozen BK126.out 0; have hfz31_1 := blk_frozen BK126.out 1; have hfz31_2 := blk_frozen BK126.out 2; have hfz31_3 := blk_frozen BK126.out 3; have hfz31_4 := blk_frozen BK126.out 4; have hfz31_5 := blk_frozen BK126.out 5) | (go_at_call 90; (with_reducible refine (cottonpadref06_spanned.calls ((rd_T62 l0_0 x3_2).f3.f0) ((rd_T62 l0_0 x3_2).f3.f1) 0 36000 false _ A17.out).mono ?_); rintro e w32 ⟨rfl, hb⟩; replace BK122 := bb_ BK122 hb; replace BK126 := bb_ BK126 hb; replace HB := bs2_ HB GE122 GE126 hb; (try clear hb); (try clear hb2); (try clear hk); (try clear hi)))
            go_ret
            exact ⟨rf_, be2_ HB GE122 GE126⟩
          ·replace c16 := Bool.eq_false_iff.mpr c16
           subst c16
           have H1 : (some false) = some r := by rw [if_neg (show ¬ (false = true) by decide)] at H; exact H
           clear H
           have H := H1
           clear H1
           obtain rfl := Option.some.inj H
           have hcz33_0 : wr.cell? ⟨gb122, 0, none⟩ = some (.slice A0_0 l0_0.length c0_0) := bc_ BK122 0
           have hcz33_1 : wr.cell? ⟨gb122, 1, none⟩ = some (.slice A0_1 l0_1.length c0_1) := bc_ BK122 1
           have hfz33_0 := blk_frozen BK122.out 0
           have hfz33_1 := blk_frozen BK122.out 1
           have p125 : 0 ≤ (x3_2 : Int) := of_decide_eq_true as_
           have q125 : x3_2 < (l0_0.length : Int) := of_decide_eq_true as_
           obtain ⟨ad125, e125, hx125_0, hx125_1, hx125_2, hx125_3, hx125_4, hx125_5⟩ := at_T62 HR0_0.out x3_2 p125 q125
           cases e125
           try replace hx125_0 := ce_ HB hx125_0
           try replace hx125_1 := ce_ HB hx125_1
           try replace hx125_2 := ce_ HB hx125_2
           try replace hx125_3 := ce_ HB hx125_3
           try replace hx125_4 := ce_ HB hx125_4
           try replace hx125_5 := ce_ HB hx125_5
           replace p125 := eq_true p125
           replace q125 := eq_true q125
           go_wp2_with (first | ((with_reducible refine gate_dst (N := 4) rfl ?_); (try (refine gate_guard (by rfl) ?_; dsimp only)); refine box_event ?hg (N := 4) ?hd (cs := #[.int .i64 0, .int .i64 0, .int .i64 0, .int .i64 0, .int .i64 0, .int .i64 0]) (t := 62) ?hr ?_; (case hd => rfl); (case hg => rfl); (case hr => exact gs_); intro gb126 hg w34 hbox hb; have BK126 := Aside0.mk (hbox); have GW126 := hl_ hg (be1_ HB GE122); have GE126 := hl_ hg (be1_ HB GE122); replace HB := bs1_ HB GE122 hb; have NB122_126 := Aside0.mk ((by rw [hg]; exact Nat.ne_of_lt (blk_lt (bk_ BK122)) : gb122 ≠ gb126)); have NB126_122 := Aside0.mk ((by rw [hg]; exact Nat.ne_of_gt (blk_lt (bk_ BK122)) : gb126 ≠ gb122)); replace BK122 := bb_ BK122 hb; clear hb hbox hg; have hnb35 := NB126_122.out; have hnc35 := NB122_126.out; have hcz36_0 : w34.cell? ⟨gb126, 0, none⟩ = some (.int .i64 0) := bc_ BK126 0; have hcz36_1 : w34.cell? ⟨gb126, 1, none⟩ = some (.int .i64 0) := bc_ BK126 1; have hcz36_2 : w34.cell? ⟨gb126, 2, none⟩ = some (.int .i64 0) := bc_ BK126 2; have hcz36_3 : w34.cell? ⟨gb126, 3, none⟩ = some (.int .i64 0) := bc_ BK126 3; have hcz36_4 : w34.cell? ⟨gb126, 4, none⟩ = some (.int .i64 0) := bc_ BK126 4; have hcz36_5 : w34.cell? ⟨gb126, 5, none⟩ = some (.int .i64 0) := bc_ BK126 5; have hfz36_0 := blk_frozen BK126.out 0; have hfz36_1 := blk_frozen BK126.out 1; have hfz36_2 := blk_frozen BK126.out 2; have hfz36_3 := blk_frozen BK126.out 3; have hfz36_4 := blk_frozen BK126.out 4; have hfz36_5 := blk_frozen BK126.out 5) | (go_at_call 55; (with_reducible refine (cottonpadref06_within.calls ((rd_T62 l0_0 x3_2).f1) 0 60 true _ A13.out).mono ?_); rintro e w' ⟨rfl, ⟨nd, rfl⟩⟩) | (go_at_call 90; (with_reducible refine (cottonpadref06_spanned.calls ((rd_T62 l0_0 x3_2).f2.f0) ((rd_T62 l0_0 x3_2).f2.f1) 0 600 false _ A15.out).mono ?_); rintro e w37 ⟨rfl, hb⟩; replace BK122 := Aside0.mk (blk_below (g := gb122) (o := .cells #[.slice (some ad125) l0_0.length c0_0, .slice A0_1 l0_1.length c0_1] 25 (0, 0)) (by refine bx_ ?_; refine blk_far ?_ NB122_126.out _; refine bx_ ?_; refine blk_far ?_ NB122_126.out _; refine bx_ ?_; refine blk_far ?_ NB122_126.out _; refine bx_ ?_; refine blk_far ?_ NB122_126.out _; refine bx_ ?_; refine blk_far ?_ NB122_126.out _; refine bx_ ?_; refine blk_far ?_ NB122_126.out _; refine bx_ ?_; exact BK122.out) hb); replace BK126 := Aside0.mk (blk_below (g := gb126) (o := .cells #[.int .i64 ((rd_T62 l0_0 x3_2).f0), .int .i64 ((rd_T62 l0_0 x3_2).f1), .int .i64 ((rd_T62 l0_0 x3_2).f2.f0), .int .i64 ((rd_T62 l0_0 x3_2).f2.f1), .int .i64 ((rd_T62 l0_0 x3_2).f3.f0), .int .i64 ((rd_T62 l0_0 x3_2).f3.f1)] 62 (0, 0)) (by refine bx_ ?_; refine blk_put (cs := #[.int .i64 ((rd_T62 l0_0 x3_2).f0), .int .i64 ((rd_T62 l0_0 x3_2).f1), .int .i64 ((rd_T62 l0_0 x3_2).f2.f0), .int .i64 ((rd_T62 l0_0 x3_2).f2.f1), .int .i64 ((rd_T62 l0_0 x3_2).f3.f0), .int .i64 0]) ?_ 5 _ rfl; refine bx_ ?_; refine blk_put (cs := #[.int .i64 ((rd_T62 l0_0 x3_2).f0), .int .i64 ((rd_T62 l0_0 x3_2).f1), .int .i64 ((rd_T62 l0_0 x3_2).f2.f0), .int .i64 ((rd_T62 l0_0 x3_2).f2.f1), .int .i64 0, .int .i64 0]) ?_ 4 _ rfl; refine bx_ ?_; refine blk_put (cs := #[.int .i64 ((rd_T62 l0_0 x3_2).f0), .int .i64 ((rd_T62 l0_0 x3_2).f1), .int .i64 ((rd_T62 l0_0 x3_2).f2.f0), .int .i64 0, .int .i64 0, .int .i64 0]) ?_ 3 _ rfl; refine bx_ ?_; refine blk_put (cs := #[.int .i64 ((rd_T62 l0_0 x3_2).f0), .int .i64 ((rd_T62 l0_0 x3_2).f1), .int .i64 0, .int .i64 0, .int .i64 0, .int .i64 0]) ?_ 2 _ rfl; refine bx_ ?_; refine blk_put (cs := #[.int .i64 ((rd_T62 l0_0 x3_2).f0), .int .i64 0, .int .i64 0, .int .i64 0, .int .i64 0, .int .i64 0]) ?_ 1 _ rfl; refine bx_ ?_; refine blk_put (cs := #[.int .i64 0, .int .i64 0, .int .i64 0, .int .i64 0, .int .i64 0, .int .i64 0]) ?_ 0 _ rfl; refine bx_ ?_; exact BK126.out) hb); replace HB := bs2_ HB GE122 GE126 hb; (try clear hb); (try clear hb2); (try clear hk); (try clear hi)))
           go_ret
           exact ⟨rf_, be2_ HB GE122 GE126⟩
         ·replace c14 := Bool.eq_false_iff.mpr c14
          subst c14
          have H1 : (some false) = some r := by rw [if_neg (show ¬ (false = true) by decide)] at H; exact H
          clear H
          have H := H1
          clear H1
          obtain rfl := Option.some.inj H
          have hcz38_0 : wr.cell? ⟨gb122, 0, none⟩ = some (.slice A0_0 l0_0.length c0_0) := bc_ BK122 0
          have hcz38_1 : wr.cell? ⟨gb122, 1, none⟩ = some (.slice A0_1 l0_1.length c0_1) := bc_ BK122 1
          have hfz38_0 := blk_frozen BK122.out 0
          have hfz38_1 := blk_frozen BK122.out 1
          have p125 : 0 ≤ (x3_2 : Int) := of_decide_eq_true as_
          have q125 : x3_2 < (l0_0.length : Int) := of_decide_eq_true as_
          obtain ⟨ad125, e125, hx125_0, hx125_1, hx125_2, hx125_3, hx125_4, hx125_5⟩ := at_T62 HR0_0.out x3_2 p125 q125
          cases e125
          try replace hx125_0 := ce_ HB hx125_0
          try replace hx125_1 := ce_ HB hx125_1
          try replace hx125_2 := ce_ HB hx125_2
          try replace hx125_3 := ce_ HB hx125_3
          try replace hx125_4 := ce_ HB hx125_4
          try replace hx125_5 := ce_ HB hx125_5
          replace p125 := eq_true p125
          replace q125 := eq_true q125
          go_wp2_with (first | ((with_reducible refine gate_dst (N := 4) rfl ?_); (try (refine gate_guard (by rfl) ?_; dsimp only)); refine box_event ?hg (N := 4) ?hd (cs := #[.int .i64 0, .int .i64 0, .int .i64 0, .int .i64 0, .int .i64 0, .int .i64 0]) (t := 62) ?hr ?_; (case hd => rfl); (case hg => rfl); (case hr => exact gs_); intro gb126 hg w39 hbox hb; have BK126 := Aside0.mk (hbox); have GW126 := hl_ hg (be1_ HB GE122); have GE126 := hl_ hg (be1_ HB GE122); replace HB := bs1_ HB GE122 hb; have NB122_126 := Aside0.mk ((by rw [hg]; exact Nat.ne_of_lt (blk_lt (bk_ BK122)) : gb122 ≠ gb126)); have NB126_122 := Aside0.mk ((by rw [hg]; exact Nat.ne_of_gt (blk_lt (bk_ BK122)) : gb126 ≠ gb122)); replace BK122 := bb_ BK122 hb; clear hb hbox hg; have hnb40 := NB126_122.out; have hnc40 := NB122_126.out; have hcz41_0 : w39.cell? ⟨gb126, 0, none⟩ = some (.int .i64 0) := bc_ BK126 0; have hcz41_1 : w39.cell? ⟨gb126, 1, none⟩ = some (.int .i64 0) := bc_ BK126 1; have hcz41_2 : w39.cell? ⟨gb126, 2, none⟩ = some (.int .i64 0) := bc_ BK126 2; have hcz41_3 : w39.cell? ⟨gb126, 3, none⟩ = some (.int .i64 0) := bc_ BK126 3; have hcz41_4 : w39.cell? ⟨gb126, 4, none⟩ = some (.int .i64 0) := bc_ BK126 4; have hcz41_5 : w39.cell? ⟨gb126, 5, none⟩ = some (.int .i64 0) := bc_ BK126 5; have hfz41_0 := blk_frozen BK126.out 0; have hfz41_1 := blk_frozen BK126.out 1; have hfz41_2 := blk_frozen BK126.out 2; have hfz41_3 := blk_frozen BK126.out 3; have hfz41_4 := blk_frozen BK126.out 4; have hfz41_5 := blk_frozen BK126.out 5) | (go_at_call 55; (with_reducible refine (cottonpadref06_within.calls ((rd_T62 l0_0 x3_2).f1) 0 60 false _ A13.out).mono ?_); rintro e w' ⟨rfl, ⟨nd, rfl⟩⟩))
          go_ret
          exact ⟨rf_, be2_ HB GE122 GE126⟩
        ·rw [if_neg c12] at H
         have c12b0 : (((rd_T62 l0_0 x3_2).f0) == (-1)) = false := beq_eq_false_iff_ne.mpr c12
         have c12b1 : (((rd_T62 l0_0 x3_2).f0) != (-1)) = true := bne_iff_ne.mpr c12
         replace H := Option.bind_eq_some_iff.mp H
         obtain ⟨t130, A420, H⟩ := H
         replace H : (if t130 = true then ((cottonpadref06_within.f ((rd_T62 l0_0 x3_2).f1) 0 60).bind fun t131 => (if t131 = true then ((cottonpadref06_spanned.f ((rd_T62 l0_0 x3_2).f2.f0) ((rd_T62 l0_0 x3_2).f2.f1) 0 600).bind fun t132 => (if t132 = true then ((cottonpadref06_spanned.f ((rd_T62 l0_0 x3_2).f3.f0) ((rd_T62 l0_0 x3_2).f3.f1) 0 36000).bind fun t133 => (if t133 = true then (cottonpadref06_Building.l0 k2 (wrap64 (x3_2 + 1)) l0_0 l0_1) else (some false))) else (some false))) else (some false))) else (some false)) = some r := H
         have A42 := Aside0.mk A420
         clear A420
         by_cases c43 : t130 = true
         ·subst c43
          have H1 : ((cottonpadref06_within.f ((rd_T62 l0_0 x3_2).f1) 0 60).bind fun t131 => (if t131 = true then ((cottonpadref06_spanned.f ((rd_T62 l0_0 x3_2).f2.f0) ((rd_T62 l0_0 x3_2).f2.f1) 0 600).bind fun t132 => (if t132 = true then ((cottonpadref06_spanned.f ((rd_T62 l0_0 x3_2).f3.f0) ((rd_T62 l0_0 x3_2).f3.f1) 0 36000).bind fun t133 => (if t133 = true then (cottonpadref06_Building.l0 k2 (wrap64 (x3_2 + 1)) l0_0 l0_1) else (some false))) else (some false))) else (some false))) = some r := by rw [if_pos rfl] at H; exact H
          clear H
          have H := H1
          clear H1
          replace H := Option.bind_eq_some_iff.mp H
          obtain ⟨t131, A440, H⟩ := H
          replace H : (if t131 = true then ((cottonpadref06_spanned.f ((rd_T62 l0_0 x3_2).f2.f0) ((rd_T62 l0_0 x3_2).f2.f1) 0 600).bind fun t132 => (if t132 = true then ((cottonpadref06_spanned.f ((rd_T62 l0_0 x3_2).f3.f0) ((rd_T62 l0_0 x3_2).f3.f1) 0 36000).bind fun t133 => (if t133 = true then (cottonpadref06_Building.l0 k2 (wrap64 (x3_2 + 1)) l0_0 l0_1) else (some false))) else (some false))) else (some false)) = some r := H
          have A44 := Aside0.mk A440
          clear A440
          by_cases c45 : t131 = true
          ·subst c45
           have H1 : ((cottonpadref06_spanned.f ((rd_T62 l0_0 x3_2).f2.f0) ((rd_T62 l0_0 x3_2).f2.f1) 0 600).bind fun t132 => (if t132 = true then ((cottonpadref06_spanned.f ((rd_T62 l0_0 x3_2).f3.f0) ((rd_T62 l0_0 x3_2).f3.f1) 0 36000).bind fun t133 => (if t133 = true then (cottonpadref06_Building.l0 k2 (wrap64 (x3_2 + 1)) l0_0 l0_1) else (some false))) else (some false))) = some r := by rw [if_pos rfl] at H; exact H
           clear H
           have H := H1
           clear H1
           replace H := Option.bind_eq_some_iff.mp H
           obtain ⟨t132, A460, H⟩ := H
           replace H : (if t132 = true then ((cottonpadref06_spanned.f ((rd_T62 l0_0 x3_2).f3.f0) ((rd_T62 l0_0 x3_2).f3.f1) 0 36000).bind fun t133 => (if t133 = true then (cottonpadref06_Building.l0 k2 (wrap64 (x3_2 + 1)) l0_0 l0_1) else (some false))) else (some false)) = some r := H
           have A46 := Aside0.mk A460
           clear A460
           by_cases c47 : t132 = true
           ·subst c47
            have H1 : ((cottonpadref06_spanned.f ((rd_T62 l0_0 x3_2).f3.f0) ((rd_T62 l0_0 x3_2).f3.f1) 0 36000).bind fun t133 => (if t133 = true then (cottonpadref06_Building.l0 k2 (wrap64 (x3_2 + 1)) l0_0 l0_1) else (some false))) = some r := by rw [if_pos rfl] at H; exact H
            clear H
            have H := H1
            clear H1
            replace H := Option.bind_eq_some_iff.mp H
            obtain ⟨t133, A480, H⟩ := H
            replace H : (if t133 = true then (cottonpadref06_Building.l0 k2 (wrap64 (x3_2 + 1)) l0_0 l0_1) else (some false)) = some r := H
            have A48 := Aside0.mk A480
            clear A480
            by_cases c49 : t133 = true
            ·subst c49
             have H1 : (cottonpadref06_Building.l0 k2 (wrap64 (x3_2 + 1)) l0_0 l0_1) = some r := by rw [if_pos rfl] at H; exact H
             clear H
             have H := H1
             clear H1
             have H' := Aside0.mk H
             clear H
             have hcz50_0 : wr.cell? ⟨gb122, 0, none⟩ = some (.slice A0_0 l0_0.length c0_0) := bc_ BK122 0
             have hcz50_1 : wr.cell? ⟨gb122, 1, none⟩ = some (.slice A0_1 l0_1.length c0_1) := bc_ BK122 1
             have hfz50_0 := blk_frozen BK122.out 0
             have hfz50_1 := blk_frozen BK122.out 1
             have p125 : 0 ≤ (x3_2 : Int) := of_decide_eq_true as_
             have q125 : x3_2 < (l0_0.length : Int) := of_decide_eq_true as_
             obtain ⟨ad125, e125, hx125_0, hx125_1, hx125_2, hx125_3, hx125_4, hx125_5⟩ := at_T62 HR0_0.out x3_2 p125 q125
             cases e125
             try replace hx125_0 := ce_ HB hx125_0
             try replace hx125_1 := ce_ HB hx125_1
             try replace hx125_2 := ce_ HB hx125_2
             try replace hx125_3 := ce_ HB hx125_3
             try replace hx125_4 := ce_ HB hx125_4
             try replace hx125_5 := ce_ HB hx125_5
             replace p125 := eq_true p125
             replace q125 := eq_true q125
             go_wp2_with (first | ((with_reducible refine gate_dst (N := 4) rfl ?_); (try (refine gate_guard (by rfl) ?_; dsimp only)); refine box_event ?hg (N := 4) ?hd (cs := #[.int .i64 0, .int .i64 0, .int .i64 0, .int .i64 0, .int .i64 0, .int .i64 0]) (t := 62) ?hr ?_; (case hd => rfl); (case hg => rfl); (case hr => exact gs_); intro gb126 hg w51 hbox hb; have BK126 := Aside0.mk (hbox); have GW126 := hl_ hg (be1_ HB GE122); have GE126 := hl_ hg (be1_ HB GE122); replace HB := bs1_ HB GE122 hb; have NB122_126 := Aside0.mk ((by rw [hg]; exact Nat.ne_of_lt (blk_lt (bk_ BK122)) : gb122 ≠ gb126)); have NB126_122 := Aside0.mk ((by rw [hg]; exact Nat.ne_of_gt (blk_lt (bk_ BK122)) : gb126 ≠ gb122)); replace BK122 := bb_ BK122 hb; clear hb hbox hg; have hnb52 := NB126_122.out; have hnc52 := NB122_126.out; have hcz53_0 : w51.cell? ⟨gb126, 0, none⟩ = some (.int .i64 0) := bc_ BK126 0; have hcz53_1 : w51.cell? ⟨gb126, 1, none⟩ = some (.int .i64 0) := bc_ BK126 1; have hcz53_2 : w51.cell? ⟨gb126, 2, none⟩ = some (.int .i64 0) := bc_ BK126 2; have hcz53_3 : w51.cell? ⟨gb126, 3, none⟩ = some (.int .i64 0) := bc_ BK126 3; have hcz53_4 : w51.cell? ⟨gb126, 4, none⟩ = some (.int .i64 0) := bc_ BK126 4; have hcz53_5 : w51.cell? ⟨gb126, 5, none⟩ = some (.int .i64 0) := bc_ BK126 5; have hfz53_0 := blk_frozen BK126.out 0; have hfz53_1 := blk_frozen BK126.out 1; have hfz53_2 := blk_frozen BK126.out 2; have hfz53_3 := blk_frozen BK126.out 3; have hfz53_4 := blk_frozen BK126.out 4; have hfz53_5 := blk_frozen BK126.out 5; have hcz54_0 : w51.cell? ⟨gb122, 0, none⟩ = some (.slice (some ad125) l0_0.length c0_0) := bc_ BK122 0; have hcz54_1 : w51.cell? ⟨gb122, 1, none⟩ = some (.slice A0_1 l0_1.length c0_1) := bc_ BK122 1; have hfz54_0 := blk_frozen BK122.out 0; have hfz54_1 := blk_frozen BK122.out 1) | (go_at_call 55; (with_reducible refine (cottonpadref06_within.calls ((rd_T62 l0_0 x3_2).f0) (wrap64 (x3_2 + 1)) (wrap64 ((l0_0.length : Int) - 1)) true _ A42.out).mono ?_); rintro e w' ⟨rfl, ⟨nd, rfl⟩⟩) | (go_at_call 55; (with_reducible refine (cottonpadref06_within.calls ((rd_T62 l0_0 x3_2).f1) 0 60 true _ A44.out).mono ?_); rintro e w' ⟨rfl, ⟨nd, rfl⟩⟩) | (go_at_call 90; (with_reducible refine (cottonpadref06_spanned.calls ((rd_T62 l0_0 x3_2).f2.f0) ((rd_T62 l0_0 x3_2).f2.f1) 0 600 true _ A46.out).mono ?_); rintro e w55 ⟨rfl, hb⟩; replace BK122 := Aside0.mk (blk_below (g := gb122) (o := .cells #[.slice (some ad125) l0_0.length c0_0, .slice A0_1 l0_1.length c0_1] 25 (0, 0)) (by refine bx_ ?_; refine blk_far ?_ NB122_126.out _; refine bx_ ?_; refine blk_far ?_ NB122_126.out _; refine bx_ ?_; refine blk_far ?_ NB122_126.out _; refine bx_ ?_; refine blk_far ?_ NB122_126.out _; refine bx_ ?_; refine blk_far ?_ NB122_126.out _; refine bx_ ?_; refine blk_far ?_ NB122_126.out _; refine bx_ ?_; exact BK122.out) hb); replace BK126 := Aside0.mk (blk_below (g := gb126) (o := .cells #[.int .i64 ((rd_T62 l0_0 x3_2).f0), .int .i64 ((rd_T62 l0_0 x3_2).f1), .int .i64 ((rd_T62 l0_0 x3_2).f2.f0), .int .i64 ((rd_T62 l0_0 x3_2).f2.f1), .int .i64 ((rd_T62 l0_0 x3_2).f3.f0), .int .i64 ((rd_T62 l0_0 x3_2).f3.f1)] 62 (0, 0)) (by refine bx_ ?_; refine blk_put (cs := #[.int .i64 ((rd_T62 l0_0 x3_2).f0), .int .i64 ((rd_T62 l0_0 x3_2).f1), .int .i64 ((rd_T62 l0_0 x3_2).f2.f0), .int .i64 ((rd_T62 l0_0 x3_2).f2.f1), .int .i64 ((rd_T62 l0_0 x3_2).f3.f0), .int .i64 0]) ?_ 5 _ rfl; refine bx_ ?_; refine blk_put (cs := #[.int .i64 ((rd_T62 l0_0 x3_2).f0), .int .i64 ((rd_T62 l0_0 x3_2).f1), .int .i64 ((rd_T62 l0_0 x3_2).f2.f0), .int .i64 ((rd_T62 l0_0 x3_2).f2.f1), .int .i64 0, .int .i64 0]) ?_ 4 _ rfl; refine bx_ ?_; refine blk_put (cs := #[.int .i64 ((rd_T62 l0_0 x3_2).f0), .int .i64 ((rd_T62 l0_0 x3_2).f1), .int .i64 ((rd_T62 l0_0 x3_2).f2.f0), .int .i64 0, .int .i64 0, .int .i64 0]) ?_ 3 _ rfl; refine bx_ ?_; refine blk_put (cs := #[.int .i64 ((rd_T62 l0_0 x3_2).f0), .int .i64 ((rd_T62 l0_0 x3_2).f1), .int .i64 0, .int .i64 0, .int .i64 0, .int .i64 0]) ?_ 2 _ rfl; refine bx_ ?_; refine blk_put (cs := #[.int .i64 ((rd_T62 l0_0 x3_2).f0), .int .i64 0, .int .i64 0, .int .i64 0, .int .i64 0, .int .i64 0]) ?_ 1 _ rfl; refine bx_ ?_; refine blk_put (cs := #[.int .i64 0, .int .i64 0, .int .i64 0, .int .i64 0, .int .i64 0, .int .i64 0]) ?_ 0 _ rfl; refine bx_ ?_; exact BK126.out) hb); replace HB := bs2_ HB GE122 GE126 hb; (try clear hb); (try clear hb2); (try clear hk); (try clear hi); have hcz56_0 : w55.cell? ⟨gb126, 0, none⟩ = some (.int .i64 ((rd_T62 l0_0 x3_2).f0)) := bc_ BK126 0; have hcz56_1 : w55.cell? ⟨gb126, 1, none⟩ = some (.int .i64 ((rd_T62 l0_0 x3_2).f1)) := bc_ BK126 1; have hcz56_2 : w55.cell? ⟨gb126, 2, none⟩ = some (.int .i64 ((rd_T62 l0_0 x3_2).f2.f0)) := bc_ BK126 2; have hcz56_3 : w55.cell? ⟨gb126, 3, none⟩ = some (.int .i64 ((rd_T62 l0_0 x3_2).f2.f1)) := bc_ BK126 3; have hcz56_4 : w55.cell? ⟨gb126, 4, none⟩ = some (.int .i64 ((rd_T62 l0_0 x3_2).f3.f0)) := bc_ BK126 4; have hcz56_5 : w55.cell? ⟨gb126, 5, none⟩ = some (.int .i64 ((rd_T62 l0_0 x3_2).f3.f1)) := bc_ BK126 5; have hfz56_0 := blk_frozen BK126.out 0; have hfz56_1 := blk_frozen BK126.out 1; have hfz56_2 := blk_frozen BK126.out 2; have hfz56_3 := blk_frozen BK126.out 3; have hfz56_4 := blk_frozen BK126.out 4; have hfz56_5 := blk_frozen BK126.out 5) | (go_at_call 90; (with_reducible refine (cottonpadref06_spanned.calls ((rd_T62 l0_0 x3_2).f3.f0) ((rd_T62 l0_0 x3_2).f3.f1) 0 36000 true _ A48.out).mono ?_); rintro e w57 ⟨rfl, hb⟩; replace BK122 := bb_ BK122 hb; replace BK126 := bb_ BK126 hb; replace HB := bs2_ HB GE122 GE126 hb; (try clear hb); (try clear hb2); (try clear hk); (try clear hi)))
             go_roundg k2
             case measure => have := HJ1.out; have := HK2.out; omega
             case rel => exact ⟨(wrap64 (x3_2 + 1)), (by first | rfl | (simp; done) | (simp [*]; done)), H', ⟨by have := HJ1.out; have := HK2.out; omega⟩, ⟨by refine bx_ ?_; exact BK122.out⟩, ⟨be2_ HB GE122 GE126⟩⟩
            ·replace c49 := Bool.eq_false_iff.mpr c49
             subst c49
             have H1 : (some false) = some r := by rw [if_neg (show ¬ (false = true) by decide)] at H; exact H
             clear H
             have H := H1
             clear H1
             obtain rfl := Option.some.inj H
             have hcz58_0 : wr.cell? ⟨gb122, 0, none⟩ = some (.slice A0_0 l0_0.length c0_0) := bc_ BK122 0
             have hcz58_1 : wr.cell? ⟨gb122, 1, none⟩ = some (.slice A0_1 l0_1.length c0_1) := bc_ BK122 1
             have hfz58_0 := blk_frozen BK122.out 0
             have hfz58_1 := blk_frozen BK122.out 1
             have p125 : 0 ≤ (x3_2 : Int) := of_decide_eq_true as_
             have q125 : x3_2 < (l0_0.length : Int) := of_decide_eq_true as_
             obtain ⟨ad125, e125, hx125_0, hx125_1, hx125_2, hx125_3, hx125_4, hx125_5⟩ := at_T62 HR0_0.out x3_2 p125 q125
             cases e125
             try replace hx125_0 := ce_ HB hx125_0
             try replace hx125_1 := ce_ HB hx125_1
             try replace hx125_2 := ce_ HB hx125_2
             try replace hx125_3 := ce_ HB hx125_3
             try replace hx125_4 := ce_ HB hx125_4
             try replace hx125_5 := ce_ HB hx125_5
             replace p125 := eq_true p125
             replace q125 := eq_true q125
             go_wp2_with (first | ((with_reducible refine gate_dst (N := 4) rfl ?_); (try (refine gate_guard (by rfl) ?_; dsimp only)); refine box_event ?hg (N := 4) ?hd (cs := #[.int .i64 0, .int .i64 0, .int .i64 0, .int .i64 0, .int .i64 0, .int .i64 0]) (t := 62) ?hr ?_; (case hd => rfl); (case hg => rfl); (case hr => exact gs_); intro gb126 hg w59 hbox hb; have BK126 := Aside0.mk (hbox); have GW126 := hl_ hg (be1_ HB GE122); have GE126 := hl_ hg (be1_ HB GE122); replace HB := bs1_ HB GE122 hb; have NB122_126 := Aside0.mk ((by rw [hg]; exact Nat.ne_of_lt (blk_lt (bk_ BK122)) : gb122 ≠ gb126)); have NB126_122 := Aside0.mk ((by rw [hg]; exact Nat.ne_of_gt (blk_lt (bk_ BK122)) : gb126 ≠ gb122)); replace BK122 := bb_ BK122 hb; clear hb hbox hg; have hnb60 := NB126_122.out; have hnc60 := NB122_126.out; have hcz61_0 : w59.cell? ⟨gb126, 0, none⟩ = some (.int .i64 0) := bc_ BK126 0; have hcz61_1 : w59.cell? ⟨gb126, 1, none⟩ = some (.int .i64 0) := bc_ BK126 1; have hcz61_2 : w59.cell? ⟨gb126, 2, none⟩ = some (.int .i64 0) := bc_ BK126 2; have hcz61_3 : w59.cell? ⟨gb126, 3, none⟩ = some (.int .i64 0) := bc_ BK126 3; have hcz61_4 : w59.cell? ⟨gb126, 4, none⟩ = some (.int .i64 0) := bc_ BK126 4; have hcz61_5 : w59.cell? ⟨gb126, 5, none⟩ = some (.int .i64 0) := bc_ BK126 5; have hfz61_0 := blk_frozen BK126.out 0; have hfz61_1 := blk_frozen BK126.out 1; have hfz61_2 := blk_frozen BK126.out 2; have hfz61_3 := blk_frozen BK126.out 3; have hfz61_4 := blk_frozen BK126.out 4; have hfz61_5 := blk_frozen BK126.out 5; have hcz62_0 : w59.cell? ⟨gb122, 0, none⟩ = some (.slice (some ad125) l0_0.length c0_0) := bc_ BK122 0; have hcz62_1 : w59.cell? ⟨gb122, 1, none⟩ = some (.slice A0_1 l0_1.length c0_1) := bc_ BK122 1; have hfz62_0 := blk_frozen BK122.out 0; have hfz62_1 := blk_frozen BK122.out 1) | (go_at_call 55; (with_reducible refine (cottonpadref06_within.calls ((rd_T62 l0_0 x3_2).f0) (wrap64 (x3_2 + 1)) (wrap64 ((l0_0.length : Int) - 1)) true _ A42.out).mono ?_); rintro e w' ⟨rfl, ⟨nd, rfl⟩⟩) | (go_at_call 55; (with_reducible refine (cottonpadref06_within.calls ((rd_T62 l0_0 x3_2).f1) 0 60 true _ A44.out).mono ?_); rintro e w' ⟨rfl, ⟨nd, rfl⟩⟩) | (go_at_call 90; (with_reducible refine (cottonpadref06_spanned.calls ((rd_T62 l0_0 x3_2).f2.f0) ((rd_T62 l0_0 x3_2).f2.f1) 0 600 true _ A46.out).mono ?_); rintro e w63 ⟨rfl, hb⟩; replace BK122 := Aside0.mk (blk_below (g := gb122) (o := .cells #[.slice (some ad125) l0_0.length c0_0, .slice A0_1 l0_1.length c0_1] 25 (0, 0)) (by refine bx_ ?_; refine blk_far ?_ NB122_126.out _; refine bx_ ?_; refine blk_far ?_ NB122_126.out _; refine bx_ ?_; refine blk_far ?_ NB122_126.out _; refine bx_ ?_; refine blk_far ?_ NB122_126.out _; refine bx_ ?_; refine blk_far ?_ NB122_126.out _; refine bx_ ?_; refine blk_far ?_ NB122_126.out _; refine bx_ ?_; exact BK122.out) hb); replace BK126 := Aside0.mk (blk_below (g := gb126) (o := .cells #[.int .i64 ((rd_T62 l0_0 x3_2).f0), .int .i64 ((rd_T62 l0_0 x3_2).f1), .int .i64 ((rd_T62 l0_0 x3_2).f2.f0), .int .i64 ((rd_T62 l0_0 x3_2).f2.f1), .int .i64 ((rd_T62 l0_0 x3_2).f3.f0), .int .i64 ((rd_T62 l0_0 x3_2).f3.f1)] 62 (0, 0)) (by refine bx_ ?_; refine blk_put (cs := #[.int .i64 ((rd_T62 l0_0 x3_2).f0), .int .i64 ((rd_T62 l0_0 x3_2).f1), .int .i64 ((rd_T62 l0_0 x3_2).f2.f0), .int .i64 ((rd_T62 l0_0 x3_2).f2.f1), .int .i64 ((rd_T62 l0_0 x3_2).f3.f0), .int .i64 0]) ?_ 5 _ rfl; refine bx_ ?_; refine blk_put (cs := #[.int .i64 ((rd_T62 l0_0 x3_2).f0), .int .i64 ((rd_T62 l0_0 x3_2).f1), .int .i64 ((rd_T62 l0_0 x3_2).f2.f0), .int .i64 ((rd_T62 l0_0 x3_2).f2.f1), .int .i64 0, .int .i64 0]) ?_ 4 _ rfl; refine bx_ ?_; refine blk_put (cs := #[.int .i64 ((rd_T62 l0_0 x3_2).f0), .int .i64 ((rd_T62 l0_0 x3_2).f1), .int .i64 ((rd_T62 l0_0 x3_2).f2.f0), .int .i64 0, .int .i64 0, .int .i64 0]) ?_ 3 _ rfl; refine bx_ ?_; refine blk_put (cs := #[.int .i64 ((rd_T62 l0_0 x3_2).f0), .int .i64 ((rd_T62 l0_0 x3_2).f1), .int .i64 0, .int .i64 0, .int .i64 0, .int .i64 0]) ?_ 2 _ rfl; refine bx_ ?_; refine blk_put (cs := #[.int .i64 ((rd_T62 l0_0 x3_2).f0), .int .i64 0, .int .i64 0, .int .i64 0, .int .i64 0, .int .i64 0]) ?_ 1 _ rfl; refine bx_ ?_; refine blk_put (cs := #[.int .i64 0, .int .i64 0, .int .i64 0, .int .i64 0, .int .i64 0, .int .i64 0]) ?_ 0 _ rfl; refine bx_ ?_; exact BK126.out) hb); replace HB := bs2_ HB GE122 GE126 hb; (try clear hb); (try clear hb2); (try clear hk); (try clear hi); have hcz64_0 : w63.cell? ⟨gb126, 0, none⟩ = some (.int .i64 ((rd_T62 l0_0 x3_2).f0)) := bc_ BK126 0; have hcz64_1 : w63.cell? ⟨gb126, 1, none⟩ = some (.int .i64 ((rd_T62 l0_0 x3_2).f1)) := bc_ BK126 1; have hcz64_2 : w63.cell? ⟨gb126, 2, none⟩ = some (.int .i64 ((rd_T62 l0_0 x3_2).f2.f0)) := bc_ BK126 2; have hcz64_3 : w63.cell? ⟨gb126, 3, none⟩ = some (.int .i64 ((rd_T62 l0_0 x3_2).f2.f1)) := bc_ BK126 3; have hcz64_4 : w63.cell? ⟨gb126, 4, none⟩ = some (.int .i64 ((rd_T62 l0_0 x3_2).f3.f0)) := bc_ BK126 4; have hcz64_5 : w63.cell? ⟨gb126, 5, none⟩ = some (.int .i64 ((rd_T62 l0_0 x3_2).f3.f1)) := bc_ BK126 5; have hfz64_0 := blk_frozen BK126.out 0; have hfz64_1 := blk_frozen BK126.out 1; have hfz64_2 := blk_frozen BK126.out 2; have hfz64_3 := blk_frozen BK126.out 3; have hfz64_4 := blk_frozen BK126.out 4; have hfz64_5 := blk_frozen BK126.out 5) | (go_at_call 90; (with_reducible refine (cottonpadref06_spanned.calls ((rd_T62 l0_0 x3_2).f3.f0) ((rd_T62 l0_0 x3_2).f3.f1) 0 36000 false _ A48.out).mono ?_); rintro e w65 ⟨rfl, hb⟩; replace BK122 := bb_ BK122 hb; replace BK126 := bb_ BK126 hb; replace HB := bs2_ HB GE122 GE126 hb; (try clear hb); (try clear hb2); (try clear hk); (try clear hi)))
             go_ret
             exact ⟨rf_, be2_ HB GE122 GE126⟩
           ·replace c47 := Bool.eq_false_iff.mpr c47
            subst c47
            have H1 : (some false) = some r := by rw [if_neg (show ¬ (false = true) by decide)] at H; exact H
            clear H
            have H := H1
            clear H1
            obtain rfl := Option.some.inj H
            have hcz66_0 : wr.cell? ⟨gb122, 0, none⟩ = some (.slice A0_0 l0_0.length c0_0) := bc_ BK122 0
            have hcz66_1 : wr.cell? ⟨gb122, 1, none⟩ = some (.slice A0_1 l0_1.length c0_1) := bc_ BK122 1
            have hfz66_0 := blk_frozen BK122.out 0
            have hfz66_1 := blk_frozen BK122.out 1
            have p125 : 0 ≤ (x3_2 : Int) := of_decide_eq_true as_
            have q125 : x3_2 < (l0_0.length : Int) := of_decide_eq_true as_
            obtain ⟨ad125, e125, hx125_0, hx125_1, hx125_2, hx125_3, hx125_4, hx125_5⟩ := at_T62 HR0_0.out x3_2 p125 q125
            cases e125
            try replace hx125_0 := ce_ HB hx125_0
            try replace hx125_1 := ce_ HB hx125_1
            try replace hx125_2 := ce_ HB hx125_2
            try replace hx125_3 := ce_ HB hx125_3
            try replace hx125_4 := ce_ HB hx125_4
            try replace hx125_5 := ce_ HB hx125_5
            replace p125 := eq_true p125
            replace q125 := eq_true q125
            go_wp2_with (first | ((with_reducible refine gate_dst (N := 4) rfl ?_); (try (refine gate_guard (by rfl) ?_; dsimp only)); refine box_event ?hg (N := 4) ?hd (cs := #[.int .i64 0, .int .i64 0, .int .i64 0, .int .i64 0, .int .i64 0, .int .i64 0]) (t := 62) ?hr ?_; (case hd => rfl); (case hg => rfl); (case hr => exact gs_); intro gb126 hg w67 hbox hb; have BK126 := Aside0.mk (hbox); have GW126 := hl_ hg (be1_ HB GE122); have GE126 := hl_ hg (be1_ HB GE122); replace HB := bs1_ HB GE122 hb; have NB122_126 := Aside0.mk ((by rw [hg]; exact Nat.ne_of_lt (blk_lt (bk_ BK122)) : gb122 ≠ gb126)); have NB126_122 := Aside0.mk ((by rw [hg]; exact Nat.ne_of_gt (blk_lt (bk_ BK122)) : gb126 ≠ gb122)); replace BK122 := bb_ BK122 hb; clear hb hbox hg; have hnb68 := NB126_122.out; have hnc68 := NB122_126.out; have hcz69_0 : w67.cell? ⟨gb126, 0, none⟩ = some (.int .i64 0) := bc_ BK126 0; have hcz69_1 : w67.cell? ⟨gb126, 1, none⟩ = some (.int .i64 0) := bc_ BK126 1; have hcz69_2 : w67.cell? ⟨gb126, 2, none⟩ = some (.int .i64 0) := bc_ BK126 2; have hcz69_3 : w67.cell? ⟨gb126, 3, none⟩ = some (.int .i64 0) := bc_ BK126 3; have hcz69_4 : w67.cell? ⟨gb126, 4, none⟩ = some (.int .i64 0) := bc_ BK126 4; have hcz69_5 : w67.cell? ⟨gb126, 5, none⟩ = some (.int .i64 0) := bc_ BK126 5; have hfz69_0 := blk_frozen BK126.out 0; have hfz69_1 := blk_frozen BK126.out 1; have hfz69_2 := blk_frozen BK126.out 2; have hfz69_3 := blk_frozen BK126.out 3; have hfz69_4 := blk_frozen BK126.out 4; have hfz69_5 := blk_frozen BK126.out 5; have hcz70_0 : w67.cell? ⟨gb122, 0, none⟩ = some (.slice (some ad125) l0_0.length c0_0) := bc_ BK122 0; have hcz70_1 : w67.cell? ⟨gb122, 1, none⟩ = some (.slice A0_1 l0_1.length c0_1) := bc_ BK122 1; have hfz70_0 := blk_frozen BK122.out 0; have hfz70_1 := blk_frozen BK122.out 1) | (go_at_call 55; (with_reducible refine (cottonpadref06_within.calls ((rd_T62 l0_0 x3_2).f0) (wrap64 (x3_2 + 1)) (wrap64 ((l0_0.length : Int) - 1)) true _ A42.out).mono ?_); rintro e w' ⟨rfl, ⟨nd, rfl⟩⟩) | (go_at_call 55; (with_reducible refine (cottonpadref06_within.calls ((rd_T62 l0_0 x3_2).f1) 0 60 true _ A44.out).mono ?_); rintro e w' ⟨rfl, ⟨nd, rfl⟩⟩) | (go_at_call 90; (with_reducible refine (cottonpadref06_spanned.calls ((rd_T62 l0_0 x3_2).f2.f0) ((rd_T62 l0_0 x3_2).f2.f1) 0 600 false _ A46.out).mono ?_); rintro e w71 ⟨rfl, hb⟩; replace BK122 := Aside0.mk (blk_below (g := gb122) (o := .cells #[.slice (some ad125) l0_0.length c0_0, .slice A0_1 l0_1.length c0_1] 25 (0, 0)) (by refine bx_ ?_; refine blk_far ?_ NB122_126.out _; refine bx_ ?_; refine blk_far ?_ NB122_126.out _; refine bx_ ?_; refine blk_far ?_ NB122_126.out _; refine bx_ ?_; refine blk_far ?_ NB122_126.out _; refine bx_ ?_; refine blk_far ?_ NB122_126.out _; refine bx_ ?_; refine blk_far ?_ NB122_126.out _; refine bx_ ?_; exact BK122.out) hb); replace BK126 := Aside0.mk (blk_below (g := gb126) (o := .cells #[.int .i64 ((rd_T62 l0_0 x3_2).f0), .int .i64 ((rd_T62 l0_0 x3_2).f1), .int .i64 ((rd_T62 l0_0 x3_2).f2.f0), .int .i64 ((rd_T62 l0_0 x3_2).f2.f1), .int .i64 ((rd_T62 l0_0 x3_2).f3.f0), .int .i64 ((rd_T62 l0_0 x3_2).f3.f1)] 62 (0, 0)) (by refine bx_ ?_; refine blk_put (cs := #[.int .i64 ((rd_T62 l0_0 x3_2).f0), .int .i64 ((rd_T62 l0_0 x3_2).f1), .int .i64 ((rd_T62 l0_0 x3_2).f2.f0), .int .i64 ((rd_T62 l0_0 x3_2).f2.f1), .int .i64 ((rd_T62 l0_0 x3_2).f3.f0), .int .i64 0]) ?_ 5 _ rfl; refine bx_ ?_; refine blk_put (cs := #[.int .i64 ((rd_T62 l0_0 x3_2).f0), .int .i64 ((rd_T62 l0_0 x3_2).f1), .int .i64 ((rd_T62 l0_0 x3_2).f2.f0), .int .i64 ((rd_T62 l0_0 x3_2).f2.f1), .int .i64 0, .int .i64 0]) ?_ 4 _ rfl; refine bx_ ?_; refine blk_put (cs := #[.int .i64 ((rd_T62 l0_0 x3_2).f0), .int .i64 ((rd_T62 l0_0 x3_2).f1), .int .i64 ((rd_T62 l0_0 x3_2).f2.f0), .int .i64 0, .int .i64 0, .int .i64 0]) ?_ 3 _ rfl; refine bx_ ?_; refine blk_put (cs := #[.int .i64 ((rd_T62 l0_0 x3_2).f0), .int .i64 ((rd_T62 l0_0 x3_2).f1), .int .i64 0, .int .i64 0, .int .i64 0, .int .i64 0]) ?_ 2 _ rfl; refine bx_ ?_; refine blk_put (cs := #[.int .i64 ((rd_T62 l0_0 x3_2).f0), .int .i64 0, .int .i64 0, .int .i64 0, .int .i64 0, .int .i64 0]) ?_ 1 _ rfl; refine bx_ ?_; refine blk_put (cs := #[.int .i64 0, .int .i64 0, .int .i64 0, .int .i64 0, .int .i64 0, .int .i64 0]) ?_ 0 _ rfl; refine bx_ ?_; exact BK126.out) hb); replace HB := bs2_ HB GE122 GE126 hb; (try clear hb); (try clear hb2); (try clear hk); (try clear hi)))
            go_ret
            exact ⟨rf_, be2_ HB GE122 GE126⟩
          ·replace c45 := Bool.eq_false_iff.mpr c45
           subst c45
           have H1 : (some false) = some r := by rw [if_neg (show ¬ (false = true) by decide)] at H; exact H
           clear H
           have H := H1
           clear H1
           obtain rfl := Option.some.inj H
           have hcz72_0 : wr.cell? ⟨gb122, 0, none⟩ = some (.slice A0_0 l0_0.length c0_0) := bc_ BK122 0
           have hcz72_1 : wr.cell? ⟨gb122, 1, none⟩ = some (.slice A0_1 l0_1.length c0_1) := bc_ BK122 1
           have hfz72_0 := blk_frozen BK122.out 0
           have hfz72_1 := blk_frozen BK122.out 1
           have p125 : 0 ≤ (x3_2 : Int) := of_decide_eq_true as_
           have q125 : x3_2 < (l0_0.length : Int) := of_decide_eq_true as_
           obtain ⟨ad125, e125, hx125_0, hx125_1, hx125_2, hx125_3, hx125_4, hx125_5⟩ := at_T62 HR0_0.out x3_2 p125 q125
           cases e125
           try replace hx125_0 := ce_ HB hx125_0
           try replace hx125_1 := ce_ HB hx125_1
           try replace hx125_2 := ce_ HB hx125_2
           try replace hx125_3 := ce_ HB hx125_3
           try replace hx125_4 := ce_ HB hx125_4
           try replace hx125_5 := ce_ HB hx125_5
           replace p125 := eq_true p125
           replace q125 := eq_true q125
           go_wp2_with (first | ((with_reducible refine gate_dst (N := 4) rfl ?_); (try (refine gate_guard (by rfl) ?_; dsimp only)); refine box_event ?hg (N := 4) ?hd (cs := #[.int .i64 0, .int .i64 0, .int .i64 0, .int .i64 0, .int .i64 0, .int .i64 0]) (t := 62) ?hr ?_; (case hd => rfl); (case hg => rfl); (case hr => exact gs_); intro gb126 hg w73 hbox hb; have BK126 := Aside0.mk (hbox); have GW126 := hl_ hg (be1_ HB GE122); have GE126 := hl_ hg (be1_ HB GE122); replace HB := bs1_ HB GE122 hb; have NB122_126 := Aside0.mk ((by rw [hg]; exact Nat.ne_of_lt (blk_lt (bk_ BK122)) : gb122 ≠ gb126)); have NB126_122 := Aside0.mk ((by rw [hg]; exact Nat.ne_of_gt (blk_lt (bk_ BK122)) : gb126 ≠ gb122)); replace BK122 := bb_ BK122 hb; clear hb hbox hg; have hnb74 := NB126_122.out; have hnc74 := NB122_126.out; have hcz75_0 : w73.cell? ⟨gb126, 0, none⟩ = some (.int .i64 0) := bc_ BK126 0; have hcz75_1 : w73.cell? ⟨gb126, 1, none⟩ = some (.int .i64 0) := bc_ BK126 1; have hcz75_2 : w73.cell? ⟨gb126, 2, none⟩ = some (.int .i64 0) := bc_ BK126 2; have hcz75_3 : w73.cell? ⟨gb126, 3, none⟩ = some (.int .i64 0) := bc_ BK126 3; have hcz75_4 : w73.cell? ⟨gb126, 4, none⟩ = some (.int .i64 0) := bc_ BK126 4; have hcz75_5 : w73.cell? ⟨gb126, 5, none⟩ = some (.int .i64 0) := bc_ BK126 5; have hfz75_0 := blk_frozen BK126.out 0; have hfz75_1 := blk_frozen BK126.out 1; have hfz75_2 := blk_frozen BK126.out 2; have hfz75_3 := blk_frozen BK126.out 3; have hfz75_4 := blk_frozen BK126.out 4; have hfz75_5 := blk_frozen BK126.out 5; have hcz76_0 : w73.cell? ⟨gb122, 0, none⟩ = some (.slice (some ad125) l0_0.length c0_0) := bc_ BK122 0; have hcz76_1 : w73.cell? ⟨gb122, 1, none⟩ = some (.slice A0_1 l0_1.length c0_1) := bc_ BK122 1; have hfz76_0 := blk_frozen BK122.out 0; have hfz76_1 := blk_frozen BK122.out 1) | (go_at_call 55; (with_reducible refine (cottonpadref06_within.calls ((rd_T62 l0_0 x3_2).f0) (wrap64 (x3_2 + 1)) (wrap64 ((l0_0.length : Int) - 1)) true _ A42.out).mono ?_); rintro e w' ⟨rfl, ⟨nd, rfl⟩⟩) | (go_at_call 55; (with_reducible refine (cottonpadref06_within.calls ((rd_T62 l0_0 x3_2).f1) 0 60 false _ A44.out).mono ?_); rintro e w' ⟨rfl, ⟨nd, rfl⟩⟩))
           go_ret
           exact ⟨rf_, be2_ HB GE122 GE126⟩
         ·replace c43 := Bool.eq_false_iff.mpr c43
          subst c43
          have H1 : (some false) = some r := by rw [if_neg (show ¬ (false = true) by decide)] at H; exact H
          clear H
          have H := H1
          clear H1
          obtain rfl := Option.some.inj H
          have hcz77_0 : wr.cell? ⟨gb122, 0, none⟩ = some (.slice A0_0 l0_0.length c0_0) := bc_ BK122 0
          have hcz77_1 : wr.cell? ⟨gb122, 1, none⟩ = some (.slice A0_1 l0_1.length c0_1) := bc_ BK122 1
          have hfz77_0 := blk_frozen BK122.out 0
          have hfz77_1 := blk_frozen BK122.out 1
          have p125 : 0 ≤ (x3_2 : Int) := of_decide_eq_true as_
          have q125 : x3_2 < (l0_0.length : Int) := of_decide_eq_true as_
          obtain ⟨ad125, e125, hx125_0, hx125_1, hx125_2, hx125_3, hx125_4, hx125_5⟩ := at_T62 HR0_0.out x3_2 p125 q125
          cases e125
          try replace hx125_0 := ce_ HB hx125_0
          try replace hx125_1 := ce_ HB hx125_1
          try replace hx125_2 := ce_ HB hx125_2
          try replace hx125_3 := ce_ HB hx125_3
          try replace hx125_4 := ce_ HB hx125_4
          try replace hx125_5 := ce_ HB hx125_5
          replace p125 := eq_true p125
          replace q125 := eq_true q125
          go_wp2_with (first | ((with_reducible refine gate_dst (N := 4) rfl ?_); (try (refine gate_guard (by rfl) ?_; dsimp only)); refine box_event ?hg (N := 4) ?hd (cs := #[.int .i64 0, .int .i64 0, .int .i64 0, .int .i64 0, .int .i64 0, .int .i64 0]) (t := 62) ?hr ?_; (case hd => rfl); (case hg => rfl); (case hr => exact gs_); intro gb126 hg w78 hbox hb; have BK126 := Aside0.mk (hbox); have GW126 := hl_ hg (be1_ HB GE122); have GE126 := hl_ hg (be1_ HB GE122); replace HB := bs1_ HB GE122 hb; have NB122_126 := Aside0.mk ((by rw [hg]; exact Nat.ne_of_lt (blk_lt (bk_ BK122)) : gb122 ≠ gb126)); have NB126_122 := Aside0.mk ((by rw [hg]; exact Nat.ne_of_gt (blk_lt (bk_ BK122)) : gb126 ≠ gb122)); replace BK122 := bb_ BK122 hb; clear hb hbox hg; have hnb79 := NB126_122.out; have hnc79 := NB122_126.out; have hcz80_0 : w78.cell? ⟨gb126, 0, none⟩ = some (.int .i64 0) := bc_ BK126 0; have hcz80_1 : w78.cell? ⟨gb126, 1, none⟩ = some (.int .i64 0) := bc_ BK126 1; have hcz80_2 : w78.cell? ⟨gb126, 2, none⟩ = some (.int .i64 0) := bc_ BK126 2; have hcz80_3 : w78.cell? ⟨gb126, 3, none⟩ = some (.int .i64 0) := bc_ BK126 3; have hcz80_4 : w78.cell? ⟨gb126, 4, none⟩ = some (.int .i64 0) := bc_ BK126 4; have hcz80_5 : w78.cell? ⟨gb126, 5, none⟩ = some (.int .i64 0) := bc_ BK126 5; have hfz80_0 := blk_frozen BK126.out 0; have hfz80_1 := blk_frozen BK126.out 1; have hfz80_2 := blk_frozen BK126.out 2; have hfz80_3 := blk_frozen BK126.out 3; have hfz80_4 := blk_frozen BK126.out 4; have hfz80_5 := blk_frozen BK126.out 5; have hcz81_0 : w78.cell? ⟨gb122, 0, none⟩ = some (.slice (some ad125) l0_0.length c0_0) := bc_ BK122 0; have hcz81_1 : w78.cell? ⟨gb122, 1, none⟩ = some (.slice A0_1 l0_1.length c0_1) := bc_ BK122 1; have hfz81_0 := blk_frozen BK122.out 0; have hfz81_1 := blk_frozen BK122.out 1) | (go_at_call 55; (with_reducible refine (cottonpadref06_within.calls ((rd_T62 l0_0 x3_2).f0) (wrap64 (x3_2 + 1)) (wrap64 ((l0_0.length : Int) - 1)) false _ A42.out).mono ?_); rintro e w' ⟨rfl, ⟨nd, rfl⟩⟩))
          go_ret
          exact ⟨rf_, be2_ HB GE122 GE126⟩
       ·rw [if_neg c11] at H
        exact absurd H (by simp)
      ·rw [if_neg c10] at H
       have c10b0 : decide (x3_2 < (l0_0.length : Int)) = false := decide_eq_false c10
       clear c10
       have H' := Aside0.mk H
       clear H
       have hcz82_0 : wr.cell? ⟨gb122, 0, none⟩ = some (.slice A0_0 l0_0.length c0_0) := bc_ BK122 0
       have hcz82_1 : wr.cell? ⟨gb122, 1, none⟩ = some (.slice A0_1 l0_1.length c0_1) := bc_ BK122 1
       have hfz82_0 := blk_frozen BK122.out 0
       have hfz82_1 := blk_frozen BK122.out 1
       go_wp2
       go_loopg [5] k2 (fun kq v5 w' => ∃ (x5_3 : Int), v5 = .int .i64 x5_3 ∧ Aside0 (cottonpadref06_Building.l1 kq x5_3 l0_0 l0_1 = some r) ∧ Aside0 (kq ≤ k2) ∧ Aside0 (w'.heap[gb122]? = some (.cells #[(.slice A0_0 l0_0.length c0_0), (.slice A0_1 l0_1.length c0_1)] 25 (0, 0))) ∧ Aside0 (Below w.heap.size w w'))
       case atStart => exact ⟨(0), (by first | rfl | (simp; done) | (simp [*]; done)), H', ⟨Nat.le_refl _⟩, ⟨by refine bx_ ?_; exact BK122.out⟩, ⟨be1_ HB GE122⟩⟩
       case round =>
        clear H'
        try clear c1
        try clear p1
        try clear q1
        try clear hx1
        try clear c2
        try clear p2
        try clear c3
        try clear c4
        try clear c5
        try clear c6
        try clear p6
        try clear c7
        try clear c9
        try clear c10
        try clear c10b0
        try clear c11
        try clear c11b0
        try clear c12
        try clear c12b0
        try clear c12b1
        try clear p12
        try clear q12
        try clear hx12
        try clear c14
        try clear c16
        try clear c18
        try clear c21
        try clear c28
        try clear c35
        try clear c40
        try clear c43
        try clear c45
        try clear c47
        try clear c49
        try clear c52
        try clear c55
        try clear c60
        try clear c63
        try clear p64
        try clear c68
        try clear c74
        try clear c79
        try clear hcz19_0
        try clear hcz19_1
        try clear hcz22_0
        try clear hcz22_1
        try clear hcz22_2
        try clear hcz22_3
        try clear hcz22_4
        try clear hcz22_5
        try clear hcz24_0
        try clear hcz24_1
        try clear hcz24_2
        try clear hcz24_3
        try clear hcz24_4
        try clear hcz24_5
        try clear hcz26_0
        try clear hcz26_1
        try clear hcz29_0
        try clear hcz29_1
        try clear hcz29_2
        try clear hcz29_3
        try clear hcz29_4
        try clear hcz29_5
        try clear hcz31_0
        try clear hcz31_1
        try clear hcz31_2
        try clear hcz31_3
        try clear hcz31_4
        try clear hcz31_5
        try clear hcz33_0
        try clear hcz33_1
        try clear hcz36_0
        try clear hcz36_1
        try clear hcz36_2
        try clear hcz36_3
        try clear hcz36_4
        try clear hcz36_5
        try clear hcz38_0
        try clear hcz38_1
        try clear hcz41_0
        try clear hcz41_1
        try clear hcz41_2
        try clear hcz41_3
        try clear hcz41_4
        try clear hcz41_5
        try clear hcz50_0
        try clear hcz50_1
        try clear hcz53_0
        try clear hcz53_1
        try clear hcz53_2
        try clear hcz53_3
        try clear hcz53_4
        try clear hcz53_5
        try clear hcz54_0
        try clear hcz54_1
        try clear hcz56_0
        try clear hcz56_1
        try clear hcz56_2
        try clear hcz56_3
        try clear hcz56_4
        try clear hcz56_5
        try clear hcz58_0
        try clear hcz58_1
        try clear hcz61_0
        try clear hcz61_1
        try clear hcz61_2
        try clear hcz61_3
        try clear hcz61_4
        try clear hcz61_5
        try clear hcz62_0
        try clear hcz62_1
        try clear hcz64_0
        try clear hcz64_1
        try clear hcz64_2
        try clear hcz64_3
        try clear hcz64_4
        try clear hcz64_5
        try clear hcz66_0
        try clear hcz66_1
        try clear hcz69_0
        try clear hcz69_1
        try clear hcz69_2
        try clear hcz69_3
        try clear hcz69_4
        try clear hcz69_5
        try clear hcz70_0
        try clear hcz70_1
        try clear hcz72_0
        try clear hcz72_1
        try clear hcz75_0
        try clear hcz75_1
        try clear hcz75_2
        try clear hcz75_3
        try clear hcz75_4
        try clear hcz75_5
        try clear hcz76_0
        try clear hcz76_1
        try clear hcz77_0
        try clear hcz77_1
        try clear hcz7_0
        try clear hcz7_1
        try clear hcz80_0
        try clear hcz80_1
        try clear hcz80_2
        try clear hcz80_3
        try clear hcz80_4
        try clear hcz80_5
        try clear hcz81_0
        try clear hcz81_1
        try clear hcz82_0
        try clear hcz82_1
        try clear hcz8_0
        try clear hcz8_1
        try clear hfz19_0
        try clear hfz19_1
        try clear hfz22_0
        try clear hfz22_1
        try clear hfz22_2
        try clear hfz22_3
        try clear hfz22_4
        try clear hfz22_5
        try clear hfz24_0
        try clear hfz24_1
        try clear hfz24_2
        try clear hfz24_3
        try clear hfz24_4
        try clear hfz24_5
        try clear hfz26_0
        try clear hfz26_1
        try clear hfz29_0
        try clear hfz29_1
        try clear hfz29_2
        try clear hfz29_3
        try clear hfz29_4
        try clear hfz29_5
        try clear hfz31_0
        try clear hfz31_1
        try clear hfz31_2
        try clear hfz31_3
        try clear hfz31_4
        try clear hfz31_5
        try clear hfz33_0
        try clear hfz33_1
        try clear hfz36_0
        try clear hfz36_1
        try clear hfz36_2
        try clear hfz36_3
        try clear hfz36_4
        try clear hfz36_5
        try clear hfz38_0
        try clear hfz38_1
        try clear hfz41_0
        try clear hfz41_1
        try clear hfz41_2
        try clear hfz41_3
        try clear hfz41_4
        try clear hfz41_5
        try clear hfz50_0
        try clear hfz50_1
        try clear hfz53_0
        try clear hfz53_1
        try clear hfz53_2
        try clear hfz53_3
        try clear hfz53_4
        try clear hfz53_5
        try clear hfz54_0
        try clear hfz54_1
        try clear hfz56_0
        try clear hfz56_1
        try clear hfz56_2
        try clear hfz56_3
        try clear hfz56_4
        try clear hfz56_5
        try clear hfz58_0
        try clear hfz58_1
        try clear hfz61_0
        try clear hfz61_1
        try clear hfz61_2
        try clear hfz61_3
        try clear hfz61_4
        try clear hfz61_5
        try clear hfz62_0
        try clear hfz62_1
        try clear hfz64_0
        try clear hfz64_1
        try clear hfz64_2
        try clear hfz64_3
        try clear hfz64_4
        try clear hfz64_5
        try clear hfz66_0
        try clear hfz66_1
        try clear hfz69_0
        try clear hfz69_1
        try clear hfz69_2
        try clear hfz69_3
        try clear hfz69_4
        try clear hfz69_5
        try clear hfz70_0
        try clear hfz70_1
        try clear hfz72_0
        try clear hfz72_1
        try clear hfz75_0
        try clear hfz75_1
        try clear hfz75_2
        try clear hfz75_3
        try clear hfz75_4
        try clear hfz75_5
        try clear hfz76_0
        try clear hfz76_1
        try clear hfz77_0
        try clear hfz77_1
        try clear hfz7_0
        try clear hfz7_1
        try clear hfz80_0
        try clear hfz80_1
        try clear hfz80_2
        try clear hfz80_3
        try clear hfz80_4
        try clear hfz80_5
        try clear hfz81_0
        try clear hfz81_1
        try clear hfz82_0
        try clear hfz82_1
        try clear hfz8_0
        try clear hfz8_1
        try clear hx125_0
        try clear hx125_1
        try clear hx125_2
        try clear hx125_3
        try clear hx125_4
        try clear hx125_5
        try clear p125
        try clear p2
        try clear q125
        obtain ⟨x5_3, rfl, HA, HK3, BK122, HB⟩ := hrel
        cases gk with
        | zero => exact absurd HA.out (by simp [cottonpadref06_Building.l1])
        | succ k3 =>
         have H := HA.out
         clear HA
         simp only [cottonpadref06_Building.l1] at H
         by_cases c83 : x5_3 < (l0_1.length : Int)
         ·rw [if_pos c83] at H
          have c83b0 : decide (x5_3 < (l0_1.length : Int)) = true := decide_eq_true c83
          clear c83
          by_cases c84 : 0 ≤ x5_3
          ·rw [if_pos c84] at H
           have c84b0 : decide (0 ≤ x5_3) = true := decide_eq_true c84
           clear c84
           replace H := Option.bind_eq_some_iff.mp H
           obtain ⟨t136, A850, H⟩ := H
           replace H : (if t136 = true then ((cottonpadref06_within.f ((rd_T81 l0_1 x5_3).f1) 0 100000).bind fun t137 => (if t137 = true then ((cottonpadref06_spanned.f ((rd_T81 l0_1 x5_3).f2.f0) ((rd_T81 l0_1 x5_3).f2.f1) 0 36000).bind fun t138 => (if t138 = true then (cottonpadref06_Building.l1 k3 (wrap64 (x5_3 + 1)) l0_0 l0_1) else (some false))) else (some false))) else (some false)) = some r := H
           have A85 := Aside0.mk A850
           clear A850
           by_cases c86 : t136 = true
           ·subst c86
            have H1 : ((cottonpadref06_within.f ((rd_T81 l0_1 x5_3).f1) 0 100000).bind fun t137 => (if t137 = true then ((cottonpadref06_spanned.f ((rd_T81 l0_1 x5_3).f2.f0) ((rd_T81 l0_1 x5_3).f2.f1) 0 36000).bind fun t138 => (if t138 = true then (cottonpadref06_Building.l1 k3 (wrap64 (x5_3 + 1)) l0_0 l0_1) else (some false))) else (some false))) = some r := by rw [if_pos rfl] at H; exact H
            clear H
            have H := H1
            clear H1
            replace H := Option.bind_eq_some_iff.mp H
            obtain ⟨t137, A870, H⟩ := H
            replace H : (if t137 = true then ((cottonpadref06_spanned.f ((rd_T81 l0_1 x5_3).f2.f0) ((rd_T81 l0_1 x5_3).f2.f1) 0 36000).bind fun t138 => (if t138 = true then (cottonpadref06_Building.l1 k3 (wrap64 (x5_3 + 1)) l0_0 l0_1) else (some false))) else (some false)) = some r := H
            have A87 := Aside0.mk A870
            clear A870
            by_cases c88 : t137 = true
            ·subst c88
             have H1 : ((cottonpadref06_spanned.f ((rd_T81 l0_1 x5_3).f2.f0) ((rd_T81 l0_1 x5_3).f2.f1) 0 36000).bind fun t138 => (if t138 = true then (cottonpadref06_Building.l1 k3 (wrap64 (x5_3 + 1)) l0_0 l0_1) else (some false))) = some r := by rw [if_pos rfl] at H; exact H
             clear H
             have H := H1
             clear H1
             replace H := Option.bind_eq_some_iff.mp H
             obtain ⟨t138, A890, H⟩ := H
             replace H : (if t138 = true then (cottonpadref06_Building.l1 k3 (wrap64 (x5_3 + 1)) l0_0 l0_1) else (some false)) = some r := H
             have A89 := Aside0.mk A890
             clear A890
             by_cases c90 : t138 = true
             ·subst c90
              have H1 : (cottonpadref06_Building.l1 k3 (wrap64 (x5_3 + 1)) l0_0 l0_1) = some r := by rw [if_pos rfl] at H; exact H
              clear H
              have H := H1
              clear H1
              have H' := Aside0.mk H
              clear H
              have hcz91_0 : wr.cell? ⟨gb122, 0, none⟩ = some (.slice A0_0 l0_0.length c0_0) := bc_ BK122 0
              have hcz91_1 : wr.cell? ⟨gb122, 1, none⟩ = some (.slice A0_1 l0_1.length c0_1) := bc_ BK122 1
              have hfz91_0 := blk_frozen BK122.out 0
              have hfz91_1 := blk_frozen BK122.out 1
              have p134 : 0 ≤ (x5_3 : Int) := of_decide_eq_true as_
              have q134 : x5_3 < (l0_1.length : Int) := of_decide_eq_true as_
              obtain ⟨ad134, e134, hx134_0, hx134_1, hx134_2, hx134_3⟩ := at_T81 HR0_1.out x5_3 p134 q134
              cases e134
              try replace hx134_0 := ce_ HB hx134_0
              try replace hx134_1 := ce_ HB hx134_1
              try replace hx134_2 := ce_ HB hx134_2
              try replace hx134_3 := ce_ HB hx134_3
              replace p134 := eq_true p134
              replace q134 := eq_true q134
              go_wp2_with (first | ((with_reducible refine gate_dst (N := 6) rfl ?_); (try (refine gate_guard (by rfl) ?_; dsimp only)); refine box_event ?hg (N := 6) ?hd (cs := #[.int .i64 0, .int .i64 0, .int .i64 0, .int .i64 0]) (t := 81) ?hr ?_; (case hd => rfl); (case hg => rfl); (case hr => exact gs_); intro gb135 hg w92 hbox hb; have BK135 := Aside0.mk (hbox); have GW135 := hl_ hg (be1_ HB GE122); have GE135 := hl_ hg (be1_ HB GE122); replace HB := bs1_ HB GE122 hb; have NB122_135 := Aside0.mk ((by rw [hg]; exact Nat.ne_of_lt (blk_lt (bk_ BK122)) : gb122 ≠ gb135)); have NB135_122 := Aside0.mk ((by rw [hg]; exact Nat.ne_of_gt (blk_lt (bk_ BK122)) : gb135 ≠ gb122)); replace BK122 := bb_ BK122 hb; clear hb hbox hg; have hnb93 := NB135_122.out; have hnc93 := NB122_135.out; have hcz94_0 : w92.cell? ⟨gb135, 0, none⟩ = some (.int .i64 0) := bc_ BK135 0; have hcz94_1 : w92.cell? ⟨gb135, 1, none⟩ = some (.int .i64 0) := bc_ BK135 1; have hcz94_2 : w92.cell? ⟨gb135, 2, none⟩ = some (.int .i64 0) := bc_ BK135 2; have hcz94_3 : w92.cell? ⟨gb135, 3, none⟩ = some (.int .i64 0) := bc_ BK135 3; have hfz94_0 := blk_frozen BK135.out 0; have hfz94_1 := blk_frozen BK135.out 1; have hfz94_2 := blk_frozen BK135.out 2; have hfz94_3 := blk_frozen BK135.out 3; have hcz95_0 : w92.cell? ⟨gb122, 0, none⟩ = some (.slice A0_0 l0_0.length c0_0) := bc_ BK122 0; have hcz95_1 : w92.cell? ⟨gb122, 1, none⟩ = some (.slice (some ad134) l0_1.length c0_1) := bc_ BK122 1; have hfz95_0 := blk_frozen BK122.out 0; have hfz95_1 := blk_frozen BK122.out 1) | ((with_reducible refine gate_callee (f := 55) rfl ?_); refine goesL_ (some 82) rfl rfl Tryd.func55 (by kernel_rfl) rfl #[.int .i64 ((rd_T81 l0_1 x5_3).f0), .int .i64 0, .int .i64 (wrap64 ((l0_0.length : Int) - 1))] rfl ls_ ?_; (with_reducible refine (cottonpadref06_within.calls ((rd_T81 l0_1 x5_3).f0) 0 (wrap64 ((l0_0.length : Int) - 1)) true _ A85.out).mono ?_); rintro e w' ⟨rfl, ⟨nd, rfl⟩⟩; refine ⟨_, rfl, ?_⟩) | (go_at_call 55; (with_reducible refine (cottonpadref06_within.calls ((rd_T81 l0_1 x5_3).f1) 0 100000 true _ A87.out).mono ?_); rintro e w' ⟨rfl, ⟨nd, rfl⟩⟩) | (go_at_call 90; (with_reducible refine (cottonpadref06_spanned.calls ((rd_T81 l0_1 x5_3).f2.f0) ((rd_T81 l0_1 x5_3).f2.f1) 0 36000 true _ A89.out).mono ?_); rintro e w96 ⟨rfl, hb⟩; replace BK122 := Aside0.mk (blk_below (g := gb122) (o := .cells #[.slice A0_0 l0_0.length c0_0, .slice (some ad134) l0_1.length c0_1] 25 (0, 0)) (by refine bx_ ?_; refine blk_far ?_ NB122_135.out _; refine bx_ ?_; refine blk_far ?_ NB122_135.out _; refine bx_ ?_; refine blk_far ?_ NB122_135.out _; refine bx_ ?_; refine blk_far ?_ NB122_135.out _; refine bx_ ?_; exact BK122.out) hb); replace BK135 := Aside0.mk (blk_below (g := gb135) (o := .cells #[.int .i64 ((rd_T81 l0_1 x5_3).f0), .int .i64 ((rd_T81 l0_1 x5_3).f1), .int .i64 ((rd_T81 l0_1 x5_3).f2.f0), .int .i64 ((rd_T81 l0_1 x5_3).f2.f1)] 81 (0, 0)) (by refine bx_ ?_; refine blk_put (cs := #[.int .i64 ((rd_T81 l0_1 x5_3).f0), .int .i64 ((rd_T81 l0_1 x5_3).f1), .int .i64 ((rd_T81 l0_1 x5_3).f2.f0), .int .i64 0]) ?_ 3 _ rfl; refine bx_ ?_; refine blk_put (cs := #[.int .i64 ((rd_T81 l0_1 x5_3).f0), .int .i64 ((rd_T81 l0_1 x5_3).f1), .int .i64 0, .int .i64 0]) ?_ 2 _ rfl; refine bx_ ?_; refine blk_put (cs := #[.int .i64 ((rd_T81 l0_1 x5_3).f0), .int .i64 0, .int .i64 0, .int .i64 0]) ?_ 1 _ rfl; refine bx_ ?_; refine blk_put (cs := #[.int .i64 0, .int .i64 0, .int .i64 0, .int .i64 0]) ?_ 0 _ rfl; refine bx_ ?_; exact BK135.out) hb); replace HB := bs2_ HB GE122 GE135 hb; (try clear hb); (try clear hb2); (try clear hk); (try clear hi)))
              go_roundg k3
              case measure => have := HJ1.out; have := HK2.out; have := HK3.out; omega
              case rel => exact ⟨(wrap64 (x5_3 + 1)), (by first | rfl | (simp; done) | (simp [*]; done)), H', ⟨by have := HJ1.out; have := HK2.out; have := HK3.out; omega⟩, ⟨by refine bx_ ?_; exact BK122.out⟩, ⟨be2_ HB GE122 GE135⟩⟩
             ·replace c90 := Bool.eq_false_iff.mpr c90
              subst c90
              have H1 : (some false) = some r := by rw [if_neg (show ¬ (false = true) by decide)] at H; exact H
              clear H
              have H := H1
              clear H1
              obtain rfl := Option.some.inj H
              have hcz97_0 : wr.cell? ⟨gb122, 0, none⟩ = some (.slice A0_0 l0_0.length c0_0) := bc_ BK122 0
              have hcz97_1 : wr.cell? ⟨gb122, 1, none⟩ = some (.slice A0_1 l0_1.length c0_1) := bc_ BK122 1
              have hfz97_0 := blk_frozen BK122.out 0
              have hfz97_1 := blk_frozen BK122.out 1
              have p134 : 0 ≤ (x5_3 : Int) := of_decide_eq_true as_
              have q134 : x5_3 < (l0_1.length : Int) := of_decide_eq_true as_
              obtain ⟨ad134, e134, hx134_0, hx134_1, hx134_2, hx134_3⟩ := at_T81 HR0_1.out x5_3 p134 q134
              cases e134
              try replace hx134_0 := ce_ HB hx134_0
              try replace hx134_1 := ce_ HB hx134_1
              try replace hx134_2 := ce_ HB hx134_2
              try replace hx134_3 := ce_ HB hx134_3
              replace p134 := eq_true p134
              replace q134 := eq_true q134
              go_wp2_with (first | ((with_reducible refine gate_dst (N := 6) rfl ?_); (try (refine gate_guard (by rfl) ?_; dsimp only)); refine box_event ?hg (N := 6) ?hd (cs := #[.int .i64 0, .int .i64 0, .int .i64 0, .int .i64 0]) (t := 81) ?hr ?_; (case hd => rfl); (case hg => rfl); (case hr => exact gs_); intro gb135 hg w98 hbox hb; have BK135 := Aside0.mk (hbox); have GW135 := hl_ hg (be1_ HB GE122); have GE135 := hl_ hg (be1_ HB GE122); replace HB := bs1_ HB GE122 hb; have NB122_135 := Aside0.mk ((by rw [hg]; exact Nat.ne_of_lt (blk_lt (bk_ BK122)) : gb122 ≠ gb135)); have NB135_122 := Aside0.mk ((by rw [hg]; exact Nat.ne_of_gt (blk_lt (bk_ BK122)) : gb135 ≠ gb122)); replace BK122 := bb_ BK122 hb; clear hb hbox hg; have hnb99 := NB135_122.out; have hnc99 := NB122_135.out; have hcz100_0 : w98.cell? ⟨gb135, 0, none⟩ = some (.int .i64 0) := bc_ BK135 0; have hcz100_1 : w98.cell? ⟨gb135, 1, none⟩ = some (.int .i64 0) := bc_ BK135 1; have hcz100_2 : w98.cell? ⟨gb135, 2, none⟩ = some (.int .i64 0) := bc_ BK135 2; have hcz100_3 : w98.cell? ⟨gb135, 3, none⟩ = some (.int .i64 0) := bc_ BK135 3; have hfz100_0 := blk_frozen BK135.out 0; have hfz100_1 := blk_frozen BK135.out 1; have hfz100_2 := blk_frozen BK135.out 2; have hfz100_3 := blk_frozen BK135.out 3; have hcz101_0 : w98.cell? ⟨gb122, 0, none⟩ = some (.slice A0_0 l0_0.length c0_0) := bc_ BK122 0; have hcz101_1 : w98.cell? ⟨gb122, 1, none⟩ = some (.slice (some ad134) l0_1.length c0_1) := bc_ BK122 1; have hfz101_0 := blk_frozen BK122.out 0; have hfz101_1 := blk_frozen BK122.out 1) | ((with_reducible refine gate_callee (f := 55) rfl ?_); refine goesL_ (some 82) rfl rfl Tryd.func55 (by kernel_rfl) rfl #[.int .i64 ((rd_T81 l0_1 x5_3).f0), .int .i64 0, .int .i64 (wrap64 ((l0_0.length : Int) - 1))] rfl ls_ ?_; (with_reducible refine (cottonpadref06_within.calls ((rd_T81 l0_1 x5_3).f0) 0 (wrap64 ((l0_0.length : Int) - 1)) true _ A85.out).mono ?_); rintro e w' ⟨rfl, ⟨nd, rfl⟩⟩; refine ⟨_, rfl, ?_⟩) | (go_at_call 55; (with_reducible refine (cottonpadref06_within.calls ((rd_T81 l0_1 x5_3).f1) 0 100000 true _ A87.out).mono ?_); rintro e w' ⟨rfl, ⟨nd, rfl⟩⟩) | (go_at_call 90; (with_reducible refine (cottonpadref06_spanned.calls ((rd_T81 l0_1 x5_3).f2.f0) ((rd_T81 l0_1 x5_3).f2.f1) 0 36000 false _ A89.out).mono ?_); rintro e w102 ⟨rfl, hb⟩; replace BK122 := Aside0.mk (blk_below (g := gb122) (o := .cells #[.slice A0_0 l0_0.length c0_0, .slice (some ad134) l0_1.length c0_1] 25 (0, 0)) (by refine bx_ ?_; refine blk_far ?_ NB122_135.out _; refine bx_ ?_; refine blk_far ?_ NB122_135.out _; refine bx_ ?_; refine blk_far ?_ NB122_135.out _; refine bx_ ?_; refine blk_far ?_ NB122_135.out _; refine bx_ ?_; exact BK122.out) hb); replace BK135 := Aside0.mk (blk_below (g := gb135) (o := .cells #[.int .i64 ((rd_T81 l0_1 x5_3).f0), .int .i64 ((rd_T81 l0_1 x5_3).f1), .int .i64 ((rd_T81 l0_1 x5_3).f2.f0), .int .i64 ((rd_T81 l0_1 x5_3).f2.f1)] 81 (0, 0)) (by refine bx_ ?_; refine blk_put (cs := #[.int .i64 ((rd_T81 l0_1 x5_3).f0), .int .i64 ((rd_T81 l0_1 x5_3).f1), .int .i64 ((rd_T81 l0_1 x5_3).f2.f0), .int .i64 0]) ?_ 3 _ rfl; refine bx_ ?_; refine blk_put (cs := #[.int .i64 ((rd_T81 l0_1 x5_3).f0), .int .i64 ((rd_T81 l0_1 x5_3).f1), .int .i64 0, .int .i64 0]) ?_ 2 _ rfl; refine bx_ ?_; refine blk_put (cs := #[.int .i64 ((rd_T81 l0_1 x5_3).f0), .int .i64 0, .int .i64 0, .int .i64 0]) ?_ 1 _ rfl; refine bx_ ?_; refine blk_put (cs := #[.int .i64 0, .int .i64 0, .int .i64 0, .int .i64 0]) ?_ 0 _ rfl; refine bx_ ?_; exact BK135.out) hb); replace HB := bs2_ HB GE122 GE135 hb; (try clear hb); (try clear hb2); (try clear hk); (try clear hi)))
              go_ret
              exact ⟨rf_, be2_ HB GE122 GE135⟩
            ·replace c88 := Bool.eq_false_iff.mpr c88
             subst c88
             have H1 : (some false) = some r := by rw [if_neg (show ¬ (false = true) by decide)] at H; exact H
             clear H
             have H := H1
             clear H1
             obtain rfl := Option.some.inj H
             have hcz103_0 : wr.cell? ⟨gb122, 0, none⟩ = some (.slice A0_0 l0_0.length c0_0) := bc_ BK122 0
             have hcz103_1 : wr.cell? ⟨gb122, 1, none⟩ = some (.slice A0_1 l0_1.length c0_1) := bc_ BK122 1
             have hfz103_0 := blk_frozen BK122.out 0
             have hfz103_1 := blk_frozen BK122.out 1
             have p134 : 0 ≤ (x5_3 : Int) := of_decide_eq_true as_
             have q134 : x5_3 < (l0_1.length : Int) := of_decide_eq_true as_
             obtain ⟨ad134, e134, hx134_0, hx134_1, hx134_2, hx134_3⟩ := at_T81 HR0_1.out x5_3 p134 q134
             cases e134
             try replace hx134_0 := ce_ HB hx134_0
             try replace hx134_1 := ce_ HB hx134_1
             try replace hx134_2 := ce_ HB hx134_2
             try replace hx134_3 := ce_ HB hx134_3
             replace p134 := eq_true p134
             replace q134 := eq_true q134
             go_wp2_with (first | ((with_reducible refine gate_dst (N := 6) rfl ?_); (try (refine gate_guard (by rfl) ?_; dsimp only)); refine box_event ?hg (N := 6) ?hd (cs := #[.int .i64 0, .int .i64 0, .int .i64 0, .int .i64 0]) (t := 81) ?hr ?_; (case hd => rfl); (case hg => rfl); (case hr => exact gs_); intro gb135 hg w104 hbox hb; have BK135 := Aside0.mk (hbox); have GW135 := hl_ hg (be1_ HB GE122); have GE135 := hl_ hg (be1_ HB GE122); replace HB := bs1_ HB GE122 hb; have NB122_135 := Aside0.mk ((by rw [hg]; exact Nat.ne_of_lt (blk_lt (bk_ BK122)) : gb122 ≠ gb135)); have NB135_122 := Aside0.mk ((by rw [hg]; exact Nat.ne_of_gt (blk_lt (bk_ BK122)) : gb135 ≠ gb122)); replace BK122 := bb_ BK122 hb; clear hb hbox hg; have hnb105 := NB135_122.out; have hnc105 := NB122_135.out; have hcz106_0 : w104.cell? ⟨gb135, 0, none⟩ = some (.int .i64 0) := bc_ BK135 0; have hcz106_1 : w104.cell? ⟨gb135, 1, none⟩ = some (.int .i64 0) := bc_ BK135 1; have hcz106_2 : w104.cell? ⟨gb135, 2, none⟩ = some (.int .i64 0) := bc_ BK135 2; have hcz106_3 : w104.cell? ⟨gb135, 3, none⟩ = some (.int .i64 0) := bc_ BK135 3; have hfz106_0 := blk_frozen BK135.out 0; have hfz106_1 := blk_frozen BK135.out 1; have hfz106_2 := blk_frozen BK135.out 2; have hfz106_3 := blk_frozen BK135.out 3; have hcz107_0 : w104.cell? ⟨gb122, 0, none⟩ = some (.slice A0_0 l0_0.length c0_0) := bc_ BK122 0; have hcz107_1 : w104.cell? ⟨gb122, 1, none⟩ = some (.slice (some ad134) l0_1.length c0_1) := bc_ BK122 1; have hfz107_0 := blk_frozen BK122.out 0; have hfz107_1 := blk_frozen BK122.out 1) | ((with_reducible refine gate_callee (f := 55) rfl ?_); refine goesL_ (some 82) rfl rfl Tryd.func55 (by kernel_rfl) rfl #[.int .i64 ((rd_T81 l0_1 x5_3).f0), .int .i64 0, .int .i64 (wrap64 ((l0_0.length : Int) - 1))] rfl ls_ ?_; (with_reducible refine (cottonpadref06_within.calls ((rd_T81 l0_1 x5_3).f0) 0 (wrap64 ((l0_0.length : Int) - 1)) true _ A85.out).mono ?_); rintro e w' ⟨rfl, ⟨nd, rfl⟩⟩; refine ⟨_, rfl, ?_⟩) | (go_at_call 55; (with_reducible refine (cottonpadref06_within.calls ((rd_T81 l0_1 x5_3).f1) 0 100000 false _ A87.out).mono ?_); rintro e w' ⟨rfl, ⟨nd, rfl⟩⟩))
             go_ret
             exact ⟨rf_, be2_ HB GE122 GE135⟩
           ·replace c86 := Bool.eq_false_iff.mpr c86
            subst c86
            have H1 : (some false) = some r := by rw [if_neg (show ¬ (false = true) by decide)] at H; exact H
            clear H
            have H := H1
            clear H1
            obtain rfl := Option.some.inj H
            have hcz108_0 : wr.cell? ⟨gb122, 0, none⟩ = some (.slice A0_0 l0_0.length c0_0) := bc_ BK122 0
            have hcz108_1 : wr.cell? ⟨gb122, 1, none⟩ = some (.slice A0_1 l0_1.length c0_1) := bc_ BK122 1
            have hfz108_0 := blk_frozen BK122.out 0
            have hfz108_1 := blk_frozen BK122.out 1
            have p134 : 0 ≤ (x5_3 : Int) := of_decide_eq_true as_
            have q134 : x5_3 < (l0_1.length : Int) := of_decide_eq_true as_
            obtain ⟨ad134, e134, hx134_0, hx134_1, hx134_2, hx134_3⟩ := at_T81 HR0_1.out x5_3 p134 q134
            cases e134
            try replace hx134_0 := ce_ HB hx134_0
            try replace hx134_1 := ce_ HB hx134_1
            try replace hx134_2 := ce_ HB hx134_2
            try replace hx134_3 := ce_ HB hx134_3
            replace p134 := eq_true p134
            replace q134 := eq_true q134
            go_wp2_with (first | ((with_reducible refine gate_dst (N := 6) rfl ?_); (try (refine gate_guard (by rfl) ?_; dsimp only)); refine box_event ?hg (N := 6) ?hd (cs := #[.int .i64 0, .int .i64 0, .int .i64 0, .int .i64 0]) (t := 81) ?hr ?_; (case hd => rfl); (case hg => rfl); (case hr => exact gs_); intro gb135 hg w109 hbox hb; have BK135 := Aside0.mk (hbox); have GW135 := hl_ hg (be1_ HB GE122); have GE135 := hl_ hg (be1_ HB GE122); replace HB := bs1_ HB GE122 hb; have NB122_135 := Aside0.mk ((by rw [hg]; exact Nat.ne_of_lt (blk_lt (bk_ BK122)) : gb122 ≠ gb135)); have NB135_122 := Aside0.mk ((by rw [hg]; exact Nat.ne_of_gt (blk_lt (bk_ BK122)) : gb135 ≠ gb122)); replace BK122 := bb_ BK122 hb; clear hb hbox hg; have hnb110 := NB135_122.out; have hnc110 := NB122_135.out; have hcz111_0 : w109.cell? ⟨gb135, 0, none⟩ = some (.int .i64 0) := bc_ BK135 0; have hcz111_1 : w109.cell? ⟨gb135, 1, none⟩ = some (.int .i64 0) := bc_ BK135 1; have hcz111_2 : w109.cell? ⟨gb135, 2, none⟩ = some (.int .i64 0) := bc_ BK135 2; have hcz111_3 : w109.cell? ⟨gb135, 3, none⟩ = some (.int .i64 0) := bc_ BK135 3; have hfz111_0 := blk_frozen BK135.out 0; have hfz111_1 := blk_frozen BK135.out 1; have hfz111_2 := blk_frozen BK135.out 2; have hfz111_3 := blk_frozen BK135.out 3; have hcz112_0 : w109.cell? ⟨gb122, 0, none⟩ = some (.slice A0_0 l0_0.length c0_0) := bc_ BK122 0; have hcz112_1 : w109.cell? ⟨gb122, 1, none⟩ = some (.slice (some ad134) l0_1.length c0_1) := bc_ BK122 1; have hfz112_0 := blk_frozen BK122.out 0; have hfz112_1 := blk_frozen BK122.out 1) | ((with_reducible refine gate_callee (f := 55) rfl ?_); refine goesL_ (some 82) rfl rfl Tryd.func55 (by kernel_rfl) rfl #[.int .i64 ((rd_T81 l0_1 x5_3).f0), .int .i64 0, .int .i64 (wrap64 ((l0_0.length : Int) - 1))] rfl ls_ ?_; (with_reducible refine (cottonpadref06_within.calls ((rd_T81 l0_1 x5_3).f0) 0 (wrap64 ((l0_0.length : Int) - 1)) false _ A85.out).mono ?_); rintro e w' ⟨rfl, ⟨nd, rfl⟩⟩; refine ⟨_, rfl, ?_⟩))
            go_ret
            exact ⟨rf_, be2_ HB GE122 GE135⟩
          ·rw [if_neg c84] at H
           exact absurd H (by simp)
         ·rw [if_neg c83] at H
          have c83b0 : decide (x5_3 < (l0_1.length : Int)) = false := decide_eq_false c83
          clear c83
          obtain rfl := Option.some.inj H
          have hcz113_0 : wr.cell? ⟨gb122, 0, none⟩ = some (.slice A0_0 l0_0.length c0_0) := bc_ BK122 0
          have hcz113_1 : wr.cell? ⟨gb122, 1, none⟩ = some (.slice A0_1 l0_1.length c0_1) := bc_ BK122 1
          have hfz113_0 := blk_frozen BK122.out 0
          have hfz113_1 := blk_frozen BK122.out 1
          go_wp2
          go_ret
          exact ⟨rf_, be1_ HB GE122⟩

end Go.Proofs.YtdeaccbolnlgpaaDoor.X

namespace Go.Proofs.YtdeaccbolnlgpaaDoor.X
open Go.RowKit Go.Proofs.YtdeaccbolnlgpaaDoorW.PrintWords Go.Proofs.YtdeaccbolnlgpaaDoorW.PrintLast Go.Proofs.YtdeaccbolnlgpaaDoorW.PrintMore
attribute [local go_sem] max2_int min2_int max_two min_two max_three min_three max_four min_four   -- for this text's walks alone
set_option linter.unusedVariables false
set_option linter.unusedSimpArgs false

/-! ### cottonpadref06_People: function 64 -/
def cottonpadref06_People.l0 : Nat → List (S48) → Int → List (S62) → List (S81) → Option (Bool)
 | 0, _, _, _, _ => none
 | k + 1, x1, x5, x140000, x140001 => if x5 < (x1.length : Int) then (if 0 ≤ x5 then ((cottonpadref06_within.f ((rd_T48 x1 x5).f0) 0 (wrap64 ((x140001.length : Int) - 1))).bind fun t141 => (if t141 = true then ((cottonpadref06_spanned.f ((rd_T48 x1 x5).f1.f0) ((rd_T48 x1 x5).f1.f1) 100 3000).bind fun t143 => (if t143 = true then ((cottonpadref06_spanned.f ((rd_T48 x1 x5).f2.f0) ((rd_T48 x1 x5).f2.f1) 0 3600).bind fun t145 => (if t145 = true then (cottonpadref06_People.l0 k x1 (wrap64 (x5 + 1)) x140000 x140001) else (some false))) else (some false))) else (some false))) else (none)) else (some true)
def cottonpadref06_People.f (k : Nat) (l0_0 : List (S62)) (l0_1 : List (S81)) (l1 : List (S48)) : Option (Bool) := if (l1.length : Int) > 24 then (some false) else (cottonpadref06_People.l0 k l1 0 l0_0 l0_1)
theorem cottonpadref06_People.mono_l : ∀ k, (∀ y0 y1 y2 y3, LeO (cottonpadref06_People.l0 k y0 y1 y2 y3) (cottonpadref06_People.l0 (k + 1) y0 y1 y2 y3))
 | 0 => fun _ _ _ _ r h => by simp [cottonpadref06_People.l0] at h
 | k + 1 => by
  have ih0 := cottonpadref06_People.mono_l k
  ·intro y0 y1 y2 y3
   unfold cottonpadref06_People.l0
   repeat' (with_reducible first | exact ih0 .. | exact LeO.refl .. | exact LeO.none .. | refine LeO.ite ?_ ?_ | refine LeO.bind ?_ (fun _ => ?_))
theorem cottonpadref06_People.mono : ∀ a0 a1 a2 k, LeO (cottonpadref06_People.f k a0 a1 a2) (cottonpadref06_People.f (k + 1) a0 a1 a2) := by
 intro a0 a1 a2 k
 have ih0 := cottonpadref06_People.mono_l k
 unfold cottonpadref06_People.f
 repeat' (with_reducible first | exact ih0 .. | exact LeO.refl .. | exact LeO.none .. | refine LeO.ite ?_ ?_ | refine LeO.bind ?_ (fun _ => ?_))
def cottonpadref06_People.T6 : Bool × List (List Nat × List Nat) := (true, [([], []), ([], []), ([0, 1], [0, 1]), ([2], [2]), ([3], [3]), ([], []), ([5], [5]), ([6], [6]), ([7], [7]), ([4, 8], [4, 8]), ([9], [9]), ([10, 9], [10]), ([11], [11]), ([11], [11]), ([12, 13, 11], [11, 12, 13]), ([14, 11], [11, 14]), ([15, 11], [11, 15]), ([16, 11, 11], [11, 16]), ([17, 11], [11, 17]), ([11, 18], [11, 18]), ([19, 17], [19]), ([20], [20]), ([20], [20]), ([21, 22, 20], [20, 21, 22]), ([23, 20], [20, 23]), ([24, 20], [20, 24]), ([25, 20, 20], [20, 25]), ([26, 20], [20, 26]), ([20, 27], [20, 27])])
def cottonpadref06_People.B6 : List Nat := [0, 0, 3, 7, 15, 0, 32, 96, 224, 511, 1023, 2047, 4095, 4095, 16383, 32767, 65535, 131071, 262143, 524287, 1048575, 2097151, 2097151, 8388607, 16777215, 33554431, 67108863, 134217727, 268435455]
theorem cottonpadref06_People.tab6 : rtab .any (opsOf Tryd.f64 6) = cottonpadref06_People.T6 := by kernel_rfl
theorem cottonpadref06_People.bits6 : waitsOk cottonpadref06_People.T6.2 cottonpadref06_People.B6 = true := by kernel_rfl
set_option maxHeartbeats 8000000 in
set_option maxRecDepth 100000 in
theorem cottonpadref06_People.calls (k : Nat) (A0_0 : Option Addr) (c0_0 : Nat) (l0_0 : List (S62)) (A0_1 : Option Addr) (c0_1 : Nat) (l0_1 : List (S81)) (A1 : Option Addr) (c1 : Nat) (l1 : List (S48)) (r : Bool) (w : World) (hr0_0 : Kd.C k62 w A0_0 l0_0.length l0_0) (hc0_0 : l0_0.length ≤ c0_0) (hr0_1 : Kd.C k81 w A0_1 l0_1.length l0_1) (hc0_1 : l0_1.length ≤ c0_1) (hr1 : Kd.C k48 w A1 l1.length l1) (hc1 : l1.length ≤ c1) (h : cottonpadref06_People.f k l0_0 l0_1 l1 = some r) :
  Calls Tryd.prog 64 #[.agg #[.slice A0_0 l0_0.length c0_0, .slice A0_1 l0_1.length c0_1], .slice A1 l1.length c1] w fun e w' => e = .returned (.bool r) ∧ Below w.heap.size w w' := by
 have hu25 := Tryd.underlying25
 have hu36 := Tryd.underlying36
 have HR0_0 := Aside0.mk hr0_0
 have HC0_0 := Aside0.mk hc0_0
 clear hr0_0 hc0_0
 have HR0_1 := Aside0.mk hr0_1
 have HC0_1 := Aside0.mk hc0_1
 clear hr0_1 hc0_1
 have HR1 := Aside0.mk hr1
 have HC1 := Aside0.mk hc1
 clear hr1 hc1
 have HB := Aside0.mk (Below.refl w.heap.size w)
 have H : (if (l1.length : Int) > 24 then (some false) else (cottonpadref06_People.l0 k l1 0 l0_0 l0_1)) = some r := h
 clear h
 by_cases c3 : (l1.length : Int) > 24
 ·rw [if_pos c3] at H
  have c3b0 : decide (24 < (l1.length : Int)) = true := decide_eq_true c3
  have c3b1 : decide (24 < l1.length) = true := decide_eq_true (by omega)
  clear c3
  obtain rfl := Option.some.inj H
  go_enter Tryd.func64, Tryd.ntmps64
  go_wp2_with (first | ((with_reducible refine gate_dst (N := 2) rfl ?_); refine box_event ?hg (N := 2) ?hd (cs := #[.slice A0_0 l0_0.length c0_0, .slice A0_1 l0_1.length c0_1]) (t := 25) ?hr ?_; (case hd => rfl); (case hg => rfl); (case hr => exact gs_); intro gb139 hg w4 hbox hb; have BK139 := Aside0.mk (hbox); have GW139 := hl_ hg (be_ HB); have GE139 := hl_ hg (be_ HB); replace HB := bs_ HB hb; clear hb hbox hg))
  go_ret
  exact ⟨rf_, be1_ HB GE139⟩
 ·rw [if_neg c3] at H
  have c3b0 : decide (24 < (l1.length : Int)) = false := decide_eq_false c3
  have c3b1 : decide (24 < l1.length) = false := decide_eq_false (by omega)
  clear c3
  have H' := Aside0.mk H
  clear H
  go_enter Tryd.func64, Tryd.ntmps64
  go_wp2_with (first | ((with_reducible refine gate_dst (N := 2) rfl ?_); refine box_event ?hg (N := 2) ?hd (cs := #[.slice A0_0 l0_0.length c0_0, .slice A0_1 l0_1.length c0_1]) (t := 25) ?hr ?_; (case hd => rfl); (case hg => rfl); (case hr => exact gs_); intro gb139 hg w5 hbox hb; have BK139 := Aside0.mk (hbox); have GW139 := hl_ hg (be_ HB); have GE139 := hl_ hg (be_ HB); replace HB := bs_ HB hb; clear hb hbox hg))
  go_loopg [5] k (fun kq v5 w' => ∃ (x5_1 : Int), v5 = .int .i64 x5_1 ∧ Aside0 (cottonpadref06_People.l0 kq l1 x5_1 l0_0 l0_1 = some r) ∧ Aside0 (kq ≤ k) ∧ Aside0 (w'.heap[gb139]? = some (.cells #[(.slice A0_0 l0_0.length c0_0), (.slice A0_1 l0_1.length c0_1)] 25 (0, 0))) ∧ Aside0 (Below w.heap.size w w'))
  case atStart => exact ⟨(0), (by first | rfl | (simp; done) | (simp [*]; done)), H', ⟨Nat.le_refl _⟩, ⟨by refine bx_ ?_; exact BK139.out⟩, ⟨be1_ HB GE139⟩⟩
  case round =>
   clear H'
   try clear c1
   try clear p2
   try clear c3
   try clear c3b0
   try clear c3b1
   obtain ⟨x5_1, rfl, HA, HK1, BK139, HB⟩ := hrel
   cases gk with
   | zero => exact absurd HA.out (by simp [cottonpadref06_People.l0])
   | succ k1 =>
    have H := HA.out
    clear HA
    simp only [cottonpadref06_People.l0] at H
    by_cases c6 : x5_1 < (l1.length : Int)
    ·rw [if_pos c6] at H
     have c6b0 : decide (x5_1 < (l1.length : Int)) = true := decide_eq_true c6
     clear c6
     by_cases c7 : 0 ≤ x5_1
     ·rw [if_pos c7] at H
      have c7b0 : decide (0 ≤ x5_1) = true := decide_eq_true c7
      clear c7
      replace H := Option.bind_eq_some_iff.mp H
      obtain ⟨t141, A80, H⟩ := H
      replace H : (if t141 = true then ((cottonpadref06_spanned.f ((rd_T48 l1 x5_1).f1.f0) ((rd_T48 l1 x5_1).f1.f1) 100 3000).bind fun t143 => (if t143 = true then ((cottonpadref06_spanned.f ((rd_T48 l1 x5_1).f2.f0) ((rd_T48 l1 x5_1).f2.f1) 0 3600).bind fun t145 => (if t145 = true then (cottonpadref06_People.l0 k1 l1 (wrap64 (x5_1 + 1)) l0_0 l0_1) else (some false))) else (some false))) else (some false)) = some r := H
      have A8 := Aside0.mk A80
      clear A80
      by_cases c9 : t141 = true
      ·subst c9
       have H1 : ((cottonpadref06_spanned.f ((rd_T48 l1 x5_1).f1.f0) ((rd_T48 l1 x5_1).f1.f1) 100 3000).bind fun t143 => (if t143 = true then ((cottonpadref06_spanned.f ((rd_T48 l1 x5_1).f2.f0) ((rd_T48 l1 x5_1).f2.f1) 0 3600).bind fun t145 => (if t145 = true then (cottonpadref06_People.l0 k1 l1 (wrap64 (x5_1 + 1)) l0_0 l0_1) else (some false))) else (some false))) = some r := by rw [if_pos rfl] at H; exact H
       clear H
       have H := H1
       clear H1
       replace H := Option.bind_eq_some_iff.mp H
       obtain ⟨t143, A100, H⟩ := H
       replace H : (if t143 = true then ((cottonpadref06_spanned.f ((rd_T48 l1 x5_1).f2.f0) ((rd_T48 l1 x5_1).f2.f1) 0 3600).bind fun t145 => (if t145 = true then (cottonpadref06_People.l0 k1 l1 (wrap64 (x5_1 + 1)) l0_0 l0_1) else (some false))) else (some false)) = some r := H
       have A10 := Aside0.mk A100
       clear A100
       by_cases c11 : t143 = true
       ·subst c11
        have H1 : ((cottonpadref06_spanned.f ((rd_T48 l1 x5_1).f2.f0) ((rd_T48 l1 x5_1).f2.f1) 0 3600).bind fun t145 => (if t145 = true then (cottonpadref06_People.l0 k1 l1 (wrap64 (x5_1 + 1)) l0_0 l0_1) else (some false))) = some r := by rw [if_pos rfl] at H; exact H
        clear H
        have H := H1
        clear H1
        replace H := Option.bind_eq_some_iff.mp H
        obtain ⟨t145, A120, H⟩ := H
        replace H : (if t145 = true then (cottonpadref06_People.l0 k1 l1 (wrap64 (x5_1 + 1)) l0_0 l0_1) else (some false)) = some r := H
        have A12 := Aside0.mk A120
        clear A120
        by_cases c13 : t145 = true
        ·subst c13
         have H1 : (cottonpadref06_People.l0 k1 l1 (wrap64 (x5_1 + 1)) l0_0 l0_1) = some r := by rw [if_pos rfl] at H; exact H
         clear H
         have H := H1
         clear H1
         have H' := Aside0.mk H
         clear H
         try go_wp2
         replace BK139 := Aside0.mk (blk_drew BK139.out)
         replace HB := Aside0.mk (below_drew1 HB.out)
         have p140 : 0 ≤ (x5_1 : Int) := of_decide_eq_true as_
         have q140 : x5_1 < (l1.length : Int) := of_decide_eq_true as_
         obtain ⟨ad140, e140, hx140_0, hx140_1, hx140_2, hx140_3, hx140_4⟩ := at_T48 HR1.out x5_1 p140 q140
         have hw140_4 := hx140_4
         have hw140_3 := hx140_3
         have hw140_2 := hx140_2
         have hw140_1 := hx140_1
         have hw140_0 := hx140_0
         cases e140
         try replace hx140_0 := ce_ HB hx140_0
         try replace hx140_1 := ce_ HB hx140_1
         try replace hx140_2 := ce_ HB hx140_2
         try replace hx140_3 := ce_ HB hx140_3
         try replace hx140_4 := ce_ HB hx140_4
         replace p140 := eq_true p140
         replace q140 := eq_true q140
         have p142 : 0 ≤ (x5_1 : Int) := of_decide_eq_true as_
         have q142 : x5_1 < (l1.length : Int) := of_decide_eq_true as_
         obtain ⟨ad142, e142, hx142_0, hx142_1, hx142_2, hx142_3, hx142_4⟩ := at_T48 HR1.out x5_1 p142 q142
         have hw142_4 := hx142_4
         have hw142_3 := hx142_3
         have hw142_2 := hx142_2
         have hw142_1 := hx142_1
         have hw142_0 := hx142_0
         obtain rfl : ad140 = ad142 := (by injection e142)
         try replace hx142_0 := ce_ HB hx142_0
         try replace hx142_1 := ce_ HB hx142_1
         try replace hx142_2 := ce_ HB hx142_2
         try replace hx142_3 := ce_ HB hx142_3
         try replace hx142_4 := ce_ HB hx142_4
         replace p142 := eq_true p142
         replace q142 := eq_true q142
         have p144 : 0 ≤ (x5_1 : Int) := of_decide_eq_true as_
         have q144 : x5_1 < (l1.length : Int) := of_decide_eq_true as_
         obtain ⟨ad144, e144, hx144_0, hx144_1, hx144_2, hx144_3, hx144_4⟩ := at_T48 HR1.out x5_1 p144 q144
         have hw144_4 := hx144_4
         have hw144_3 := hx144_3
         have hw144_2 := hx144_2
         have hw144_1 := hx144_1
         have hw144_0 := hx144_0
         obtain rfl : ad140 = ad144 := (by injection e144)
         try replace hx144_0 := ce_ HB hx144_0
         try replace hx144_1 := ce_ HB hx144_1
         try replace hx144_2 := ce_ HB hx144_2
         try replace hx144_3 := ce_ HB hx144_3
         try replace hx144_4 := ce_ HB hx144_4
         replace p144 := eq_true p144
         replace q144 := eq_true q144
         refine start_ (n := 29) (S := fun w' => w'.cell? ⟨gb139, 0, none⟩ = some (.slice A0_0 l0_0.length c0_0) ∧ w'.cell? ⟨gb139, 1, none⟩ = some (.slice A0_1 l0_1.length c0_1) ∧ w'.cell? (ad140.add ((x5_1).toNat * 5)) = some (.int .i64 ((rd_T48 l1 x5_1).f0)) ∧ w'.cell? ⟨(ad140.add ((x5_1).toNat * 5)).block, (ad140.add ((x5_1).toNat * 5)).off + 1, none⟩ = some (.int .i64 ((rd_T48 l1 x5_1).f1.f0)) ∧ w'.cell? ⟨(ad140.add ((x5_1).toNat * 5)).block, (ad140.add ((x5_1).toNat * 5)).off + 2, none⟩ = some (.int .i64 ((rd_T48 l1 x5_1).f1.f1)) ∧ w'.cell? ⟨(ad140.add ((x5_1).toNat * 5)).block, (ad140.add ((x5_1).toNat * 5)).off + 3, none⟩ = some (.int .i64 ((rd_T48 l1 x5_1).f2.f0)) ∧ w'.cell? ⟨(ad140.add ((x5_1).toNat * 5)).block, (ad140.add ((x5_1).toNat * 5)).off + 4, none⟩ = some (.int .i64 ((rd_T48 l1 x5_1).f2.f1)) ∧ w'.cell? (ad140.add ((x5_1).toNat * 5)) = some (.int .i64 ((rd_T48 l1 x5_1).f0)) ∧ w'.cell? ⟨(ad140.add ((x5_1).toNat * 5)).block, (ad140.add ((x5_1).toNat * 5)).off + 1, none⟩ = some (.int .i64 ((rd_T48 l1 x5_1).f1.f0)) ∧ w'.cell? ⟨(ad140.add ((x5_1).toNat * 5)).block, (ad140.add ((x5_1).toNat * 5)).off + 2, none⟩ = some (.int .i64 ((rd_T48 l1 x5_1).f1.f1)) ∧ w'.cell? ⟨(ad140.add ((x5_1).toNat * 5)).block, (ad140.add ((x5_1).toNat * 5)).off + 3, none⟩ = some (.int .i64 ((rd_T48 l1 x5_1).f2.f0)) ∧ w'.cell? ⟨(ad140.add ((x5_1).toNat * 5)).block, (ad140.add ((x5_1).toNat * 5)).off + 4, none⟩ = some (.int .i64 ((rd_T48 l1 x5_1).f2.f1)) ∧ w'.cell? (ad140.add ((x5_1).toNat * 5)) = some (.int .i64 ((rd_T48 l1 x5_1).f0)) ∧ w'.cell? ⟨(ad140.add ((x5_1).toNat * 5)).block, (ad140.add ((x5_1).toNat * 5)).off + 1, none⟩ = some (.int .i64 ((rd_T48 l1 x5_1).f1.f0)) ∧ w'.cell? ⟨(ad140.add ((x5_1).toNat * 5)).block, (ad140.add ((x5_1).toNat * 5)).off + 2, none⟩ = some (.int .i64 ((rd_T48 l1 x5_1).f1.f1)) ∧ w'.cell? ⟨(ad140.add ((x5_1).toNat * 5)).block, (ad140.add ((x5_1).toNat * 5)).off + 3, none⟩ = some (.int .i64 ((rd_T48 l1 x5_1).f2.f0)) ∧ w'.cell? ⟨(ad140.add ((x5_1).toNat * 5)).block, (ad140.add ((x5_1).toNat * 5)).off + 4, none⟩ = some (.int .i64 ((rd_T48 l1 x5_1).f2.f1))) (ds := []) (bm_ 29 0) (by kernel_rfl) rfl rfl ⟨bc_ BK139 0, bc_ BK139 1, (cf_ HB hw140_0), (cf_ HB hw140_1), (cf_ HB hw140_2), (cf_ HB hw140_3), (cf_ HB hw140_4), (cf_ HB hw142_0), (cf_ HB hw142_1), (cf_ HB hw142_2), (cf_ HB hw142_3), (cf_ HB hw142_4), (cf_ HB hw144_0), (cf_ HB hw144_1), (cf_ HB hw144_2), (cf_ HB hw144_3), (cf_ HB hw144_4)⟩ (fun hHeld => ?_); refine with_tabW cottonpadref06_People.tab6 cottonpadref06_People.bits6 (fun HT_ HW_ => ?_)
         generalize wr.drew = w14 at BK139 HB hx140_0 hx140_1 hx140_2 hx140_3 hx140_4 hx142_0 hx142_1 hx142_2 hx142_3 hx142_4 hx144_0 hx144_1 hx144_2 hx144_3 hx144_4 hHeld ⊢
         refine pr_ 0 15 29 1 HT_ rfl rfl ?_
         refine pr_ 1 16 29 3 HT_ rfl rfl ?_
         refine pr_ 2 17 29 7 HT_ rfl rfl ?_
         refine pr_ 3 18 29 15 HT_ rfl rfl ?_
         refine pr_ 5 20 29 47 HT_ rfl rfl ?_
         refine ta_ 4 19 29 63 HT_ HW_ rfl rfl hHeld ?_
         refine ta_ 6 21 29 127 HT_ HW_ rfl rfl hHeld ?_
         refine pr_ 7 22 29 255 HT_ rfl rfl ?_
         refine pr_ 8 23 29 511 HT_ rfl rfl ?_
         refine one_ (i := 9) (N := some 24) (bm_ 29 1023) rfl rfl (one_of HT_.out (by kernel_rfl)) (by decide) (fun K hK => ?_)
         refine goes_ Tryd.func55 (by kernel_rfl) rfl #[.int .i64 ((rd_T48 l1 x5_1).f0), .int .i64 0, .int .i64 (wrap64 ((l0_1.length : Int) - 1))] (by rfl) rfl rfl ls_ ?_
         with_reducible refine (cottonpadref06_within.calls ((rd_T48 l1 x5_1).f0) 0 (wrap64 ((l0_1.length : Int) - 1)) true _ A8.out).mono ?_
         rintro e w' ⟨rfl, ⟨nd, rfl⟩⟩
         refine ⟨_, rfl, ?_⟩
         refine hK.out _ _ ⟨bc_ BK139 0, bc_ BK139 1, (cf_ HB hw140_0), (cf_ HB hw140_1), (cf_ HB hw140_2), (cf_ HB hw140_3), (cf_ HB hw140_4), (cf_ HB hw142_0), (cf_ HB hw142_1), (cf_ HB hw142_2), (cf_ HB hw142_3), (cf_ HB hw142_4), (cf_ HB hw144_0), (cf_ HB hw144_1), (cf_ HB hw144_2), (cf_ HB hw144_3), (cf_ HB hw144_4)⟩ (fun hHeld => ?_)
         clear hK K
         refine norm_ (a' := ?_) ?_ ?_
         rotate_left
         ·show Act.put _ (some 24) _ = _
          simp only [Act.put, List.setIfInBounds_toArray, List.set_cons_zero, List.set_cons_succ, i64_w, i32_w]
          rfl
         refine pr_ 10 25 29 2047 HT_ rfl rfl ?_
         refine pr_ 11 26 29 4095 HT_ rfl rfl ?_
         refine pr_ 12 27 29 8191 HT_ rfl rfl ?_
         refine pr_ 13 28 29 16383 HT_ rfl rfl ?_
         refine pr_ 14 29 29 32767 HT_ rfl rfl ?_
         refine pr_ 15 30 29 65535 HT_ rfl rfl ?_
         refine ta_ 16 31 29 131071 HT_ HW_ rfl rfl hHeld ?_
         refine one_ (i := 17) (N := some 32) (bm_ 29 262143) rfl rfl (one_of HT_.out (by kernel_rfl)) (by decide) (fun K hK => ?_)
         refine goes_ Tryd.func90 (by kernel_rfl) rfl #[.agg #[.int .i64 ((rd_T48 l1 x5_1).f1.f0), .int .i64 ((rd_T48 l1 x5_1).f1.f1)], .int .i64 100, .int .i64 3000] (by rfl) rfl rfl ls_ ?_
         with_reducible refine (cottonpadref06_spanned.calls ((rd_T48 l1 x5_1).f1.f0) ((rd_T48 l1 x5_1).f1.f1) 100 3000 true _ A10.out).mono ?_
         rintro e w15 ⟨rfl, hb⟩
         refine ⟨_, rfl, ?_⟩
         replace BK139 := bb_ BK139 hb
         replace HB := bs1_ HB GE139 hb
         (try clear hb)
         (try clear hb2)
         (try clear hk)
         (try clear hi)
         refine hK.out _ _ ⟨bc_ BK139 0, bc_ BK139 1, (cf_ HB hw140_0), (cf_ HB hw140_1), (cf_ HB hw140_2), (cf_ HB hw140_3), (cf_ HB hw140_4), (cf_ HB hw142_0), (cf_ HB hw142_1), (cf_ HB hw142_2), (cf_ HB hw142_3), (cf_ HB hw142_4), (cf_ HB hw144_0), (cf_ HB hw144_1), (cf_ HB hw144_2), (cf_ HB hw144_3), (cf_ HB hw144_4)⟩ (fun hHeld => ?_)
         clear hK K
         refine norm_ (a' := ?_) ?_ ?_
         rotate_left
         ·show Act.put _ (some 32) _ = _
          simp only [Act.put, List.setIfInBounds_toArray, List.set_cons_zero, List.set_cons_succ, i64_w, i32_w]
          rfl
         refine pr_ 18 33 29 524287 HT_ rfl rfl ?_
         refine pr_ 19 34 29 1048575 HT_ rfl rfl ?_
         refine pr_ 20 35 29 2097151 HT_ rfl rfl ?_
         refine pr_ 21 36 29 4194303 HT_ rfl rfl ?_
         refine pr_ 22 37 29 8388607 HT_ rfl rfl ?_
         refine pr_ 23 38 29 16777215 HT_ rfl rfl ?_
         refine pr_ 24 39 29 33554431 HT_ rfl rfl ?_
         refine ta_ 25 40 29 67108863 HT_ HW_ rfl rfl hHeld ?_
         refine one_ (i := 26) (N := some 41) (bm_ 29 134217727) rfl rfl (one_of HT_.out (by kernel_rfl)) (by decide) (fun K hK => ?_)
         refine goes_ Tryd.func90 (by kernel_rfl) rfl #[.agg #[.int .i64 ((rd_T48 l1 x5_1).f2.f0), .int .i64 ((rd_T48 l1 x5_1).f2.f1)], .int .i64 0, .int .i64 3600] (by rfl) rfl rfl ls_ ?_
         with_reducible refine (cottonpadref06_spanned.calls ((rd_T48 l1 x5_1).f2.f0) ((rd_T48 l1 x5_1).f2.f1) 0 3600 true _ A12.out).mono ?_
         rintro e w16 ⟨rfl, hb⟩
         refine ⟨_, rfl, ?_⟩
         replace BK139 := bb_ BK139 hb
         replace HB := bs1_ HB GE139 hb
         (try clear hb)
         (try clear hb2)
         (try clear hk)
         (try clear hi)
         refine hK.out _ _ ⟨bc_ BK139 0, bc_ BK139 1, (cf_ HB hw140_0), (cf_ HB hw140_1), (cf_ HB hw140_2), (cf_ HB hw140_3), (cf_ HB hw140_4), (cf_ HB hw142_0), (cf_ HB hw142_1), (cf_ HB hw142_2), (cf_ HB hw142_3), (cf_ HB hw142_4), (cf_ HB hw144_0), (cf_ HB hw144_1), (cf_ HB hw144_2), (cf_ HB hw144_3), (cf_ HB hw144_4)⟩ (fun hHeld => ?_)
         clear hK K
         refine norm_ (a' := ?_) ?_ ?_
         rotate_left
         ·show Act.put _ (some 41) _ = _
          simp only [Act.put, List.setIfInBounds_toArray, List.set_cons_zero, List.set_cons_succ, i64_w, i32_w]
          rfl
         refine pr_ 27 42 29 268435455 HT_ rfl rfl ?_
         refine pr_ 28 43 29 536870911 HT_ rfl rfl ?_
         refine done_ (done_of HT_.out (by kernel_rfl)) ?_
         try go_wp2
         go_roundg k1
         case measure => have := HK1.out; omega
         case rel => exact ⟨(wrap64 (x5_1 + 1)), (by first | rfl | (simp; done) | (simp [*]; done)), H', ⟨by have := HK1.out; omega⟩, ⟨by refine bx_ ?_; exact BK139.out⟩, ⟨be1_ HB GE139⟩⟩
        ·replace c13 := Bool.eq_false_iff.mpr c13
         subst c13
         have H1 : (some false) = some r := by rw [if_neg (show ¬ (false = true) by decide)] at H; exact H
         clear H
         have H := H1
         clear H1
         obtain rfl := Option.some.inj H
         try go_wp2
         replace BK139 := Aside0.mk (blk_drew BK139.out)
         replace HB := Aside0.mk (below_drew1 HB.out)
         have p140 : 0 ≤ (x5_1 : Int) := of_decide_eq_true as_
         have q140 : x5_1 < (l1.length : Int) := of_decide_eq_true as_
         obtain ⟨ad140, e140, hx140_0, hx140_1, hx140_2, hx140_3, hx140_4⟩ := at_T48 HR1.out x5_1 p140 q140
         have hw140_4 := hx140_4
         have hw140_3 := hx140_3
         have hw140_2 := hx140_2
         have hw140_1 := hx140_1
         have hw140_0 := hx140_0
         cases e140
         try replace hx140_0 := ce_ HB hx140_0
         try replace hx140_1 := ce_ HB hx140_1
         try replace hx140_2 := ce_ HB hx140_2
         try replace hx140_3 := ce_ HB hx140_3
         try replace hx140_4 := ce_ HB hx140_4
         replace p140 := eq_true p140
         replace q140 := eq_true q140
         have p142 : 0 ≤ (x5_1 : Int) := of_decide_eq_true as_
         have q142 : x5_1 < (l1.length : Int) := of_decide_eq_true as_
         obtain ⟨ad142, e142, hx142_0, hx142_1, hx142_2, hx142_3, hx142_4⟩ := at_T48 HR1.out x5_1 p142 q142
         have hw142_4 := hx142_4
         have hw142_3 := hx142_3
         have hw142_2 := hx142_2
         have hw142_1 := hx142_1
         have hw142_0 := hx142_0
         obtain rfl : ad140 = ad142 := (by injection e142)
         try replace hx142_0 := ce_ HB hx142_0
         try replace hx142_1 := ce_ HB hx142_1
         try replace hx142_2 := ce_ HB hx142_2
         try replace hx142_3 := ce_ HB hx142_3
         try replace hx142_4 := ce_ HB hx142_4
         replace p142 := eq_true p142
         replace q142 := eq_true q142
         have p144 : 0 ≤ (x5_1 : Int) := of_decide_eq_true as_
         have q144 : x5_1 < (l1.length : Int) := of_decide_eq_true as_
         obtain ⟨ad144, e144, hx144_0, hx144_1, hx144_2, hx144_3, hx144_4⟩ := at_T48 HR1.out x5_1 p144 q144
         have hw144_4 := hx144_4
         have hw144_3 := hx144_3
         have hw144_2 := hx144_2
         have hw144_1 := hx144_1
         have hw144_0 := hx144_0
         obtain rfl : ad140 = ad144 := (by injection e144)
         try replace hx144_0 := ce_ HB hx144_0
         try replace hx144_1 := ce_ HB hx144_1
         try replace hx144_2 := ce_ HB hx144_2
         try replace hx144_3 := ce_ HB hx144_3
         try replace hx144_4 := ce_ HB hx144_4
         replace p144 := eq_true p144
         replace q144 := eq_true q144
         refine start_ (n := 29) (S := fun w' => w'.cell? ⟨gb139, 0, none⟩ = some (.slice A0_0 l0_0.length c0_0) ∧ w'.cell? ⟨gb139, 1, none⟩ = some (.slice A0_1 l0_1.length c0_1) ∧ w'.cell? (ad140.add ((x5_1).toNat * 5)) = some (.int .i64 ((rd_T48 l1 x5_1).f0)) ∧ w'.cell? ⟨(ad140.add ((x5_1).toNat * 5)).block, (ad140.add ((x5_1).toNat * 5)).off + 1, none⟩ = some (.int .i64 ((rd_T48 l1 x5_1).f1.f0)) ∧ w'.cell? ⟨(ad140.add ((x5_1).toNat * 5)).block, (ad140.add ((x5_1).toNat * 5)).off + 2, none⟩ = some (.int .i64 ((rd_T48 l1 x5_1).f1.f1)) ∧ w'.cell? ⟨(ad140.add ((x5_1).toNat * 5)).block, (ad140.add ((x5_1).toNat * 5)).off + 3, none⟩ = some (.int .i64 ((rd_T48 l1 x5_1).f2.f0)) ∧ w'.cell? ⟨(ad140.add ((x5_1).toNat * 5)).block, (ad140.add ((x5_1).toNat * 5)).off + 4, none⟩ = some (.int .i64 ((rd_T48 l1 x5_1).f2.f1)) ∧ w'.cell? (ad140.add ((x5_1).toNat * 5)) = some (.int .i64 ((rd_T48 l1 x5_1).f0)) ∧ w'.cell? ⟨(ad140.add ((x5_1).toNat * 5)).block, (ad140.add ((x5_1).toNat * 5)).off + 1, none⟩ = some (.int .i64 ((rd_T48 l1 x5_1).f1.f0)) ∧ w'.cell? ⟨(ad140.add ((x5_1).toNat * 5)).block, (ad140.add ((x5_1).toNat * 5)).off + 2, none⟩ = some (.int .i64 ((rd_T48 l1 x5_1).f1.f1)) ∧ w'.cell? ⟨(ad140.add ((x5_1).toNat * 5)).block, (ad140.add ((x5_1).toNat * 5)).off + 3, none⟩ = some (.int .i64 ((rd_T48 l1 x5_1).f2.f0)) ∧ w'.cell? ⟨(ad140.add ((x5_1).toNat * 5)).block, (ad140.add ((x5_1).toNat * 5)).off + 4, none⟩ = some (.int .i64 ((rd_T48 l1 x5_1).f2.f1)) ∧ w'.cell? (ad140.add ((x5_1).toNat * 5)) = some (.int .i64 ((rd_T48 l1 x5_1).f0)) ∧ w'.cell? ⟨(ad140.add ((x5_1).toNat * 5)).block, (ad140.add ((x5_1).toNat * 5)).off + 1, none⟩ = some (.int .i64 ((rd_T48 l1 x5_1).f1.f0)) ∧ w'.cell? ⟨(ad140.add ((x5_1).toNat * 5)).block, (ad140.add ((x5_1).toNat * 5)).off + 2, none⟩ = some (.int .i64 ((rd_T48 l1 x5_1).f1.f1)) ∧ w'.cell? ⟨(ad140.add ((x5_1).toNat * 5)).block, (ad140.add ((x5_1).toNat * 5)).off + 3, none⟩ = some (.int .i64 ((rd_T48 l1 x5_1).f2.f0)) ∧ w'.cell? ⟨(ad140.add ((x5_1).toNat * 5)).block, (ad140.add ((x5_1).toNat * 5)).off + 4, none⟩ = some (.int .i64 ((rd_T48 l1 x5_1).f2.f1))) (ds := []) (bm_ 29 0) (by kernel_rfl) rfl rfl ⟨bc_ BK139 0, bc_ BK139 1, (cf_ HB hw140_0), (cf_ HB hw140_1), (cf_ HB hw140_2), (cf_ HB hw140_3), (cf_ HB hw140_4), (cf_ HB hw142_0), (cf_ HB hw142_1), (cf_ HB hw142_2), (cf_ HB hw142_3), (cf_ HB hw142_4), (cf_ HB hw144_0), (cf_ HB hw144_1), (cf_ HB hw144_2), (cf_ HB hw144_3), (cf_ HB hw144_4)⟩ (fun hHeld => ?_); refine with_tabW cottonpadref06_People.tab6 cottonpadref06_People.bits6 (fun HT_ HW_ => ?_)
         generalize wr.drew = w17 at BK139 HB hx140_0 hx140_1 hx140_2 hx140_3 hx140_4 hx142_0 hx142_1 hx142_2 hx142_3 hx142_4 hx144_0 hx144_1 hx144_2 hx144_3 hx144_4 hHeld ⊢
         refine pr_ 0 15 29 1 HT_ rfl rfl ?_
         refine pr_ 1 16 29 3 HT_ rfl rfl ?_
         refine pr_ 2 17 29 7 HT_ rfl rfl ?_
         refine pr_ 3 18 29 15 HT_ rfl rfl ?_
         refine pr_ 5 20 29 47 HT_ rfl rfl ?_
         refine ta_ 4 19 29 63 HT_ HW_ rfl rfl hHeld ?_
         refine ta_ 6 21 29 127 HT_ HW_ rfl rfl hHeld ?_
         refine pr_ 7 22 29 255 HT_ rfl rfl ?_
         refine pr_ 8 23 29 511 HT_ rfl rfl ?_
         refine one_ (i := 9) (N := some 24) (bm_ 29 1023) rfl rfl (one_of HT_.out (by kernel_rfl)) (by decide) (fun K hK => ?_)
         refine goes_ Tryd.func55 (by kernel_rfl) rfl #[.int .i64 ((rd_T48 l1 x5_1).f0), .int .i64 0, .int .i64 (wrap64 ((l0_1.length : Int) - 1))] (by rfl) rfl rfl ls_ ?_
         with_reducible refine (cottonpadref06_within.calls ((rd_T48 l1 x5_1).f0) 0 (wrap64 ((l0_1.length : Int) - 1)) true _ A8.out).mono ?_
         rintro e w' ⟨rfl, ⟨nd, rfl⟩⟩
         refine ⟨_, rfl, ?_⟩
         refine hK.out _ _ ⟨bc_ BK139 0, bc_ BK139 1, (cf_ HB hw140_0), (cf_ HB hw140_1), (cf_ HB hw140_2), (cf_ HB hw140_3), (cf_ HB hw140_4), (cf_ HB hw142_0), (cf_ HB hw142_1), (cf_ HB hw142_2), (cf_ HB hw142_3), (cf_ HB hw142_4), (cf_ HB hw144_0), (cf_ HB hw144_1), (cf_ HB hw144_2), (cf_ HB hw144_3), (cf_ HB hw144_4)⟩ (fun hHeld => ?_)
         clear hK K
         refine norm_ (a' := ?_) ?_ ?_
         rotate_left
         ·show Act.put _ (some 24) _ = _
          simp only [Act.put, List.setIfInBounds_toArray, List.set_cons_zero, List.set_cons_succ, i64_w, i32_w]
          rfl
         refine pr_ 10 25 29 2047 HT_ rfl rfl ?_
         refine pr_ 11 26 29 4095 HT_ rfl rfl ?_
         refine pr_ 12 27 29 8191 HT_ rfl rfl ?_
         refine pr_ 13 28 29 16383 HT_ rfl rfl ?_
         refine pr_ 14 29 29 32767 HT_ rfl rfl ?_
         refine pr_ 15 30 29 65535 HT_ rfl rfl ?_
         refine ta_ 16 31 29 131071 HT_ HW_ rfl rfl hHeld ?_
         refine one_ (i := 17) (N := some 32) (bm_ 29 262143) rfl rfl (one_of HT_.out (by kernel_rfl)) (by decide) (fun K hK => ?_)
         refine goes_ Tryd.func90 (by kernel_rfl) rfl #[.agg #[.int .i64 ((rd_T48 l1 x5_1).f1.f0), .int .i64 ((rd_T48 l1 x5_1).f1.f1)], .int .i64 100, .int .i64 3000] (by rfl) rfl rfl ls_ ?_
         with_reducible refine (cottonpadref06_spanned.calls ((rd_T48 l1 x5_1).f1.f0) ((rd_T48 l1 x5_1).f1.f1) 100 3000 true _ A10.out).mono ?_
         rintro e w18 ⟨rfl, hb⟩
         refine ⟨_, rfl, ?_⟩
         replace BK139 := bb_ BK139 hb
         replace HB := bs1_ HB GE139 hb
         (try clear hb)
         (try clear hb2)
         (try clear hk)
         (try clear hi)
         refine hK.out _ _ ⟨bc_ BK139 0, bc_ BK139 1, (cf_ HB hw140_0), (cf_ HB hw140_1), (cf_ HB hw140_2), (cf_ HB hw140_3), (cf_ HB hw140_4), (cf_ HB hw142_0), (cf_ HB hw142_1), (cf_ HB hw142_2), (cf_ HB hw142_3), (cf_ HB hw142_4), (cf_ HB hw144_0), (cf_ HB hw144_1), (cf_ HB hw144_2), (cf_ HB hw144_3), (cf_ HB hw144_4)⟩ (fun hHeld => ?_)
         clear hK K
         refine norm_ (a' := ?_) ?_ ?_
         rotate_left
         ·show Act.put _ (some 32) _ = _
          simp only [Act.put, List.setIfInBounds_toArray, List.set_cons_zero, List.set_cons_succ, i64_w, i32_w]
          rfl
         refine pr_ 18 33 29 524287 HT_ rfl rfl ?_
         refine pr_ 19 34 29 1048575 HT_ rfl rfl ?_
         refine pr_ 20 35 29 2097151 HT_ rfl rfl ?_
         refine pr_ 21 36 29 4194303 HT_ rfl rfl ?_
         refine pr_ 22 37 29 8388607 HT_ rfl rfl ?_
         refine pr_ 23 38 29 16777215 HT_ rfl rfl ?_
         refine pr_ 24 39 29 33554431 HT_ rfl rfl ?_
         refine ta_ 25 40 29 67108863 HT_ HW_ rfl rfl hHeld ?_
         refine one_ (i := 26) (N := some 41) (bm_ 29 134217727) rfl rfl (one_of HT_.out (by kernel_rfl)) (by decide) (fun K hK => ?_)
         refine goes_ Tryd.func90 (by kernel_rfl) rfl #[.agg #[.int .i64 ((rd_T48 l1 x5_1).f2.f0), .int .i64 ((rd_T48 l1 x5_1).f2.f1)], .int .i64 0, .int .i64 3600] (by rfl) rfl rfl ls_ ?_
         with_reducible refine (cottonpadref06_spanned.calls ((rd_T48 l1 x5_1).f2.f0) ((rd_T48 l1 x5_1).f2.f1) 0 3600 false _ A12.out).mono ?_
         rintro e w19 ⟨rfl, hb⟩
         refine ⟨_, rfl, ?_⟩
         replace BK139 := bb_ BK139 hb
         replace HB := bs1_ HB GE139 hb
         (try clear hb)
         (try clear hb2)
         (try clear hk)
         (try clear hi)
         refine hK.out _ _ ⟨bc_ BK139 0, bc_ BK139 1, (cf_ HB hw140_0), (cf_ HB hw140_1), (cf_ HB hw140_2), (cf_ HB hw140_3), (cf_ HB hw140_4), (cf_ HB hw142_0), (cf_ HB hw142_1), (cf_ HB hw142_2), (cf_ HB hw142_3), (cf_ HB hw142_4), (cf_ HB hw144_0), (cf_ HB hw144_1), (cf_ HB hw144_2), (cf_ HB hw144_3), (cf_ HB hw144_4)⟩ (fun hHeld => ?_)
         clear hK K
         refine norm_ (a' := ?_) ?_ ?_
         rotate_left
         ·show Act.put _ (some 41) _ = _
          simp only [Act.put, List.setIfInBounds_toArray, List.set_cons_zero, List.set_cons_succ, i64_w, i32_w]
          rfl
         refine pr_ 27 42 29 268435455 HT_ rfl rfl ?_
         refine pr_ 28 43 29 536870911 HT_ rfl rfl ?_
         refine done_ (done_of HT_.out (by kernel_rfl)) ?_
         try go_wp2
         go_ret
         exact ⟨rf_, be1_ HB GE139⟩
       ·replace c11 := Bool.eq_false_iff.mpr c11
        subst c11
        have H1 : (some false) = some r := by rw [if_neg (show ¬ (false = true) by decide)] at H; exact H
        clear H
        have H := H1
        clear H1
        obtain rfl := Option.some.inj H
        try go_wp2
        replace BK139 := Aside0.mk (blk_drew BK139.out)
        replace HB := Aside0.mk (below_drew1 HB.out)
        have p140 : 0 ≤ (x5_1 : Int) := of_decide_eq_true as_
        have q140 : x5_1 < (l1.length : Int) := of_decide_eq_true as_
        obtain ⟨ad140, e140, hx140_0, hx140_1, hx140_2, hx140_3, hx140_4⟩ := at_T48 HR1.out x5_1 p140 q140
        have hw140_4 := hx140_4
        have hw140_3 := hx140_3
        have hw140_2 := hx140_2
        have hw140_1 := hx140_1
        have hw140_0 := hx140_0
        cases e140
        try replace hx140_0 := ce_ HB hx140_0
        try replace hx140_1 := ce_ HB hx140_1
        try replace hx140_2 := ce_ HB hx140_2
        try replace hx140_3 := ce_ HB hx140_3
        try replace hx140_4 := ce_ HB hx140_4
        replace p140 := eq_true p140
        replace q140 := eq_true q140
        have p142 : 0 ≤ (x5_1 : Int) := of_decide_eq_true as_
        have q142 : x5_1 < (l1.length : Int) := of_decide_eq_true as_
        obtain ⟨ad142, e142, hx142_0, hx142_1, hx142_2, hx142_3, hx142_4⟩ := at_T48 HR1.out x5_1 p142 q142
        have hw142_4 := hx142_4
        have hw142_3 := hx142_3
        have hw142_2 := hx142_2
        have hw142_1 := hx142_1
        have hw142_0 := hx142_0
        obtain rfl : ad140 = ad142 := (by injection e142)
        try replace hx142_0 := ce_ HB hx142_0
        try replace hx142_1 := ce_ HB hx142_1
        try replace hx142_2 := ce_ HB hx142_2
        try replace hx142_3 := ce_ HB hx142_3
        try replace hx142_4 := ce_ HB hx142_4
        replace p142 := eq_true p142
        replace q142 := eq_true q142
        refine start_ (n := 29) (S := fun w' => w'.cell? ⟨gb139, 0, none⟩ = some (.slice A0_0 l0_0.length c0_0) ∧ w'.cell? ⟨gb139, 1, none⟩ = some (.slice A0_1 l0_1.length c0_1) ∧ w'.cell? (ad140.add ((x5_1).toNat * 5)) = some (.int .i64 ((rd_T48 l1 x5_1).f0)) ∧ w'.cell? ⟨(ad140.add ((x5_1).toNat * 5)).block, (ad140.add ((x5_1).toNat * 5)).off + 1, none⟩ = some (.int .i64 ((rd_T48 l1 x5_1).f1.f0)) ∧ w'.cell? ⟨(ad140.add ((x5_1).toNat * 5)).block, (ad140.add ((x5_1).toNat * 5)).off + 2, none⟩ = some (.int .i64 ((rd_T48 l1 x5_1).f1.f1)) ∧ w'.cell? ⟨(ad140.add ((x5_1).toNat * 5)).block, (ad140.add ((x5_1).toNat * 5)).off + 3, none⟩ = some (.int .i64 ((rd_T48 l1 x5_1).f2.f0)) ∧ w'.cell? ⟨(ad140.add ((x5_1).toNat * 5)).block, (ad140.add ((x5_1).toNat * 5)).off + 4, none⟩ = some (.int .i64 ((rd_T48 l1 x5_1).f2.f1)) ∧ w'.cell? (ad140.add ((x5_1).toNat * 5)) = some (.int .i64 ((rd_T48 l1 x5_1).f0)) ∧ w'.cell? ⟨(ad140.add ((x5_1).toNat * 5)).block, (ad140.add ((x5_1).toNat * 5)).off + 1, none⟩ = some (.int .i64 ((rd_T48 l1 x5_1).f1.f0)) ∧ w'.cell? ⟨(ad140.add ((x5_1).toNat * 5)).block, (ad140.add ((x5_1).toNat * 5)).off + 2, none⟩ = some (.int .i64 ((rd_T48 l1 x5_1).f1.f1)) ∧ w'.cell? ⟨(ad140.add ((x5_1).toNat * 5)).block, (ad140.add ((x5_1).toNat * 5)).off + 3, none⟩ = some (.int .i64 ((rd_T48 l1 x5_1).f2.f0)) ∧ w'.cell? ⟨(ad140.add ((x5_1).toNat * 5)).block, (ad140.add ((x5_1).toNat * 5)).off + 4, none⟩ = some (.int .i64 ((rd_T48 l1 x5_1).f2.f1))) (ds := []) (bm_ 29 0) (by kernel_rfl) rfl rfl ⟨bc_ BK139 0, bc_ BK139 1, (cf_ HB hw140_0), (cf_ HB hw140_1), (cf_ HB hw140_2), (cf_ HB hw140_3), (cf_ HB hw140_4), (cf_ HB hw142_0), (cf_ HB hw142_1), (cf_ HB hw142_2), (cf_ HB hw142_3), (cf_ HB hw142_4)⟩ (fun hHeld => ?_); refine with_tabW cottonpadref06_People.tab6 cottonpadref06_People.bits6 (fun HT_ HW_ => ?_)
        generalize wr.drew = w20 at BK139 HB hx140_0 hx140_1 hx140_2 hx140_3 hx140_4 hx142_0 hx142_1 hx142_2 hx142_3 hx142_4 hHeld ⊢
        refine pr_ 0 15 29 1 HT_ rfl rfl ?_
        refine pr_ 1 16 29 3 HT_ rfl rfl ?_
        refine pr_ 2 17 29 7 HT_ rfl rfl ?_
        refine pr_ 3 18 29 15 HT_ rfl rfl ?_
        refine pr_ 5 20 29 47 HT_ rfl rfl ?_
        refine ta_ 4 19 29 63 HT_ HW_ rfl rfl hHeld ?_
        refine ta_ 6 21 29 127 HT_ HW_ rfl rfl hHeld ?_
        refine pr_ 7 22 29 255 HT_ rfl rfl ?_
        refine pr_ 8 23 29 511 HT_ rfl rfl ?_
        refine one_ (i := 9) (N := some 24) (bm_ 29 1023) rfl rfl (one_of HT_.out (by kernel_rfl)) (by decide) (fun K hK => ?_)
        refine goes_ Tryd.func55 (by kernel_rfl) rfl #[.int .i64 ((rd_T48 l1 x5_1).f0), .int .i64 0, .int .i64 (wrap64 ((l0_1.length : Int) - 1))] (by rfl) rfl rfl ls_ ?_
        with_reducible refine (cottonpadref06_within.calls ((rd_T48 l1 x5_1).f0) 0 (wrap64 ((l0_1.length : Int) - 1)) true _ A8.out).mono ?_
        rintro e w' ⟨rfl, ⟨nd, rfl⟩⟩
        refine ⟨_, rfl, ?_⟩
        refine hK.out _ _ ⟨bc_ BK139 0, bc_ BK139 1, (cf_ HB hw140_0), (cf_ HB hw140_1), (cf_ HB hw140_2), (cf_ HB hw140_3), (cf_ HB hw140_4), (cf_ HB hw142_0), (cf_ HB hw142_1), (cf_ HB hw142_2), (cf_ HB hw142_3), (cf_ HB hw142_4)⟩ (fun hHeld => ?_)
        clear hK K
        refine norm_ (a' := ?_) ?_ ?_
        rotate_left
        ·show Act.put _ (some 24) _ = _
         simp only [Act.put, List.setIfInBounds_toArray, List.set_cons_zero, List.set_cons_succ, i64_w, i32_w]
         rfl
        refine pr_ 10 25 29 2047 HT_ rfl rfl ?_
        refine pr_ 11 26 29 4095 HT_ rfl rfl ?_
        refine pr_ 12 27 29 8191 HT_ rfl rfl ?_
        refine pr_ 13 28 29 16383 HT_ rfl rfl ?_
        refine pr_ 14 29 29 32767 HT_ rfl rfl ?_
        refine pr_ 15 30 29 65535 HT_ rfl rfl ?_
        refine ta_ 16 31 29 131071 HT_ HW_ rfl rfl hHeld ?_
        refine one_ (i := 17) (N := some 32) (bm_ 29 262143) rfl rfl (one_of HT_.out (by kernel_rfl)) (by decide) (fun K hK => ?_)
        refine goes_ Tryd.func90 (by kernel_rfl) rfl #[.agg #[.int .i64 ((rd_T48 l1 x5_1).f1.f0), .int .i64 ((rd_T48 l1 x5_1).f1.f1)], .int .i64 100, .int .i64 3000] (by rfl) rfl rfl ls_ ?_
        with_reducible refine (cottonpadref06_spanned.calls ((rd_T48 l1 x5_1).f1.f0) ((rd_T48 l1 x5_1).f1.f1) 100 3000 false _ A10.out).mono ?_
        rintro e w21 ⟨rfl, hb⟩
        refine ⟨_, rfl, ?_⟩
        replace BK139 := bb_ BK139 hb
        replace HB := bs1_ HB GE139 hb
        (try clear hb)
        (try clear hb2)
        (try clear hk)
        (try clear hi)
        refine hK.out _ _ ⟨bc_ BK139 0, bc_ BK139 1, (cf_ HB hw140_0), (cf_ HB hw140_1), (cf_ HB hw140_2), (cf_ HB hw140_3), (cf_ HB hw140_4), (cf_ HB hw142_0), (cf_ HB hw142_1), (cf_ HB hw142_2), (cf_ HB hw142_3), (cf_ HB hw142_4)⟩ (fun hHeld => ?_)
        clear hK K
        refine norm_ (a' := ?_) ?_ ?_
        rotate_left
        ·show Act.put _ (some 32) _ = _
         simp only [Act.put, List.setIfInBounds_toArray, List.set_cons_zero, List.set_cons_succ, i64_w, i32_w]
         rfl
        refine pr_ 18 33 29 524287 HT_ rfl rfl ?_
        refine pr_ 19 34 29 1048575 HT_ rfl rfl ?_
        refine pr_ 20 35 29 2097151 HT_ rfl rfl ?_
        refine pn_ 21 36 29 4194303 HT_ rfl rfl ?_
        refine pn_ 22 37 29 8388607 HT_ rfl rfl ?_
        refine pn_ 23 38 29 16777215 HT_ rfl rfl ?_
        refine pn_ 24 39 29 33554431 HT_ rfl rfl ?_
        refine pn_ 25 40 29 67108863 HT_ rfl rfl ?_
        refine pn_ 26 41 29 134217727 HT_ rfl rfl ?_
        refine pn_ 27 42 29 268435455 HT_ rfl rfl ?_
        refine pr_ 28 43 29 536870911 HT_ rfl rfl ?_
        refine done_ (done_of HT_.out (by kernel_rfl)) ?_
        try go_wp2
        go_ret
        exact ⟨rf_, be1_ HB GE139⟩
      ·replace c9 := Bool.eq_false_iff.mpr c9
       subst c9
       have H1 : (some false) = some r := by rw [if_neg (show ¬ (false = true) by decide)] at H; exact H
       clear H
       have H := H1
       clear H1
       obtain rfl := Option.some.inj H
       try go_wp2
       replace BK139 := Aside0.mk (blk_drew BK139.out)
       replace HB := Aside0.mk (below_drew1 HB.out)
       have p140 : 0 ≤ (x5_1 : Int) := of_decide_eq_true as_
       have q140 : x5_1 < (l1.length : Int) := of_decide_eq_true as_
       obtain ⟨ad140, e140, hx140_0, hx140_1, hx140_2, hx140_3, hx140_4⟩ := at_T48 HR1.out x5_1 p140 q140
       have hw140_4 := hx140_4
       have hw140_3 := hx140_3
       have hw140_2 := hx140_2
       have hw140_1 := hx140_1
       have hw140_0 := hx140_0
       cases e140
       try replace hx140_0 := ce_ HB hx140_0
       try replace hx140_1 := ce_ HB hx140_1
       try replace hx140_2 := ce_ HB hx140_2
       try replace hx140_3 := ce_ HB hx140_3
       try replace hx140_4 := ce_ HB hx140_4
       replace p140 := eq_true p140
       replace q140 := eq_true q140
       refine start_ (n := 29) (S := fun w' => w'.cell? ⟨gb139, 0, none⟩ = some (.slice A0_0 l0_0.length c0_0) ∧ w'.cell? ⟨gb139, 1, none⟩ = some (.slice A0_1 l0_1.length c0_1) ∧ w'.cell? (ad140.add ((x5_1).toNat * 5)) = some (.int .i64 ((rd_T48 l1 x5_1).f0)) ∧ w'.cell? ⟨(ad140.add ((x5_1).toNat * 5)).block, (ad140.add ((x5_1).toNat * 5)).off + 1, none⟩ = some (.int .i64 ((rd_T48 l1 x5_1).f1.f0)) ∧ w'.cell? ⟨(ad140.add ((x5_1).toNat * 5)).block, (ad140.add ((x5_1).toNat * 5)).off + 2, none⟩ = some (.int .i64 ((rd_T48 l1 x5_1).f1.f1)) ∧ w'.cell? ⟨(ad140.add ((x5_1).toNat * 5)).block, (ad140.add ((x5_1).toNat * 5)).off + 3, none⟩ = some (.int .i64 ((rd_T48 l1 x5_1).f2.f0)) ∧ w'.cell? ⟨(ad140.add ((x5_1).toNat * 5)).block, (ad140.add ((x5_1).toNat * 5)).off + 4, none⟩ = some (.int .i64 ((rd_T48 l1 x5_1).f2.f1))) (ds := []) (bm_ 29 0) (by kernel_rfl) rfl rfl ⟨bc_ BK139 0, bc_ BK139 1, (cf_ HB hw140_0), (cf_ HB hw140_1), (cf_ HB hw140_2), (cf_ HB hw140_3), (cf_ HB hw140_4)⟩ (fun hHeld => ?_); refine with_tabW cottonpadref06_People.tab6 cottonpadref06_People.bits6 (fun HT_ HW_ => ?_)
       generalize wr.drew = w22 at BK139 HB hx140_0 hx140_1 hx140_2 hx140_3 hx140_4 hHeld ⊢
       refine pr_ 0 15 29 1 HT_ rfl rfl ?_
       refine pr_ 1 16 29 3 HT_ rfl rfl ?_
       refine pr_ 2 17 29 7 HT_ rfl rfl ?_
       refine pr_ 3 18 29 15 HT_ rfl rfl ?_
       refine pr_ 5 20 29 47 HT_ rfl rfl ?_
       refine ta_ 4 19 29 63 HT_ HW_ rfl rfl hHeld ?_
       refine ta_ 6 21 29 127 HT_ HW_ rfl rfl hHeld ?_
       refine pr_ 7 22 29 255 HT_ rfl rfl ?_
       refine pr_ 8 23 29 511 HT_ rfl rfl ?_
       refine one_ (i := 9) (N := some 24) (bm_ 29 1023) rfl rfl (one_of HT_.out (by kernel_rfl)) (by decide) (fun K hK => ?_)
       refine goes_ Tryd.func55 (by kernel_rfl) rfl #[.int .i64 ((rd_T48 l1 x5_1).f0), .int .i64 0, .int .i64 (wrap64 ((l0_1.length : Int) - 1))] (by rfl) rfl rfl ls_ ?_
       with_reducible refine (cottonpadref06_within.calls ((rd_T48 l1 x5_1).f0) 0 (wrap64 ((l0_1.length : Int) - 1)) false _ A8.out).mono ?_
       rintro e w' ⟨rfl, ⟨nd, rfl⟩⟩
       refine ⟨_, rfl, ?_⟩
       refine hK.out _ _ ⟨bc_ BK139 0, bc_ BK139 1, (cf_ HB hw140_0), (cf_ HB hw140_1), (cf_ HB hw140_2), (cf_ HB hw140_3), (cf_ HB hw140_4)⟩ (fun hHeld => ?_)
       clear hK K
       refine norm_ (a' := ?_) ?_ ?_
       rotate_left
       ·show Act.put _ (some 24) _ = _
        simp only [Act.put, List.setIfInBounds_toArray, List.set_cons_zero, List.set_cons_succ, i64_w, i32_w]
        rfl
       refine pr_ 10 25 29 2047 HT_ rfl rfl ?_
       refine pr_ 11 26 29 4095 HT_ rfl rfl ?_
       refine pn_ 12 27 29 8191 HT_ rfl rfl ?_
       refine pn_ 13 28 29 16383 HT_ rfl rfl ?_
       refine pn_ 14 29 29 32767 HT_ rfl rfl ?_
       refine pn_ 15 30 29 65535 HT_ rfl rfl ?_
       refine pn_ 16 31 29 131071 HT_ rfl rfl ?_
       refine pn_ 17 32 29 262143 HT_ rfl rfl ?_
       refine pn_ 18 33 29 524287 HT_ rfl rfl ?_
       refine pr_ 19 34 29 1048575 HT_ rfl rfl ?_
       refine pr_ 20 35 29 2097151 HT_ rfl rfl ?_
       refine pn_ 21 36 29 4194303 HT_ rfl rfl ?_
       refine pn_ 22 37 29 8388607 HT_ rfl rfl ?_
       refine pn_ 23 38 29 16777215 HT_ rfl rfl ?_
       refine pn_ 24 39 29 33554431 HT_ rfl rfl ?_
       refine pn_ 25 40 29 67108863 HT_ rfl rfl ?_
       refine pn_ 26 41 29 134217727 HT_ rfl rfl ?_
       refine pn_ 27 42 29 268435455 HT_ rfl rfl ?_
       refine pr_ 28 43 29 536870911 HT_ rfl rfl ?_
       refine done_ (done_of HT_.out (by kernel_rfl)) ?_
       try go_wp2
       go_ret
       exact ⟨rf_, be1_ HB GE139⟩
     ·rw [if_neg c7] at H
      exact absurd H (by simp)
    ·rw [if_neg c6] at H
     have c6b0 : decide (x5_1 < (l1.length : Int)) = false := decide_eq_false c6
     clear c6
     obtain rfl := Option.some.inj H
     go_wp2
     go_ret
     exact ⟨rf_, be1_ HB GE139⟩

end Go.Proofs.YtdeaccbolnlgpaaDoor.X

namespace Go.Proofs.YtdeaccbolnlgpaaDoor.X
open Go.RowKit Go.Proofs.YtdeaccbolnlgpaaDoorW.PrintWords Go.Proofs.YtdeaccbolnlgpaaDoorW.PrintLast Go.Proofs.YtdeaccbolnlgpaaDoorW.PrintMore
attribute [local go_sem] max2_int min2_int max_two min_two max_three min_three max_four min_four   -- for this text's walks alone
set_option linter.unusedVariables false
set_option linter.unusedSimpArgs false

/-! ### cottonpadref06_Check: function 22 -/
def cottonpadref06_Check.f (k : Nat) (l0_0 : List (S62)) (l0_1 : List (S81)) (l1 : List (S48)) : Option (Int) := (cottonpadref06_Building.f k l0_0 l0_1).bind fun t147 => (if t147 = true then ((cottonpadref06_People.f k l0_0 l0_1 l1).bind fun t148 => (if t148 = true then (some 0) else (some 61))) else (some 60))
theorem cottonpadref06_Check.mono : ∀ a0 a1 a2 k, LeO (cottonpadref06_Check.f k a0 a1 a2) (cottonpadref06_Check.f (k + 1) a0 a1 a2) := by
 intro a0 a1 a2 k
 unfold cottonpadref06_Check.f
 repeat' (with_reducible first | exact cottonpadref06_Building.mono .. | exact cottonpadref06_People.mono .. | exact LeO.refl .. | exact LeO.none .. | refine LeO.ite ?_ ?_ | refine LeO.bind ?_ (fun _ => ?_))
set_option maxHeartbeats 8000000 in
set_option maxRecDepth 100000 in
theorem cottonpadref06_Check.calls (k : Nat) (A0_0 : Option Addr) (c0_0 : Nat) (l0_0 : List (S62)) (A0_1 : Option Addr) (c0_1 : Nat) (l0_1 : List (S81)) (A1 : Option Addr) (c1 : Nat) (l1 : List (S48)) (r : Int) (w : World) (hr0_0 : Kd.C k62 w A0_0 l0_0.length l0_0) (hc0_0 : l0_0.length ≤ c0_0) (hr0_1 : Kd.C k81 w A0_1 l0_1.length l0_1) (hc0_1 : l0_1.length ≤ c0_1) (hr1 : Kd.C k48 w A1 l1.length l1) (hc1 : l1.length ≤ c1) (h : cottonpadref06_Check.f k l0_0 l0_1 l1 = some r) :
  Calls Tryd.prog 22 #[.agg #[.slice A0_0 l0_0.length c0_0, .slice A0_1 l0_1.length c0_1], .slice A1 l1.length c1] w fun e w' => e = .returned (.int .i64 r) ∧ Below w.heap.size w w' := by
 have hu25 := Tryd.underlying25
 have HR0_0 := Aside0.mk hr0_0
 have HC0_0 := Aside0.mk hc0_0
 clear hr0_0 hc0_0
 have HR0_1 := Aside0.mk hr0_1
 have HC0_1 := Aside0.mk hc0_1
 clear hr0_1 hc0_1
 have HR1 := Aside0.mk hr1
 have HC1 := Aside0.mk hc1
 clear hr1 hc1
 have HB := Aside0.mk (Below.refl w.heap.size w)
 have H : ((cottonpadref06_Building.f k l0_0 l0_1).bind fun t147 => (if t147 = true then ((cottonpadref06_People.f k l0_0 l0_1 l1).bind fun t148 => (if t148 = true then (some 0) else (some 61))) else (some 60))) = some r := h
 clear h
 replace H := Option.bind_eq_some_iff.mp H
 obtain ⟨t147, A30, H⟩ := H
 replace H : (if t147 = true then ((cottonpadref06_People.f k l0_0 l0_1 l1).bind fun t148 => (if t148 = true then (some 0) else (some 61))) else (some 60)) = some r := H
 have A3 := Aside0.mk A30
 clear A30
 by_cases c4 : t147 = true
 ·subst c4
  have H1 : ((cottonpadref06_People.f k l0_0 l0_1 l1).bind fun t148 => (if t148 = true then (some 0) else (some 61))) = some r := by rw [if_pos rfl] at H; exact H
  clear H
  have H := H1
  clear H1
  replace H := Option.bind_eq_some_iff.mp H
  obtain ⟨t148, A50, H⟩ := H
  replace H : (if t148 = true then (some 0) else (some 61)) = some r := H
  have A5 := Aside0.mk A50
  clear A50
  by_cases c6 : t148 = true
  ·subst c6
   have H1 : (some 0) = some r := by rw [if_pos rfl] at H; exact H
   clear H
   have H := H1
   clear H1
   obtain rfl := Option.some.inj H
   go_enter Tryd.func22, Tryd.ntmps22
   go_wp2_with (first | ((with_reducible refine gate_dst (N := 2) rfl ?_); refine box_event ?hg (N := 2) ?hd (cs := #[.slice A0_0 l0_0.length c0_0, .slice A0_1 l0_1.length c0_1]) (t := 25) ?hr ?_; (case hd => rfl); (case hg => rfl); (case hr => exact gs_); intro gb146 hg w7 hbox hb; have BK146 := Aside0.mk (hbox); have GW146 := hl_ hg (be_ HB); have GE146 := hl_ hg (be_ HB); replace HB := bs_ HB hb; clear hb hbox hg; have hcz8_0 : w7.cell? ⟨gb146, 0, none⟩ = some (.slice A0_0 l0_0.length c0_0) := bc_ BK146 0; have hcz8_1 : w7.cell? ⟨gb146, 1, none⟩ = some (.slice A0_1 l0_1.length c0_1) := bc_ BK146 1; have hfz8_0 := blk_frozen BK146.out 0; have hfz8_1 := blk_frozen BK146.out 1) | ((with_reducible refine gate_callee (f := 63) rfl ?_); refine goesL_ (some 6) rfl rfl Tryd.func63 (by kernel_rfl) rfl #[.agg #[.slice A0_0 l0_0.length c0_0, .slice A0_1 l0_1.length c0_1]] rfl ls_ ?_; (with_reducible refine (cottonpadref06_Building.calls k _ _ l0_0 _ _ l0_1 true _ ?side1 ?side2 ?side3 ?side4 A3.out).mono ?_); (case side1 => exact kc_ HR0_0 HB); (case side2 => exact HC0_0.out); (case side3 => exact kc_ HR0_1 HB); (case side4 => exact HC0_1.out); rintro e w9 ⟨rfl, hb⟩; refine ⟨_, rfl, ?_⟩; replace BK146 := bb_ BK146 hb; replace HB := bs1_ HB GE146 hb; (try clear hb); (try clear hb2); (try clear hk); (try clear hi); have hcz10_0 : w9.cell? ⟨gb146, 0, none⟩ = some (.slice A0_0 l0_0.length c0_0) := bc_ BK146 0; have hcz10_1 : w9.cell? ⟨gb146, 1, none⟩ = some (.slice A0_1 l0_1.length c0_1) := bc_ BK146 1; have hfz10_0 := blk_frozen BK146.out 0; have hfz10_1 := blk_frozen BK146.out 1) | ((with_reducible refine gate_callee (f := 64) rfl ?_); refine goesL_ (some 10) rfl rfl Tryd.func64 (by kernel_rfl) rfl #[.agg #[.slice A0_0 l0_0.length c0_0, .slice A0_1 l0_1.length c0_1], .slice A1 l1.length c1] rfl ls_ ?_; (with_reducible refine (cottonpadref06_People.calls k _ _ l0_0 _ _ l0_1 _ _ l1 true _ ?side1 ?side2 ?side3 ?side4 ?side5 ?side6 A5.out).mono ?_); (case side1 => exact kc_ HR0_0 HB); (case side2 => exact HC0_0.out); (case side3 => exact kc_ HR0_1 HB); (case side4 => exact HC0_1.out); (case side5 => exact kc_ HR1 HB); (case side6 => exact HC1.out); rintro e w11 ⟨rfl, hb⟩; refine ⟨_, rfl, ?_⟩; replace BK146 := bb_ BK146 hb; replace HB := bs1_ HB GE146 hb; (try clear hb); (try clear hb2); (try clear hk); (try clear hi)))
   go_ret
   exact ⟨rf_, be1_ HB GE146⟩
  ·replace c6 := Bool.eq_false_iff.mpr c6
   subst c6
   have H1 : (some 61) = some r := by rw [if_neg (show ¬ (false = true) by decide)] at H; exact H
   clear H
   have H := H1
   clear H1
   obtain rfl := Option.some.inj H
   go_enter Tryd.func22, Tryd.ntmps22
   go_wp2_with (first | ((with_reducible refine gate_dst (N := 2) rfl ?_); refine box_event ?hg (N := 2) ?hd (cs := #[.slice A0_0 l0_0.length c0_0, .slice A0_1 l0_1.length c0_1]) (t := 25) ?hr ?_; (case hd => rfl); (case hg => rfl); (case hr => exact gs_); intro gb146 hg w12 hbox hb; have BK146 := Aside0.mk (hbox); have GW146 := hl_ hg (be_ HB); have GE146 := hl_ hg (be_ HB); replace HB := bs_ HB hb; clear hb hbox hg; have hcz13_0 : w12.cell? ⟨gb146, 0, none⟩ = some (.slice A0_0 l0_0.length c0_0) := bc_ BK146 0; have hcz13_1 : w12.cell? ⟨gb146, 1, none⟩ = some (.slice A0_1 l0_1.length c0_1) := bc_ BK146 1; have hfz13_0 := blk_frozen BK146.out 0; have hfz13_1 := blk_frozen BK146.out 1) | ((with_reducible refine gate_callee (f := 63) rfl ?_); refine goesL_ (some 6) rfl rfl Tryd.func63 (by kernel_rfl) rfl #[.agg #[.slice A0_0 l0_0.length c0_0, .slice A0_1 l0_1.length c0_1]] rfl ls_ ?_; (with_reducible refine (cottonpadref06_Building.calls k _ _ l0_0 _ _ l0_1 true _ ?side1 ?side2 ?side3 ?side4 A3.out).mono ?_); (case side1 => exact kc_ HR0_0 HB); (case side2 => exact HC0_0.out); (case side3 => exact kc_ HR0_1 HB); (case side4 => exact HC0_1.out); rintro e w14 ⟨rfl, hb⟩; refine ⟨_, rfl, ?_⟩; replace BK146 := bb_ BK146 hb; replace HB := bs1_ HB GE146 hb; (try clear hb); (try clear hb2); (try clear hk); (try clear hi); have hcz15_0 : w14.cell? ⟨gb146, 0, none⟩ = some (.slice A0_0 l0_0.length c0_0) := bc_ BK146 0; have hcz15_1 : w14.cell? ⟨gb146, 1, none⟩ = some (.slice A0_1 l0_1.length c0_1) := bc_ BK146 1; have hfz15_0 := blk_frozen BK146.out 0; have hfz15_1 := blk_frozen BK146.out 1) | ((with_reducible refine gate_callee (f := 64) rfl ?_); refine goesL_ (some 10) rfl rfl Tryd.func64 (by kernel_rfl) rfl #[.agg #[.slice A0_0 l0_0.length c0_0, .slice A0_1 l0_1.length c0_1], .slice A1 l1.length c1] rfl ls_ ?_; (with_reducible refine (cottonpadref06_People.calls k _ _ l0_0 _ _ l0_1 _ _ l1 false _ ?side1 ?side2 ?side3 ?side4 ?side5 ?side6 A5.out).mono ?_); (case side1 => exact kc_ HR0_0 HB); (case side2 => exact HC0_0.out); (case side3 => exact kc_ HR0_1 HB); (case side4 => exact HC0_1.out); (case side5 => exact kc_ HR1 HB); (case side6 => exact HC1.out); rintro e w16 ⟨rfl, hb⟩; refine ⟨_, rfl, ?_⟩; replace BK146 := bb_ BK146 hb; replace HB := bs1_ HB GE146 hb; (try clear hb); (try clear hb2); (try clear hk); (try clear hi)))
   go_ret
   exact ⟨rf_, be1_ HB GE146⟩
 ·replace c4 := Bool.eq_false_iff.mpr c4
  subst c4
  have H1 : (some 60) = some r := by rw [if_neg (show ¬ (false = true) by decide)] at H; exact H
  clear H
  have H := H1
  clear H1
  obtain rfl := Option.some.inj H
  go_enter Tryd.func22, Tryd.ntmps22
  go_wp2_with (first | ((with_reducible refine gate_dst (N := 2) rfl ?_); refine box_event ?hg (N := 2) ?hd (cs := #[.slice A0_0 l0_0.length c0_0, .slice A0_1 l0_1.length c0_1]) (t := 25) ?hr ?_; (case hd => rfl); (case hg => rfl); (case hr => exact gs_); intro gb146 hg w17 hbox hb; have BK146 := Aside0.mk (hbox); have GW146 := hl_ hg (be_ HB); have GE146 := hl_ hg (be_ HB); replace HB := bs_ HB hb; clear hb hbox hg; have hcz18_0 : w17.cell? ⟨gb146, 0, none⟩ = some (.slice A0_0 l0_0.length c0_0) := bc_ BK146 0; have hcz18_1 : w17.cell? ⟨gb146, 1, none⟩ = some (.slice A0_1 l0_1.length c0_1) := bc_ BK146 1; have hfz18_0 := blk_frozen BK146.out 0; have hfz18_1 := blk_frozen BK146.out 1) | ((with_reducible refine gate_callee (f := 63) rfl ?_); refine goesL_ (some 6) rfl rfl Tryd.func63 (by kernel_rfl) rfl #[.agg #[.slice A0_0 l0_0.length c0_0, .slice A0_1 l0_1.length c0_1]] rfl ls_ ?_; (with_reducible refine (cottonpadref06_Building.calls k _ _ l0_0 _ _ l0_1 false _ ?side1 ?side2 ?side3 ?side4 A3.out).mono ?_); (case side1 => exact kc_ HR0_0 HB); (case side2 => exact HC0_0.out); (case side3 => exact kc_ HR0_1 HB); (case side4 => exact HC0_1.out); rintro e w19 ⟨rfl, hb⟩; refine ⟨_, rfl, ?_⟩; replace BK146 := bb_ BK146 hb; replace HB := bs1_ HB GE146 hb; (try clear hb); (try clear hb2); (try clear hk); (try clear hi)))
  go_ret
  exact ⟨rf_, be1_ HB GE146⟩

end Go.Proofs.YtdeaccbolnlgpaaDoor.X

namespace Go.Proofs.YtdeaccbolnlgpaaDoor.X
open Go.RowKit Go.Proofs.YtdeaccbolnlgpaaDoorW.PrintWords Go.Proofs.YtdeaccbolnlgpaaDoorW.PrintLast Go.Proofs.YtdeaccbolnlgpaaDoorW.PrintMore
attribute [local go_sem] max2_int min2_int max_two min_two max_three min_three max_four min_four   -- for this text's walks alone
set_option linter.unusedVariables false
set_option linter.unusedSimpArgs false

/-! ### cottonpadlaw06_ready: function 36 -/
def cottonpadlaw06_ready.f (k : Nat) (l0_0 : List (S62)) (l0_1 : List (S81)) (l1 : List (S48)) : Option (Bool) := (cottonpadref06_Great.f l0_0 l0_1 l1).bind fun t625 => (if t625 = true then (some false) else ((cottonpadref06_Check.f k l0_0 l0_1 l1).bind fun t626 => (some (t626 == 0))))
theorem cottonpadlaw06_ready.mono : ∀ a0 a1 a2 k, LeO (cottonpadlaw06_ready.f k a0 a1 a2) (cottonpadlaw06_ready.f (k + 1) a0 a1 a2) := by
 intro a0 a1 a2 k
 unfold cottonpadlaw06_ready.f
 repeat' (with_reducible first | exact cottonpadref06_Check.mono .. | exact LeO.refl .. | exact LeO.none .. | refine LeO.ite ?_ ?_ | refine LeO.bind ?_ (fun _ => ?_))
set_option maxHeartbeats 8000000 in
set_option maxRecDepth 100000 in
theorem cottonpadlaw06_ready.calls (k : Nat) (A0_0 : Option Addr) (c0_0 : Nat) (l0_0 : List (S62)) (A0_1 : Option Addr) (c0_1 : Nat) (l0_1 : List (S81)) (A1 : Option Addr) (c1 : Nat) (l1 : List (S48)) (r : Bool) (w : World) (hr0_0 : Kd.C k62 w A0_0 l0_0.length l0_0) (hc0_0 : l0_0.length ≤ c0_0) (hr0_1 : Kd.C k81 w A0_1 l0_1.length l0_1) (hc0_1 : l0_1.length ≤ c0_1) (hr1 : Kd.C k48 w A1 l1.length l1) (hc1 : l1.length ≤ c1) (h : cottonpadlaw06_ready.f k l0_0 l0_1 l1 = some r) :
  Calls Tryd.prog 36 #[.agg #[.slice A0_0 l0_0.length c0_0, .slice A0_1 l0_1.length c0_1], .slice A1 l1.length c1] w fun e w' => e = .returned (.bool r) ∧ Below w.heap.size w w' := by
 have hu25 := Tryd.underlying25
 have HR0_0 := Aside0.mk hr0_0
 have HC0_0 := Aside0.mk hc0_0
 clear hr0_0 hc0_0
 have HR0_1 := Aside0.mk hr0_1
 have HC0_1 := Aside0.mk hc0_1
 clear hr0_1 hc0_1
 have HR1 := Aside0.mk hr1
 have HC1 := Aside0.mk hc1
 clear hr1 hc1
 have HB := Aside0.mk (Below.refl w.heap.size w)
 have H : ((cottonpadref06_Great.f l0_0 l0_1 l1).bind fun t625 => (if t625 = true then (some false) else ((cottonpadref06_Check.f k l0_0 l0_1 l1).bind fun t626 => (some (t626 == 0))))) = some r := h
 clear h
 replace H := Option.bind_eq_some_iff.mp H
 obtain ⟨t625, A30, H⟩ := H
 replace H : (if t625 = true then (some false) else ((cottonpadref06_Check.f k l0_0 l0_1 l1).bind fun t626 => (some (t626 == 0)))) = some r := H
 have A3 := Aside0.mk A30
 clear A30
 by_cases c4 : t625 = true
 ·subst c4
  have H1 : (some false) = some r := by rw [if_pos rfl] at H; exact H
  clear H
  have H := H1
  clear H1
  obtain rfl := Option.some.inj H
  go_enter Tryd.func36, Tryd.ntmps36
  go_wp2_with (first | ((with_reducible refine gate_dst (N := 2) rfl ?_); refine box_event ?hg (N := 2) ?hd (cs := #[.slice A0_0 l0_0.length c0_0, .slice A0_1 l0_1.length c0_1]) (t := 25) ?hr ?_; (case hd => rfl); (case hg => rfl); (case hr => exact gs_); intro gb624 hg w5 hbox hb; have BK624 := Aside0.mk (hbox); have GW624 := hl_ hg (be_ HB); have GE624 := hl_ hg (be_ HB); replace HB := bs_ HB hb; clear hb hbox hg; have hcz6_0 : w5.cell? ⟨gb624, 0, none⟩ = some (.slice A0_0 l0_0.length c0_0) := bc_ BK624 0; have hcz6_1 : w5.cell? ⟨gb624, 1, none⟩ = some (.slice A0_1 l0_1.length c0_1) := bc_ BK624 1; have hfz6_0 := blk_frozen BK624.out 0; have hfz6_1 := blk_frozen BK624.out 1) | ((with_reducible refine gate_callee (f := 15) rfl ?_); refine goesL_ (some 7) rfl rfl Tryd.func15 (by kernel_rfl) rfl #[.agg #[.slice A0_0 l0_0.length c0_0, .slice A0_1 l0_1.length c0_1], .slice A1 l1.length c1] rfl ls_ ?_; (with_reducible refine (cottonpadref06_Great.calls _ _ l0_0 _ _ l0_1 _ _ l1 true _ ?side1 ?side2 ?side3 ?side4 ?side5 ?side6 A3.out).mono ?_); (case side1 => exact kc_ HR0_0 HB); (case side2 => exact HC0_0.out); (case side3 => exact kc_ HR0_1 HB); (case side4 => exact HC0_1.out); (case side5 => exact kc_ HR1 HB); (case side6 => exact HC1.out); rintro e w7 ⟨rfl, hb⟩; refine ⟨_, rfl, ?_⟩; replace BK624 := bb_ BK624 hb; replace HB := bs1_ HB GE624 hb; (try clear hb); (try clear hb2); (try clear hk); (try clear hi)))
  go_ret
  exact ⟨rf_, be1_ HB GE624⟩
 ·replace c4 := Bool.eq_false_iff.mpr c4
  subst c4
  have H1 : ((cottonpadref06_Check.f k l0_0 l0_1 l1).bind fun t626 => (some (t626 == 0))) = some r := by rw [if_neg (show ¬ (false = true) by decide)] at H; exact H
  clear H
  have H := H1
  clear H1
  replace H := Option.bind_eq_some_iff.mp H
  obtain ⟨t626, A80, H⟩ := H
  replace H : (some (t626 == 0)) = some r := H
  have A8 := Aside0.mk A80
  clear A80
  obtain rfl := Option.some.inj H
  go_enter Tryd.func36, Tryd.ntmps36
  go_wp2_with (first | ((with_reducible refine gate_dst (N := 2) rfl ?_); refine box_event ?hg (N := 2) ?hd (cs := #[.slice A0_0 l0_0.length c0_0, .slice A0_1 l0_1.length c0_1]) (t := 25) ?hr ?_; (case hd => rfl); (case hg => rfl); (case hr => exact gs_); intro gb624 hg w9 hbox hb; have BK624 := Aside0.mk (hbox); have GW624 := hl_ hg (be_ HB); have GE624 := hl_ hg (be_ HB); replace HB := bs_ HB hb; clear hb hbox hg; have hcz10_0 : w9.cell? ⟨gb624, 0, none⟩ = some (.slice A0_0 l0_0.length c0_0) := bc_ BK624 0; have hcz10_1 : w9.cell? ⟨gb624, 1, none⟩ = some (.slice A0_1 l0_1.length c0_1) := bc_ BK624 1; have hfz10_0 := blk_frozen BK624.out 0; have hfz10_1 := blk_frozen BK624.out 1) | ((with_reducible refine gate_callee (f := 15) rfl ?_); refine goesL_ (some 7) rfl rfl Tryd.func15 (by kernel_rfl) rfl #[.agg #[.slice A0_0 l0_0.length c0_0, .slice A0_1 l0_1.length c0_1], .slice A1 l1.length c1] rfl ls_ ?_; (with_reducible refine (cottonpadref06_Great.calls _ _ l0_0 _ _ l0_1 _ _ l1 false _ ?side1 ?side2 ?side3 ?side4 ?side5 ?side6 A3.out).mono ?_); (case side1 => exact kc_ HR0_0 HB); (case side2 => exact HC0_0.out); (case side3 => exact kc_ HR0_1 HB); (case side4 => exact HC0_1.out); (case side5 => exact kc_ HR1 HB); (case side6 => exact HC1.out); rintro e w11 ⟨rfl, hb⟩; refine ⟨_, rfl, ?_⟩; replace BK624 := bb_ BK624 hb; replace HB := bs1_ HB GE624 hb; (try clear hb); (try clear hb2); (try clear hk); (try clear hi); have hcz12_0 : w11.cell? ⟨gb624, 0, none⟩ = some (.slice A0_0 l0_0.length c0_0) := bc_ BK624 0; have hcz12_1 : w11.cell? ⟨gb624, 1, none⟩ = some (.slice A0_1 l0_1.length c0_1) := bc_ BK624 1; have hfz12_0 := blk_frozen BK624.out 0; have hfz12_1 := blk_frozen BK624.out 1) | (go_at_call 22; (with_reducible refine (cottonpadref06_Check.calls k _ _ l0_0 _ _ l0_1 _ _ l1 t626 _ ?side1 ?side2 ?side3 ?side4 ?side5 ?side6 A8.out).mono ?_); (case side1 => exact kc_ HR0_0 HB); (case side2 => exact HC0_0.out); (case side3 => exact kc_ HR0_1 HB); (case side4 => exact HC0_1.out); (case side5 => exact kc_ HR1 HB); (case side6 => exact HC1.out); rintro e w13 ⟨rfl, hb⟩; replace BK624 := bb_ BK624 hb; replace HB := bs1_ HB GE624 hb; (try clear hb); (try clear hb2); (try clear hk); (try clear hi)))
  go_ret
  exact ⟨rf_, be1_ HB GE624⟩

end Go.Proofs.YtdeaccbolnlgpaaDoor.X
