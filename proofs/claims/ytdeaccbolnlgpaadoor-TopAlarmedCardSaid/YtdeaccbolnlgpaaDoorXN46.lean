import Derived.Test.YtdeaccbolnlgpaaDoorX0
namespace Go.Proofs.YtdeaccbolnlgpaaDoor.X
open Go.RowKit Go.Proofs.YtdeaccbolnlgpaaDoorW.PrintWords Go.Proofs.YtdeaccbolnlgpaaDoorW.PrintLast Go.Proofs.YtdeaccbolnlgpaaDoorW.PrintMore
attribute [local go_sem] max2_int min2_int max_two min_two max_three min_three max_four min_four   -- for this text's walks alone
set_option linter.unusedVariables false
set_option linter.unusedSimpArgs false

/-! ### cottonpadref05_within: function 76 -/
def cottonpadref05_within.f (a0 : Int) (a1 : Int) (a2 : Int) : Option (Bool) := if a0 ≥ a1 then (some (decide (a0 ≤ a2))) else (some false)
set_option maxHeartbeats 8000000 in
set_option maxRecDepth 100000 in
theorem cottonpadref05_within.calls (a0 : Int) (a1 : Int) (a2 : Int) (r : Bool) (w : World) (h : cottonpadref05_within.f a0 a1 a2 = some r) :
  Calls Tryd.prog 76 #[.int .i64 a0, .int .i64 a1, .int .i64 a2] w fun e w' => e = .returned (.bool r) ∧ Drawn0 w w' := by
 have H : (if a0 ≥ a1 then (some (decide (a0 ≤ a2))) else (some false)) = some r := h
 clear h
 by_cases c4 : a0 ≥ a1
 ·rw [if_pos c4] at H
  have c4b0 : decide (a1 ≤ a0) = true := decide_eq_true c4
  clear c4
  obtain rfl := Option.some.inj H
  go_enter Tryd.func76, Tryd.ntmps76
  go_wp2
  go_ret
  exact ⟨by first | rfl | (simp; done) | (simp [*]; done), by repeat (first | exact Drawn0.refl _ | apply Drawn0.step)⟩
 ·rw [if_neg c4] at H
  have c4b0 : decide (a1 ≤ a0) = false := decide_eq_false c4
  clear c4
  obtain rfl := Option.some.inj H
  go_enter Tryd.func76, Tryd.ntmps76
  go_wp2
  go_ret
  exact ⟨by first | rfl | (simp; done) | (simp [*]; done), by repeat (first | exact Drawn0.refl _ | apply Drawn0.step)⟩

end Go.Proofs.YtdeaccbolnlgpaaDoor.X

namespace Go.Proofs.YtdeaccbolnlgpaaDoor.X
open Go.RowKit Go.Proofs.YtdeaccbolnlgpaaDoorW.PrintWords Go.Proofs.YtdeaccbolnlgpaaDoorW.PrintLast Go.Proofs.YtdeaccbolnlgpaaDoorW.PrintMore
attribute [local go_sem] max2_int min2_int max_two min_two max_three min_three max_four min_four   -- for this text's walks alone
set_option linter.unusedVariables false
set_option linter.unusedSimpArgs false

/-! ### cottonpadref05_spanned: function 77 -/
def cottonpadref05_spanned.f (a0_0 : Int) (a0_1 : Int) (a1 : Int) (a2 : Int) : Option (Bool) := if a0_0 ≥ a1 then (if a0_0 ≤ a0_1 then (some (decide (a0_1 ≤ a2))) else (some false)) else (some false)
set_option maxHeartbeats 8000000 in
set_option maxRecDepth 100000 in
theorem cottonpadref05_spanned.calls (a0_0 : Int) (a0_1 : Int) (a1 : Int) (a2 : Int) (r : Bool) (w : World) (h : cottonpadref05_spanned.f a0_0 a0_1 a1 a2 = some r) :
  Calls Tryd.prog 77 #[.agg #[.int .i64 a0_0, .int .i64 a0_1], .int .i64 a1, .int .i64 a2] w fun e w' => e = .returned (.bool r) ∧ Below w.heap.size w w' := by
 have hu36 := Tryd.underlying36
 have HB := Aside0.mk (Below.refl w.heap.size w)
 have H : (if a0_0 ≥ a1 then (if a0_0 ≤ a0_1 then (some (decide (a0_1 ≤ a2))) else (some false)) else (some false)) = some r := h
 clear h
 by_cases c4 : a0_0 ≥ a1
 ·rw [if_pos c4] at H
  have c4b0 : decide (a1 ≤ a0_0) = true := decide_eq_true c4
  clear c4
  by_cases c5 : a0_0 ≤ a0_1
  ·rw [if_pos c5] at H
   have c5b0 : decide (a0_0 ≤ a0_1) = true := decide_eq_true c5
   clear c5
   obtain rfl := Option.some.inj H
   go_enter Tryd.func77, Tryd.ntmps77
   go_wp2_with (first | ((with_reducible refine gate_dst (N := 3) rfl ?_); refine box_event ?hg (N := 3) ?hd (cs := #[.int .i64 a0_0, .int .i64 a0_1]) (t := 36) ?hr ?_; (case hd => rfl); (case hg => rfl); (case hr => exact gs_); intro gb1136 hg w6 hbox hb; have BK1136 := Aside0.mk (hbox); have GW1136 := hl_ hg (be_ HB); have GE1136 := hl_ hg (be_ HB); replace HB := bs_ HB hb; clear hb hbox hg; have hcz7_0 : w6.cell? ⟨gb1136, 0, none⟩ = some (.int .i64 a0_0) := bc_ BK1136 0; have hcz7_1 : w6.cell? ⟨gb1136, 1, none⟩ = some (.int .i64 a0_1) := bc_ BK1136 1; have hfz7_0 := blk_frozen BK1136.out 0; have hfz7_1 := blk_frozen BK1136.out 1))
   go_ret
   exact ⟨rf_, be1_ HB GE1136⟩
  ·rw [if_neg c5] at H
   have c5b0 : decide (a0_0 ≤ a0_1) = false := decide_eq_false c5
   clear c5
   obtain rfl := Option.some.inj H
   go_enter Tryd.func77, Tryd.ntmps77
   go_wp2_with (first | ((with_reducible refine gate_dst (N := 3) rfl ?_); refine box_event ?hg (N := 3) ?hd (cs := #[.int .i64 a0_0, .int .i64 a0_1]) (t := 36) ?hr ?_; (case hd => rfl); (case hg => rfl); (case hr => exact gs_); intro gb1136 hg w8 hbox hb; have BK1136 := Aside0.mk (hbox); have GW1136 := hl_ hg (be_ HB); have GE1136 := hl_ hg (be_ HB); replace HB := bs_ HB hb; clear hb hbox hg; have hcz9_0 : w8.cell? ⟨gb1136, 0, none⟩ = some (.int .i64 a0_0) := bc_ BK1136 0; have hcz9_1 : w8.cell? ⟨gb1136, 1, none⟩ = some (.int .i64 a0_1) := bc_ BK1136 1; have hfz9_0 := blk_frozen BK1136.out 0; have hfz9_1 := blk_frozen BK1136.out 1))
   go_ret
   exact ⟨rf_, be1_ HB GE1136⟩
 ·rw [if_neg c4] at H
  have c4b0 : decide (a1 ≤ a0_0) = false := decide_eq_false c4
  clear c4
  obtain rfl := Option.some.inj H
  go_enter Tryd.func77, Tryd.ntmps77
  go_wp2_with (first | ((with_reducible refine gate_dst (N := 3) rfl ?_); refine box_event ?hg (N := 3) ?hd (cs := #[.int .i64 a0_0, .int .i64 a0_1]) (t := 36) ?hr ?_; (case hd => rfl); (case hg => rfl); (case hr => exact gs_); intro gb1136 hg w10 hbox hb; have BK1136 := Aside0.mk (hbox); have GW1136 := hl_ hg (be_ HB); have GE1136 := hl_ hg (be_ HB); replace HB := bs_ HB hb; clear hb hbox hg; have hcz11_0 : w10.cell? ⟨gb1136, 0, none⟩ = some (.int .i64 a0_0) := bc_ BK1136 0; have hcz11_1 : w10.cell? ⟨gb1136, 1, none⟩ = some (.int .i64 a0_1) := bc_ BK1136 1; have hfz11_0 := blk_frozen BK1136.out 0; have hfz11_1 := blk_frozen BK1136.out 1))
  go_ret
  exact ⟨rf_, be1_ HB GE1136⟩

end Go.Proofs.YtdeaccbolnlgpaaDoor.X

namespace Go.Proofs.YtdeaccbolnlgpaaDoor.X
open Go.RowKit Go.Proofs.YtdeaccbolnlgpaaDoorW.PrintWords Go.Proofs.YtdeaccbolnlgpaaDoorW.PrintLast Go.Proofs.YtdeaccbolnlgpaaDoorW.PrintMore
attribute [local go_sem] max2_int min2_int max_two min_two max_three min_three max_four min_four   -- for this text's walks alone
set_option linter.unusedVariables false
set_option linter.unusedSimpArgs false

/-! ### cottonpadref05_Bulb: function 46 -/
def cottonpadref05_Bulb.f (a0_0 : Int) (a0_1 : Int) (a0_2 : Int) (a0_3 : Int) (a0_4 : Int) (a0_5 : Int) (a0_6 : Int) (a0_7 : Int) : Option (Bool) := (cottonpadref05_within.f a0_0 0 9999).bind fun t1138 => (if t1138 = true then ((cottonpadref05_within.f a0_2 1 500).bind fun t1139 => (if t1139 = true then ((cottonpadref05_within.f a0_3 0 100000).bind fun t1140 => (if t1140 = true then ((cottonpadref05_spanned.f a0_4 a0_5 0 2000).bind fun t1141 => (if t1141 = true then ((cottonpadref05_spanned.f a0_6 a0_7 0 10).bind fun t1142 => (some t1142)) else (some false))) else (some false))) else (some false))) else (some false))
set_option maxHeartbeats 8000000 in
set_option maxRecDepth 100000 in
theorem cottonpadref05_Bulb.calls (a0_0 : Int) (a0_1 : Int) (a0_2 : Int) (a0_3 : Int) (a0_4 : Int) (a0_5 : Int) (a0_6 : Int) (a0_7 : Int) (r : Bool) (w : World) (h : cottonpadref05_Bulb.f a0_0 a0_1 a0_2 a0_3 a0_4 a0_5 a0_6 a0_7 = some r) :
  Calls Tryd.prog 46 #[.agg #[.int .i64 a0_0, .int .i64 a0_1, .int .i64 a0_2, .int .i64 a0_3, .int .i64 a0_4, .int .i64 a0_5, .int .i64 a0_6, .int .i64 a0_7]] w fun e w' => e = .returned (.bool r) ∧ Below w.heap.size w w' := by
 have hu90 := Tryd.underlying90
 have hu36 := Tryd.underlying36
 have HB := Aside0.mk (Below.refl w.heap.size w)
 have H : ((cottonpadref05_within.f a0_0 0 9999).bind fun t1138 => (if t1138 = true then ((cottonpadref05_within.f a0_2 1 500).bind fun t1139 => (if t1139 = true then ((cottonpadref05_within.f a0_3 0 100000).bind fun t1140 => (if t1140 = true then ((cottonpadref05_spanned.f a0_4 a0_5 0 2000).bind fun t1141 => (if t1141 = true then ((cottonpadref05_spanned.f a0_6 a0_7 0 10).bind fun t1142 => (some t1142)) else (some false))) else (some false))) else (some false))) else (some false))) = some r := h
 clear h
 replace H := Option.bind_eq_some_iff.mp H
 obtain ⟨t1138, A20, H⟩ := H
 replace H : (if t1138 = true then ((cottonpadref05_within.f a0_2 1 500).bind fun t1139 => (if t1139 = true then ((cottonpadref05_within.f a0_3 0 100000).bind fun t1140 => (if t1140 = true then ((cottonpadref05_spanned.f a0_4 a0_5 0 2000).bind fun t1141 => (if t1141 = true then ((cottonpadref05_spanned.f a0_6 a0_7 0 10).bind fun t1142 => (some t1142)) else (some false))) else (some false))) else (some false))) else (some false)) = some r := H
 have A2 := Aside0.mk A20
 clear A20
 by_cases c3 : t1138 = true
 ·subst c3
  have H1 : ((cottonpadref05_within.f a0_2 1 500).bind fun t1139 => (if t1139 = true then ((cottonpadref05_within.f a0_3 0 100000).bind fun t1140 => (if t1140 = true then ((cottonpadref05_spanned.f a0_4 a0_5 0 2000).bind fun t1141 => (if t1141 = true then ((cottonpadref05_spanned.f a0_6 a0_7 0 10).bind fun t1142 => (some t1142)) else (some false))) else (some false))) else (some false))) = some r := by rw [if_pos rfl] at H; exact H
  clear H
  have H := H1
  clear H1
  replace H := Option.bind_eq_some_iff.mp H
  obtain ⟨t1139, A40, H⟩ := H
  replace H : (if t1139 = true then ((cottonpadref05_within.f a0_3 0 100000).bind fun t1140 => (if t1140 = true then ((cottonpadref05_spanned.f a0_4 a0_5 0 2000).bind fun t1141 => (if t1141 = true then ((cottonpadref05_spanned.f a0_6 a0_7 0 10).bind fun t1142 => (some t1142)) else (some false))) else (some false))) else (some false)) = some r := H
  have A4 := Aside0.mk A40
  clear A40
  by_cases c5 : t1139 = true
  ·subst c5
   have H1 : ((cottonpadref05_within.f a0_3 0 100000).bind fun t1140 => (if t1140 = true then ((cottonpadref05_spanned.f a0_4 a0_5 0 2000).bind fun t1141 => (if t1141 = true then ((cottonpadref05_spanned.f a0_6 a0_7 0 10).bind fun t1142 => (some t1142)) else (some false))) else (some false))) = some r := by rw [if_pos rfl] at H; exact H
   clear H
   have H := H1
   clear H1
   replace H := Option.bind_eq_some_iff.mp H
   obtain ⟨t1140, A60, H⟩ := H
   replace H : (if t1140 = true then ((cottonpadref05_spanned.f a0_4 a0_5 0 2000).bind fun t1141 => (if t1141 = true then ((cottonpadref05_spanned.f a0_6 a0_7 0 10).bind fun t1142 => (some t1142)) else (some false))) else (some false)) = some r := H
   have A6 := Aside0.mk A60
   clear A60
   by_cases c7 : t1140 = true
   ·subst c7
    have H1 : ((cottonpadref05_spanned.f a0_4 a0_5 0 2000).bind fun t1141 => (if t1141 = true then ((cottonpadref05_spanned.f a0_6 a0_7 0 10).bind fun t1142 => (some t1142)) else (some false))) = some r := by rw [if_pos rfl] at H; exact H
    clear H
    have H := H1
    clear H1
    replace H := Option.bind_eq_some_iff.mp H
    obtain ⟨t1141, A80, H⟩ := H
    replace H : (if t1141 = true then ((cottonpadref05_spanned.f a0_6 a0_7 0 10).bind fun t1142 => (some t1142)) else (some false)) = some r := H
    have A8 := Aside0.mk A80
    clear A80
    by_cases c9 : t1141 = true
    ·subst c9
     have H1 : ((cottonpadref05_spanned.f a0_6 a0_7 0 10).bind fun t1142 => (some t1142)) = some r := by rw [if_pos rfl] at H; exact H
     clear H
     have H := H1
     clear H1
     replace H := Option.bind_eq_some_iff.mp H
     obtain ⟨t1142, A100, H⟩ := H
     replace H : (some t1142) = some r := H
     have A10 := Aside0.mk A100
     clear A100
     obtain rfl := Option.some.inj H
     go_enter Tryd.func46, Tryd.ntmps46
     go_wp2_with (first | ((with_reducible refine gate_dst (N := 1) rfl ?_); refine box_event ?hg (N := 1) ?hd (cs := #[.int .i64 a0_0, .int .i64 a0_1, .int .i64 a0_2, .int .i64 a0_3, .int .i64 a0_4, .int .i64 a0_5, .int .i64 a0_6, .int .i64 a0_7]) (t := 90) ?hr ?_; (case hd => rfl); (case hg => rfl); (case hr => exact gs_); intro gb1137 hg w11 hbox hb; have BK1137 := Aside0.mk (hbox); have GW1137 := hl_ hg (be_ HB); have GE1137 := hl_ hg (be_ HB); replace HB := bs_ HB hb; clear hb hbox hg; have hcz12_0 : w11.cell? ⟨gb1137, 0, none⟩ = some (.int .i64 a0_0) := bc_ BK1137 0; have hcz12_1 : w11.cell? ⟨gb1137, 1, none⟩ = some (.int .i64 a0_1) := bc_ BK1137 1; have hcz12_2 : w11.cell? ⟨gb1137, 2, none⟩ = some (.int .i64 a0_2) := bc_ BK1137 2; have hcz12_3 : w11.cell? ⟨gb1137, 3, none⟩ = some (.int .i64 a0_3) := bc_ BK1137 3; have hcz12_4 : w11.cell? ⟨gb1137, 4, none⟩ = some (.int .i64 a0_4) := bc_ BK1137 4; have hcz12_5 : w11.cell? ⟨gb1137, 5, none⟩ = some (.int .i64 a0_5) := bc_ BK1137 5; have hcz12_6 : w11.cell? ⟨gb1137, 6, none⟩ = some (.int .i64 a0_6) := bc_ BK1137 6; have hcz12_7 : w11.cell? ⟨gb1137, 7, none⟩ = some (.int .i64 a0_7) := bc_ BK1137 7; have hfz12_0 := blk_frozen BK1137.out 0; have hfz12_1 := blk_frozen BK1137.out 1; have hfz12_2 := blk_frozen BK1137.out 2; have hfz12_3 := blk_frozen BK1137.out 3; have hfz12_4 := blk_frozen BK1137.out 4; have hfz12_5 := blk_frozen BK1137.out 5; have hfz12_6 := blk_frozen BK1137.out 6; have hfz12_7 := blk_frozen BK1137.out 7) | ((with_reducible refine gate_callee (f := 76) rfl ?_); refine goesL_ (some 5) rfl rfl Tryd.func76 (by kernel_rfl) rfl #[.int .i64 a0_0, .int .i64 0, .int .i64 9999] rfl ls_ ?_; (with_reducible refine (cottonpadref05_within.calls a0_0 0 9999 true _ A2.out).mono ?_); rintro e w' ⟨rfl, ⟨nd, rfl⟩⟩; refine ⟨_, rfl, ?_⟩) | (go_at_call 76; (with_reducible refine (cottonpadref05_within.calls a0_2 1 500 true _ A4.out).mono ?_); rintro e w' ⟨rfl, ⟨nd, rfl⟩⟩) | (go_at_call 76; (with_reducible refine (cottonpadref05_within.calls a0_3 0 100000 true _ A6.out).mono ?_); rintro e w' ⟨rfl, ⟨nd, rfl⟩⟩) | (go_at_call 77; (with_reducible refine (cottonpadref05_spanned.calls a0_4 a0_5 0 2000 true _ A8.out).mono ?_); rintro e w13 ⟨rfl, hb⟩; replace BK1137 := bb_ BK1137 hb; replace HB := bs1_ HB GE1137 hb; (try clear hb); (try clear hb2); (try clear hk); (try clear hi); have hcz14_0 : w13.cell? ⟨gb1137, 0, none⟩ = some (.int .i64 a0_0) := bc_ BK1137 0; have hcz14_1 : w13.cell? ⟨gb1137, 1, none⟩ = some (.int .i64 a0_1) := bc_ BK1137 1; have hcz14_2 : w13.cell? ⟨gb1137, 2, none⟩ = some (.int .i64 a0_2) := bc_ BK1137 2; have hcz14_3 : w13.cell? ⟨gb1137, 3, none⟩ = some (.int .i64 a0_3) := bc_ BK1137 3; have hcz14_4 : w13.cell? ⟨gb1137, 4, none⟩ = some (.int .i64 a0_4) := bc_ BK1137 4; have hcz14_5 : w13.cell? ⟨gb1137, 5, none⟩ = some (.int .i64 a0_5) := bc_ BK1137 5; have hcz14_6 : w13.cell? ⟨gb1137, 6, none⟩ = some (.int .i64 a0_6) := bc_ BK1137 6; have hcz14_7 : w13.cell? ⟨gb1137, 7, none⟩ = some (.int .i64 a0_7) := bc_ BK1137 7; have hfz14_0 := blk_frozen BK1137.out 0; have hfz14_1 := blk_frozen BK1137.out 1; have hfz14_2 := blk_frozen BK1137.out 2; have hfz14_3 := blk_frozen BK1137.out 3; have hfz14_4 := blk_frozen BK1137.out 4; have hfz14_5 := blk_frozen BK1137.out 5; have hfz14_6 := blk_frozen BK1137.out 6; have hfz14_7 := blk_frozen BK1137.out 7) | (go_at_call 77; (with_reducible refine (cottonpadref05_spanned.calls a0_6 a0_7 0 10 t1142 _ A10.out).mono ?_); rintro e w15 ⟨rfl, hb⟩; replace BK1137 := bb_ BK1137 hb; replace HB := bs1_ HB GE1137 hb; (try clear hb); (try clear hb2); (try clear hk); (try clear hi)))
     go_ret
     exact ⟨rf_, be1_ HB GE1137⟩
    ·replace c9 := Bool.eq_false_iff.mpr c9
     subst c9
     have H1 : (some false) = some r := by rw [if_neg (show ¬ (false = true) by decide)] at H; exact H
     clear H
     have H := H1
     clear H1
     obtain rfl := Option.some.inj H
     go_enter Tryd.func46, Tryd.ntmps46
     go_wp2_with (first | ((with_reducible refine gate_dst (N := 1) rfl ?_); refine box_event ?hg (N := 1) ?hd (cs := #[.int .i64 a0_0, .int .i64 a0_1, .int .i64 a0_2, .int .i64 a0_3, .int .i64 a0_4, .int .i64 a0_5, .int .i64 a0_6, .int .i64 a0_7]) (t := 90) ?hr ?_; (case hd => rfl); (case hg => rfl); (case hr => exact gs_); intro gb1137 hg w16 hbox hb; have BK1137 := Aside0.mk (hbox); have GW1137 := hl_ hg (be_ HB); have GE1137 := hl_ hg (be_ HB); replace HB := bs_ HB hb; clear hb hbox hg; have hcz17_0 : w16.cell? ⟨gb1137, 0, none⟩ = some (.int .i64 a0_0) := bc_ BK1137 0; have hcz17_1 : w16.cell? ⟨gb1137, 1, none⟩ = some (.int .i64 a0_1) := bc_ BK1137 1; have hcz17_2 : w16.cell? ⟨gb1137, 2, none⟩ = some (.int .i64 a0_2) := bc_ BK1137 2; have hcz17_3 : w16.cell? ⟨gb1137, 3, none⟩ = some (.int .i64 a0_3) := bc_ BK1137 3; have hcz17_4 : w16.cell? ⟨gb1137, 4, none⟩ = some (.int .i64 a0_4) := bc_ BK1137 4; have hcz17_5 : w16.cell? ⟨gb1137, 5, none⟩ = some (.int .i64 a0_5) := bc_ BK1137 5; have hcz17_6 : w16.cell? ⟨gb1137, 6, none⟩ = some (.int .i64 a0_6) := bc_ BK1137 6; have hcz17_7 : w16.cell? ⟨gb1137, 7, none⟩ = some (.int .i64 a0_7) := bc_ BK1137 7; have hfz17_0 := blk_frozen BK1137.out 0; have hfz17_1 := blk_frozen BK1137.out 1; have hfz17_2 := blk_frozen BK1137.out 2; have hfz17_3 := blk_frozen BK1137.out 3; have hfz17_4 := blk_frozen BK1137.out 4; have hfz17_5 := blk_frozen BK1137.out 5; have hfz17_6 := blk_frozen BK1137.out 6; have hfz17_7 := blk_frozen BK1137.out 7) | ((with_reducible refine gate_callee (f := 76) rfl ?_); refine goesL_ (some 5) rfl rfl Tryd.func76 (by kernel_rfl) rfl #[.int .i64 a0_0, .int .i64 0, .int .i64 9999] rfl ls_ ?_; (with_reducible refine (cottonpadref05_within.calls a0_0 0 9999 true _ A2.out).mono ?_); rintro e w' ⟨rfl, ⟨nd, rfl⟩⟩; refine ⟨_, rfl, ?_⟩) | (go_at_call 76; (with_reducible refine (cottonpadref05_within.calls a0_2 1 500 true _ A4.out).mono ?_); rintro e w' ⟨rfl, ⟨nd, rfl⟩⟩) | (go_at_call 76; (with_reducible refine (cottonpadref05_within.calls a0_3 0 100000 true _ A6.out).mono ?_); rintro e w' ⟨rfl, ⟨nd, rfl⟩⟩) | (go_at_call 77; (with_reducible refine (cottonpadref05_spanned.calls a0_4 a0_5 0 2000 false _ A8.out).mono ?_); rintro e w18 ⟨rfl, hb⟩; replace BK1137 := bb_ BK1137 hb; replace HB := bs1_ HB GE1137 hb; (try clear hb); (try clear hb2); (try clear hk); (try clear hi)))
     go_ret
     exact ⟨rf_, be1_ HB GE1137⟩
   ·replace c7 := Bool.eq_false_iff.mpr c7
    subst c7
    have H1 : (some false) = some r := by rw [if_neg (show ¬ (false = true) by decide)] at H; exact H
    clear H
    have H := H1
    clear H1
    obtain rfl := Option.some.inj H
    go_enter Tryd.func46, Tryd.ntmps46
    go_wp2_with (first | ((with_reducible refine gate_dst (N := 1) rfl ?_); refine box_event ?hg (N := 1) ?hd (cs := #[.int .i64 a0_0, .int .i64 a0_1, .int .i64 a0_2, .int .i64 a0_3, .int .i64 a0_4, .int .i64 a0_5, .int .i64 a0_6, .int .i64 a0_7]) (t := 90) ?hr ?_; (case hd => rfl); (case hg => rfl); (case hr => exact gs_); intro gb1137 hg w19 hbox hb; have BK1137 := Aside0.mk (hbox); have GW1137 := hl_ hg (be_ HB); have GE1137 := hl_ hg (be_ HB); replace HB := bs_ HB hb; clear hb hbox hg; have hcz20_0 : w19.cell? ⟨gb1137, 0, none⟩ = some (.int .i64 a0_0) := bc_ BK1137 0; have hcz20_1 : w19.cell? ⟨gb1137, 1, none⟩ = some (.int .i64 a0_1) := bc_ BK1137 1; have hcz20_2 : w19.cell? ⟨gb1137, 2, none⟩ = some (.int .i64 a0_2) := bc_ BK1137 2; have hcz20_3 : w19.cell? ⟨gb1137, 3, none⟩ = some (.int .i64 a0_3) := bc_ BK1137 3; have hcz20_4 : w19.cell? ⟨gb1137, 4, none⟩ = some (.int .i64 a0_4) := bc_ BK1137 4; have hcz20_5 : w19.cell? ⟨gb1137, 5, none⟩ = some (.int .i64 a0_5) := bc_ BK1137 5; have hcz20_6 : w19.cell? ⟨gb1137, 6, none⟩ = some (.int .i64 a0_6) := bc_ BK1137 6; have hcz20_7 : w19.cell? ⟨gb1137, 7, none⟩ = some (.int .i64 a0_7) := bc_ BK1137 7; have hfz20_0 := blk_frozen BK1137.out 0; have hfz20_1 := blk_frozen BK1137.out 1; have hfz20_2 := blk_frozen BK1137.out 2; have hfz20_3 := blk_frozen BK1137.out 3; have hfz20_4 := blk_frozen BK1137.out 4; have hfz20_5 := blk_frozen BK1137.out 5; have hfz20_6 := blk_frozen BK1137.out 6; have hfz20_7 := blk_frozen BK1137.out 7) | ((with_reducible refine gate_callee (f := 76) rfl ?_); refine goesL_ (some 5) rfl rfl Tryd.func76 (by kernel_rfl) rfl #[.int .i64 a0_0, .int .i64 0, .int .i64 9999] rfl ls_ ?_; (with_reducible refine (cottonpadref05_within.calls a0_0 0 9999 true _ A2.out).mono ?_); rintro e w' ⟨rfl, ⟨nd, rfl⟩⟩; refine ⟨_, rfl, ?_⟩) | (go_at_call 76; (with_reducible refine (cottonpadref05_within.calls a0_2 1 500 true _ A4.out).mono ?_); rintro e w' ⟨rfl, ⟨nd, rfl⟩⟩) | (go_at_call 76; (with_reducible refine (cottonpadref05_within.calls a0_3 0 100000 false _ A6.out).mono ?_); rintro e w' ⟨rfl, ⟨nd, rfl⟩⟩))
    go_ret
    exact ⟨rf_, be1_ HB GE1137⟩
  ·replace c5 := Bool.eq_false_iff.mpr c5
   subst c5
   have H1 : (some false) = some r := by rw [if_neg (show ¬ (false = true) by decide)] at H; exact H
   clear H
   have H := H1
   clear H1
   obtain rfl := Option.some.inj H
   go_enter Tryd.func46, Tryd.ntmps46
   go_wp2_with (first | ((with_reducible refine gate_dst (N := 1) rfl ?_); refine box_event ?hg (N := 1) ?hd (cs := #[.int .i64 a0_0, .int .i64 a0_1, .int .i64 a0_2, .int .i64 a0_3, .int .i64 a0_4, .int .i64 a0_5, .int .i64 a0_6, .int .i64 a0_7]) (t := 90) ?hr ?_; (case hd => rfl); (case hg => rfl); (case hr => exact gs_); intro gb1137 hg w21 hbox hb; have BK1137 := Aside0.mk (hbox); have GW1137 := hl_ hg (be_ HB); have GE1137 := hl_ hg (be_ HB); replace HB := bs_ HB hb; clear hb hbox hg; have hcz22_0 : w21.cell? ⟨gb1137, 0, none⟩ = some (.int .i64 a0_0) := bc_ BK1137 0; have hcz22_1 : w21.cell? ⟨gb1137, 1, none⟩ = some (.int .i64 a0_1) := bc_ BK1137 1; have hcz22_2 : w21.cell? ⟨gb1137, 2, none⟩ = some (.int .i64 a0_2) := bc_ BK1137 2; have hcz22_3 : w21.cell? ⟨gb1137, 3, none⟩ = some (.int .i64 a0_3) := bc_ BK1137 3; have hcz22_4 : w21.cell? ⟨gb1137, 4, none⟩ = some (.int .i64 a0_4) := bc_ BK1137 4; have hcz22_5 : w21.cell? ⟨gb1137, 5, none⟩ = some (.int .i64 a0_5) := bc_ BK1137 5; have hcz22_6 : w21.cell? ⟨gb1137, 6, none⟩ = some (.int .i64 a0_6) := bc_ BK1137 6; have hcz22_7 : w21.cell? ⟨gb1137, 7, none⟩ = some (.int .i64 a0_7) := bc_ BK1137 7; have hfz22_0 := blk_frozen BK1137.out 0; have hfz22_1 := blk_frozen BK1137.out 1; have hfz22_2 := blk_frozen BK1137.out 2; have hfz22_3 := blk_frozen BK1137.out 3; have hfz22_4 := blk_frozen BK1137.out 4; have hfz22_5 := blk_frozen BK1137.out 5; have hfz22_6 := blk_frozen BK1137.out 6; have hfz22_7 := blk_frozen BK1137.out 7) | ((with_reducible refine gate_callee (f := 76) rfl ?_); refine goesL_ (some 5) rfl rfl Tryd.func76 (by kernel_rfl) rfl #[.int .i64 a0_0, .int .i64 0, .int .i64 9999] rfl ls_ ?_; (with_reducible refine (cottonpadref05_within.calls a0_0 0 9999 true _ A2.out).mono ?_); rintro e w' ⟨rfl, ⟨nd, rfl⟩⟩; refine ⟨_, rfl, ?_⟩) | (go_at_call 76; (with_reducible refine (cottonpadref05_within.calls a0_2 1 500 false _ A4.out).mono ?_); rintro e w' ⟨rfl, ⟨nd, rfl⟩⟩))
   go_ret
   exact ⟨rf_, be1_ HB GE1137⟩
 ·replace c3 := Bool.eq_false_iff.mpr c3
  subst c3
  have H1 : (some false) = some r := by rw [if_neg (show ¬ (false = true) by decide)] at H; exact H
  clear H
  have H := H1
  clear H1
  obtain rfl := Option.some.inj H
  go_enter Tryd.func46, Tryd.ntmps46
  go_wp2_with (first | ((with_reducible refine gate_dst (N := 1) rfl ?_); refine box_event ?hg (N := 1) ?hd (cs := #[.int .i64 a0_0, .int .i64 a0_1, .int .i64 a0_2, .int .i64 a0_3, .int .i64 a0_4, .int .i64 a0_5, .int .i64 a0_6, .int .i64 a0_7]) (t := 90) ?hr ?_; (case hd => rfl); (case hg => rfl); (case hr => exact gs_); intro gb1137 hg w23 hbox hb; have BK1137 := Aside0.mk (hbox); have GW1137 := hl_ hg (be_ HB); have GE1137 := hl_ hg (be_ HB); replace HB := bs_ HB hb; clear hb hbox hg; have hcz24_0 : w23.cell? ⟨gb1137, 0, none⟩ = some (.int .i64 a0_0) := bc_ BK1137 0; have hcz24_1 : w23.cell? ⟨gb1137, 1, none⟩ = some (.int .i64 a0_1) := bc_ BK1137 1; have hcz24_2 : w23.cell? ⟨gb1137, 2, none⟩ = some (.int .i64 a0_2) := bc_ BK1137 2; have hcz24_3 : w23.cell? ⟨gb1137, 3, none⟩ = some (.int .i64 a0_3) := bc_ BK1137 3; have hcz24_4 : w23.cell? ⟨gb1137, 4, none⟩ = some (.int .i64 a0_4) := bc_ BK1137 4; have hcz24_5 : w23.cell? ⟨gb1137, 5, none⟩ = some (.int .i64 a0_5) := bc_ BK1137 5; have hcz24_6 : w23.cell? ⟨gb1137, 6, none⟩ = some (.int .i64 a0_6) := bc_ BK1137 6; have hcz24_7 : w23.cell? ⟨gb1137, 7, none⟩ = some (.int .i64 a0_7) := bc_ BK1137 7; have hfz24_0 := blk_frozen BK1137.out 0; have hfz24_1 := blk_frozen BK1137.out 1; have hfz24_2 := blk_frozen BK1137.out 2; have hfz24_3 := blk_frozen BK1137.out 3; have hfz24_4 := blk_frozen BK1137.out 4; have hfz24_5 := blk_frozen BK1137.out 5; have hfz24_6 := blk_frozen BK1137.out 6; have hfz24_7 := blk_frozen BK1137.out 7) | ((with_reducible refine gate_callee (f := 76) rfl ?_); refine goesL_ (some 5) rfl rfl Tryd.func76 (by kernel_rfl) rfl #[.int .i64 a0_0, .int .i64 0, .int .i64 9999] rfl ls_ ?_; (with_reducible refine (cottonpadref05_within.calls a0_0 0 9999 false _ A2.out).mono ?_); rintro e w' ⟨rfl, ⟨nd, rfl⟩⟩; refine ⟨_, rfl, ?_⟩))
  go_ret
  exact ⟨rf_, be1_ HB GE1137⟩

end Go.Proofs.YtdeaccbolnlgpaaDoor.X

namespace Go.Proofs.YtdeaccbolnlgpaaDoor.X
open Go.RowKit Go.Proofs.YtdeaccbolnlgpaaDoorW.PrintWords Go.Proofs.YtdeaccbolnlgpaaDoorW.PrintLast Go.Proofs.YtdeaccbolnlgpaaDoorW.PrintMore
attribute [local go_sem] max2_int min2_int max_two min_two max_three min_three max_four min_four   -- for this text's walks alone
set_option linter.unusedVariables false
set_option linter.unusedSimpArgs false

/-! ### cottonpadref05_Heat: function 47 -/
def cottonpadref05_Heat.l0 : Nat → List Int → Int → Option (Bool)
 | 0, _, _ => none
 | k + 1, x0, x3 => if x3 < (x0.length : Int) then (if 0 ≤ x3 then ((cottonpadref05_within.f (rd x0 x3) 0 2000).bind fun t1144 => (if t1144 = true then (cottonpadref05_Heat.l0 k x0 (wrap64 (x3 + 1))) else (some false))) else (none)) else (some (decide ((x0.length : Int) ≤ 60)))
def cottonpadref05_Heat.f (k : Nat) (l0 : List Int) : Option (Bool) := cottonpadref05_Heat.l0 k l0 0
theorem cottonpadref05_Heat.mono_l : ∀ k, (∀ y0 y1, LeO (cottonpadref05_Heat.l0 k y0 y1) (cottonpadref05_Heat.l0 (k + 1) y0 y1))
 | 0 => fun _ _ r h => by simp [cottonpadref05_Heat.l0] at h
 | k + 1 => by
  have ih0 := cottonpadref05_Heat.mono_l k
  ·intro y0 y1
   unfold cottonpadref05_Heat.l0
   repeat' (with_reducible first | exact ih0 .. | exact LeO.refl .. | exact LeO.none .. | refine LeO.ite ?_ ?_ | refine LeO.bind ?_ (fun _ => ?_))
theorem cottonpadref05_Heat.mono : ∀ a0 k, LeO (cottonpadref05_Heat.f k a0) (cottonpadref05_Heat.f (k + 1) a0) := by
 intro a0 k
 have ih0 := cottonpadref05_Heat.mono_l k
 unfold cottonpadref05_Heat.f
 repeat' (with_reducible first | exact ih0 .. | exact LeO.refl .. | exact LeO.none .. | refine LeO.ite ?_ ?_ | refine LeO.bind ?_ (fun _ => ?_))
set_option maxHeartbeats 8000000 in
set_option maxRecDepth 100000 in
theorem cottonpadref05_Heat.calls (k : Nat) (A0 : Option Addr) (c0 : Nat) (l0 : List Int) (r : Bool) (w : World) (hr0 : Kd.C (Kd.int .i64) w A0 l0.length l0) (hc0 : l0.length ≤ c0) (h : cottonpadref05_Heat.f k l0 = some r) :
  Calls Tryd.prog 47 #[.slice A0 l0.length c0] w fun e w' => e = .returned (.bool r) ∧ Drawn0 w w' := by
 have HR0 := Aside0.mk hr0
 have HC0 := Aside0.mk hc0
 clear hr0 hc0
 have H : (cottonpadref05_Heat.l0 k l0 0) = some r := h
 clear h
 have H' := Aside0.mk H
 clear H
 go_enter Tryd.func47, Tryd.ntmps47
 go_wp2
 go_loopg [3] k (fun kq v3 w' => ∃ (x3_1 : Int), v3 = .int .i64 x3_1 ∧ Aside0 (cottonpadref05_Heat.l0 kq l0 x3_1 = some r) ∧ Aside0 (kq ≤ k) ∧ Drawn0 w w')
 case atStart => exact ⟨(0), (by first | rfl | (simp; done) | (simp [*]; done)), H', ⟨Nat.le_refl _⟩, by repeat (first | exact Drawn0.refl _ | apply Drawn0.step)⟩
 case round =>
  clear H'
  obtain ⟨x3_1, rfl, HA, HK1, ⟨m1, rfl⟩⟩ := hrel
  cases gk with
  | zero => exact absurd HA.out (by simp [cottonpadref05_Heat.l0])
  | succ k1 =>
   have H := HA.out
   clear HA
   simp only [cottonpadref05_Heat.l0] at H
   by_cases c2 : x3_1 < (l0.length : Int)
   ·rw [if_pos c2] at H
    have c2b0 : decide (x3_1 < (l0.length : Int)) = true := decide_eq_true c2
    clear c2
    by_cases c3 : 0 ≤ x3_1
    ·rw [if_pos c3] at H
     have c3b0 : decide (0 ≤ x3_1) = true := decide_eq_true c3
     clear c3
     replace H := Option.bind_eq_some_iff.mp H
     obtain ⟨t1144, A40, H⟩ := H
     replace H : (if t1144 = true then (cottonpadref05_Heat.l0 k1 l0 (wrap64 (x3_1 + 1))) else (some false)) = some r := H
     have A4 := Aside0.mk A40
     clear A40
     by_cases c5 : t1144 = true
     ·subst c5
      have H1 : (cottonpadref05_Heat.l0 k1 l0 (wrap64 (x3_1 + 1))) = some r := by rw [if_pos rfl] at H; exact H
      clear H
      have H := H1
      clear H1
      have H' := Aside0.mk H
      clear H
      have p1143 : 0 ≤ (x3_1 : Int) := of_decide_eq_true as_
      have q1143 : x3_1 < (l0.length : Int) := of_decide_eq_true as_
      obtain ⟨ad1143, e1143, hx1143_0⟩ := Kd.at_int HR0.out x3_1 p1143 q1143
      cases e1143
      replace p1143 := eq_true p1143
      replace q1143 := eq_true q1143
      go_wp2_with (first | ((with_reducible refine gate_callee (f := 76) rfl ?_); refine goesL_ (some 14) rfl rfl Tryd.func76 (by kernel_rfl) rfl #[.int .i64 (rd l0 x3_1), .int .i64 0, .int .i64 2000] rfl ls_ ?_; (with_reducible refine (cottonpadref05_within.calls (rd l0 x3_1) 0 2000 true _ A4.out).mono ?_); rintro e w' ⟨rfl, ⟨nd, rfl⟩⟩; refine ⟨_, rfl, ?_⟩))
      go_roundg k1
      case measure => have := HK1.out; omega
      case rel => exact ⟨(wrap64 (x3_1 + 1)), (by first | rfl | (simp; done) | (simp [*]; done)), H', ⟨by have := HK1.out; omega⟩, by repeat (first | exact Drawn0.refl _ | apply Drawn0.step)⟩
     ·replace c5 := Bool.eq_false_iff.mpr c5
      subst c5
      have H1 : (some false) = some r := by rw [if_neg (show ¬ (false = true) by decide)] at H; exact H
      clear H
      have H := H1
      clear H1
      obtain rfl := Option.some.inj H
      have p1143 : 0 ≤ (x3_1 : Int) := of_decide_eq_true as_
      have q1143 : x3_1 < (l0.length : Int) := of_decide_eq_true as_
      obtain ⟨ad1143, e1143, hx1143_0⟩ := Kd.at_int HR0.out x3_1 p1143 q1143
      cases e1143
      replace p1143 := eq_true p1143
      replace q1143 := eq_true q1143
      go_wp2_with (first | ((with_reducible refine gate_callee (f := 76) rfl ?_); refine goesL_ (some 14) rfl rfl Tryd.func76 (by kernel_rfl) rfl #[.int .i64 (rd l0 x3_1), .int .i64 0, .int .i64 2000] rfl ls_ ?_; (with_reducible refine (cottonpadref05_within.calls (rd l0 x3_1) 0 2000 false _ A4.out).mono ?_); rintro e w' ⟨rfl, ⟨nd, rfl⟩⟩; refine ⟨_, rfl, ?_⟩))
      go_ret
      exact ⟨by first | rfl | (simp; done) | (simp [*]; done), by repeat (first | exact Drawn0.refl _ | apply Drawn0.step)⟩
    ·rw [if_neg c3] at H
     exact absurd H (by simp)
   ·rw [if_neg c2] at H
    have c2b0 : decide (x3_1 < (l0.length : Int)) = false := decide_eq_false c2
    clear c2
    obtain rfl := Option.some.inj H
    go_wp2
    go_ret
    exact ⟨by first | rfl | (simp; done) | (simp [*]; done), by repeat (first | exact Drawn0.refl _ | apply Drawn0.step)⟩

end Go.Proofs.YtdeaccbolnlgpaaDoor.X

namespace Go.Proofs.YtdeaccbolnlgpaaDoor.X
open Go.RowKit Go.Proofs.YtdeaccbolnlgpaaDoorW.PrintWords Go.Proofs.YtdeaccbolnlgpaaDoorW.PrintLast Go.Proofs.YtdeaccbolnlgpaaDoorW.PrintMore
attribute [local go_sem] max2_int min2_int max_two min_two max_three min_three max_four min_four   -- for this text's walks alone
set_option linter.unusedVariables false
set_option linter.unusedSimpArgs false

/-! ### cottonpadtop_topHotter: function 50 -/
def cottonpadtop_topHotter.l0 : Nat → List Int → List Int → List Int → Int → Int → Option (List Int)
 | 0, _, _, _, _, _ => none
 | k + 1, x1, x5, x8, x9, x10 => if x10 < x9 then (if 0 ≤ x10 then (if x10 < (x8.length : Int) then (if (x1.length : Int) > 0 then (if (x1.length : Int) = 0 then (none) else (if 0 ≤ (Int.tmod x10 (x1.length : Int)) then (if (Int.tmod x10 (x1.length : Int)) < (x1.length : Int) then (if (wrap64 ((wrap64 (2000 - (rd x8 x10))) + 1)) = 0 then (none) else (if x5.length < 17592186044416 then (cottonpadtop_topHotter.l0 k x1 (x5 ++ [wrap64 ((rd x8 x10) + (Int.tmod (wrap64 (rd x1 (Int.tmod x10 (x1.length : Int)))) (wrap64 ((wrap64 (2000 - (rd x8 x10))) + 1))))]) x8 x9 (wrap64 (x10 + 1))) else (none))) else (none)) else (none))) else (if x5.length < 17592186044416 then (cottonpadtop_topHotter.l0 k x1 (x5 ++ [rd x8 x10]) x8 x9 (wrap64 (x10 + 1))) else (none))) else (none)) else (none)) else (some x5)
def cottonpadtop_topHotter.f (k : Nat) (l0 : List Int) (l1 : List Int) : Option (List Int) := cottonpadtop_topHotter.l0 k l1 ([] : List Int) l0 (l0.length : Int) 0
theorem cottonpadtop_topHotter.mono_l : ∀ k, (∀ y0 y1 y2 y3 y4, LeO (cottonpadtop_topHotter.l0 k y0 y1 y2 y3 y4) (cottonpadtop_topHotter.l0 (k + 1) y0 y1 y2 y3 y4))
 | 0 => fun _ _ _ _ _ r h => by simp [cottonpadtop_topHotter.l0] at h
 | k + 1 => by
  have ih0 := cottonpadtop_topHotter.mono_l k
  ·intro y0 y1 y2 y3 y4
   unfold cottonpadtop_topHotter.l0
   repeat' (with_reducible first | exact ih0 .. | exact LeO.refl .. | exact LeO.none .. | refine LeO.ite ?_ ?_ | refine LeO.bind ?_ (fun _ => ?_))
theorem cottonpadtop_topHotter.mono : ∀ a0 a1 k, LeO (cottonpadtop_topHotter.f k a0 a1) (cottonpadtop_topHotter.f (k + 1) a0 a1) := by
 intro a0 a1 k
 have ih0 := cottonpadtop_topHotter.mono_l k
 unfold cottonpadtop_topHotter.f
 repeat' (with_reducible first | exact ih0 .. | exact LeO.refl .. | exact LeO.none .. | refine LeO.ite ?_ ?_ | refine LeO.bind ?_ (fun _ => ?_))
set_option maxHeartbeats 8000000 in
set_option maxRecDepth 100000 in
theorem cottonpadtop_topHotter.calls (k : Nat) (A0 : Option Addr) (c0 : Nat) (l0 : List Int) (A1 : Option Addr) (c1 : Nat) (l1 : List Int) (r : List Int) (w : World) (hr0 : Kd.C (Kd.int .i64) w A0 l0.length l0) (hc0 : l0.length ≤ c0) (hr1 : Kd.C (Kd.int .u16) w A1 l1.length l1) (hc1 : l1.length ≤ c1) (h : cottonpadtop_topHotter.f k l0 l1 = some r) :
  Calls Tryd.prog 50 #[.slice A0 l0.length c0, .slice A1 l1.length c1] w fun e w' => ∃ v0_ : Value, e = .returned (v0_) ∧ Kd.R (Kd.int .i64) 3 w' w.heap.size (fun _ => True) v0_ r ∧ Below w.heap.size w w' := by
 have HR0 := Aside0.mk hr0
 have HC0 := Aside0.mk hc0
 clear hr0 hc0
 have HR1 := Aside0.mk hr1
 have HC1 := Aside0.mk hc1
 clear hr1 hc1
 have HB := Aside0.mk (Below.refl w.heap.size w)
 have H : (cottonpadtop_topHotter.l0 k l1 ([] : List Int) l0 (l0.length : Int) 0) = some r := h
 clear h
 have H' := Aside0.mk H
 clear H
 go_enter Tryd.func50, Tryd.ntmps50
 go_wp2
 go_loopg [5, 10] k (fun kq v5 v10 w' => ∃ (x5_1 : List Int) (x10_1 : Int), v10 = .int .i64 x10_1 ∧ Aside0 (cottonpadtop_topHotter.l0 kq l1 x5_1 l0 (l0.length : Int) x10_1 = some r) ∧ Aside0 (kq ≤ k) ∧ Aside0 (Kd.R (Kd.int .i64) 3 w' w.heap.size (fun _ => True) v5 x5_1) ∧ Aside0 (Below w.heap.size w w'))
 case atStart => exact ⟨(([] : List Int)), (0), (by first | rfl | (simp; done) | (simp [*]; done)), H', ⟨Nat.le_refl _⟩, ⟨by first | exact Kd.R_nil _ _ _ _ _ | exact Kd.N_nil _ _ _ _ _ | exact Kd.V_nil _ _ _ _ _ | exact Kd.Q_nil _ _ _ _ _ | exact Kd.S_nil _ _ _ _ _⟩, ⟨be_ HB⟩⟩
 case round =>
  clear H'
  try clear c1
  try clear p2
  obtain ⟨x5_1, x10_1, rfl, HA, HK1, HO_5, HB⟩ := hrel
  cases gk with
  | zero => exact absurd HA.out (by simp [cottonpadtop_topHotter.l0])
  | succ k1 =>
   have H := HA.out
   clear HA
   simp only [cottonpadtop_topHotter.l0] at H
   by_cases c3 : x10_1 < (l0.length : Int)
   ·rw [if_pos c3] at H
    have c3b0 : decide (x10_1 < (l0.length : Int)) = true := decide_eq_true c3
    clear c3
    by_cases c4 : 0 ≤ x10_1
    ·rw [if_pos c4] at H
     have c4b0 : decide (0 ≤ x10_1) = true := decide_eq_true c4
     clear c4
     by_cases c5 : x10_1 < (l0.length : Int)
     ·rw [if_pos c5] at H
      have c5b0 : decide (x10_1 < (l0.length : Int)) = true := decide_eq_true c5
      clear c5
      by_cases c6 : (l1.length : Int) > 0
      ·rw [if_pos c6] at H
       have c6b0 : decide (0 < (l1.length : Int)) = true := decide_eq_true c6
       have c6b1 : decide (0 < l1.length) = true := decide_eq_true (by omega)
       clear c6
       by_cases c7 : (l1.length : Int) = 0
       ·rw [if_pos c7] at H
        exact absurd H (by simp)
       ·rw [if_neg c7] at H
        have c7b0 : ((l1.length : Int) == 0) = false := beq_eq_false_iff_ne.mpr c7
        have c7b1 : ((l1.length : Int) != 0) = true := bne_iff_ne.mpr c7
        have c7b2 : ¬ (l1 = []) := fun h_ => c7 (by rw [h_]; rfl)
        obtain ⟨ji8, hji8⟩ : ∃ j_ : Int, (Int.tmod x10_1 (l1.length : Int)) = j_ := ⟨_, rfl⟩
        replace H : (if 0 ≤ (ji8) then (if (ji8) < (l1.length : Int) then (if (wrap64 ((wrap64 (2000 - (rd l0 x10_1))) + 1)) = 0 then (none) else (if x5_1.length < 17592186044416 then (cottonpadtop_topHotter.l0 k1 l1 (x5_1 ++ [wrap64 ((rd l0 x10_1) + (Int.tmod (wrap64 (rd l1 (ji8))) (wrap64 ((wrap64 (2000 - (rd l0 x10_1))) + 1))))]) l0 (l0.length : Int) (wrap64 (x10_1 + 1))) else (none))) else (none)) else (none)) = some r := by first | (rw [hji8] at H; exact H) | (simp only [hji8] at H ⊢; exact H)
        by_cases c9 : 0 ≤ (ji8)
        ·rw [if_pos c9] at H
         have c9b0 : decide (0 ≤ (ji8)) = true := decide_eq_true c9
         clear c9
         by_cases c10 : (ji8) < (l1.length : Int)
         ·rw [if_pos c10] at H
          have c10b0 : decide ((ji8) < (l1.length : Int)) = true := decide_eq_true c10
          clear c10
          by_cases c11 : (wrap64 ((wrap64 (2000 - (rd l0 x10_1))) + 1)) = 0
          ·rw [if_pos c11] at H
           exact absurd H (by simp)
          ·rw [if_neg c11] at H
           have c11b0 : ((wrap64 ((wrap64 (2000 - (rd l0 x10_1))) + 1)) == 0) = false := beq_eq_false_iff_ne.mpr c11
           have c11b1 : ((wrap64 ((wrap64 (2000 - (rd l0 x10_1))) + 1)) != 0) = true := bne_iff_ne.mpr c11
           by_cases c12 : x5_1.length < 17592186044416
           ·rw [if_pos c12] at H
            have LMc12 := Aside0.mk c12
            clear c12
            obtain ⟨y1147, hy1147⟩ : ∃ y_ : List Int, y_ = (x5_1 ++ [wrap64 ((rd l0 x10_1) + (Int.tmod (wrap64 (rd l1 (ji8))) (wrap64 ((wrap64 (2000 - (rd l0 x10_1))) + 1))))]) := ⟨_, rfl⟩
            replace H : (cottonpadtop_topHotter.l0 k1 l1 y1147 l0 (l0.length : Int) (wrap64 (x10_1 + 1))) = some r := by first | (rw [hy1147]; with_reducible exact H) | (have H2_ := (Option.bind_some _ _).symm.trans H; rw [hy1147]; with_reducible exact H2_) | (have H2_ := (Option.bind_some _ _).symm.trans H; with_reducible exact H2_) | with_reducible exact H | (rw [hy1147]; exact H) | exact H
            have Ny1147 := Aside0.mk hy1147
            clear hy1147
            have H' := Aside0.mk H
            clear H
            have p1145 : 0 ≤ (x10_1 : Int) := of_decide_eq_true as_
            have q1145 : x10_1 < (l0.length : Int) := of_decide_eq_true as_
            obtain ⟨ad1145, e1145, hx1145_0⟩ := Kd.at_int HR0.out x10_1 p1145 q1145
            cases e1145
            try replace hx1145_0 := ce_ HB hx1145_0
            replace p1145 := eq_true p1145
            replace q1145 := eq_true q1145
            have p1146 : 0 ≤ ((ji8) : Int) := of_decide_eq_true as_
            have q1146 : (ji8) < (l1.length : Int) := of_decide_eq_true as_
            obtain ⟨ad1146, e1146, hx1146_0⟩ := Kd.at_int HR1.out (ji8) p1146 q1146
            cases e1146
            try replace hx1146_0 := ce_ HB hx1146_0
            replace p1146 := eq_true p1146
            replace q1146 := eq_true q1146
            go_wp2_with (first | ((with_reducible refine gate_builtin (b := .append) (xs := #[.tmp 32, .tmp 34]) rfl ?_); at_builtin; refine Kd.R_append (Kd.int .i64) (w0 := w) w.heap.size rfl (.tmp 32) (.tmp 34) 67 3 (.int .i64 0) 8 rfl Tryd.underlying67 info3 rfl (by decide) (by omega) u5 x5_1 (wrap64 ((rd l0 x10_1) + (Int.tmod (wrap64 (rd l1 (ji8))) (wrap64 ((wrap64 (2000 - (rd l0 x10_1))) + 1))))) [.int .i64 (wrap64 ((rd l0 x10_1) + (Int.tmod (wrap64 (rd l1 (ji8))) (wrap64 ((wrap64 (2000 - (rd l0 x10_1))) + 1)))))] (fun _ => True) (fun _ => False) rfl rfl ?aP (fun _ hk => hk.elim) ?aF ?aO ?aB ?aS ?aL ?_; (case aP => exact rfl); (case aB => exact (be_ HB)); (case aF => exact (fun _ _ => trivial)); (case aO => exact (ro_ HO_5)); (case aS => exact (below_size (be_ HB))); (case aL => have := LMc12.out; omega); intro v1148 w13 ho hb hg hat; rw [← Ny1147.out] at ho; replace HB := Aside0.mk (hb); have HO1149 := Aside0.mk (ho); clear HO_5; clear ho hb hg hat))
            go_roundg k1
            case measure => have := HK1.out; omega
            case rel => exact ⟨(y1147), (wrap64 (x10_1 + 1)), (by first | rfl | (simp; done) | (simp [*]; done)), H', ⟨by have := HK1.out; omega⟩, ⟨by (with_reducible repeat (first | apply Kd.R_alloc | apply Kd.R_drewN | apply Kd.R_drew)); exact HO1149.out⟩, ⟨be_ HB⟩⟩
           ·rw [if_neg c12] at H
            exact absurd H (by simp)
         ·rw [if_neg c10] at H
          exact absurd H (by simp)
        ·rw [if_neg c9] at H
         exact absurd H (by simp)
      ·rw [if_neg c6] at H
       have c6b0 : decide (0 < (l1.length : Int)) = false := decide_eq_false c6
       have c6b1 : decide (0 < l1.length) = false := decide_eq_false (by omega)
       clear c6
       by_cases c14 : x5_1.length < 17592186044416
       ·rw [if_pos c14] at H
        have LMc14 := Aside0.mk c14
        clear c14
        obtain ⟨y1150, hy1150⟩ : ∃ y_ : List Int, y_ = (x5_1 ++ [rd l0 x10_1]) := ⟨_, rfl⟩
        replace H : (cottonpadtop_topHotter.l0 k1 l1 y1150 l0 (l0.length : Int) (wrap64 (x10_1 + 1))) = some r := by first | (rw [hy1150]; with_reducible exact H) | (have H2_ := (Option.bind_some _ _).symm.trans H; rw [hy1150]; with_reducible exact H2_) | (have H2_ := (Option.bind_some _ _).symm.trans H; with_reducible exact H2_) | with_reducible exact H | (rw [hy1150]; exact H) | exact H
        have Ny1150 := Aside0.mk hy1150
        clear hy1150
        have H' := Aside0.mk H
        clear H
        have p1145 : 0 ≤ (x10_1 : Int) := of_decide_eq_true as_
        have q1145 : x10_1 < (l0.length : Int) := of_decide_eq_true as_
        obtain ⟨ad1145, e1145, hx1145_0⟩ := Kd.at_int HR0.out x10_1 p1145 q1145
        cases e1145
        try replace hx1145_0 := ce_ HB hx1145_0
        replace p1145 := eq_true p1145
        replace q1145 := eq_true q1145
        go_wp2_with (first | ((with_reducible refine gate_builtin (b := .append) (xs := #[.tmp 32, .tmp 34]) rfl ?_); at_builtin; refine Kd.R_append (Kd.int .i64) (w0 := w) w.heap.size rfl (.tmp 32) (.tmp 34) 67 3 (.int .i64 0) 8 rfl Tryd.underlying67 info3 rfl (by decide) (by omega) u5 x5_1 (rd l0 x10_1) [.int .i64 (rd l0 x10_1)] (fun _ => True) (fun _ => False) rfl rfl ?aP (fun _ hk => hk.elim) ?aF ?aO ?aB ?aS ?aL ?_; (case aP => exact rfl); (case aB => exact (be_ HB)); (case aF => exact (fun _ _ => trivial)); (case aO => exact (ro_ HO_5)); (case aS => exact (below_size (be_ HB))); (case aL => have := LMc14.out; omega); intro v1151 w15 ho hb hg hat; rw [← Ny1150.out] at ho; replace HB := Aside0.mk (hb); have HO1152 := Aside0.mk (ho); clear HO_5; clear ho hb hg hat))
        go_roundg k1
        case measure => have := HK1.out; omega
        case rel => exact ⟨(y1150), (wrap64 (x10_1 + 1)), (by first | rfl | (simp; done) | (simp [*]; done)), H', ⟨by have := HK1.out; omega⟩, ⟨by (with_reducible repeat (first | apply Kd.R_alloc | apply Kd.R_drewN | apply Kd.R_drew)); exact HO1152.out⟩, ⟨be_ HB⟩⟩
       ·rw [if_neg c14] at H
        exact absurd H (by simp)
     ·rw [if_neg c5] at H
      exact absurd H (by simp)
    ·rw [if_neg c4] at H
     exact absurd H (by simp)
   ·rw [if_neg c3] at H
    have c3b0 : decide (x10_1 < (l0.length : Int)) = false := decide_eq_false c3
    clear c3
    obtain rfl := Option.some.inj H
    go_wp2
    go_ret
    exact ⟨_, rf_, by (with_reducible repeat (first | apply Kd.R_alloc | apply Kd.R_drewN | apply Kd.R_drew)); exact HO_5.out, be_ HB⟩

end Go.Proofs.YtdeaccbolnlgpaaDoor.X
