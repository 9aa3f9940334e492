import Derived.Test.YtdeaccbolnlgpaaDoorX0
import Derived.Test.YtdeaccbolnlgpaaDoorXNA
import Derived.Test.YtdeaccbolnlgpaaDoorXN56
import Derived.Test.YtdeaccbolnlgpaaDoorXN66
namespace Go.Proofs.YtdeaccbolnlgpaaDoor.X
open Go.RowKit Go.Proofs.YtdeaccbolnlgpaaDoorW.PrintWords Go.Proofs.YtdeaccbolnlgpaaDoorW.PrintLast Go.Proofs.YtdeaccbolnlgpaaDoorW.PrintMore
attribute [local go_sem] max2_int min2_int max_two min_two max_three min_three max_four min_four   -- for this text's walks alone
set_option linter.unusedVariables false
set_option linter.unusedSimpArgs false

/-! ### cottonpadref06_Safe: function 27 -/
def cottonpadref06_Safe.j0 : Nat → List (S48) → Int → Int → Bool → List (S62) → List (S81) → Option (Int × Int × Int × Int)
 | 0, _, _, _, _, _, _ => none
 | k + 1, x1, x11, x12, x40, x312000, x312001 => if x40 = true then (some (2, (-1), (-1), 0)) else ((cottonpadref06_Ends.f k x312000 x312001 x1 false).bind fun bt321 => ((cottonpadref06_late.f k x312000 x312001 x1 bt321.1 bt321.2 false).bind fun bt327 => (if bt327.1 < 0 then (if bt327.2 < 0 then (some (1, x11, x12, 0)) else (some (0, x11, x12, 0))) else (some (0, x11, x12, 0)))))
def cottonpadref06_Safe.f (k : Nat) (l0_0 : List (S62)) (l0_1 : List (S81)) (l1 : List (S48)) : Option (Int × Int × Int × Int) := (cottonpadref06_Check.f k l0_0 l0_1 l1).bind fun t312 => (if t312 = 0 then ((cottonpadref06_Ends.f k l0_0 l0_1 l1 true).bind fun bt313 => ((cottonpadref06_late.f k l0_0 l0_1 l1 bt313.1 bt313.2 true).bind fun bt319 => (if bt319.1 < 0 then (cottonpadref06_Safe.j0 k l1 bt319.1 bt319.2 (decide (bt319.2 < 0)) l0_0 l0_1) else (cottonpadref06_Safe.j0 k l1 bt319.1 bt319.2 false l0_0 l0_1)))) else (some (0, 0, 0, t312)))
theorem cottonpadref06_Safe.mono_l : ∀ k, (∀ y0 y1 y2 y3 y4 y5, LeO (cottonpadref06_Safe.j0 k y0 y1 y2 y3 y4 y5) (cottonpadref06_Safe.j0 (k + 1) y0 y1 y2 y3 y4 y5))
 | 0 => fun _ _ _ _ _ _ r h => by simp [cottonpadref06_Safe.j0] at h
 | k + 1 => by
  have ih0 := cottonpadref06_Safe.mono_l k
  ·intro y0 y1 y2 y3 y4 y5
   unfold cottonpadref06_Safe.j0
   repeat' first
   | (with_reducible exact ih0 _ _ _ _ _ _)
   | (with_reducible exact cottonpadref06_Check.mono _ _ _ _)
   | (with_reducible exact cottonpadref06_Ends.mono _ _ _ _ _)
   | (with_reducible exact cottonpadref06_late.mono _ _ _ _ _ _ _)
   | (with_reducible exact LeO.refl _)
   | (with_reducible exact LeO.none _)
   | (with_reducible refine LeO.ite ?_ ?_)
   | (with_reducible refine LeO.bind ?_ (fun _ => ?_))
   | exact ih0 _ _ _ _ _ _
   | exact cottonpadref06_Check.mono _ _ _ _
   | exact cottonpadref06_Ends.mono _ _ _ _ _
   | exact cottonpadref06_late.mono _ _ _ _ _ _ _
   | exact LeO.none _
   | refine LeO.ite ?_ ?_
   | refine LeO.bind ?_ (fun _ => ?_)
theorem cottonpadref06_Safe.mono : ∀ a0 a1 a2 k, LeO (cottonpadref06_Safe.f k a0 a1 a2) (cottonpadref06_Safe.f (k + 1) a0 a1 a2) := by
 intro a0 a1 a2 k
 have ih0 := cottonpadref06_Safe.mono_l k
 unfold cottonpadref06_Safe.f
 repeat' first
   | (with_reducible exact ih0 _ _ _ _ _ _)
   | (with_reducible exact cottonpadref06_Check.mono _ _ _ _)
   | (with_reducible exact cottonpadref06_Ends.mono _ _ _ _ _)
   | (with_reducible exact cottonpadref06_late.mono _ _ _ _ _ _ _)
   | (with_reducible exact LeO.refl _)
   | (with_reducible exact LeO.none _)
   | (with_reducible refine LeO.ite ?_ ?_)
   | (with_reducible refine LeO.bind ?_ (fun _ => ?_))
   | exact ih0 _ _ _ _ _ _
   | exact cottonpadref06_Check.mono _ _ _ _
   | exact cottonpadref06_Ends.mono _ _ _ _ _
   | exact cottonpadref06_late.mono _ _ _ _ _ _ _
   | exact LeO.none _
   | refine LeO.ite ?_ ?_
   | refine LeO.bind ?_ (fun _ => ?_)
set_option maxHeartbeats 8000000 in
set_option maxRecDepth 100000 in
theorem cottonpadref06_Safe.calls (k : Nat) (A0_0 : Option Addr) (c0_0 : Nat) (l0_0 : List (S62)) (A0_1 : Option Addr) (c0_1 : Nat) (l0_1 : List (S81)) (A1 : Option Addr) (c1 : Nat) (l1 : List (S48)) (r1 : Int) (r2 : Int) (r3 : Int) (r4 : Int) (w : World) (hr0_0 : Kd.C k62 w A0_0 l0_0.length l0_0) (hc0_0 : l0_0.length ≤ c0_0) (hr0_1 : Kd.C k81 w A0_1 l0_1.length l0_1) (hc0_1 : l0_1.length ≤ c0_1) (hr1 : Kd.C k48 w A1 l1.length l1) (hc1 : l1.length ≤ c1) (h : cottonpadref06_Safe.f k l0_0 l0_1 l1 = some (r1, r2, r3, r4)) :
  Calls Tryd.prog 27 #[.agg #[.slice A0_0 l0_0.length c0_0, .slice A0_1 l0_1.length c0_1], .slice A1 l1.length c1] w fun e w' => e = .returned (.tuple #[.int .u8 r1, .int .i64 r2, .int .i64 r3, .int .i64 r4]) ∧ Below w.heap.size w w' := by
 have hu25 := Tryd.underlying25
 have HR0_0 := Aside0.mk hr0_0
 have HC0_0 := Aside0.mk hc0_0
 clear hr0_0 hc0_0
 have HR0_1 := Aside0.mk hr0_1
 have HC0_1 := Aside0.mk hc0_1
 clear hr0_1 hc0_1
 have HR1 := Aside0.mk hr1
 have HC1 := Aside0.mk hc1
 clear hr1 hc1
 have HB := Aside0.mk (Below.refl w.heap.size w)
 have H : ((cottonpadref06_Check.f k l0_0 l0_1 l1).bind fun t312 => (if t312 = 0 then ((cottonpadref06_Ends.f k l0_0 l0_1 l1 true).bind fun bt313 => ((cottonpadref06_late.f k l0_0 l0_1 l1 bt313.1 bt313.2 true).bind fun bt319 => (if bt319.1 < 0 then (cottonpadref06_Safe.j0 k l1 bt319.1 bt319.2 (decide (bt319.2 < 0)) l0_0 l0_1) else (cottonpadref06_Safe.j0 k l1 bt319.1 bt319.2 false l0_0 l0_1)))) else (some (0, 0, 0, t312)))) = some (r1, r2, r3, r4) := h
 clear h
 replace H := Option.bind_eq_some_iff.mp H
 obtain ⟨t312, A30, H⟩ := H
 replace H : (if t312 = 0 then ((cottonpadref06_Ends.f k l0_0 l0_1 l1 true).bind fun bt313 => ((cottonpadref06_late.f k l0_0 l0_1 l1 bt313.1 bt313.2 true).bind fun bt319 => (if bt319.1 < 0 then (cottonpadref06_Safe.j0 k l1 bt319.1 bt319.2 (decide (bt319.2 < 0)) l0_0 l0_1) else (cottonpadref06_Safe.j0 k l1 bt319.1 bt319.2 false l0_0 l0_1)))) else (some (0, 0, 0, t312))) = some (r1, r2, r3, r4) := H
 have A3 := Aside0.mk A30
 clear A30
 by_cases c4 : t312 = 0
 ·rw [if_pos c4] at H
  have c4b0 : (t312 == 0) = true := beq_iff_eq.mpr c4
  have c4b1 : (t312 != 0) = false := bne_eq_false_iff_eq.mpr c4
  clear c4
  replace H := Option.bind_eq_some_iff.mp H
  obtain ⟨⟨t313, t316⟩, A50, H⟩ := H
  replace H : ((cottonpadref06_late.f k l0_0 l0_1 l1 t313 t316 true).bind fun bt319 => (if bt319.1 < 0 then (cottonpadref06_Safe.j0 k l1 bt319.1 bt319.2 (decide (bt319.2 < 0)) l0_0 l0_1) else (cottonpadref06_Safe.j0 k l1 bt319.1 bt319.2 false l0_0 l0_1))) = some (r1, r2, r3, r4) := H
  have A5 := Aside0.mk A50
  clear A50
  replace H := Option.bind_eq_some_iff.mp H
  obtain ⟨⟨t319, t320⟩, A60, H⟩ := H
  replace H : (if t319 < 0 then (cottonpadref06_Safe.j0 k l1 t319 t320 (decide (t320 < 0)) l0_0 l0_1) else (cottonpadref06_Safe.j0 k l1 t319 t320 false l0_0 l0_1)) = some (r1, r2, r3, r4) := H
  have A6 := Aside0.mk A60
  clear A60
  have HC7 := Aside0.mk H
  clear H
  go_enter Tryd.func27, Tryd.ntmps27
  go_upto_region 6 with (first | ((with_reducible refine gate_dst (N := 2) rfl ?_); refine box_event ?hg (N := 2) ?hd (cs := #[.slice A0_0 l0_0.length c0_0, .slice A0_1 l0_1.length c0_1]) (t := 25) ?hr ?_; (case hd => rfl); (case hg => rfl); (case hr => exact gs_); intro gb311 hg w8 hbox hb; have BK311 := Aside0.mk (hbox); have GW311 := hl_ hg (be_ HB); have GE311 := hl_ hg (be_ HB); replace HB := bs_ HB hb; clear hb hbox hg; have hcz9_0 : w8.cell? ⟨gb311, 0, none⟩ = some (.slice A0_0 l0_0.length c0_0) := bc_ BK311 0; have hcz9_1 : w8.cell? ⟨gb311, 1, none⟩ = some (.slice A0_1 l0_1.length c0_1) := bc_ BK311 1; have hfz9_0 := blk_frozen BK311.out 0; have hfz9_1 := blk_frozen BK311.out 1) | ((with_reducible refine gate_callee (f := 22) rfl ?_); refine goesL_ (some 17) rfl rfl Tryd.func22 (by kernel_rfl) rfl #[.agg #[.slice A0_0 l0_0.length c0_0, .slice A0_1 l0_1.length c0_1], .slice A1 l1.length c1] rfl ls_ ?_; (with_reducible refine (cottonpadref06_Check.calls k _ _ l0_0 _ _ l0_1 _ _ l1 t312 _ ?side1 ?side2 ?side3 ?side4 ?side5 ?side6 A3.out).mono ?_); (case side1 => exact kc_ HR0_0 HB); (case side2 => exact HC0_0.out); (case side3 => exact kc_ HR0_1 HB); (case side4 => exact HC0_1.out); (case side5 => exact kc_ HR1 HB); (case side6 => exact HC1.out); rintro e w10 ⟨rfl, hb⟩; refine ⟨_, rfl, ?_⟩; replace BK311 := bb_ BK311 hb; replace HB := bs1_ HB GE311 hb; (try clear hb); (try clear hb2); (try clear hk); (try clear hi); have hcz11_0 : w10.cell? ⟨gb311, 0, none⟩ = some (.slice A0_0 l0_0.length c0_0) := bc_ BK311 0; have hcz11_1 : w10.cell? ⟨gb311, 1, none⟩ = some (.slice A0_1 l0_1.length c0_1) := bc_ BK311 1; have hfz11_0 := blk_frozen BK311.out 0; have hfz11_1 := blk_frozen BK311.out 1) | ((with_reducible refine gate_callee (f := 56) rfl ?_); refine goesL_ (some 24) rfl rfl Tryd.func56 (by kernel_rfl) rfl #[.agg #[.slice A0_0 l0_0.length c0_0, .slice A0_1 l0_1.length c0_1], .slice A1 l1.length c1, .bool true] rfl ls_ ?_; (with_reducible refine (cottonpadref06_Ends.calls k _ _ l0_0 _ _ l0_1 _ _ l1 true t313 t316 _ ?side1 ?side2 ?side3 ?side4 ?side5 ?side6 A5.out).mono ?_); (case side1 => exact kc_ HR0_0 HB); (case side2 => exact HC0_0.out); (case side3 => exact kc_ HR0_1 HB); (case side4 => exact HC0_1.out); (case side5 => exact kc_ HR1 HB); (case side6 => exact HC1.out); rintro e w12 ⟨v314, v317, rfl, ho0, ho1, hb⟩; refine ⟨_, rfl, ?_⟩; have HO315 := Aside0.mk (Kd.R_lower ho0 (below_size (be1_ HB GE311))); have HO318 := Aside0.mk (Kd.S_lower ho1 (below_size (be1_ HB GE311))); replace BK311 := bb_ BK311 hb; replace HB := bs1_ HB GE311 hb; (try clear hb); (try clear hb2); (try clear hk); (try clear hi); (try clear ho0); (try clear ho1); have hcz13_0 : w12.cell? ⟨gb311, 0, none⟩ = some (.slice A0_0 l0_0.length c0_0) := bc_ BK311 0; have hcz13_1 : w12.cell? ⟨gb311, 1, none⟩ = some (.slice A0_1 l0_1.length c0_1) := bc_ BK311 1; have hfz13_0 := blk_frozen BK311.out 0; have hfz13_1 := blk_frozen BK311.out 1; obtain ⟨Ao14, co14, eo14⟩ := Kd.R_slice HO315.out; subst eo14; obtain ⟨Ao15, co15, eo15⟩ := Kd.S_slice HO318.out; subst eo15) | ((with_reducible refine gate_callee (f := 66) rfl ?_); refine goesL_ (some 32) rfl rfl Tryd.func66 (by kernel_rfl) rfl #[.agg #[.slice A0_0 l0_0.length c0_0, .slice A0_1 l0_1.length c0_1], .slice A1 l1.length c1, .slice Ao14 t313.length co14, .slice Ao15 t316.length co15, .bool true] rfl ls_ ?_; (with_reducible refine (cottonpadref06_late.calls k _ _ l0_0 _ _ l0_1 _ _ l1 _ _ t313 _ _ t316 true t319 t320 _ ?side1 ?side2 ?side3 ?side4 ?side5 ?side6 ?side7 ?side8 ?side9 ?side10 A6.out).mono ?_); (case side1 => exact kc_ HR0_0 HB); (case side2 => exact HC0_0.out); (case side3 => exact kc_ HR0_1 HB); (case side4 => exact HC0_1.out); (case side5 => exact kc_ HR1 HB); (case side6 => exact HC1.out); (case side7 => exact kd_ (Kd.R_reads' HO315.out).2.2); (case side8 => exact (Kd.R_reads' HO315.out).2.1); (case side9 => repeat (first | exact (Kd.S_reads' HO318.out).2.2 | (with_reducible refine Kd.C_alloc ?_ _) | (with_reducible refine Kd.C_drewN ?_ _) | (with_reducible refine Kd.C_drew ?_))); (case side10 => exact (Kd.S_reads' HO318.out).2.1); rintro e w16 ⟨rfl, hb⟩; refine ⟨_, rfl, ?_⟩; replace HO315 := rb_ HO315 hb; replace HO318 := Aside0.mk (Kd.S_below (by (with_reducible repeat (first | apply Kd.S_alloc | apply Kd.S_drewN | apply Kd.S_drew)); exact HO318.out) hb); replace BK311 := bb_ BK311 hb; replace HB := bs1_ HB GE311 hb; (try clear hb); (try clear hb2); (try clear hk); (try clear hi)))
  (try simp only [Act.put, List.setIfInBounds_toArray, List.set_cons_zero, List.set_cons_succ])
  go_cut [40] (fun v40 wc => ∃ (kq : Nat) (x40_6 : Bool), v40 = .bool x40_6 ∧ Aside0 (cottonpadref06_Safe.j0 kq l1 t319 t320 x40_6 l0_0 l0_1 = some (r1, r2, r3, r4)) ∧ Aside0 (kq ≤ k) ∧ Aside0 (wc.heap[gb311]? = some (.cells #[(.slice A0_0 l0_0.length c0_0), (.slice A0_1 l0_1.length c0_1)] 25 (0, 0))) ∧ Aside0 (Below w.heap.size w wc))
  case first =>
   have H := HC7.out
   clear HC7
   by_cases c17 : t319 < 0
   ·rw [if_pos c17] at H
    have c17b0 : decide (t319 < 0) = true := decide_eq_true c17
    clear c17
    (first | rw [c17b0] | (simp only [i64_w, i32_w]; rw [c17b0]) | skip)
    have H' := Aside0.mk H
    clear H
    go_wp2
    go_meet
    case rel => exact ⟨_, (decide (t320 < 0)), (by first | rfl | (simp; done) | (simp [*]; done)), H', ⟨by first | omega | exact Nat.le_refl _⟩, ⟨by refine bx_ ?_; exact BK311.out⟩, ⟨be1_ HB GE311⟩⟩
   ·rw [if_neg c17] at H
    have c17b0 : decide (t319 < 0) = false := decide_eq_false c17
    clear c17
    (first | rw [c17b0] | (simp only [i64_w, i32_w]; rw [c17b0]) | skip)
    have H' := Aside0.mk H
    clear H
    go_wp2
    go_meet
    case rel => exact ⟨_, (false), (by first | rfl | (simp; done) | (simp [*]; done)), H', ⟨by first | omega | exact Nat.le_refl _⟩, ⟨by refine bx_ ?_; exact BK311.out⟩, ⟨be1_ HB GE311⟩⟩
  case rest =>
   clear HC7
   try clear c1
   try clear c2
   try clear p2
   try clear c4
   try clear c4b0
   try clear c4b1
   try clear c5
   try clear c6
   try clear c17
   try clear c17b0
   try clear hcz11_0
   try clear hcz11_1
   try clear hcz13_0
   try clear hcz13_1
   try clear hcz9_0
   try clear hcz9_1
   try clear hfz11_0
   try clear hfz11_1
   try clear hfz13_0
   try clear hfz13_1
   try clear hfz9_0
   try clear hfz9_1
   obtain ⟨kq, x40_6, rfl, HA, HJ6, BK311, HB⟩ := hcut
   cases kq with
   | zero => exact absurd HA.out (by simp [cottonpadref06_Safe.j0])
   | succ kj6 =>
    have H := HA.out
    clear HA
    simp only [cottonpadref06_Safe.j0] at H
    by_cases c18 : x40_6 = true
    ·subst c18
     have H1 : (some (2, (-1), (-1), 0)) = some (r1, r2, r3, r4) := by rw [if_pos rfl] at H; exact H
     clear H
     have H := H1
     clear H1
     simp only [Option.some.injEq, Prod.mk.injEq] at H
     obtain ⟨rfl, rfl, rfl, rfl⟩ := H
     go_wp2
     refine bodyPost_ret (results_list (rs := [.tmp 4, .tmp 5, .tmp 6, .tmp 7]) rfl (by simp) (.tmp (.tmp (.tmp (.tmp .nil))))) rfl ?_
     exact ⟨rf_, be1_ HB GE311⟩
    ·replace c18 := Bool.eq_false_iff.mpr c18
     subst c18
     have H1 : ((cottonpadref06_Ends.f kj6 l0_0 l0_1 l1 false).bind fun bt321 => ((cottonpadref06_late.f kj6 l0_0 l0_1 l1 bt321.1 bt321.2 false).bind fun bt327 => (if bt327.1 < 0 then (if bt327.2 < 0 then (some (1, t319, t320, 0)) else (some (0, t319, t320, 0))) else (some (0, t319, t320, 0))))) = some (r1, r2, r3, r4) := by rw [if_neg (show ¬ (false = true) by decide)] at H; exact H
     clear H
     have H := H1
     clear H1
     replace H := Option.bind_eq_some_iff.mp H
     obtain ⟨⟨t321, t324⟩, A190, H⟩ := H
     replace H : ((cottonpadref06_late.f kj6 l0_0 l0_1 l1 t321 t324 false).bind fun bt327 => (if bt327.1 < 0 then (if bt327.2 < 0 then (some (1, t319, t320, 0)) else (some (0, t319, t320, 0))) else (some (0, t319, t320, 0)))) = some (r1, r2, r3, r4) := H
     have A19 := Aside0.mk A190
     clear A190
     replace H := Option.bind_eq_some_iff.mp H
     obtain ⟨⟨t327, t328⟩, A200, H⟩ := H
     replace H : (if t327 < 0 then (if t328 < 0 then (some (1, t319, t320, 0)) else (some (0, t319, t320, 0))) else (some (0, t319, t320, 0))) = some (r1, r2, r3, r4) := H
     have A20 := Aside0.mk A200
     clear A200
     by_cases c21 : t327 < 0
     ·rw [if_pos c21] at H
      have c21b0 : decide (t327 < 0) = true := decide_eq_true c21
      clear c21
      by_cases c22 : t328 < 0
      ·rw [if_pos c22] at H
       have c22b0 : decide (t328 < 0) = true := decide_eq_true c22
       clear c22
       simp only [Option.some.injEq, Prod.mk.injEq] at H
       obtain ⟨rfl, rfl, rfl, rfl⟩ := H
       have hcz23_0 : wc.cell? ⟨gb311, 0, none⟩ = some (.slice A0_0 l0_0.length c0_0) := bc_ BK311 0
       have hcz23_1 : wc.cell? ⟨gb311, 1, none⟩ = some (.slice A0_1 l0_1.length c0_1) := bc_ BK311 1
       have hfz23_0 := blk_frozen BK311.out 0
       have hfz23_1 := blk_frozen BK311.out 1
       go_wp2_with (first | ((with_reducible refine gate_callee (f := 56) rfl ?_); refine goesL_ (some 44) rfl rfl Tryd.func56 (by kernel_rfl) rfl #[.agg #[.slice A0_0 l0_0.length c0_0, .slice A0_1 l0_1.length c0_1], .slice A1 l1.length c1, .bool false] rfl ls_ ?_; (with_reducible refine (cottonpadref06_Ends.calls kj6 _ _ l0_0 _ _ l0_1 _ _ l1 false t321 t324 _ ?side1 ?side2 ?side3 ?side4 ?side5 ?side6 A19.out).mono ?_); (case side1 => exact kc_ HR0_0 HB); (case side2 => exact HC0_0.out); (case side3 => exact kc_ HR0_1 HB); (case side4 => exact HC0_1.out); (case side5 => exact kc_ HR1 HB); (case side6 => exact HC1.out); rintro e w24 ⟨v322, v325, rfl, ho0, ho1, hb⟩; refine ⟨_, rfl, ?_⟩; have HO323 := Aside0.mk (Kd.R_lower ho0 (below_size (be1_ HB GE311))); have HO326 := Aside0.mk (Kd.S_lower ho1 (below_size (be1_ HB GE311))); replace BK311 := bb_ BK311 hb; replace HB := bs1_ HB GE311 hb; (try clear hb); (try clear hb2); (try clear hk); (try clear hi); (try clear ho0); (try clear ho1); have hcz25_0 : w24.cell? ⟨gb311, 0, none⟩ = some (.slice A0_0 l0_0.length c0_0) := bc_ BK311 0; have hcz25_1 : w24.cell? ⟨gb311, 1, none⟩ = some (.slice A0_1 l0_1.length c0_1) := bc_ BK311 1; have hfz25_0 := blk_frozen BK311.out 0; have hfz25_1 := blk_frozen BK311.out 1; obtain ⟨Ao26, co26, eo26⟩ := Kd.R_slice HO323.out; subst eo26; obtain ⟨Ao27, co27, eo27⟩ := Kd.S_slice HO326.out; subst eo27) | ((with_reducible refine gate_callee (f := 66) rfl ?_); refine goesL_ (some 52) rfl rfl Tryd.func66 (by kernel_rfl) rfl #[.agg #[.slice A0_0 l0_0.length c0_0, .slice A0_1 l0_1.length c0_1], .slice A1 l1.length c1, .slice Ao26 t321.length co26, .slice Ao27 t324.length co27, .bool false] rfl ls_ ?_; (with_reducible refine (cottonpadref06_late.calls kj6 _ _ l0_0 _ _ l0_1 _ _ l1 _ _ t321 _ _ t324 false t327 t328 _ ?side1 ?side2 ?side3 ?side4 ?side5 ?side6 ?side7 ?side8 ?side9 ?side10 A20.out).mono ?_); (case side1 => exact kc_ HR0_0 HB); (case side2 => exact HC0_0.out); (case side3 => exact kc_ HR0_1 HB); (case side4 => exact HC0_1.out); (case side5 => exact kc_ HR1 HB); (case side6 => exact HC1.out); (case side7 => exact kd_ (Kd.R_reads' HO323.out).2.2); (case side8 => exact (Kd.R_reads' HO323.out).2.1); (case side9 => repeat (first | exact (Kd.S_reads' HO326.out).2.2 | (with_reducible refine Kd.C_alloc ?_ _) | (with_reducible refine Kd.C_drewN ?_ _) | (with_reducible refine Kd.C_drew ?_))); (case side10 => exact (Kd.S_reads' HO326.out).2.1); rintro e w28 ⟨rfl, hb⟩; refine ⟨_, rfl, ?_⟩; replace HO323 := rb_ HO323 hb; replace HO326 := Aside0.mk (Kd.S_below (by (with_reducible repeat (first | apply Kd.S_alloc | apply Kd.S_drewN | apply Kd.S_drew)); exact HO326.out) hb); replace BK311 := bb_ BK311 hb; replace HB := bs1_ HB GE311 hb; (try clear hb); (try clear hb2); (try clear hk); (try clear hi)))
       refine bodyPost_ret (results_list (rs := [.tmp 4, .tmp 5, .tmp 6, .tmp 7]) rfl (by simp) (.tmp (.tmp (.tmp (.tmp .nil))))) rfl ?_
       exact ⟨rf_, be1_ HB GE311⟩
      ·rw [if_neg c22] at H
       have c22b0 : decide (t328 < 0) = false := decide_eq_false c22
       clear c22
       simp only [Option.some.injEq, Prod.mk.injEq] at H
       obtain ⟨rfl, rfl, rfl, rfl⟩ := H
       have hcz29_0 : wc.cell? ⟨gb311, 0, none⟩ = some (.slice A0_0 l0_0.length c0_0) := bc_ BK311 0
       have hcz29_1 : wc.cell? ⟨gb311, 1, none⟩ = some (.slice A0_1 l0_1.length c0_1) := bc_ BK311 1
       have hfz29_0 := blk_frozen BK311.out 0
       have hfz29_1 := blk_frozen BK311.out 1
       go_wp2_with (first | ((with_reducible refine gate_callee (f := 56) rfl ?_); refine goesL_ (some 44) rfl rfl Tryd.func56 (by kernel_rfl) rfl #[.agg #[.slice A0_0 l0_0.length c0_0, .slice A0_1 l0_1.length c0_1], .slice A1 l1.length c1, .bool false] rfl ls_ ?_; (with_reducible refine (cottonpadref06_Ends.calls kj6 _ _ l0_0 _ _ l0_1 _ _ l1 false t321 t324 _ ?side1 ?side2 ?side3 ?side4 ?side5 ?side6 A19.out).mono ?_); (case side1 => exact kc_ HR0_0 HB); (case side2 => exact HC0_0.out); (case side3 => exact kc_ HR0_1 HB); (case side4 => exact HC0_1.out); (case side5 => exact kc_ HR1 HB); (case side6 => exact HC1.out); rintro e w30 ⟨v322, v325, rfl, ho0, ho1, hb⟩; refine ⟨_, rfl, ?_⟩; have HO323 := Aside0.mk (Kd.R_lower ho0 (below_size (be1_ HB GE311))); have HO326 := Aside0.mk (Kd.S_lower ho1 (below_size (be1_ HB GE311))); replace BK311 := bb_ BK311 hb; replace HB := bs1_ HB GE311 hb; (try clear hb); (try clear hb2); (try clear hk); (try clear hi); (try clear ho0); (try clear ho1); have hcz31_0 : w30.cell? ⟨gb311, 0, none⟩ = some (.slice A0_0 l0_0.length c0_0) := bc_ BK311 0; have hcz31_1 : w30.cell? ⟨gb311, 1, none⟩ = some (.slice A0_1 l0_1.length c0_1) := bc_ BK311 1; have hfz31_0 := blk_frozen BK311.out 0; have hfz31_1 := blk_frozen BK311.out 1; obtain ⟨Ao32, co32, eo32⟩ := Kd.R_slice HO323.out; subst eo32; obtain ⟨Ao33, co33, eo33⟩ := Kd.S_slice HO326.out; subst eo33) | ((with_reducible refine gate_callee (f := 66) rfl ?_); refine goesL_ (some 52) rfl rfl Tryd.func66 (by kernel_rfl) rfl #[.agg #[.slice A0_0 l0_0.length c0_0, .slice A0_1 l0_1.length c0_1], .slice A1 l1.length c1, .slice Ao32 t321.length co32, .slice Ao33 t324.length co33, .bool false] rfl ls_ ?_; (with_reducible refine (cottonpadref06_late.calls kj6 _ _ l0_0 _ _ l0_1 _ _ l1 _ _ t321 _ _ t324 false t327 t328 _ ?side1 ?side2 ?side3 ?side4 ?side5 ?side6 ?side7 ?side8 ?side9 ?side10 A20.out).mono ?_); (case side1 => exact kc_ HR0_0 HB); (case side2 => exact HC0_0.out); (case side3 => exact kc_ HR0_1 HB); (case side4 => exact HC0_1.out); (case side5 => exact kc_ HR1 HB); (case side6 => exact HC1.out); (case side7 => exact kd_ (Kd.R_reads' HO323.out).2.2); (case side8 => exact (Kd.R_reads' HO323.out).2.1); (case side9 => repeat (first | exact (Kd.S_reads' HO326.out).2.2 | (with_reducible refine Kd.C_alloc ?_ _) | (with_reducible refine Kd.C_drewN ?_ _) | (with_reducible refine Kd.C_drew ?_))); (case side10 => exact (Kd.S_reads' HO326.out).2.1); rintro e w34 ⟨rfl, hb⟩; refine ⟨_, rfl, ?_⟩; replace HO323 := rb_ HO323 hb; replace HO326 := Aside0.mk (Kd.S_below (by (with_reducible repeat (first | apply Kd.S_alloc | apply Kd.S_drewN | apply Kd.S_drew)); exact HO326.out) hb); replace BK311 := bb_ BK311 hb; replace HB := bs1_ HB GE311 hb; (try clear hb); (try clear hb2); (try clear hk); (try clear hi)))
       refine bodyPost_ret (results_list (rs := [.tmp 4, .tmp 5, .tmp 6, .tmp 7]) rfl (by simp) (.tmp (.tmp (.tmp (.tmp .nil))))) rfl ?_
       exact ⟨rf_, be1_ HB GE311⟩
     ·rw [if_neg c21] at H
      have c21b0 : decide (t327 < 0) = false := decide_eq_false c21
      clear c21
      simp only [Option.some.injEq, Prod.mk.injEq] at H
      obtain ⟨rfl, rfl, rfl, rfl⟩ := H
      have hcz35_0 : wc.cell? ⟨gb311, 0, none⟩ = some (.slice A0_0 l0_0.length c0_0) := bc_ BK311 0
      have hcz35_1 : wc.cell? ⟨gb311, 1, none⟩ = some (.slice A0_1 l0_1.length c0_1) := bc_ BK311 1
      have hfz35_0 := blk_frozen BK311.out 0
      have hfz35_1 := blk_frozen BK311.out 1
      go_wp2_with (first | ((with_reducible refine gate_callee (f := 56) rfl ?_); refine goesL_ (some 44) rfl rfl Tryd.func56 (by kernel_rfl) rfl #[.agg #[.slice A0_0 l0_0.length c0_0, .slice A0_1 l0_1.length c0_1], .slice A1 l1.length c1, .bool false] rfl ls_ ?_; (with_reducible refine (cottonpadref06_Ends.calls kj6 _ _ l0_0 _ _ l0_1 _ _ l1 false t321 t324 _ ?side1 ?side2 ?side3 ?side4 ?side5 ?side6 A19.out).mono ?_); (case side1 => exact kc_ HR0_0 HB); (case side2 => exact HC0_0.out); (case side3 => exact kc_ HR0_1 HB); (case side4 => exact HC0_1.out); (case side5 => exact kc_ HR1 HB); (case side6 => exact HC1.out); rintro e w36 ⟨v322, v325, rfl, ho0, ho1, hb⟩; refine ⟨_, rfl, ?_⟩; have HO323 := Aside0.mk (Kd.R_lower ho0 (below_size (be1_ HB GE311))); have HO326 := Aside0.mk (Kd.S_lower ho1 (below_size (be1_ HB GE311))); replace BK311 := bb_ BK311 hb; replace HB := bs1_ HB GE311 hb; (try clear hb); (try clear hb2); (try clear hk); (try clear hi); (try clear ho0); (try clear ho1); have hcz37_0 : w36.cell? ⟨gb311, 0, none⟩ = some (.slice A0_0 l0_0.length c0_0) := bc_ BK311 0; have hcz37_1 : w36.cell? ⟨gb311, 1, none⟩ = some (.slice A0_1 l0_1.length c0_1) := bc_ BK311 1; have hfz37_0 := blk_frozen BK311.out 0; have hfz37_1 := blk_frozen BK311.out 1; obtain ⟨Ao38, co38, eo38⟩ := Kd.R_slice HO323.out; subst eo38; obtain ⟨Ao39, co39, eo39⟩ := Kd.S_slice HO326.out; subst eo39) | ((with_reducible refine gate_callee (f := 66) rfl ?_); refine goesL_ (some 52) rfl rfl Tryd.func66 (by kernel_rfl) rfl #[.agg #[.slice A0_0 l0_0.length c0_0, .slice A0_1 l0_1.length c0_1], .slice A1 l1.length c1, .slice Ao38 t321.length co38, .slice Ao39 t324.length co39, .bool false] rfl ls_ ?_; (with_reducible refine (cottonpadref06_late.calls kj6 _ _ l0_0 _ _ l0_1 _ _ l1 _ _ t321 _ _ t324 false t327 t328 _ ?side1 ?side2 ?side3 ?side4 ?side5 ?side6 ?side7 ?side8 ?side9 ?side10 A20.out).mono ?_); (case side1 => exact kc_ HR0_0 HB); (case side2 => exact HC0_0.out); (case side3 => exact kc_ HR0_1 HB); (case side4 => exact HC0_1.out); (case side5 => exact kc_ HR1 HB); (case side6 => exact HC1.out); (case side7 => exact kd_ (Kd.R_reads' HO323.out).2.2); (case side8 => exact (Kd.R_reads' HO323.out).2.1); (case side9 => repeat (first | exact (Kd.S_reads' HO326.out).2.2 | (with_reducible refine Kd.C_alloc ?_ _) | (with_reducible refine Kd.C_drewN ?_ _) | (with_reducible refine Kd.C_drew ?_))); (case side10 => exact (Kd.S_reads' HO326.out).2.1); rintro e w40 ⟨rfl, hb⟩; refine ⟨_, rfl, ?_⟩; replace HO323 := rb_ HO323 hb; replace HO326 := Aside0.mk (Kd.S_below (by (with_reducible repeat (first | apply Kd.S_alloc | apply Kd.S_drewN | apply Kd.S_drew)); exact HO326.out) hb); replace BK311 := bb_ BK311 hb; replace HB := bs1_ HB GE311 hb; (try clear hb); (try clear hb2); (try clear hk); (try clear hi)))
      refine bodyPost_ret (results_list (rs := [.tmp 4, .tmp 5, .tmp 6, .tmp 7]) rfl (by simp) (.tmp (.tmp (.tmp (.tmp .nil))))) rfl ?_
      exact ⟨rf_, be1_ HB GE311⟩
 ·rw [if_neg c4] at H
  have c4b0 : (t312 == 0) = false := beq_eq_false_iff_ne.mpr c4
  have c4b1 : (t312 != 0) = true := bne_iff_ne.mpr c4
  simp only [Option.some.injEq, Prod.mk.injEq] at H
  obtain ⟨rfl, rfl, rfl, rfl⟩ := H
  go_enter Tryd.func27, Tryd.ntmps27
  go_wp2_with (first | ((with_reducible refine gate_dst (N := 2) rfl ?_); refine box_event ?hg (N := 2) ?hd (cs := #[.slice A0_0 l0_0.length c0_0, .slice A0_1 l0_1.length c0_1]) (t := 25) ?hr ?_; (case hd => rfl); (case hg => rfl); (case hr => exact gs_); intro gb311 hg w41 hbox hb; have BK311 := Aside0.mk (hbox); have GW311 := hl_ hg (be_ HB); have GE311 := hl_ hg (be_ HB); replace HB := bs_ HB hb; clear hb hbox hg; have hcz42_0 : w41.cell? ⟨gb311, 0, none⟩ = some (.slice A0_0 l0_0.length c0_0) := bc_ BK311 0; have hcz42_1 : w41.cell? ⟨gb311, 1, none⟩ = some (.slice A0_1 l0_1.length c0_1) := bc_ BK311 1; have hfz42_0 := blk_frozen BK311.out 0; have hfz42_1 := blk_frozen BK311.out 1) | ((with_reducible refine gate_callee (f := 22) rfl ?_); refine goesL_ (some 17) rfl rfl Tryd.func22 (by kernel_rfl) rfl #[.agg #[.slice A0_0 l0_0.length c0_0, .slice A0_1 l0_1.length c0_1], .slice A1 l1.length c1] rfl ls_ ?_; (with_reducible refine (cottonpadref06_Check.calls k _ _ l0_0 _ _ l0_1 _ _ l1 t312 _ ?side1 ?side2 ?side3 ?side4 ?side5 ?side6 A3.out).mono ?_); (case side1 => exact kc_ HR0_0 HB); (case side2 => exact HC0_0.out); (case side3 => exact kc_ HR0_1 HB); (case side4 => exact HC0_1.out); (case side5 => exact kc_ HR1 HB); (case side6 => exact HC1.out); rintro e w43 ⟨rfl, hb⟩; refine ⟨_, rfl, ?_⟩; replace BK311 := bb_ BK311 hb; replace HB := bs1_ HB GE311 hb; (try clear hb); (try clear hb2); (try clear hk); (try clear hi)))
  refine bodyPost_ret (results_list (rs := [.tmp 4, .tmp 5, .tmp 6, .tmp 7]) rfl (by simp) (.tmp (.tmp (.tmp (.tmp .nil))))) rfl ?_
  exact ⟨rf_, be1_ HB GE311⟩

end Go.Proofs.YtdeaccbolnlgpaaDoor.X
