import Derived.Test.YtdeaccbolnlgpaaDoorX0
import Derived.Test.YtdeaccbolnlgpaaDoorXNA
import Derived.Test.YtdeaccbolnlgpaaDoorXND
import Derived.Test.YtdeaccbolnlgpaaDoorXAlive
import Derived.Test.YtdeaccbolnlgpaaDoorXG
import Derived.Test.YtdeaccbolnlgpaaDoorXHL
import Derived.Test.YtdeaccbolnlgpaaDoorXHO
import Derived.Test.YtdeaccbolnlgpaaDoorXHS
namespace Go.Proofs.YtdeaccbolnlgpaaDoor.X
open Go.RowKit Go.Proofs.YtdeaccbolnlgpaaDoorW.PrintWords Go.Proofs.YtdeaccbolnlgpaaDoorW.PrintLast Go.Proofs.YtdeaccbolnlgpaaDoorW.PrintMore
attribute [local go_sem] max2_int min2_int max_two min_two max_three min_three max_four min_four   -- for this text's walks alone
set_option linter.unusedVariables false
set_option linter.unusedSimpArgs false

/-! ### cottonpadlaw06_ExitsTrue: function 6 -/
mutual
def cottonpadlaw06_ExitsTrue.j0 : Nat → List (S48) → List Int → Bool → Bool → List (S62) → List (S81) → Option (Bool)
 | 0, _, _, _, _, _, _ => none
 | k + 1, x1, x2, x7, x32, x668000, x668001 => if x32 = true then (some x7) else ((cottonpadlaw06_truth.f k x668000 x668001 x1 x2).bind fun bt670 => (cottonpadlaw06_ExitsTrue.l0 k x1 x7 bt670.2.1 bt670.2.2 0 x668000 (x668000.length : Int) 0 x668000 x668001))
def cottonpadlaw06_ExitsTrue.l0 : Nat → List (S48) → Bool → List (List Int) → Bool → Int → List (S62) → Int → Int → List (S62) → List (S81) → Option (Bool)
 | 0, _, _, _, _, _, _, _, _, _, _ => none
 | k + 1, x1, x7, x9, x10, x11, x43, x44, x45, x668000, x668001 => if x45 < x44 then (if 0 ≤ x45 then (if x45 < (x43.length : Int) then ((exits_Leaves.f x668000 x668001 x1 x45).bind fun bt679 => (if bt679.2 = 0 then (if x45 < (x9.length : Int) then (cottonpadlaw06_ExitsTrue.j2 k x1 x7 x9 x10 x11 x45 bt679.1 x43 x44 x45 ((bt679.1.length : Int) != ((rd_L11 x9 x45).length : Int)) x668000 x668001 ((rd_T62 x43 x45).f0) ((rd_T62 x43 x45).f1) ((rd_T62 x43 x45).f2.f0) ((rd_T62 x43 x45).f2.f1) ((rd_T62 x43 x45).f3.f0) ((rd_T62 x43 x45).f3.f1)) else (none)) else (cottonpadlaw06_ExitsTrue.j2 k x1 x7 x9 x10 x11 x45 bt679.1 x43 x44 x45 true x668000 x668001 ((rd_T62 x43 x45).f0) ((rd_T62 x43 x45).f1) ((rd_T62 x43 x45).f2.f0) ((rd_T62 x43 x45).f2.f1) ((rd_T62 x43 x45).f3.f0) ((rd_T62 x43 x45).f3.f1)))) else (none)) else (none)) else ((exits_Out.f x668000 x668001 x1).bind fun bt688 => ((exits_Safe.f x668000 x668001 x1).bind fun bt692 => (if bt688.2.2 = 0 then (if bt692.2.2.2 = 0 then (if bt692.1 > 2 then (some false) else (if x11 < bt688.1 then (some false) else (if x11 > bt688.2.1 then (some false) else (if x7 = true then (if bt692.1 = 2 then (if x10 = true then (if bt692.1 = 0 then (some (!x10)) else (some true)) else (some false)) else (if bt692.1 = 0 then (some (!x10)) else (some true))) else (some false))))) else (some false)) else (some false))))
def cottonpadlaw06_ExitsTrue.j2 : Nat → List (S48) → Bool → List (List Int) → Bool → Int → Int → List (S36) → List (S62) → Int → Int → Bool → List (S62) → List (S81) → Int → Int → Int → Int → Int → Int → Option (Bool)
 | 0, _, _, _, _, _, _, _, _, _, _, _, _, _, _, _, _, _, _, _ => none
 | k + 1, x1, x7, x9, x10, x11, x12, x14, x43, x44, x45, x68, x668000, x668001, x679000, x679001, x679002, x679003, x679004, x679005 => if x68 = true then (some false) else (if 0 ≤ x12 then (if x12 < (x9.length : Int) then (cottonpadlaw06_ExitsTrue.l1 k x1 x7 x9 x10 x11 x14 x43 x44 x45 (rd_L11 x9 x12) ((rd_L11 x9 x12).length : Int) 0 x668000 x668001 x679000 x679001 x679002 x679003 x679004 x679005) else (none)) else (none))
def cottonpadlaw06_ExitsTrue.l1 : Nat → List (S48) → Bool → List (List Int) → Bool → Int → List (S36) → List (S62) → Int → Int → List Int → Int → Int → List (S62) → List (S81) → Int → Int → Int → Int → Int → Int → Option (Bool)
 | 0, _, _, _, _, _, _, _, _, _, _, _, _, _, _, _, _, _, _, _, _ => none
 | k + 1, x1, x7, x9, x10, x11, x14, x43, x44, x45, x72, x73, x74, x668000, x668001, x679000, x679001, x679002, x679003, x679004, x679005 => if x74 < x73 then (if 0 ≤ x74 then (if x74 < (x72.length : Int) then (if x74 < (x14.length : Int) then (if (rd x72 x74) < ((rd_T36 x14 x74).f0) then (cottonpadlaw06_ExitsTrue.j4 k x1 x7 x9 x10 x11 x14 (rd x72 x74) x43 x44 x45 x72 x73 x74 true x668000 x668001 x679000 x679001 x679002 x679003 x679004 x679005) else (cottonpadlaw06_ExitsTrue.j4 k x1 x7 x9 x10 x11 x14 (rd x72 x74) x43 x44 x45 x72 x73 x74 (decide ((rd x72 x74) > ((rd_T36 x14 x74).f1))) x668000 x668001 x679000 x679001 x679002 x679003 x679004 x679005)) else (none)) else (none)) else (none)) else (cottonpadlaw06_ExitsTrue.l0 k x1 x7 x9 x10 x11 x43 x44 (wrap64 (x45 + 1)) x668000 x668001)
def cottonpadlaw06_ExitsTrue.j4 : Nat → List (S48) → Bool → List (List Int) → Bool → Int → List (S36) → Int → List (S62) → Int → Int → List Int → Int → Int → Bool → List (S62) → List (S81) → Int → Int → Int → Int → Int → Int → Option (Bool)
 | 0, _, _, _, _, _, _, _, _, _, _, _, _, _, _, _, _, _, _, _, _, _, _ => none
 | k + 1, x1, x7, x9, x10, x11, x14, x17, x43, x44, x45, x72, x73, x74, x94, x668000, x668001, x679000, x679001, x679002, x679003, x679004, x679005 => if x94 = true then (some false) else (if x679000 = (-1) then (cottonpadlaw06_ExitsTrue.l1 k x1 x7 x9 x10 (mx x11 x17) x14 x43 x44 x45 x72 x73 (wrap64 (x74 + 1)) x668000 x668001 x679000 x679001 x679002 x679003 x679004 x679005) else (cottonpadlaw06_ExitsTrue.l1 k x1 x7 x9 x10 x11 x14 x43 x44 x45 x72 x73 (wrap64 (x74 + 1)) x668000 x668001 x679000 x679001 x679002 x679003 x679004 x679005))
end
def cottonpadlaw06_ExitsTrue.f (k : Nat) (l0_0 : List (S62)) (l0_1 : List (S81)) (l1 : List (S48)) (l2 : List Int) : Option (Bool) := (cottonpadlaw06_alive_t.f).bind fun t668 => ((cottonpadlaw06_ready.f k l0_0 l0_1 l1).bind fun t669 => (if t669 = true then (cottonpadlaw06_ExitsTrue.j0 k l1 l2 t668 (!t668) l0_0 l0_1) else (cottonpadlaw06_ExitsTrue.j0 k l1 l2 t668 true l0_0 l0_1)))
theorem cottonpadlaw06_ExitsTrue.mono_l : ∀ k, (∀ y0 y1 y2 y3 y4 y5, LeO (cottonpadlaw06_ExitsTrue.j0 k y0 y1 y2 y3 y4 y5) (cottonpadlaw06_ExitsTrue.j0 (k + 1) y0 y1 y2 y3 y4 y5)) ∧ (∀ y0 y1 y2 y3 y4 y5 y6 y7 y8 y9, LeO (cottonpadlaw06_ExitsTrue.l0 k y0 y1 y2 y3 y4 y5 y6 y7 y8 y9) (cottonpadlaw06_ExitsTrue.l0 (k + 1) y0 y1 y2 y3 y4 y5 y6 y7 y8 y9)) ∧ (∀ y0 y1 y2 y3 y4 y5 y6 y7 y8 y9 y10 y11 y12 y13 y14 y15 y16 y17 y18, LeO (cottonpadlaw06_ExitsTrue.j2 k y0 y1 y2 y3 y4 y5 y6 y7 y8 y9 y10 y11 y12 y13 y14 y15 y16 y17 y18) (cottonpadlaw06_ExitsTrue.j2 (k + 1) y0 y1 y2 y3 y4 y5 y6 y7 y8 y9 y10 y11 y12 y13 y14 y15 y16 y17 y18)) ∧ (∀ y0 y1 y2 y3 y4 y5 y6 y7 y8 y9 y10 y11 y12 y13 y14 y15 y16 y17 y18 y19, LeO (cottonpadlaw06_ExitsTrue.l1 k y0 y1 y2 y3 y4 y5 y6 y7 y8 y9 y10 y11 y12 y13 y14 y15 y16 y17 y18 y19) (cottonpadlaw06_ExitsTrue.l1 (k + 1) y0 y1 y2 y3 y4 y5 y6 y7 y8 y9 y10 y11 y12 y13 y14 y15 y16 y17 y18 y19)) ∧ (∀ y0 y1 y2 y3 y4 y5 y6 y7 y8 y9 y10 y11 y12 y13 y14 y15 y16 y17 y18 y19 y20 y21, LeO (cottonpadlaw06_ExitsTrue.j4 k y0 y1 y2 y3 y4 y5 y6 y7 y8 y9 y10 y11 y12 y13 y14 y15 y16 y17 y18 y19 y20 y21) (cottonpadlaw06_ExitsTrue.j4 (k + 1) y0 y1 y2 y3 y4 y5 y6 y7 y8 y9 y10 y11 y12 y13 y14 y15 y16 y17 y18 y19 y20 y21))
 | 0 => ⟨fun _ _ _ _ _ _ r h => by simp [cottonpadlaw06_ExitsTrue.j0] at h, fun _ _ _ _ _ _ _ _ _ _ r h => by simp [cottonpadlaw06_ExitsTrue.l0] at h, fun _ _ _ _ _ _ _ _ _ _ _ _ _ _ _ _ _ _ _ r h => by simp [cottonpadlaw06_ExitsTrue.j2] at h, fun _ _ _ _ _ _ _ _ _ _ _ _ _ _ _ _ _ _ _ _ r h => by simp [cottonpadlaw06_ExitsTrue.l1] at h, fun _ _ _ _ _ _ _ _ _ _ _ _ _ _ _ _ _ _ _ _ _ _ r h => by simp [cottonpadlaw06_ExitsTrue.j4] at h⟩
 | k + 1 => by
  obtain ⟨ih0, ih1, ih2, ih3, ih4⟩ := cottonpadlaw06_ExitsTrue.mono_l k
  refine ⟨?_, ?_, ?_, ?_, ?_⟩
  ·intro y0 y1 y2 y3 y4 y5
   unfold cottonpadlaw06_ExitsTrue.j0
   repeat' (with_reducible first | exact ih0 .. | exact ih1 .. | exact ih2 .. | exact ih3 .. | exact ih4 .. | exact cottonpadlaw06_ready.mono .. | exact cottonpadlaw06_truth.mono .. | exact LeO.refl .. | exact LeO.none .. | refine LeO.ite ?_ ?_ | refine LeO.bind ?_ (fun _ => ?_))
  ·intro y0 y1 y2 y3 y4 y5 y6 y7 y8 y9
   unfold cottonpadlaw06_ExitsTrue.l0
   repeat' (with_reducible first | exact ih0 .. | exact ih1 .. | exact ih2 .. | exact ih3 .. | exact ih4 .. | exact cottonpadlaw06_ready.mono .. | exact cottonpadlaw06_truth.mono .. | exact LeO.refl .. | exact LeO.none .. | refine LeO.ite ?_ ?_ | refine LeO.bind ?_ (fun _ => ?_))
  ·intro y0 y1 y2 y3 y4 y5 y6 y7 y8 y9 y10 y11 y12 y13 y14 y15 y16 y17 y18
   unfold cottonpadlaw06_ExitsTrue.j2
   repeat' (with_reducible first | exact ih0 .. | exact ih1 .. | exact ih2 .. | exact ih3 .. | exact ih4 .. | exact cottonpadlaw06_ready.mono .. | exact cottonpadlaw06_truth.mono .. | exact LeO.refl .. | exact LeO.none .. | refine LeO.ite ?_ ?_ | refine LeO.bind ?_ (fun _ => ?_))
  ·intro y0 y1 y2 y3 y4 y5 y6 y7 y8 y9 y10 y11 y12 y13 y14 y15 y16 y17 y18 y19
   unfold cottonpadlaw06_ExitsTrue.l1
   repeat' (with_reducible first | exact ih0 .. | exact ih1 .. | exact ih2 .. | exact ih3 .. | exact ih4 .. | exact cottonpadlaw06_ready.mono .. | exact cottonpadlaw06_truth.mono .. | exact LeO.refl .. | exact LeO.none .. | refine LeO.ite ?_ ?_ | refine LeO.bind ?_ (fun _ => ?_))
  ·intro y0 y1 y2 y3 y4 y5 y6 y7 y8 y9 y10 y11 y12 y13 y14 y15 y16 y17 y18 y19 y20 y21
   unfold cottonpadlaw06_ExitsTrue.j4
   repeat' (with_reducible first | exact ih0 .. | exact ih1 .. | exact ih2 .. | exact ih3 .. | exact ih4 .. | exact cottonpadlaw06_ready.mono .. | exact cottonpadlaw06_truth.mono .. | exact LeO.refl .. | exact LeO.none .. | refine LeO.ite ?_ ?_ | refine LeO.bind ?_ (fun _ => ?_))
theorem cottonpadlaw06_ExitsTrue.mono : ∀ a0 a1 a2 a3 k, LeO (cottonpadlaw06_ExitsTrue.f k a0 a1 a2 a3) (cottonpadlaw06_ExitsTrue.f (k + 1) a0 a1 a2 a3) := by
 intro a0 a1 a2 a3 k
 obtain ⟨ih0, ih1, ih2, ih3, ih4⟩ := cottonpadlaw06_ExitsTrue.mono_l k
 unfold cottonpadlaw06_ExitsTrue.f
 repeat' (with_reducible first | exact ih0 .. | exact ih1 .. | exact ih2 .. | exact ih3 .. | exact ih4 .. | exact cottonpadlaw06_ready.mono .. | exact cottonpadlaw06_truth.mono .. | exact LeO.refl .. | exact LeO.none .. | refine LeO.ite ?_ ?_ | refine LeO.bind ?_ (fun _ => ?_))
set_option maxHeartbeats 8000000 in
set_option maxRecDepth 100000 in
theorem cottonpadlaw06_ExitsTrue.calls (k : Nat) (A0_0 : Option Addr) (c0_0 : Nat) (l0_0 : List (S62)) (A0_1 : Option Addr) (c0_1 : Nat) (l0_1 : List (S81)) (A1 : Option Addr) (c1 : Nat) (l1 : List (S48)) (A2 : Option Addr) (c2 : Nat) (l2 : List Int) (r : Bool) (w : World) (hG : Globs w) (hrt : r = true) (hr0_0 : Kd.C k62 w A0_0 l0_0.length l0_0) (hc0_0 : l0_0.length ≤ c0_0) (hr0_1 : Kd.C k81 w A0_1 l0_1.length l0_1) (hc0_1 : l0_1.length ≤ c0_1) (hr1 : Kd.C k48 w A1 l1.length l1) (hc1 : l1.length ≤ c1) (hr2 : Kd.C (Kd.int .u32) w A2 l2.length l2) (hc2 : l2.length ≤ c2) (h : cottonpadlaw06_ExitsTrue.f k l0_0 l0_1 l1 l2 = some r) :
  Calls Tryd.prog 6 #[.agg #[.slice A0_0 l0_0.length c0_0, .slice A0_1 l0_1.length c0_1], .slice A1 l1.length c1, .slice A2 l2.length c2] w fun e w' => e = .returned (.bool r) ∧ Below w.heap.size w w' := by
 have hu25 := Tryd.underlying25
 have hu62 := Tryd.underlying62
 have hu36 := Tryd.underlying36
 have HR0_0 := Aside0.mk hr0_0
 have HC0_0 := Aside0.mk hc0_0
 clear hr0_0 hc0_0
 have HR0_1 := Aside0.mk hr0_1
 have HC0_1 := Aside0.mk hc0_1
 clear hr0_1 hc0_1
 have HR1 := Aside0.mk hr1
 have HC1 := Aside0.mk hc1
 clear hr1 hc1
 have HR2 := Aside0.mk hr2
 have HC2 := Aside0.mk hc2
 clear hr2 hc2
 have HB := Aside0.mk (Below.refl w.heap.size w)
 have HG := Aside0.mk hG
 clear hG
 have HRT := Aside0.mk hrt
 clear hrt
 have H : ((cottonpadlaw06_alive_t.f).bind fun t668 => ((cottonpadlaw06_ready.f k l0_0 l0_1 l1).bind fun t669 => (if t669 = true then (cottonpadlaw06_ExitsTrue.j0 k l1 l2 t668 (!t668) l0_0 l0_1) else (cottonpadlaw06_ExitsTrue.j0 k l1 l2 t668 true l0_0 l0_1)))) = some r := h
 clear h
 replace H := Option.bind_eq_some_iff.mp H
 obtain ⟨t668, A40, H⟩ := H
 replace H : ((cottonpadlaw06_ready.f k l0_0 l0_1 l1).bind fun t669 => (if t669 = true then (cottonpadlaw06_ExitsTrue.j0 k l1 l2 t668 (!t668) l0_0 l0_1) else (cottonpadlaw06_ExitsTrue.j0 k l1 l2 t668 true l0_0 l0_1))) = some r := H
 have A4 := Aside0.mk A40
 clear A40
 have HC5 := Aside0.mk H
 clear H
 go_enter Tryd.func6, Tryd.ntmps6
 go_upto_region 2 with (first | ((with_reducible refine gate_dst (N := 3) rfl ?_); (try (refine gate_guard (by rfl) ?_; dsimp only)); refine box_event ?hg (N := 3) ?hd (cs := #[.slice A0_0 l0_0.length c0_0, .slice A0_1 l0_1.length c0_1]) (t := 25) ?hr ?_; (case hd => rfl); (case hg => rfl); (case hr => exact gs_); intro gb667 hg w6 hbox hb; have BK667 := Aside0.mk (hbox); have GW667 := hl_ hg (be_ HB); have GE667 := hl_ hg (be_ HB); replace HB := bs_ HB hb; clear hb hbox hg) | ((with_reducible refine gate_callee (f := 30) rfl ?_); refine goesL_ (some 24) rfl rfl Tryd.func30 (by kernel_rfl) rfl #[] rfl ls_ ?_; (with_reducible refine (cottonpadlaw06_alive_t.calls  t668 _ ?side1 A4.out).mono ?_); (case side1 => exact Globs.below HG.out (be1_ HB GE667)); rintro e w7 ⟨rfl, hb⟩; refine ⟨_, rfl, ?_⟩; replace BK667 := bb_ BK667 hb; replace HB := bs1_ HB GE667 hb; (try clear hb); (try clear hb2); (try clear hk); (try clear hi)))
 (try simp only [Act.put, List.setIfInBounds_toArray, List.set_cons_zero, List.set_cons_succ])
 go_cut [32] (fun v32 wc => ∃ (kq : Nat) (x32_4 : Bool), v32 = .bool x32_4 ∧ Aside0 (cottonpadlaw06_ExitsTrue.j0 kq l1 l2 t668 x32_4 l0_0 l0_1 = some r) ∧ Aside0 (kq ≤ k) ∧ Aside0 (wc.heap[gb667]? = some (.cells #[(.slice A0_0 l0_0.length c0_0), (.slice A0_1 l0_1.length c0_1)] 25 (0, 0))) ∧ Aside0 (Below w.heap.size w wc))
 case first =>
  have H := HC5.out
  clear HC5
  replace H := Option.bind_eq_some_iff.mp H
  obtain ⟨t669, A80, H⟩ := H
  replace H : (if t669 = true then (cottonpadlaw06_ExitsTrue.j0 k l1 l2 t668 (!t668) l0_0 l0_1) else (cottonpadlaw06_ExitsTrue.j0 k l1 l2 t668 true l0_0 l0_1)) = some r := H
  have A8 := Aside0.mk A80
  clear A80
  by_cases c9 : t669 = true
  ·subst c9
   have H1 : (cottonpadlaw06_ExitsTrue.j0 k l1 l2 t668 (!t668) l0_0 l0_1) = some r := by rw [if_pos rfl] at H; exact H
   clear H
   have H := H1
   clear H1
   have H' := Aside0.mk H
   clear H
   have hcz10_0 : w7.cell? ⟨gb667, 0, none⟩ = some (.slice A0_0 l0_0.length c0_0) := bc_ BK667 0
   have hcz10_1 : w7.cell? ⟨gb667, 1, none⟩ = some (.slice A0_1 l0_1.length c0_1) := bc_ BK667 1
   have hfz10_0 := blk_frozen BK667.out 0
   have hfz10_1 := blk_frozen BK667.out 1
   go_wp2_with (first | ((with_reducible refine gate_callee (f := 36) rfl ?_); refine goesL_ (some 27) rfl rfl Tryd.func36 (by kernel_rfl) rfl #[.agg #[.slice A0_0 l0_0.length c0_0, .slice A0_1 l0_1.length c0_1], .slice A1 l1.length c1] rfl ls_ ?_; (with_reducible refine (cottonpadlaw06_ready.calls k _ _ l0_0 _ _ l0_1 _ _ l1 true _ ?side1 ?side2 ?side3 ?side4 ?side5 ?side6 A8.out).mono ?_); (case side1 => exact kc_ HR0_0 HB); (case side2 => exact HC0_0.out); (case side3 => exact kc_ HR0_1 HB); (case side4 => exact HC0_1.out); (case side5 => exact kc_ HR1 HB); (case side6 => exact HC1.out); rintro e w11 ⟨rfl, hb⟩; refine ⟨_, rfl, ?_⟩; replace BK667 := bb_ BK667 hb; replace HB := bs1_ HB GE667 hb; (try clear hb); (try clear hb2); (try clear hk); (try clear hi)))
   go_meet
   case rel => exact ⟨_, (!t668), (by first | rfl | (simp; done) | (simp [*]; done)), H', ⟨by first | omega | exact Nat.le_refl _⟩, ⟨by refine bx_ ?_; exact BK667.out⟩, ⟨be1_ HB GE667⟩⟩
  ·replace c9 := Bool.eq_false_iff.mpr c9
   subst c9
   have H1 : (cottonpadlaw06_ExitsTrue.j0 k l1 l2 t668 true l0_0 l0_1) = some r := by rw [if_neg (show ¬ (false = true) by decide)] at H; exact H
   clear H
   have H := H1
   clear H1
   have H' := Aside0.mk H
   clear H
   have hcz12_0 : w7.cell? ⟨gb667, 0, none⟩ = some (.slice A0_0 l0_0.length c0_0) := bc_ BK667 0
   have hcz12_1 : w7.cell? ⟨gb667, 1, none⟩ = some (.slice A0_1 l0_1.length c0_1) := bc_ BK667 1
   have hfz12_0 := blk_frozen BK667.out 0
   have hfz12_1 := blk_frozen BK667.out 1
   go_wp2_with (first | ((with_reducible refine gate_callee (f := 36) rfl ?_); refine goesL_ (some 27) rfl rfl Tryd.func36 (by kernel_rfl) rfl #[.agg #[.slice A0_0 l0_0.length c0_0, .slice A0_1 l0_1.length c0_1], .slice A1 l1.length c1] rfl ls_ ?_; (with_reducible refine (cottonpadlaw06_ready.calls k _ _ l0_0 _ _ l0_1 _ _ l1 false _ ?side1 ?side2 ?side3 ?side4 ?side5 ?side6 A8.out).mono ?_); (case side1 => exact kc_ HR0_0 HB); (case side2 => exact HC0_0.out); (case side3 => exact kc_ HR0_1 HB); (case side4 => exact HC0_1.out); (case side5 => exact kc_ HR1 HB); (case side6 => exact HC1.out); rintro e w13 ⟨rfl, hb⟩; refine ⟨_, rfl, ?_⟩; replace BK667 := bb_ BK667 hb; replace HB := bs1_ HB GE667 hb; (try clear hb); (try clear hb2); (try clear hk); (try clear hi)))
   go_meet
   case rel => exact ⟨_, (true), (by first | rfl | (simp; done) | (simp [*]; done)), H', ⟨by first | omega | exact Nat.le_refl _⟩, ⟨by refine bx_ ?_; exact BK667.out⟩, ⟨be1_ HB GE667⟩⟩
 case rest =>
  clear HC5
  try clear c1
  try clear c2
  try clear p2
  try clear c3
  try clear c6
  try clear c9
  try clear hcz10_0
  try clear hcz10_1
  try clear hcz12_0
  try clear hcz12_1
  try clear hfz10_0
  try clear hfz10_1
  try clear hfz12_0
  try clear hfz12_1
  obtain ⟨kq, x32_4, rfl, HA, HJ4, BK667, HB⟩ := hcut
  cases kq with
  | zero => exact absurd HA.out (by simp [cottonpadlaw06_ExitsTrue.j0])
  | succ kj4 =>
   have H := HA.out
   clear HA
   simp only [cottonpadlaw06_ExitsTrue.j0] at H
   by_cases c14 : x32_4 = true
   ·subst c14
    have H1 : (some t668) = some r := by rw [if_pos rfl] at H; exact H
    clear H
    have H := H1
    clear H1
    obtain rfl := Option.some.inj H
    go_wp2
    go_ret
    exact ⟨rf_, be1_ HB GE667⟩
   ·replace c14 := Bool.eq_false_iff.mpr c14
    subst c14
    have H1 : ((cottonpadlaw06_truth.f kj4 l0_0 l0_1 l1 l2).bind fun bt670 => (cottonpadlaw06_ExitsTrue.l0 kj4 l1 t668 bt670.2.1 bt670.2.2 0 l0_0 (l0_0.length : Int) 0 l0_0 l0_1)) = some r := by rw [if_neg (show ¬ (false = true) by decide)] at H; exact H
    clear H
    have H := H1
    clear H1
    replace H := Option.bind_eq_some_iff.mp H
    obtain ⟨⟨t670, t673, t676⟩, A150, H⟩ := H
    replace H : (cottonpadlaw06_ExitsTrue.l0 kj4 l1 t668 t673 t676 0 l0_0 (l0_0.length : Int) 0 l0_0 l0_1) = some r := H
    have A15 := Aside0.mk A150
    clear A150
    have H' := Aside0.mk H
    clear H
    have hcz16_0 : wc.cell? ⟨gb667, 0, none⟩ = some (.slice A0_0 l0_0.length c0_0) := bc_ BK667 0
    have hcz16_1 : wc.cell? ⟨gb667, 1, none⟩ = some (.slice A0_1 l0_1.length c0_1) := bc_ BK667 1
    have hfz16_0 := blk_frozen BK667.out 0
    have hfz16_1 := blk_frozen BK667.out 1
    go_wp2_with (first | ((with_reducible refine gate_callee (f := 37) rfl ?_); refine goesL_ (some 38) rfl rfl Tryd.func37 (by kernel_rfl) rfl #[.agg #[.slice A0_0 l0_0.length c0_0, .slice A0_1 l0_1.length c0_1], .slice A1 l1.length c1, .slice A2 l2.length c2] rfl ls_ ?_; (with_reducible refine (cottonpadlaw06_truth.calls kj4 _ _ l0_0 _ _ l0_1 _ _ l1 _ _ l2 t670 t673 t676 _ ?side1 ?side2 ?side3 ?side4 ?side5 ?side6 ?side7 ?side8 A15.out).mono ?_); (case side1 => exact kc_ HR0_0 HB); (case side2 => exact HC0_0.out); (case side3 => exact kc_ HR0_1 HB); (case side4 => exact HC0_1.out); (case side5 => exact kc_ HR1 HB); (case side6 => exact HC1.out); (case side7 => exact kc_ HR2 HB); (case side8 => exact HC2.out); rintro e w17 ⟨v671, v674, rfl, ho0, ho1, hb⟩; refine ⟨_, rfl, ?_⟩; have HO672 := Aside0.mk (Kd.R_lower ho0 (below_size (be1_ HB GE667))); have HO675 := Aside0.mk (Kd.S_lower ho1 (below_size (be1_ HB GE667))); replace BK667 := bb_ BK667 hb; replace HB := bs1_ HB GE667 hb; (try clear hb); (try clear hb2); (try clear hk); (try clear hi); (try clear ho0); (try clear ho1); have hcz18_0 : w17.cell? ⟨gb667, 0, none⟩ = some (.slice A0_0 l0_0.length c0_0) := bc_ BK667 0; have hcz18_1 : w17.cell? ⟨gb667, 1, none⟩ = some (.slice A0_1 l0_1.length c0_1) := bc_ BK667 1; have hfz18_0 := blk_frozen BK667.out 0; have hfz18_1 := blk_frozen BK667.out 1))
    go_loopg [11, 45] kj4 (fun kq v11 v45 w' => ∃ (x11_2 : Int) (x45_2 : Int), v11 = .int .i64 x11_2 ∧ v45 = .int .i64 x45_2 ∧ Aside0 (cottonpadlaw06_ExitsTrue.l0 kq l1 t668 t673 t676 x11_2 l0_0 (l0_0.length : Int) x45_2 l0_0 l0_1 = some r) ∧ Aside0 (kq ≤ kj4) ∧ Aside0 (Kd.S (Kd.slice 3 (Kd.int .i64)) 67 w' w.heap.size (fun _ => True) v674 t673) ∧ Aside0 (w'.heap[gb667]? = some (.cells #[(.slice A0_0 l0_0.length c0_0), (.slice A0_1 l0_1.length c0_1)] 25 (0, 0))) ∧ Aside0 (Below w.heap.size w w'))
    case atStart => exact ⟨(0), (0), (by first | rfl | (simp; done) | (simp [*]; done)), (by first | rfl | (simp; done) | (simp [*]; done)), H', ⟨Nat.le_refl _⟩, ⟨by (with_reducible repeat (first | apply Kd.S_alloc | apply Kd.S_drewN | apply Kd.S_drew)); exact Kd.S_mono HO675.out (fun _ hk => trivial)⟩, ⟨by refine bx_ ?_; exact BK667.out⟩, ⟨be1_ HB GE667⟩⟩
    case round =>
     clear H'
     try clear c1
     try clear c2
     try clear p2
     try clear c3
     try clear c6
     try clear c9
     try clear c14
     try clear hcz10_0
     try clear hcz10_1
     try clear hcz12_0
     try clear hcz12_1
     try clear hcz16_0
     try clear hcz16_1
     try clear hcz18_0
     try clear hcz18_1
     try clear hfz10_0
     try clear hfz10_1
     try clear hfz12_0
     try clear hfz12_1
     try clear hfz16_0
     try clear hfz16_1
     try clear hfz18_0
     try clear hfz18_1
     try clear p2
     obtain ⟨x11_2, x45_2, rfl, rfl, HA, HK2, HO_9, BK667, HB⟩ := hrel
     cases gk with
     | zero => exact absurd HA.out (by simp [cottonpadlaw06_ExitsTrue.l0])
     | succ k2 =>
      have H := HA.out
      clear HA
      simp only [cottonpadlaw06_ExitsTrue.l0] at H
      by_cases c19 : x45_2 < (l0_0.length : Int)
      ·rw [if_pos c19] at H
       have c19b0 : decide (x45_2 < (l0_0.length : Int)) = true := decide_eq_true c19
       clear c19
       by_cases c20 : 0 ≤ x45_2
       ·rw [if_pos c20] at H
        have c20b0 : decide (0 ≤ x45_2) = true := decide_eq_true c20
        clear c20
        by_cases c21 : x45_2 < (l0_0.length : Int)
        ·rw [if_pos c21] at H
         have c21b0 : decide (x45_2 < (l0_0.length : Int)) = true := decide_eq_true c21
         clear c21
         replace H := Option.bind_eq_some_iff.mp H
         obtain ⟨⟨t679, t682⟩, A220, H⟩ := H
         replace H : (if t682 = 0 then (if x45_2 < (t673.length : Int) then (cottonpadlaw06_ExitsTrue.j2 k2 l1 t668 t673 t676 x11_2 x45_2 t679 l0_0 (l0_0.length : Int) x45_2 ((t679.length : Int) != ((rd_L11 t673 x45_2).length : Int)) l0_0 l0_1 ((rd_T62 l0_0 x45_2).f0) ((rd_T62 l0_0 x45_2).f1) ((rd_T62 l0_0 x45_2).f2.f0) ((rd_T62 l0_0 x45_2).f2.f1) ((rd_T62 l0_0 x45_2).f3.f0) ((rd_T62 l0_0 x45_2).f3.f1)) else (none)) else (cottonpadlaw06_ExitsTrue.j2 k2 l1 t668 t673 t676 x11_2 x45_2 t679 l0_0 (l0_0.length : Int) x45_2 true l0_0 l0_1 ((rd_T62 l0_0 x45_2).f0) ((rd_T62 l0_0 x45_2).f1) ((rd_T62 l0_0 x45_2).f2.f0) ((rd_T62 l0_0 x45_2).f2.f1) ((rd_T62 l0_0 x45_2).f3.f0) ((rd_T62 l0_0 x45_2).f3.f1))) = some r := H
         have A22 := Aside0.mk A220
         clear A220
         have HC23 := Aside0.mk H
         clear H
         have p677 : 0 ≤ (x45_2 : Int) := of_decide_eq_true as_
         have q677 : x45_2 < (l0_0.length : Int) := of_decide_eq_true as_
         obtain ⟨ad677, e677, hx677_0, hx677_1, hx677_2, hx677_3, hx677_4, hx677_5⟩ := at_T62 HR0_0.out x45_2 p677 q677
         cases e677
         try replace hx677_0 := ce_ HB hx677_0
         try replace hx677_1 := ce_ HB hx677_1
         try replace hx677_2 := ce_ HB hx677_2
         try replace hx677_3 := ce_ HB hx677_3
         try replace hx677_4 := ce_ HB hx677_4
         try replace hx677_5 := ce_ HB hx677_5
         replace p677 := eq_true p677
         replace q677 := eq_true q677
         go_upto_region 10 with (first | ((with_reducible refine gate_dst (N := 13) rfl ?_); (try (refine gate_guard (by rfl) ?_; dsimp only)); refine box_event ?hg (N := 13) ?hd (cs := #[.int .i64 0, .int .i64 0, .int .i64 0, .int .i64 0, .int .i64 0, .int .i64 0]) (t := 62) ?hr ?_; (case hd => rfl); (case hg => rfl); (case hr => exact gs_); intro gb678 hg w24 hbox hb; replace HO_9 := Aside0.mk (Kd.S_below (by (with_reducible repeat (first | apply Kd.S_alloc | apply Kd.S_drewN | apply Kd.S_drew)); exact HO_9.out) hb); have BK678 := Aside0.mk (hbox); have GW678 := hl_ hg (be1_ HB GE667); have GE678 := hl_ hg (be1_ HB GE667); replace HB := bs1_ HB GE667 hb; have NB667_678 := Aside0.mk ((by rw [hg]; exact Nat.ne_of_lt (blk_lt (bk_ BK667)) : gb667 ≠ gb678)); have NB678_667 := Aside0.mk ((by rw [hg]; exact Nat.ne_of_gt (blk_lt (bk_ BK667)) : gb678 ≠ gb667)); replace BK667 := bb_ BK667 hb; clear hb hbox hg; have hnb25 := NB678_667.out; have hnc25 := NB667_678.out; have hcz26_0 : w24.cell? ⟨gb678, 0, none⟩ = some (.int .i64 0) := bc_ BK678 0; have hcz26_1 : w24.cell? ⟨gb678, 1, none⟩ = some (.int .i64 0) := bc_ BK678 1; have hcz26_2 : w24.cell? ⟨gb678, 2, none⟩ = some (.int .i64 0) := bc_ BK678 2; have hcz26_3 : w24.cell? ⟨gb678, 3, none⟩ = some (.int .i64 0) := bc_ BK678 3; have hcz26_4 : w24.cell? ⟨gb678, 4, none⟩ = some (.int .i64 0) := bc_ BK678 4; have hcz26_5 : w24.cell? ⟨gb678, 5, none⟩ = some (.int .i64 0) := bc_ BK678 5; have hfz26_0 := blk_frozen BK678.out 0; have hfz26_1 := blk_frozen BK678.out 1; have hfz26_2 := blk_frozen BK678.out 2; have hfz26_3 := blk_frozen BK678.out 3; have hfz26_4 := blk_frozen BK678.out 4; have hfz26_5 := blk_frozen BK678.out 5; have hcz27_0 : w24.cell? ⟨gb667, 0, none⟩ = some (.slice (some ad677) l0_0.length c0_0) := bc_ BK667 0; have hcz27_1 : w24.cell? ⟨gb667, 1, none⟩ = some (.slice A0_1 l0_1.length c0_1) := bc_ BK667 1; have hfz27_0 := blk_frozen BK667.out 0; have hfz27_1 := blk_frozen BK667.out 1) | ((with_reducible refine gate_callee (f := 17) rfl ?_); refine goesL_ (some 54) rfl rfl Tryd.func17 (by kernel_rfl) rfl #[.agg #[.slice (some ad677) l0_0.length c0_0, .slice A0_1 l0_1.length c0_1], .slice A1 l1.length c1, .int .i64 x45_2] rfl ls_ ?_; (with_reducible refine (exits_Leaves.calls _ _ l0_0 _ _ l0_1 _ _ l1 x45_2 t679 t682 _ ?side7 ?side1 ?side2 ?side3 ?side4 ?side5 ?side6 A22.out).mono ?_); (case side1 => exact Kd.C_below HR0_0.out (be2_ HB GE667 GE678)); (case side2 => exact HC0_0.out); (case side3 => exact Kd.C_below HR0_1.out (be2_ HB GE667 GE678)); (case side4 => exact HC0_1.out); (case side5 => exact Kd.C_below HR1.out (be2_ HB GE667 GE678)); (case side6 => exact HC1.out); (case side7 => exact GlobsE.below HG.out.1 (be2_ HB GE667 GE678)); rintro e w28 ⟨v680, rfl, ho0, hb⟩; refine ⟨_, rfl, ?_⟩; replace HO_9 := Aside0.mk (Kd.S_below (by (with_reducible repeat (first | apply Kd.S_alloc | apply Kd.S_drewN | apply Kd.S_drew)); exact (Kd.S_mono (Kd.S_far (p := ⟨gb678, 5, none⟩) (Kd.S_far (p := ⟨gb678, 4, none⟩) (Kd.S_far (p := ⟨gb678, 3, none⟩) (Kd.S_far (p := ⟨gb678, 2, none⟩) (Kd.S_far (p := ⟨gb678, 1, none⟩) (Kd.S_far (p := ⟨gb678, 0, none⟩) (Kd.S_types HO_9.out BK678.out (by decide)) (fun _ hk => hk.2) (.int .i64 ((rd_T62 l0_0 x45_2).f0))) (fun _ hk => hk.2) (.int .i64 ((rd_T62 l0_0 x45_2).f1))) (fun _ hk => hk.2) (.int .i64 ((rd_T62 l0_0 x45_2).f2.f0))) (fun _ hk => hk.2) (.int .i64 ((rd_T62 l0_0 x45_2).f2.f1))) (fun _ hk => hk.2) (.int .i64 ((rd_T62 l0_0 x45_2).f3.f0))) (fun _ hk => hk.2) (.int .i64 ((rd_T62 l0_0 x45_2).f3.f1))) (fun _ h_ => h_.1))) hb); have HO681 := Aside0.mk (Kd.R_lower ho0 (below_size (be2_ HB GE667 GE678))); replace BK667 := Aside0.mk (blk_below (g := gb667) (o := .cells #[.slice (some ad677) l0_0.length c0_0, .slice A0_1 l0_1.length c0_1] 25 (0, 0)) (by refine bx_ ?_; refine blk_far ?_ NB667_678.out _; refine bx_ ?_; refine blk_far ?_ NB667_678.out _; refine bx_ ?_; refine blk_far ?_ NB667_678.out _; refine bx_ ?_; refine blk_far ?_ NB667_678.out _; refine bx_ ?_; refine blk_far ?_ NB667_678.out _; refine bx_ ?_; refine blk_far ?_ NB667_678.out _; refine bx_ ?_; exact BK667.out) hb); replace BK678 := Aside0.mk (blk_below (g := gb678) (o := .cells #[.int .i64 ((rd_T62 l0_0 x45_2).f0), .int .i64 ((rd_T62 l0_0 x45_2).f1), .int .i64 ((rd_T62 l0_0 x45_2).f2.f0), .int .i64 ((rd_T62 l0_0 x45_2).f2.f1), .int .i64 ((rd_T62 l0_0 x45_2).f3.f0), .int .i64 ((rd_T62 l0_0 x45_2).f3.f1)] 62 (0, 0)) (by refine bx_ ?_; refine blk_put (cs := #[.int .i64 ((rd_T62 l0_0 x45_2).f0), .int .i64 ((rd_T62 l0_0 x45_2).f1), .int .i64 ((rd_T62 l0_0 x45_2).f2.f0), .int .i64 ((rd_T62 l0_0 x45_2).f2.f1), .int .i64 ((rd_T62 l0_0 x45_2).f3.f0), .int .i64 0]) ?_ 5 _ rfl; refine bx_ ?_; refine blk_put (cs := #[.int .i64 ((rd_T62 l0_0 x45_2).f0), .int .i64 ((rd_T62 l0_0 x45_2).f1), .int .i64 ((rd_T62 l0_0 x45_2).f2.f0), .int .i64 ((rd_T62 l0_0 x45_2).f2.f1), .int .i64 0, .int .i64 0]) ?_ 4 _ rfl; refine bx_ ?_; refine blk_put (cs := #[.int .i64 ((rd_T62 l0_0 x45_2).f0), .int .i64 ((rd_T62 l0_0 x45_2).f1), .int .i64 ((rd_T62 l0_0 x45_2).f2.f0), .int .i64 0, .int .i64 0, .int .i64 0]) ?_ 3 _ rfl; refine bx_ ?_; refine blk_put (cs := #[.int .i64 ((rd_T62 l0_0 x45_2).f0), .int .i64 ((rd_T62 l0_0 x45_2).f1), .int .i64 0, .int .i64 0, .int .i64 0, .int .i64 0]) ?_ 2 _ rfl; refine bx_ ?_; refine blk_put (cs := #[.int .i64 ((rd_T62 l0_0 x45_2).f0), .int .i64 0, .int .i64 0, .int .i64 0, .int .i64 0, .int .i64 0]) ?_ 1 _ rfl; refine bx_ ?_; refine blk_put (cs := #[.int .i64 0, .int .i64 0, .int .i64 0, .int .i64 0, .int .i64 0, .int .i64 0]) ?_ 0 _ rfl; refine bx_ ?_; exact BK678.out) hb); replace HB := bs2_ HB GE667 GE678 hb; (try clear hb); (try clear hb2); (try clear hk); (try clear hi); (try clear ho0)))
         (try simp only [Act.put, List.setIfInBounds_toArray, List.set_cons_zero, List.set_cons_succ])
         go_cut [68] (fun v68 wc => ∃ (kq : Nat) (x68_22 : Bool), v68 = .bool x68_22 ∧ Aside0 (cottonpadlaw06_ExitsTrue.j2 kq l1 t668 t673 t676 x11_2 x45_2 t679 l0_0 (l0_0.length : Int) x45_2 x68_22 l0_0 l0_1 ((rd_T62 l0_0 x45_2).f0) ((rd_T62 l0_0 x45_2).f1) ((rd_T62 l0_0 x45_2).f2.f0) ((rd_T62 l0_0 x45_2).f2.f1) ((rd_T62 l0_0 x45_2).f3.f0) ((rd_T62 l0_0 x45_2).f3.f1) = some r) ∧ Aside0 (kq ≤ k2) ∧ Aside0 (Kd.S (Kd.slice 3 (Kd.int .i64)) 67 wc w.heap.size (fun _ => True) v674 t673) ∧ Aside0 (Kd.R k36 36 wc w.heap.size (fun _ => True) v680 t679) ∧ Aside0 (wc.heap[gb667]? = some (.cells #[(.slice (some ad677) l0_0.length c0_0), (.slice A0_1 l0_1.length c0_1)] 25 (0, 0))) ∧ Aside0 (wc.heap[gb678]? = some (.cells #[.int .i64 ((rd_T62 l0_0 x45_2).f0), .int .i64 ((rd_T62 l0_0 x45_2).f1), .int .i64 ((rd_T62 l0_0 x45_2).f2.f0), .int .i64 ((rd_T62 l0_0 x45_2).f2.f1), .int .i64 ((rd_T62 l0_0 x45_2).f3.f0), .int .i64 ((rd_T62 l0_0 x45_2).f3.f1)] 62 (0, 0))) ∧ Aside0 (Below w.heap.size w wc))
         case first =>
          have H := HC23.out
          clear HC23
          by_cases c29 : t682 = 0
          ·rw [if_pos c29] at H
           have c29b0 : (t682 == 0) = true := beq_iff_eq.mpr c29
           have c29b1 : (t682 != 0) = false := bne_eq_false_iff_eq.mpr c29
           clear c29
           (first | rw [c29b0] | (simp only [i64_w, i32_w]; rw [c29b0]) | skip)
           by_cases c30 : x45_2 < (t673.length : Int)
           ·rw [if_pos c30] at H
            have c30b0 : decide (x45_2 < (t673.length : Int)) = true := decide_eq_true c30
            clear c30
            have H' := Aside0.mk H
            clear H
            obtain ⟨Ao31, co31, eo31⟩ := Kd.R_slice HO681.out
            subst eo31
            obtain ⟨Ao32, co32, eo32⟩ := Kd.S_slice HO_9.out
            subst eo32
            have p683 : 0 ≤ (x45_2 : Int) := of_decide_eq_true as_
            have q683 : x45_2 < (t673.length : Int) := of_decide_eq_true as_
            obtain ⟨ad683, A683_0, c683_0, e683, hx683_0, hl683_0, hi683_0⟩ := at_L11 (Kd.S_reads' HO_9.out).2.2 x45_2 p683 q683
            cases e683
            obtain ⟨ce683, hce683, hMe683, hcc683⟩ := Kd.S_get HO_9.out [] x45_2 p683 (by first | exact q683 | exact of_decide_eq_true as_ | (have e_ := (Kd.S_reads' HO_9.out).1; omega))
            obtain ⟨ve683_0, rfl, ge683_0⟩ := hMe683
            have hv683_0 := hcc683 0 _ rfl
            rw [Nat.add_zero, show ((Kd.slice 3 (Kd.int .i64))).sz = 1 from rfl, Nat.mul_one] at hv683_0
            replace hv683_0 := Option.some.inj (hv683_0.symm.trans hx683_0)
            rw [hv683_0] at ge683_0
            have HL683_0 := Aside0.mk (show Kd.R (Kd.int .i64) 3 _ _ _ _ (rd_L11 t673 x45_2) from ge683_0)
            clear hv683_0 ge683_0
            clear hcc683 hce683
            have HR683_0 := Aside0.mk hi683_0
            have HC683_0 := Aside0.mk hl683_0
            clear hi683_0 hl683_0
            replace p683 := eq_true p683
            replace q683 := eq_true q683
            go_wp2
            go_meet
            case rel => exact ⟨_, (((t679.length : Int) != ((rd_L11 t673 x45_2).length : Int))), (by first | rfl | (simp; done) | (simp [*]; done)), H', ⟨by have := HJ4.out; have := HK2.out; first | omega | exact Nat.le_refl _⟩, ⟨by (with_reducible repeat (first | apply Kd.S_alloc | apply Kd.S_drewN | apply Kd.S_drew)); exact HO_9.out⟩, ⟨by (with_reducible repeat (first | apply Kd.R_alloc | apply Kd.R_drewN | apply Kd.R_drew)); exact HO681.out⟩, ⟨by refine bx_ ?_; exact BK667.out⟩, ⟨by refine bx_ ?_; exact BK678.out⟩, ⟨be2_ HB GE667 GE678⟩⟩
           ·rw [if_neg c30] at H
            exact absurd H (by simp)
          ·rw [if_neg c29] at H
           have c29b0 : (t682 == 0) = false := beq_eq_false_iff_ne.mpr c29
           have c29b1 : (t682 != 0) = true := bne_iff_ne.mpr c29
           (first | rw [c29b0] | (simp only [i64_w, i32_w]; rw [c29b0]) | skip)
           exact absurd H (by rw [HRT.out]; cases k2 <;> simp [cottonpadlaw06_ExitsTrue.j2])
         case rest =>
          clear HC23
          try clear c1
          try clear c2
          try clear p2
          try clear c3
          try clear c6
          try clear p6
          try clear q6
          try clear hx6
          try clear c9
          try clear c14
          try clear c17
          try clear c19
          try clear c19b0
          try clear c20
          try clear c20b0
          try clear c21
          try clear c21b0
          try clear c25
          try clear c29
          try clear c29b0
          try clear c29b1
          try clear c30
          try clear c30b0
          try clear hcz10_0
          try clear hcz10_1
          try clear hcz12_0
          try clear hcz12_1
          try clear hcz16_0
          try clear hcz16_1
          try clear hcz18_0
          try clear hcz18_1
          try clear hcz26_0
          try clear hcz26_1
          try clear hcz26_2
          try clear hcz26_3
          try clear hcz26_4
          try clear hcz26_5
          try clear hcz27_0
          try clear hcz27_1
          try clear hfz10_0
          try clear hfz10_1
          try clear hfz12_0
          try clear hfz12_1
          try clear hfz16_0
          try clear hfz16_1
          try clear hfz18_0
          try clear hfz18_1
          try clear hfz26_0
          try clear hfz26_1
          try clear hfz26_2
          try clear hfz26_3
          try clear hfz26_4
          try clear hfz26_5
          try clear hfz27_0
          try clear hfz27_1
          try clear hx677_0
          try clear hx677_1
          try clear hx677_2
          try clear hx677_3
          try clear hx677_4
          try clear hx677_5
          try clear hx683_0
          try clear p2
          try clear p677
          try clear p683
          try clear q677
          try clear q683
          obtain ⟨kq, x68_22, rfl, HA, HJ22, HO_9, HO_14, BK667, BK678, HB⟩ := hcut
          cases kq with
          | zero => exact absurd HA.out (by simp [cottonpadlaw06_ExitsTrue.j2])
          | succ kj22 =>
           have H := HA.out
           clear HA
           simp only [cottonpadlaw06_ExitsTrue.j2] at H
           by_cases c33 : x68_22 = true
           ·subst c33
            have H1 : (some false) = some r := by rw [if_pos rfl] at H; exact H
            clear H
            have H := H1
            clear H1
            exact absurd (H.trans (congrArg some HRT.out)) (by simp)
           ·replace c33 := Bool.eq_false_iff.mpr c33
            subst c33
            have H1 : (if 0 ≤ x45_2 then (if x45_2 < (t673.length : Int) then (cottonpadlaw06_ExitsTrue.l1 kj22 l1 t668 t673 t676 x11_2 t679 l0_0 (l0_0.length : Int) x45_2 (rd_L11 t673 x45_2) ((rd_L11 t673 x45_2).length : Int) 0 l0_0 l0_1 ((rd_T62 l0_0 x45_2).f0) ((rd_T62 l0_0 x45_2).f1) ((rd_T62 l0_0 x45_2).f2.f0) ((rd_T62 l0_0 x45_2).f2.f1) ((rd_T62 l0_0 x45_2).f3.f0) ((rd_T62 l0_0 x45_2).f3.f1)) else (none)) else (none)) = some r := by rw [if_neg (show ¬ (false = true) by decide)] at H; exact H
            clear H
            have H := H1
            clear H1
            by_cases c34 : 0 ≤ x45_2
            ·rw [if_pos c34] at H
             have c34b0 : decide (0 ≤ x45_2) = true := decide_eq_true c34
             clear c34
             by_cases c35 : x45_2 < (t673.length : Int)
             ·rw [if_pos c35] at H
              have c35b0 : decide (x45_2 < (t673.length : Int)) = true := decide_eq_true c35
              clear c35
              have H' := Aside0.mk H
              clear H
              obtain ⟨Ao36, co36, eo36⟩ := Kd.S_slice HO_9.out
              subst eo36
              have p684 : 0 ≤ (x45_2 : Int) := of_decide_eq_true as_
              have q684 : x45_2 < (t673.length : Int) := of_decide_eq_true as_
              obtain ⟨ad684, A684_0, c684_0, e684, hx684_0, hl684_0, hi684_0⟩ := at_L11 (Kd.S_reads' HO_9.out).2.2 x45_2 p684 q684
              cases e684
              obtain ⟨ce684, hce684, hMe684, hcc684⟩ := Kd.S_get HO_9.out [] x45_2 p684 (by first | exact q684 | exact of_decide_eq_true as_ | (have e_ := (Kd.S_reads' HO_9.out).1; omega))
              obtain ⟨ve684_0, rfl, ge684_0⟩ := hMe684
              have hv684_0 := hcc684 0 _ rfl
              rw [Nat.add_zero, show ((Kd.slice 3 (Kd.int .i64))).sz = 1 from rfl, Nat.mul_one] at hv684_0
              replace hv684_0 := Option.some.inj (hv684_0.symm.trans hx684_0)
              rw [hv684_0] at ge684_0
              have HL684_0 := Aside0.mk (show Kd.R (Kd.int .i64) 3 _ _ _ _ (rd_L11 t673 x45_2) from ge684_0)
              clear hv684_0 ge684_0
              clear hcc684 hce684
              have HR684_0 := Aside0.mk hi684_0
              have HC684_0 := Aside0.mk hl684_0
              clear hi684_0 hl684_0
              replace p684 := eq_true p684
              replace q684 := eq_true q684
              go_wp2
              go_loopg [11, 74] kj22 (fun kq v11 v74 w' => ∃ (x11_4 : Int) (x74_4 : Int), v11 = .int .i64 x11_4 ∧ v74 = .int .i64 x74_4 ∧ Aside0 (cottonpadlaw06_ExitsTrue.l1 kq l1 t668 t673 t676 x11_4 t679 l0_0 (l0_0.length : Int) x45_2 (rd_L11 t673 x45_2) ((rd_L11 t673 x45_2).length : Int) x74_4 l0_0 l0_1 ((rd_T62 l0_0 x45_2).f0) ((rd_T62 l0_0 x45_2).f1) ((rd_T62 l0_0 x45_2).f2.f0) ((rd_T62 l0_0 x45_2).f2.f1) ((rd_T62 l0_0 x45_2).f3.f0) ((rd_T62 l0_0 x45_2).f3.f1) = some r) ∧ Aside0 (kq ≤ kj22) ∧ Aside0 (Kd.S (Kd.slice 3 (Kd.int .i64)) 67 w' w.heap.size (fun _ => True) (.slice (some ad684) t673.length co36) t673) ∧ Aside0 (Kd.R k36 36 w' w.heap.size (fun _ => True) v680 t679) ∧ Aside0 (w'.heap[gb667]? = some (.cells #[(.slice (some ad677) l0_0.length c0_0), (.slice A0_1 l0_1.length c0_1)] 25 (0, 0))) ∧ Aside0 (w'.heap[gb678]? = some (.cells #[.int .i64 ((rd_T62 l0_0 x45_2).f0), .int .i64 ((rd_T62 l0_0 x45_2).f1), .int .i64 ((rd_T62 l0_0 x45_2).f2.f0), .int .i64 ((rd_T62 l0_0 x45_2).f2.f1), .int .i64 ((rd_T62 l0_0 x45_2).f3.f0), .int .i64 ((rd_T62 l0_0 x45_2).f3.f1)] 62 (0, 0))) ∧ Aside0 (Kd.C (Kd.int .i64) w' A684_0 (rd_L11 t673 x45_2).length (rd_L11 t673 x45_2)) ∧ Aside0 (Below w.heap.size w w'))
              case atStart => exact ⟨(x11_2), (0), (by first | rfl | (simp; done) | (simp [*]; done)), (by first | rfl | (simp; done) | (simp [*]; done)), H', ⟨Nat.le_refl _⟩, ⟨by (with_reducible repeat (first | apply Kd.S_alloc | apply Kd.S_drewN | apply Kd.S_drew)); exact HO_9.out⟩, ⟨by (with_reducible repeat (first | apply Kd.R_alloc | apply Kd.R_drewN | apply Kd.R_drew)); exact HO_14.out⟩, ⟨by refine bx_ ?_; exact BK667.out⟩, ⟨by refine bx_ ?_; exact BK678.out⟩, ⟨by repeat (first | (with_reducible exact HR684_0.out) | (with_reducible refine Kd.C_alloc ?_ _) | (with_reducible refine Kd.C_drewN ?_ _) | (with_reducible refine Kd.C_drew ?_) | exact HR684_0.out)⟩, ⟨be2_ HB GE667 GE678⟩⟩
              case round =>
               clear H'
               try clear c1
               try clear c2
               try clear p2
               try clear c3
               try clear c6
               try clear p6
               try clear q6
               try clear hx6
               try clear c9
               try clear c14
               try clear c17
               try clear c19
               try clear c19b0
               try clear c20
               try clear c20b0
               try clear c21
               try clear c21b0
               try clear c25
               try clear c29
               try clear c29b0
               try clear c29b1
               try clear c30
               try clear c30b0
               try clear c33
               try clear c34
               try clear c34b0
               try clear c35
               try clear c35b0
               try clear c36
               try clear hcz10_0
               try clear hcz10_1
               try clear hcz12_0
               try clear hcz12_1
               try clear hcz16_0
               try clear hcz16_1
               try clear hcz18_0
               try clear hcz18_1
               try clear hcz26_0
               try clear hcz26_1
               try clear hcz26_2
               try clear hcz26_3
               try clear hcz26_4
               try clear hcz26_5
               try clear hcz27_0
               try clear hcz27_1
               try clear hfz10_0
               try clear hfz10_1
               try clear hfz12_0
               try clear hfz12_1
               try clear hfz16_0
               try clear hfz16_1
               try clear hfz18_0
               try clear hfz18_1
               try clear hfz26_0
               try clear hfz26_1
               try clear hfz26_2
               try clear hfz26_3
               try clear hfz26_4
               try clear hfz26_5
               try clear hfz27_0
               try clear hfz27_1
               try clear hx677_0
               try clear hx677_1
               try clear hx677_2
               try clear hx677_3
               try clear hx677_4
               try clear hx677_5
               try clear hx683_0
               try clear hx684_0
               try clear p2
               try clear p6
               try clear p677
               try clear p683
               try clear p684
               try clear q6
               try clear q677
               try clear q683
               try clear q684
               obtain ⟨x11_4, x74_4, rfl, rfl, HA, HK4, HO_9, HO_14, BK667, BK678, HR684_0, HB⟩ := hrel
               cases gk with
               | zero => exact absurd HA.out (by simp [cottonpadlaw06_ExitsTrue.l1])
               | succ k4 =>
                have H := HA.out
                clear HA
                simp only [cottonpadlaw06_ExitsTrue.l1] at H
                by_cases c37 : x74_4 < ((rd_L11 t673 x45_2).length : Int)
                ·rw [if_pos c37] at H
                 have c37b0 : decide (x74_4 < ((rd_L11 t673 x45_2).length : Int)) = true := decide_eq_true c37
                 clear c37
                 by_cases c38 : 0 ≤ x74_4
                 ·rw [if_pos c38] at H
                  have c38b0 : decide (0 ≤ x74_4) = true := decide_eq_true c38
                  clear c38
                  by_cases c39 : x74_4 < ((rd_L11 t673 x45_2).length : Int)
                  ·rw [if_pos c39] at H
                   have c39b0 : decide (x74_4 < ((rd_L11 t673 x45_2).length : Int)) = true := decide_eq_true c39
                   clear c39
                   have HC40 := Aside0.mk H
                   clear H
                   have p685 : 0 ≤ (x74_4 : Int) := of_decide_eq_true as_
                   have q685 : x74_4 < ((rd_L11 t673 x45_2).length : Int) := of_decide_eq_true as_
                   obtain ⟨ad685, e685, hx685_0⟩ := Kd.at_int HR684_0.out x74_4 p685 q685
                   cases e685
                   try replace hx685_0 := ce_ HB hx685_0
                   replace p685 := eq_true p685
                   replace q685 := eq_true q685
                   go_upto_region 15 with (fail)
                   go_cut [94] (fun v94 wc => ∃ (kq : Nat) (x94_39 : Bool), v94 = .bool x94_39 ∧ Aside0 (cottonpadlaw06_ExitsTrue.j4 kq l1 t668 t673 t676 x11_4 t679 (rd (rd_L11 t673 x45_2) x74_4) l0_0 (l0_0.length : Int) x45_2 (rd_L11 t673 x45_2) ((rd_L11 t673 x45_2).length : Int) x74_4 x94_39 l0_0 l0_1 ((rd_T62 l0_0 x45_2).f0) ((rd_T62 l0_0 x45_2).f1) ((rd_T62 l0_0 x45_2).f2.f0) ((rd_T62 l0_0 x45_2).f2.f1) ((rd_T62 l0_0 x45_2).f3.f0) ((rd_T62 l0_0 x45_2).f3.f1) = some r) ∧ Aside0 (kq ≤ k4) ∧ Aside0 (Kd.S (Kd.slice 3 (Kd.int .i64)) 67 wc w.heap.size (fun _ => True) (.slice (some ad684) t673.length co36) t673) ∧ Aside0 (Kd.R k36 36 wc w.heap.size (fun _ => True) v680 t679) ∧ Aside0 (wc.heap[gb667]? = some (.cells #[(.slice (some ad677) l0_0.length c0_0), (.slice A0_1 l0_1.length c0_1)] 25 (0, 0))) ∧ Aside0 (wc.heap[gb678]? = some (.cells #[.int .i64 ((rd_T62 l0_0 x45_2).f0), .int .i64 ((rd_T62 l0_0 x45_2).f1), .int .i64 ((rd_T62 l0_0 x45_2).f2.f0), .int .i64 ((rd_T62 l0_0 x45_2).f2.f1), .int .i64 ((rd_T62 l0_0 x45_2).f3.f0), .int .i64 ((rd_T62 l0_0 x45_2).f3.f1)] 62 (0, 0))) ∧ Aside0 (Kd.C (Kd.int .i64) wc (some ad685) (rd_L11 t673 x45_2).length (rd_L11 t673 x45_2)) ∧ Aside0 (Below w.heap.size w wc))
                   case first =>
                    have H := HC40.out
                    clear HC40
                    by_cases c41 : x74_4 < (t679.length : Int)
                    ·rw [if_pos c41] at H
                     have c41b0 : decide (x74_4 < (t679.length : Int)) = true := decide_eq_true c41
                     clear c41
                     (first | rw [c41b0] | (simp only [i64_w, i32_w]; rw [c41b0]) | skip)
                     by_cases c42 : (rd (rd_L11 t673 x45_2) x74_4) < ((rd_T36 t679 x74_4).f0)
                     ·rw [if_pos c42] at H
                      have c42b0 : decide ((rd (rd_L11 t673 x45_2) x74_4) < ((rd_T36 t679 x74_4).f0)) = true := decide_eq_true c42
                      clear c42
                      exact absurd H (by rw [HRT.out]; cases k4 <;> simp [cottonpadlaw06_ExitsTrue.j4])
                     ·rw [if_neg c42] at H
                      have c42b0 : decide ((rd (rd_L11 t673 x45_2) x74_4) < ((rd_T36 t679 x74_4).f0)) = false := decide_eq_false c42
                      clear c42
                      have H' := Aside0.mk H
                      clear H
                      obtain ⟨Ao43, co43, eo43⟩ := Kd.R_slice HO_14.out
                      subst eo43
                      have p686 : 0 ≤ (x74_4 : Int) := of_decide_eq_true as_
                      have q686 : x74_4 < (t679.length : Int) := of_decide_eq_true as_
                      obtain ⟨ad686, e686, hx686_0, hx686_1⟩ := at_T36 (Kd.R_reads' HO_14.out).2.2 x74_4 p686 q686
                      cases e686
                      replace p686 := eq_true p686
                      replace q686 := eq_true q686
                      have p687 : 0 ≤ (x74_4 : Int) := of_decide_eq_true as_
                      have q687 : x74_4 < (t679.length : Int) := of_decide_eq_true as_
                      obtain ⟨ad687, e687, hx687_0, hx687_1⟩ := at_T36 (Kd.R_reads' HO_14.out).2.2 x74_4 p687 q687
                      obtain rfl : ad686 = ad687 := (by injection e687)
                      replace p687 := eq_true p687
                      replace q687 := eq_true q687
                      go_wp2
                      go_meet
                      case rel => exact ⟨_, (decide ((rd (rd_L11 t673 x45_2) x74_4) > ((rd_T36 t679 x74_4).f1))), (by first | rfl | (simp; done) | (simp [*]; done)), H', ⟨by have := HJ4.out; have := HK2.out; have := HJ22.out; have := HK4.out; first | omega | exact Nat.le_refl _⟩, ⟨by (with_reducible repeat (first | apply Kd.S_alloc | apply Kd.S_drewN | apply Kd.S_drew)); exact HO_9.out⟩, ⟨by (with_reducible repeat (first | apply Kd.R_alloc | apply Kd.R_drewN | apply Kd.R_drew)); exact HO_14.out⟩, ⟨by refine bx_ ?_; exact BK667.out⟩, ⟨by refine bx_ ?_; exact BK678.out⟩, ⟨by repeat (first | (with_reducible exact HR684_0.out) | (with_reducible refine Kd.C_alloc ?_ _) | (with_reducible refine Kd.C_drewN ?_ _) | (with_reducible refine Kd.C_drew ?_) | exact HR684_0.out)⟩, ⟨be2_ HB GE667 GE678⟩⟩
                    ·rw [if_neg c41] at H
                     exact absurd H (by simp)
                   case rest =>
                    clear HC40
                    try clear c1
                    try clear c2
                    try clear p2
                    try clear c3
                    try clear c4
                    try clear c6
                    try clear p6
                    try clear q6
                    try clear hx6
                    try clear c9
                    try clear c14
                    try clear c17
                    try clear c19
                    try clear c19b0
                    try clear c20
                    try clear c20b0
                    try clear c21
                    try clear c21b0
                    try clear c25
                    try clear c29
                    try clear c29b0
                    try clear c29b1
                    try clear c30
                    try clear c30b0
                    try clear c33
                    try clear c34
                    try clear c34b0
                    try clear c35
                    try clear c35b0
                    try clear c36
                    try clear c37
                    try clear c37b0
                    try clear c38
                    try clear c38b0
                    try clear c39
                    try clear c39b0
                    try clear c41
                    try clear c41b0
                    try clear c42
                    try clear c42b0
                    try clear hcz10_0
                    try clear hcz10_1
                    try clear hcz12_0
                    try clear hcz12_1
                    try clear hcz16_0
                    try clear hcz16_1
                    try clear hcz18_0
                    try clear hcz18_1
                    try clear hcz26_0
                    try clear hcz26_1
                    try clear hcz26_2
                    try clear hcz26_3
                    try clear hcz26_4
                    try clear hcz26_5
                    try clear hcz27_0
                    try clear hcz27_1
                    try clear hfz10_0
                    try clear hfz10_1
                    try clear hfz12_0
                    try clear hfz12_1
                    try clear hfz16_0
                    try clear hfz16_1
                    try clear hfz18_0
                    try clear hfz18_1
                    try clear hfz26_0
                    try clear hfz26_1
                    try clear hfz26_2
                    try clear hfz26_3
                    try clear hfz26_4
                    try clear hfz26_5
                    try clear hfz27_0
                    try clear hfz27_1
                    try clear hx677_0
                    try clear hx677_1
                    try clear hx677_2
                    try clear hx677_3
                    try clear hx677_4
                    try clear hx677_5
                    try clear hx683_0
                    try clear hx684_0
                    try clear hx685_0
                    try clear hx686_0
                    try clear hx686_1
                    try clear hx687_0
                    try clear hx687_1
                    try clear p2
                    try clear p6
                    try clear p677
                    try clear p683
                    try clear p684
                    try clear p685
                    try clear p686
                    try clear p687
                    try clear q6
                    try clear q677
                    try clear q683
                    try clear q684
                    try clear q685
                    try clear q686
                    try clear q687
                    obtain ⟨kq, x94_39, rfl, HA, HJ39, HO_9, HO_14, BK667, BK678, HR684_0, HB⟩ := hcut
                    cases kq with
                    | zero => exact absurd HA.out (by simp [cottonpadlaw06_ExitsTrue.j4])
                    | succ kj39 =>
                     have H := HA.out
                     clear HA
                     simp only [cottonpadlaw06_ExitsTrue.j4] at H
                     by_cases c44 : x94_39 = true
                     ·subst c44
                      have H1 : (some false) = some r := by rw [if_pos rfl] at H; exact H
                      clear H
                      have H := H1
                      clear H1
                      exact absurd (H.trans (congrArg some HRT.out)) (by simp)
                     ·replace c44 := Bool.eq_false_iff.mpr c44
                      subst c44
                      have H1 : (if ((rd_T62 l0_0 x45_2).f0) = (-1) then (cottonpadlaw06_ExitsTrue.l1 kj39 l1 t668 t673 t676 (mx x11_4 (rd (rd_L11 t673 x45_2) x74_4)) t679 l0_0 (l0_0.length : Int) x45_2 (rd_L11 t673 x45_2) ((rd_L11 t673 x45_2).length : Int) (wrap64 (x74_4 + 1)) l0_0 l0_1 ((rd_T62 l0_0 x45_2).f0) ((rd_T62 l0_0 x45_2).f1) ((rd_T62 l0_0 x45_2).f2.f0) ((rd_T62 l0_0 x45_2).f2.f1) ((rd_T62 l0_0 x45_2).f3.f0) ((rd_T62 l0_0 x45_2).f3.f1)) else (cottonpadlaw06_ExitsTrue.l1 kj39 l1 t668 t673 t676 x11_4 t679 l0_0 (l0_0.length : Int) x45_2 (rd_L11 t673 x45_2) ((rd_L11 t673 x45_2).length : Int) (wrap64 (x74_4 + 1)) l0_0 l0_1 ((rd_T62 l0_0 x45_2).f0) ((rd_T62 l0_0 x45_2).f1) ((rd_T62 l0_0 x45_2).f2.f0) ((rd_T62 l0_0 x45_2).f2.f1) ((rd_T62 l0_0 x45_2).f3.f0) ((rd_T62 l0_0 x45_2).f3.f1))) = some r := by rw [if_neg (show ¬ (false = true) by decide)] at H; exact H
                      clear H
                      have H := H1
                      clear H1
                      by_cases c45 : ((rd_T62 l0_0 x45_2).f0) = (-1)
                      ·rw [if_pos c45] at H
                       have c45b0 : (((rd_T62 l0_0 x45_2).f0) == (-1)) = true := beq_iff_eq.mpr c45
                       have c45b1 : (((rd_T62 l0_0 x45_2).f0) != (-1)) = false := bne_eq_false_iff_eq.mpr c45
                       clear c45
                       obtain ⟨ji46, hji46⟩ : ∃ j_ : Int, (mx x11_4 (rd (rd_L11 t673 x45_2) x74_4)) = j_ := ⟨_, rfl⟩
                       replace H : (cottonpadlaw06_ExitsTrue.l1 kj39 l1 t668 t673 t676 ji46 t679 l0_0 (l0_0.length : Int) x45_2 (rd_L11 t673 x45_2) ((rd_L11 t673 x45_2).length : Int) (wrap64 (x74_4 + 1)) l0_0 l0_1 ((rd_T62 l0_0 x45_2).f0) ((rd_T62 l0_0 x45_2).f1) ((rd_T62 l0_0 x45_2).f2.f0) ((rd_T62 l0_0 x45_2).f2.f1) ((rd_T62 l0_0 x45_2).f3.f0) ((rd_T62 l0_0 x45_2).f3.f1)) = some r := by first | (rw [hji46] at H; exact H) | (simp only [hji46] at H ⊢; exact H)
                       have hji46_ : (if x11_4 < (rd (rd_L11 t673 x45_2) x74_4) then (rd (rd_L11 t673 x45_2) x74_4) else x11_4) = ji46 := hji46
                       have H' := Aside0.mk H
                       clear H
                       have hnb47 := NB678_667.out
                       have hnc47 := NB667_678.out
                       have hcz48_0 : wc.cell? ⟨gb678, 0, none⟩ = some (.int .i64 ((rd_T62 l0_0 x45_2).f0)) := bc_ BK678 0
                       have hcz48_1 : wc.cell? ⟨gb678, 1, none⟩ = some (.int .i64 ((rd_T62 l0_0 x45_2).f1)) := bc_ BK678 1
                       have hcz48_2 : wc.cell? ⟨gb678, 2, none⟩ = some (.int .i64 ((rd_T62 l0_0 x45_2).f2.f0)) := bc_ BK678 2
                       have hcz48_3 : wc.cell? ⟨gb678, 3, none⟩ = some (.int .i64 ((rd_T62 l0_0 x45_2).f2.f1)) := bc_ BK678 3
                       have hcz48_4 : wc.cell? ⟨gb678, 4, none⟩ = some (.int .i64 ((rd_T62 l0_0 x45_2).f3.f0)) := bc_ BK678 4
                       have hcz48_5 : wc.cell? ⟨gb678, 5, none⟩ = some (.int .i64 ((rd_T62 l0_0 x45_2).f3.f1)) := bc_ BK678 5
                       have hfz48_0 := blk_frozen BK678.out 0
                       have hfz48_1 := blk_frozen BK678.out 1
                       have hfz48_2 := blk_frozen BK678.out 2
                       have hfz48_3 := blk_frozen BK678.out 3
                       have hfz48_4 := blk_frozen BK678.out 4
                       have hfz48_5 := blk_frozen BK678.out 5
                       go_wp2
                       go_roundg kj39
                       case measure => have := HJ4.out; have := HK2.out; have := HJ22.out; have := HK4.out; have := HJ39.out; omega
                       case rel => exact ⟨(ji46), (wrap64 (x74_4 + 1)), (by first | rfl | (simp; done) | (simp only [← hji46] <;> (first | rfl | simp)) | (simp [*]; done)), (by first | rfl | (simp; done) | (simp [*]; done)), H', ⟨by have := HJ4.out; have := HK2.out; have := HJ22.out; have := HK4.out; have := HJ39.out; omega⟩, ⟨by (with_reducible repeat (first | apply Kd.S_alloc | apply Kd.S_drewN | apply Kd.S_drew)); exact HO_9.out⟩, ⟨by (with_reducible repeat (first | apply Kd.R_alloc | apply Kd.R_drewN | apply Kd.R_drew)); exact HO_14.out⟩, ⟨by refine bx_ ?_; exact BK667.out⟩, ⟨by refine bx_ ?_; exact BK678.out⟩, ⟨by repeat (first | (with_reducible exact HR684_0.out) | (with_reducible refine Kd.C_alloc ?_ _) | (with_reducible refine Kd.C_drewN ?_ _) | (with_reducible refine Kd.C_drew ?_) | exact HR684_0.out)⟩, ⟨be2_ HB GE667 GE678⟩⟩
                      ·rw [if_neg c45] at H
                       have c45b0 : (((rd_T62 l0_0 x45_2).f0) == (-1)) = false := beq_eq_false_iff_ne.mpr c45
                       have c45b1 : (((rd_T62 l0_0 x45_2).f0) != (-1)) = true := bne_iff_ne.mpr c45
                       have H' := Aside0.mk H
                       clear H
                       have hnb49 := NB678_667.out
                       have hnc49 := NB667_678.out
                       have hcz50_0 : wc.cell? ⟨gb678, 0, none⟩ = some (.int .i64 ((rd_T62 l0_0 x45_2).f0)) := bc_ BK678 0
                       have hcz50_1 : wc.cell? ⟨gb678, 1, none⟩ = some (.int .i64 ((rd_T62 l0_0 x45_2).f1)) := bc_ BK678 1
                       have hcz50_2 : wc.cell? ⟨gb678, 2, none⟩ = some (.int .i64 ((rd_T62 l0_0 x45_2).f2.f0)) := bc_ BK678 2
                       have hcz50_3 : wc.cell? ⟨gb678, 3, none⟩ = some (.int .i64 ((rd_T62 l0_0 x45_2).f2.f1)) := bc_ BK678 3
                       have hcz50_4 : wc.cell? ⟨gb678, 4, none⟩ = some (.int .i64 ((rd_T62 l0_0 x45_2).f3.f0)) := bc_ BK678 4
                       have hcz50_5 : wc.cell? ⟨gb678, 5, none⟩ = some (.int .i64 ((rd_T62 l0_0 x45_2).f3.f1)) := bc_ BK678 5
                       have hfz50_0 := blk_frozen BK678.out 0
                       have hfz50_1 := blk_frozen BK678.out 1
                       have hfz50_2 := blk_frozen BK678.out 2
                       have hfz50_3 := blk_frozen BK678.out 3
                       have hfz50_4 := blk_frozen BK678.out 4
                       have hfz50_5 := blk_frozen BK678.out 5
                       go_wp2
                       go_roundg kj39
                       case measure => have := HJ4.out; have := HK2.out; have := HJ22.out; have := HK4.out; have := HJ39.out; omega
                       case rel => exact ⟨(x11_4), (wrap64 (x74_4 + 1)), (by first | rfl | (simp; done) | (simp [*]; done)), (by first | rfl | (simp; done) | (simp [*]; done)), H', ⟨by have := HJ4.out; have := HK2.out; have := HJ22.out; have := HK4.out; have := HJ39.out; omega⟩, ⟨by (with_reducible repeat (first | apply Kd.S_alloc | apply Kd.S_drewN | apply Kd.S_drew)); exact HO_9.out⟩, ⟨by (with_reducible repeat (first | apply Kd.R_alloc | apply Kd.R_drewN | apply Kd.R_drew)); exact HO_14.out⟩, ⟨by refine bx_ ?_; exact BK667.out⟩, ⟨by refine bx_ ?_; exact BK678.out⟩, ⟨by repeat (first | (with_reducible exact HR684_0.out) | (with_reducible refine Kd.C_alloc ?_ _) | (with_reducible refine Kd.C_drewN ?_ _) | (with_reducible refine Kd.C_drew ?_) | exact HR684_0.out)⟩, ⟨be2_ HB GE667 GE678⟩⟩
                  ·rw [if_neg c39] at H
                   exact absurd H (by simp)
                 ·rw [if_neg c38] at H
                  exact absurd H (by simp)
                ·rw [if_neg c37] at H
                 have c37b0 : decide (x74_4 < ((rd_L11 t673 x45_2).length : Int)) = false := decide_eq_false c37
                 clear c37
                 have H' := Aside0.mk H
                 clear H
                 go_wp2
                 go_roundg k4
                 case measure => have := HJ4.out; have := HK2.out; have := HJ22.out; have := HK4.out; omega
                 case rel => exact ⟨(x11_4), (wrap64 (x45_2 + 1)), (by first | rfl | (simp; done) | (simp [*]; done)), (by first | rfl | (simp; done) | (simp [*]; done)), H', ⟨by have := HJ4.out; have := HK2.out; have := HJ22.out; have := HK4.out; omega⟩, ⟨by (with_reducible repeat (first | apply Kd.S_alloc | apply Kd.S_drewN | apply Kd.S_drew)); exact HO_9.out⟩, ⟨by refine bx_ ?_; exact BK667.out⟩, ⟨be2_ HB GE667 GE678⟩⟩
             ·rw [if_neg c35] at H
              exact absurd H (by simp)
            ·rw [if_neg c34] at H
             exact absurd H (by simp)
        ·rw [if_neg c21] at H
         exact absurd H (by simp)
       ·rw [if_neg c20] at H
        exact absurd H (by simp)
      ·rw [if_neg c19] at H
       have c19b0 : decide (x45_2 < (l0_0.length : Int)) = false := decide_eq_false c19
       clear c19
       replace H := Option.bind_eq_some_iff.mp H
       obtain ⟨⟨t688, t689, t690⟩, A510, H⟩ := H
       replace H : ((exits_Safe.f l0_0 l0_1 l1).bind fun bt692 => (if t690 = 0 then (if bt692.2.2.2 = 0 then (if bt692.1 > 2 then (some false) else (if x11_2 < t688 then (some false) else (if x11_2 > t689 then (some false) else (if t668 = true then (if bt692.1 = 2 then (if t676 = true then (if bt692.1 = 0 then (some (!t676)) else (some true)) else (some false)) else (if bt692.1 = 0 then (some (!t676)) else (some true))) else (some false))))) else (some false)) else (some false))) = some r := H
       have A51 := Aside0.mk A510
       clear A510
       replace H := Option.bind_eq_some_iff.mp H
       obtain ⟨⟨t692, t693, t694, t695⟩, A520, H⟩ := H
       replace H : (if t690 = 0 then (if t695 = 0 then (if t692 > 2 then (some false) else (if x11_2 < t688 then (some false) else (if x11_2 > t689 then (some false) else (if t668 = true then (if t692 = 2 then (if t676 = true then (if t692 = 0 then (some (!t676)) else (some true)) else (some false)) else (if t692 = 0 then (some (!t676)) else (some true))) else (some false))))) else (some false)) else (some false)) = some r := H
       have A52 := Aside0.mk A520
       clear A520
       by_cases c53 : t690 = 0
       ·rw [if_pos c53] at H
        have c53b0 : (t690 == 0) = true := beq_iff_eq.mpr c53
        have c53b1 : (t690 != 0) = false := bne_eq_false_iff_eq.mpr c53
        clear c53
        by_cases c54 : t695 = 0
        ·rw [if_pos c54] at H
         have c54b0 : (t695 == 0) = true := beq_iff_eq.mpr c54
         have c54b1 : (t695 != 0) = false := bne_eq_false_iff_eq.mpr c54
         clear c54
         by_cases c55 : t692 > 2
         ·rw [if_pos c55] at H
          have c55b0 : decide (2 < t692) = true := decide_eq_true c55
          clear c55
          exact absurd (H.trans (congrArg some HRT.out)) (by simp)
         ·rw [if_neg c55] at H
          have c55b0 : decide (2 < t692) = false := decide_eq_false c55
          clear c55
          by_cases c56 : x11_2 < t688
          ·rw [if_pos c56] at H
           have c56b0 : decide (x11_2 < t688) = true := decide_eq_true c56
           clear c56
           exact absurd (H.trans (congrArg some HRT.out)) (by simp)
          ·rw [if_neg c56] at H
           have c56b0 : decide (x11_2 < t688) = false := decide_eq_false c56
           clear c56
           by_cases c57 : x11_2 > t689
           ·rw [if_pos c57] at H
            have c57b0 : decide (t689 < x11_2) = true := decide_eq_true c57
            clear c57
            exact absurd (H.trans (congrArg some HRT.out)) (by simp)
           ·rw [if_neg c57] at H
            have c57b0 : decide (t689 < x11_2) = false := decide_eq_false c57
            clear c57
            by_cases c58 : t668 = true
            ·subst c58
             have H1 : (if t692 = 2 then (if t676 = true then (if t692 = 0 then (some (!t676)) else (some true)) else (some false)) else (if t692 = 0 then (some (!t676)) else (some true))) = some r := by rw [if_pos rfl] at H; exact H
             clear H
             have H := H1
             clear H1
             by_cases c59 : t692 = 2
             ·rw [if_pos c59] at H
              have c59b0 : (t692 == 2) = true := beq_iff_eq.mpr c59
              have c59b1 : (t692 != 2) = false := bne_eq_false_iff_eq.mpr c59
              clear c59
              by_cases c60 : t676 = true
              ·subst c60
               have H1 : (if t692 = 0 then (some (!true)) else (some true)) = some r := by rw [if_pos rfl] at H; exact H
               clear H
               have H := H1
               clear H1
               by_cases c61 : t692 = 0
               ·rw [if_pos c61] at H
                have c61b0 : (t692 == 0) = true := beq_iff_eq.mpr c61
                have c61b1 : (t692 != 0) = false := bne_eq_false_iff_eq.mpr c61
                clear c61
                obtain rfl := Option.some.inj H
                have hcz62_0 : wr.cell? ⟨gb667, 0, none⟩ = some (.slice A0_0 l0_0.length c0_0) := bc_ BK667 0
                have hcz62_1 : wr.cell? ⟨gb667, 1, none⟩ = some (.slice A0_1 l0_1.length c0_1) := bc_ BK667 1
                have hfz62_0 := blk_frozen BK667.out 0
                have hfz62_1 := blk_frozen BK667.out 1
                go_wp2_with (first | ((with_reducible refine gate_callee (f := 19) rfl ?_); refine goesL_ (some 106) rfl rfl Tryd.func19 (by kernel_rfl) rfl #[.agg #[.slice A0_0 l0_0.length c0_0, .slice A0_1 l0_1.length c0_1], .slice A1 l1.length c1] rfl ls_ ?_; (with_reducible refine (exits_Out.calls _ _ l0_0 _ _ l0_1 _ _ l1 t688 t689 t690 _ ?side7 ?side1 ?side2 ?side3 ?side4 ?side5 ?side6 A51.out).mono ?_); (case side1 => exact kc_ HR0_0 HB); (case side2 => exact HC0_0.out); (case side3 => exact kc_ HR0_1 HB); (case side4 => exact HC0_1.out); (case side5 => exact kc_ HR1 HB); (case side6 => exact HC1.out); (case side7 => exact GlobsE.below HG.out.1 (be1_ HB GE667)); rintro e w63 ⟨rfl, hb⟩; refine ⟨_, rfl, ?_⟩; replace HO_9 := Aside0.mk (Kd.S_below (by (with_reducible repeat (first | apply Kd.S_alloc | apply Kd.S_drewN | apply Kd.S_drew)); exact HO_9.out) hb); replace BK667 := bb_ BK667 hb; replace HB := bs1_ HB GE667 hb; (try clear hb); (try clear hb2); (try clear hk); (try clear hi)) | ((with_reducible refine gate_dst (N := 18) rfl ?_); (try (refine gate_guard (by rfl) ?_; dsimp only)); refine box_event ?hg (N := 18) ?hd (cs := #[.int .i64 0, .int .i64 0]) (t := 36) ?hr ?_; (case hd => rfl); (case hg => rfl); (case hr => exact gs_); intro gb691 hg w64 hbox hb; replace HO_9 := Aside0.mk (Kd.S_below (by (with_reducible repeat (first | apply Kd.S_alloc | apply Kd.S_drewN | apply Kd.S_drew)); exact HO_9.out) hb); have BK691 := Aside0.mk (hbox); have GW691 := hl_ hg (be1_ HB GE667); have GE691 := hl_ hg (be1_ HB GE667); replace HB := bs1_ HB GE667 hb; have NB667_691 := Aside0.mk ((by rw [hg]; exact Nat.ne_of_lt (blk_lt (bk_ BK667)) : gb667 ≠ gb691)); have NB691_667 := Aside0.mk ((by rw [hg]; exact Nat.ne_of_gt (blk_lt (bk_ BK667)) : gb691 ≠ gb667)); replace BK667 := bb_ BK667 hb; clear hb hbox hg; have hnb65 := NB691_667.out; have hnc65 := NB667_691.out; have hcz66_0 : w64.cell? ⟨gb691, 0, none⟩ = some (.int .i64 0) := bc_ BK691 0; have hcz66_1 : w64.cell? ⟨gb691, 1, none⟩ = some (.int .i64 0) := bc_ BK691 1; have hfz66_0 := blk_frozen BK691.out 0; have hfz66_1 := blk_frozen BK691.out 1; have hcz67_0 : w64.cell? ⟨gb667, 0, none⟩ = some (.slice A0_0 l0_0.length c0_0) := bc_ BK667 0; have hcz67_1 : w64.cell? ⟨gb667, 1, none⟩ = some (.slice A0_1 l0_1.length c0_1) := bc_ BK667 1; have hfz67_0 := blk_frozen BK667.out 0; have hfz67_1 := blk_frozen BK667.out 1) | ((with_reducible refine gate_callee (f := 26) rfl ?_); refine goesL_ (some 112) rfl rfl Tryd.func26 (by kernel_rfl) rfl #[.agg #[.slice A0_0 l0_0.length c0_0, .slice A0_1 l0_1.length c0_1], .slice A1 l1.length c1] rfl ls_ ?_; (with_reducible refine (exits_Safe.calls _ _ l0_0 _ _ l0_1 _ _ l1 t692 t693 t694 t695 _ ?side7 ?side1 ?side2 ?side3 ?side4 ?side5 ?side6 A52.out).mono ?_); (case side1 => exact Kd.C_below HR0_0.out (be2_ HB GE667 GE691)); (case side2 => exact HC0_0.out); (case side3 => exact Kd.C_below HR0_1.out (be2_ HB GE667 GE691)); (case side4 => exact HC0_1.out); (case side5 => exact Kd.C_below HR1.out (be2_ HB GE667 GE691)); (case side6 => exact HC1.out); (case side7 => exact Globs.below HG.out (be2_ HB GE667 GE691)); rintro e w68 ⟨rfl, hb⟩; refine ⟨_, rfl, ?_⟩; replace HO_9 := Aside0.mk (Kd.S_below (by (with_reducible repeat (first | apply Kd.S_alloc | apply Kd.S_drewN | apply Kd.S_drew)); exact (Kd.S_mono (Kd.S_far (p := ⟨gb691, 1, none⟩) (Kd.S_far (p := ⟨gb691, 0, none⟩) (Kd.S_types HO_9.out BK691.out (by decide)) (fun _ hk => hk.2) (.int .i64 t688)) (fun _ hk => hk.2) (.int .i64 t689)) (fun _ h_ => h_.1))) hb); replace BK667 := Aside0.mk (blk_below (g := gb667) (o := .cells #[.slice A0_0 l0_0.length c0_0, .slice A0_1 l0_1.length c0_1] 25 (0, 0)) (by refine bx_ ?_; refine blk_far ?_ NB667_691.out _; refine bx_ ?_; refine blk_far ?_ NB667_691.out _; refine bx_ ?_; exact BK667.out) hb); replace BK691 := Aside0.mk (blk_below (g := gb691) (o := .cells #[.int .i64 t688, .int .i64 t689] 36 (0, 0)) (by refine bx_ ?_; refine blk_put (cs := #[.int .i64 t688, .int .i64 0]) ?_ 1 _ rfl; refine bx_ ?_; refine blk_put (cs := #[.int .i64 0, .int .i64 0]) ?_ 0 _ rfl; refine bx_ ?_; exact BK691.out) hb); replace HB := bs2_ HB GE667 GE691 hb; (try clear hb); (try clear hb2); (try clear hk); (try clear hi); have hcz69_0 : w68.cell? ⟨gb691, 0, none⟩ = some (.int .i64 t688) := bc_ BK691 0; have hcz69_1 : w68.cell? ⟨gb691, 1, none⟩ = some (.int .i64 t689) := bc_ BK691 1; have hfz69_0 := blk_frozen BK691.out 0; have hfz69_1 := blk_frozen BK691.out 1))
                go_ret
                exact ⟨rf_, be2_ HB GE667 GE691⟩
               ·rw [if_neg c61] at H
                have c61b0 : (t692 == 0) = false := beq_eq_false_iff_ne.mpr c61
                have c61b1 : (t692 != 0) = true := bne_iff_ne.mpr c61
                obtain rfl := Option.some.inj H
                have hcz70_0 : wr.cell? ⟨gb667, 0, none⟩ = some (.slice A0_0 l0_0.length c0_0) := bc_ BK667 0
                have hcz70_1 : wr.cell? ⟨gb667, 1, none⟩ = some (.slice A0_1 l0_1.length c0_1) := bc_ BK667 1
                have hfz70_0 := blk_frozen BK667.out 0
                have hfz70_1 := blk_frozen BK667.out 1
                go_wp2_with (first | ((with_reducible refine gate_callee (f := 19) rfl ?_); refine goesL_ (some 106) rfl rfl Tryd.func19 (by kernel_rfl) rfl #[.agg #[.slice A0_0 l0_0.length c0_0, .slice A0_1 l0_1.length c0_1], .slice A1 l1.length c1] rfl ls_ ?_; (with_reducible refine (exits_Out.calls _ _ l0_0 _ _ l0_1 _ _ l1 t688 t689 t690 _ ?side7 ?side1 ?side2 ?side3 ?side4 ?side5 ?side6 A51.out).mono ?_); (case side1 => exact kc_ HR0_0 HB); (case side2 => exact HC0_0.out); (case side3 => exact kc_ HR0_1 HB); (case side4 => exact HC0_1.out); (case side5 => exact kc_ HR1 HB); (case side6 => exact HC1.out); (case side7 => exact GlobsE.below HG.out.1 (be1_ HB GE667)); rintro e w71 ⟨rfl, hb⟩; refine ⟨_, rfl, ?_⟩; replace HO_9 := Aside0.mk (Kd.S_below (by (with_reducible repeat (first | apply Kd.S_alloc | apply Kd.S_drewN | apply Kd.S_drew)); exact HO_9.out) hb); replace BK667 := bb_ BK667 hb; replace HB := bs1_ HB GE667 hb; (try clear hb); (try clear hb2); (try clear hk); (try clear hi)) | ((with_reducible refine gate_dst (N := 18) rfl ?_); (try (refine gate_guard (by rfl) ?_; dsimp only)); refine box_event ?hg (N := 18) ?hd (cs := #[.int .i64 0, .int .i64 0]) (t := 36) ?hr ?_; (case hd => rfl); (case hg => rfl); (case hr => exact gs_); intro gb691 hg w72 hbox hb; replace HO_9 := Aside0.mk (Kd.S_below (by (with_reducible repeat (first | apply Kd.S_alloc | apply Kd.S_drewN | apply Kd.S_drew)); exact HO_9.out) hb); have BK691 := Aside0.mk (hbox); have GW691 := hl_ hg (be1_ HB GE667); have GE691 := hl_ hg (be1_ HB GE667); replace HB := bs1_ HB GE667 hb; have NB667_691 := Aside0.mk ((by rw [hg]; exact Nat.ne_of_lt (blk_lt (bk_ BK667)) : gb667 ≠ gb691)); have NB691_667 := Aside0.mk ((by rw [hg]; exact Nat.ne_of_gt (blk_lt (bk_ BK667)) : gb691 ≠ gb667)); replace BK667 := bb_ BK667 hb; clear hb hbox hg; have hnb73 := NB691_667.out; have hnc73 := NB667_691.out; have hcz74_0 : w72.cell? ⟨gb691, 0, none⟩ = some (.int .i64 0) := bc_ BK691 0; have hcz74_1 : w72.cell? ⟨gb691, 1, none⟩ = some (.int .i64 0) := bc_ BK691 1; have hfz74_0 := blk_frozen BK691.out 0; have hfz74_1 := blk_frozen BK691.out 1; have hcz75_0 : w72.cell? ⟨gb667, 0, none⟩ = some (.slice A0_0 l0_0.length c0_0) := bc_ BK667 0; have hcz75_1 : w72.cell? ⟨gb667, 1, none⟩ = some (.slice A0_1 l0_1.length c0_1) := bc_ BK667 1; have hfz75_0 := blk_frozen BK667.out 0; have hfz75_1 := blk_frozen BK667.out 1) | ((with_reducible refine gate_callee (f := 26) rfl ?_); refine goesL_ (some 112) rfl rfl Tryd.func26 (by kernel_rfl) rfl #[.agg #[.slice A0_0 l0_0.length c0_0, .slice A0_1 l0_1.length c0_1], .slice A1 l1.length c1] rfl ls_ ?_; (with_reducible refine (exits_Safe.calls _ _ l0_0 _ _ l0_1 _ _ l1 t692 t693 t694 t695 _ ?side7 ?side1 ?side2 ?side3 ?side4 ?side5 ?side6 A52.out).mono ?_); (case side1 => exact Kd.C_below HR0_0.out (be2_ HB GE667 GE691)); (case side2 => exact HC0_0.out); (case side3 => exact Kd.C_below HR0_1.out (be2_ HB GE667 GE691)); (case side4 => exact HC0_1.out); (case side5 => exact Kd.C_below HR1.out (be2_ HB GE667 GE691)); (case side6 => exact HC1.out); (case side7 => exact Globs.below HG.out (be2_ HB GE667 GE691)); rintro e w76 ⟨rfl, hb⟩; refine ⟨_, rfl, ?_⟩; replace HO_9 := Aside0.mk (Kd.S_below (by (with_reducible repeat (first | apply Kd.S_alloc | apply Kd.S_drewN | apply Kd.S_drew)); exact (Kd.S_mono (Kd.S_far (p := ⟨gb691, 1, none⟩) (Kd.S_far (p := ⟨gb691, 0, none⟩) (Kd.S_types HO_9.out BK691.out (by decide)) (fun _ hk => hk.2) (.int .i64 t688)) (fun _ hk => hk.2) (.int .i64 t689)) (fun _ h_ => h_.1))) hb); replace BK667 := Aside0.mk (blk_below (g := gb667) (o := .cells #[.slice A0_0 l0_0.length c0_0, .slice A0_1 l0_1.length c0_1] 25 (0, 0)) (by refine bx_ ?_; refine blk_far ?_ NB667_691.out _; refine bx_ ?_; refine blk_far ?_ NB667_691.out _; refine bx_ ?_; exact BK667.out) hb); replace BK691 := Aside0.mk (blk_below (g := gb691) (o := .cells #[.int .i64 t688, .int .i64 t689] 36 (0, 0)) (by refine bx_ ?_; refine blk_put (cs := #[.int .i64 t688, .int .i64 0]) ?_ 1 _ rfl; refine bx_ ?_; refine blk_put (cs := #[.int .i64 0, .int .i64 0]) ?_ 0 _ rfl; refine bx_ ?_; exact BK691.out) hb); replace HB := bs2_ HB GE667 GE691 hb; (try clear hb); (try clear hb2); (try clear hk); (try clear hi); have hcz77_0 : w76.cell? ⟨gb691, 0, none⟩ = some (.int .i64 t688) := bc_ BK691 0; have hcz77_1 : w76.cell? ⟨gb691, 1, none⟩ = some (.int .i64 t689) := bc_ BK691 1; have hfz77_0 := blk_frozen BK691.out 0; have hfz77_1 := blk_frozen BK691.out 1))
                go_ret
                exact ⟨rf_, be2_ HB GE667 GE691⟩
              ·replace c60 := Bool.eq_false_iff.mpr c60
               subst c60
               have H1 : (some false) = some r := by rw [if_neg (show ¬ (false = true) by decide)] at H; exact H
               clear H
               have H := H1
               clear H1
               exact absurd (H.trans (congrArg some HRT.out)) (by simp)
             ·rw [if_neg c59] at H
              have c59b0 : (t692 == 2) = false := beq_eq_false_iff_ne.mpr c59
              have c59b1 : (t692 != 2) = true := bne_iff_ne.mpr c59
              by_cases c78 : t692 = 0
              ·rw [if_pos c78] at H
               have c78b0 : (t692 == 0) = true := beq_iff_eq.mpr c78
               have c78b1 : (t692 != 0) = false := bne_eq_false_iff_eq.mpr c78
               clear c78
               obtain rfl := Option.some.inj H
               have hcz79_0 : wr.cell? ⟨gb667, 0, none⟩ = some (.slice A0_0 l0_0.length c0_0) := bc_ BK667 0
               have hcz79_1 : wr.cell? ⟨gb667, 1, none⟩ = some (.slice A0_1 l0_1.length c0_1) := bc_ BK667 1
               have hfz79_0 := blk_frozen BK667.out 0
               have hfz79_1 := blk_frozen BK667.out 1
               go_wp2_with (first | ((with_reducible refine gate_callee (f := 19) rfl ?_); refine goesL_ (some 106) rfl rfl Tryd.func19 (by kernel_rfl) rfl #[.agg #[.slice A0_0 l0_0.length c0_0, .slice A0_1 l0_1.length c0_1], .slice A1 l1.length c1] rfl ls_ ?_; (with_reducible refine (exits_Out.calls _ _ l0_0 _ _ l0_1 _ _ l1 t688 t689 t690 _ ?side7 ?side1 ?side2 ?side3 ?side4 ?side5 ?side6 A51.out).mono ?_); (case side1 => exact kc_ HR0_0 HB); (case side2 => exact HC0_0.out); (case side3 => exact kc_ HR0_1 HB); (case side4 => exact HC0_1.out); (case side5 => exact kc_ HR1 HB); (case side6 => exact HC1.out); (case side7 => exact GlobsE.below HG.out.1 (be1_ HB GE667)); rintro e w80 ⟨rfl, hb⟩; refine ⟨_, rfl, ?_⟩; replace HO_9 := Aside0.mk (Kd.S_below (by (with_reducible repeat (first | apply Kd.S_alloc | apply Kd.S_drewN | apply Kd.S_drew)); exact HO_9.out) hb); replace BK667 := bb_ BK667 hb; replace HB := bs1_ HB GE667 hb; (try clear hb); (try clear hb2); (try clear hk); (try clear hi)) | ((with_reducible refine gate_dst (N := 18) rfl ?_); (try (refine gate_guard (by rfl) ?_; dsimp only)); refine box_event ?hg (N := 18) ?hd (cs := #[.int .i64 0, .int .i64 0]) (t := 36) ?hr ?_; (case hd => rfl); (case hg => rfl); (case hr => exact gs_); intro gb691 hg w81 hbox hb; replace HO_9 := Aside0.mk (Kd.S_below (by (with_reducible repeat (first | apply Kd.S_alloc | apply Kd.S_drewN | apply Kd.S_drew)); exact HO_9.out) hb); have BK691 := Aside0.mk (hbox); have GW691 := hl_ hg (be1_ HB GE667); have GE691 := hl_ hg (be1_ HB GE667); replace HB := bs1_ HB GE667 hb; have NB667_691 := Aside0.mk ((by rw [hg]; exact Nat.ne_of_lt (blk_lt (bk_ BK667)) : gb667 ≠ gb691)); have NB691_667 := Aside0.mk ((by rw [hg]; exact Nat.ne_of_gt (blk_lt (bk_ BK667)) : gb691 ≠ gb667)); replace BK667 := bb_ BK667 hb; clear hb hbox hg; have hnb82 := NB691_667.out; have hnc82 := NB667_691.out; have hcz83_0 : w81.cell? ⟨gb691, 0, none⟩ = some (.int .i64 0) := bc_ BK691 0; have hcz83_1 : w81.cell? ⟨gb691, 1, none⟩ = some (.int .i64 0) := bc_ BK691 1; have hfz83_0 := blk_frozen BK691.out 0; have hfz83_1 := blk_frozen BK691.out 1; have hcz84_0 : w81.cell? ⟨gb667, 0, none⟩ = some (.slice A0_0 l0_0.length c0_0) := bc_ BK667 0; have hcz84_1 : w81.cell? ⟨gb667, 1, none⟩ = some (.slice A0_1 l0_1.length c0_1) := bc_ BK667 1; have hfz84_0 := blk_frozen BK667.out 0; have hfz84_1 := blk_frozen BK667.out 1) | ((with_reducible refine gate_callee (f := 26) rfl ?_); refine goesL_ (some 112) rfl rfl Tryd.func26 (by kernel_rfl) rfl #[.agg #[.slice A0_0 l0_0.length c0_0, .slice A0_1 l0_1.length c0_1], .slice A1 l1.length c1] rfl ls_ ?_; (with_reducible refine (exits_Safe.calls _ _ l0_0 _ _ l0_1 _ _ l1 t692 t693 t694 t695 _ ?side7 ?side1 ?side2 ?side3 ?side4 ?side5 ?side6 A52.out).mono ?_); (case side1 => exact Kd.C_below HR0_0.out (be2_ HB GE667 GE691)); (case side2 => exact HC0_0.out); (case side3 => exact Kd.C_below HR0_1.out (be2_ HB GE667 GE691)); (case side4 => exact HC0_1.out); (case side5 => exact Kd.C_below HR1.out (be2_ HB GE667 GE691)); (case side6 => exact HC1.out); (case side7 => exact Globs.below HG.out (be2_ HB GE667 GE691)); rintro e w85 ⟨rfl, hb⟩; refine ⟨_, rfl, ?_⟩; replace HO_9 := Aside0.mk (Kd.S_below (by (with_reducible repeat (first | apply Kd.S_alloc | apply Kd.S_drewN | apply Kd.S_drew)); exact (Kd.S_mono (Kd.S_far (p := ⟨gb691, 1, none⟩) (Kd.S_far (p := ⟨gb691, 0, none⟩) (Kd.S_types HO_9.out BK691.out (by decide)) (fun _ hk => hk.2) (.int .i64 t688)) (fun _ hk => hk.2) (.int .i64 t689)) (fun _ h_ => h_.1))) hb); replace BK667 := Aside0.mk (blk_below (g := gb667) (o := .cells #[.slice A0_0 l0_0.length c0_0, .slice A0_1 l0_1.length c0_1] 25 (0, 0)) (by refine bx_ ?_; refine blk_far ?_ NB667_691.out _; refine bx_ ?_; refine blk_far ?_ NB667_691.out _; refine bx_ ?_; exact BK667.out) hb); replace BK691 := Aside0.mk (blk_below (g := gb691) (o := .cells #[.int .i64 t688, .int .i64 t689] 36 (0, 0)) (by refine bx_ ?_; refine blk_put (cs := #[.int .i64 t688, .int .i64 0]) ?_ 1 _ rfl; refine bx_ ?_; refine blk_put (cs := #[.int .i64 0, .int .i64 0]) ?_ 0 _ rfl; refine bx_ ?_; exact BK691.out) hb); replace HB := bs2_ HB GE667 GE691 hb; (try clear hb); (try clear hb2); (try clear hk); (try clear hi); have hcz86_0 : w85.cell? ⟨gb691, 0, none⟩ = some (.int .i64 t688) := bc_ BK691 0; have hcz86_1 : w85.cell? ⟨gb691, 1, none⟩ = some (.int .i64 t689) := bc_ BK691 1; have hfz86_0 := blk_frozen BK691.out 0; have hfz86_1 := blk_frozen BK691.out 1))
               go_ret
               exact ⟨rf_, be2_ HB GE667 GE691⟩
              ·rw [if_neg c78] at H
               have c78b0 : (t692 == 0) = false := beq_eq_false_iff_ne.mpr c78
               have c78b1 : (t692 != 0) = true := bne_iff_ne.mpr c78
               obtain rfl := Option.some.inj H
               have hcz87_0 : wr.cell? ⟨gb667, 0, none⟩ = some (.slice A0_0 l0_0.length c0_0) := bc_ BK667 0
               have hcz87_1 : wr.cell? ⟨gb667, 1, none⟩ = some (.slice A0_1 l0_1.length c0_1) := bc_ BK667 1
               have hfz87_0 := blk_frozen BK667.out 0
               have hfz87_1 := blk_frozen BK667.out 1
               go_wp2_with (first | ((with_reducible refine gate_callee (f := 19) rfl ?_); refine goesL_ (some 106) rfl rfl Tryd.func19 (by kernel_rfl) rfl #[.agg #[.slice A0_0 l0_0.length c0_0, .slice A0_1 l0_1.length c0_1], .slice A1 l1.length c1] rfl ls_ ?_; (with_reducible refine (exits_Out.calls _ _ l0_0 _ _ l0_1 _ _ l1 t688 t689 t690 _ ?side7 ?side1 ?side2 ?side3 ?side4 ?side5 ?side6 A51.out).mono ?_); (case side1 => exact kc_ HR0_0 HB); (case side2 => exact HC0_0.out); (case side3 => exact kc_ HR0_1 HB); (case side4 => exact HC0_1.out); (case side5 => exact kc_ HR1 HB); (case side6 => exact HC1.out); (case side7 => exact GlobsE.below HG.out.1 (be1_ HB GE667)); rintro e w88 ⟨rfl, hb⟩; refine ⟨_, rfl, ?_⟩; replace HO_9 := Aside0.mk (Kd.S_below (by (with_reducible repeat (first | apply Kd.S_alloc | apply Kd.S_drewN | apply Kd.S_drew)); exact HO_9.out) hb); replace BK667 := bb_ BK667 hb; replace HB := bs1_ HB GE667 hb; (try clear hb); (try clear hb2); (try clear hk); (try clear hi)) | ((with_reducible refine gate_dst (N := 18) rfl ?_); (try (refine gate_guard (by rfl) ?_; dsimp only)); refine box_event ?hg (N := 18) ?hd (cs := #[.int .i64 0, .int .i64 0]) (t := 36) ?hr ?_; (case hd => rfl); (case hg => rfl); (case hr => exact gs_); intro gb691 hg w89 hbox hb; replace HO_9 := Aside0.mk (Kd.S_below (by (with_reducible repeat (first | apply Kd.S_alloc | apply Kd.S_drewN | apply Kd.S_drew)); exact HO_9.out) hb); have BK691 := Aside0.mk (hbox); have GW691 := hl_ hg (be1_ HB GE667); have GE691 := hl_ hg (be1_ HB GE667); replace HB := bs1_ HB GE667 hb; have NB667_691 := Aside0.mk ((by rw [hg]; exact Nat.ne_of_lt (blk_lt (bk_ BK667)) : gb667 ≠ gb691)); have NB691_667 := Aside0.mk ((by rw [hg]; exact Nat.ne_of_gt (blk_lt (bk_ BK667)) : gb691 ≠ gb667)); replace BK667 := bb_ BK667 hb; clear hb hbox hg; have hnb90 := NB691_667.out; have hnc90 := NB667_691.out; have hcz91_0 : w89.cell? ⟨gb691, 0, none⟩ = some (.int .i64 0) := bc_ BK691 0; have hcz91_1 : w89.cell? ⟨gb691, 1, none⟩ = some (.int .i64 0) := bc_ BK691 1; have hfz91_0 := blk_frozen BK691.out 0; have hfz91_1 := blk_frozen BK691.out 1; have hcz92_0 : w89.cell? ⟨gb667, 0, none⟩ = some (.slice A0_0 l0_0.length c0_0) := bc_ BK667 0; have hcz92_1 : w89.cell? ⟨gb667, 1, none⟩ = some (.slice A0_1 l0_1.length c0_1) := bc_ BK667 1; have hfz92_0 := blk_frozen BK667.out 0; have hfz92_1 := blk_frozen BK667.out 1) | ((with_reducible refine gate_callee (f := 26) rfl ?_); refine goesL_ (some 112) rfl rfl Tryd.func26 (by kernel_rfl) rfl #[.agg #[.slice A0_0 l0_0.length c0_0, .slice A0_1 l0_1.length c0_1], .slice A1 l1.length c1] rfl ls_ ?_; (with_reducible refine (exits_Safe.calls _ _ l0_0 _ _ l0_1 _ _ l1 t692 t693 t694 t695 _ ?side7 ?side1 ?side2 ?side3 ?side4 ?side5 ?side6 A52.out).mono ?_); (case side1 => exact Kd.C_below HR0_0.out (be2_ HB GE667 GE691)); (case side2 => exact HC0_0.out); (case side3 => exact Kd.C_below HR0_1.out (be2_ HB GE667 GE691)); (case side4 => exact HC0_1.out); (case side5 => exact Kd.C_below HR1.out (be2_ HB GE667 GE691)); (case side6 => exact HC1.out); (case side7 => exact Globs.below HG.out (be2_ HB GE667 GE691)); rintro e w93 ⟨rfl, hb⟩; refine ⟨_, rfl, ?_⟩; replace HO_9 := Aside0.mk (Kd.S_below (by (with_reducible repeat (first | apply Kd.S_alloc | apply Kd.S_drewN | apply Kd.S_drew)); exact (Kd.S_mono (Kd.S_far (p := ⟨gb691, 1, none⟩) (Kd.S_far (p := ⟨gb691, 0, none⟩) (Kd.S_types HO_9.out BK691.out (by decide)) (fun _ hk => hk.2) (.int .i64 t688)) (fun _ hk => hk.2) (.int .i64 t689)) (fun _ h_ => h_.1))) hb); replace BK667 := Aside0.mk (blk_below (g := gb667) (o := .cells #[.slice A0_0 l0_0.length c0_0, .slice A0_1 l0_1.length c0_1] 25 (0, 0)) (by refine bx_ ?_; refine blk_far ?_ NB667_691.out _; refine bx_ ?_; refine blk_far ?_ NB667_691.out _; refine bx_ ?_; exact BK667.out) hb); replace BK691 := Aside0.mk (blk_below (g := gb691) (o := .cells #[.int .i64 t688, .int .i64 t689] 36 (0, 0)) (by refine bx_ ?_; refine blk_put (cs := #[.int .i64 t688, .int .i64 0]) ?_ 1 _ rfl; refine bx_ ?_; refine blk_put (cs := #[.int .i64 0, .int .i64 0]) ?_ 0 _ rfl; refine bx_ ?_; exact BK691.out) hb); replace HB := bs2_ HB GE667 GE691 hb; (try clear hb); (try clear hb2); (try clear hk); (try clear hi); have hcz94_0 : w93.cell? ⟨gb691, 0, none⟩ = some (.int .i64 t688) := bc_ BK691 0; have hcz94_1 : w93.cell? ⟨gb691, 1, none⟩ = some (.int .i64 t689) := bc_ BK691 1; have hfz94_0 := blk_frozen BK691.out 0; have hfz94_1 := blk_frozen BK691.out 1))
               go_ret
               exact ⟨rf_, be2_ HB GE667 GE691⟩
            ·replace c58 := Bool.eq_false_iff.mpr c58
             subst c58
             have H1 : (some false) = some r := by rw [if_neg (show ¬ (false = true) by decide)] at H; exact H
             clear H
             have H := H1
             clear H1
             exact absurd (H.trans (congrArg some HRT.out)) (by simp)
        ·rw [if_neg c54] at H
         have c54b0 : (t695 == 0) = false := beq_eq_false_iff_ne.mpr c54
         have c54b1 : (t695 != 0) = true := bne_iff_ne.mpr c54
         exact absurd (H.trans (congrArg some HRT.out)) (by simp)
       ·rw [if_neg c53] at H
        have c53b0 : (t690 == 0) = false := beq_eq_false_iff_ne.mpr c53
        have c53b1 : (t690 != 0) = true := bne_iff_ne.mpr c53
        exact absurd (H.trans (congrArg some HRT.out)) (by simp)

end Go.Proofs.YtdeaccbolnlgpaaDoor.X
