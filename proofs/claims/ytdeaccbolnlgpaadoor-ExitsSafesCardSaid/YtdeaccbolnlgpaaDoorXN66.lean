import Derived.Test.YtdeaccbolnlgpaaDoorX0
namespace Go.Proofs.YtdeaccbolnlgpaaDoor.X
open Go.RowKit Go.Proofs.YtdeaccbolnlgpaaDoorW.PrintWords Go.Proofs.YtdeaccbolnlgpaaDoorW.PrintLast Go.Proofs.YtdeaccbolnlgpaaDoorW.PrintMore
attribute [local go_sem] max2_int min2_int max_two min_two max_three min_three max_four min_four   -- for this text's walks alone
set_option linter.unusedVariables false
set_option linter.unusedSimpArgs false

/-! ### cottonpadref06_late: function 66 -/
mutual
def cottonpadref06_late.l0 : Nat → List (S48) → List Int → List (List Int) → Bool → Int → Int → Int → List (S62) → List (S81) → Option (Int × Int)
 | 0, _, _, _, _, _, _, _, _, _ => none
 | k + 1, x1, x2, x3, x4, x12, x13, x14, x302000, x302001 => if x14 < (x302001.length : Int) then (if 0 ≤ x14 then (if x4 = true then (cottonpadref06_late.j1 k x1 x2 x3 x4 x12 x13 x14 ((rd_T81 x302001 x14).f2.f0) x302000 x302001) else (cottonpadref06_late.j1 k x1 x2 x3 x4 x12 x13 x14 ((rd_T81 x302001 x14).f2.f1) x302000 x302001)) else (none)) else (cottonpadref06_late.l2 k x3 x4 x12 x13 0 x302000 x302001)
def cottonpadref06_late.j1 : Nat → List (S48) → List Int → List (List Int) → Bool → Int → Int → Int → Int → List (S62) → List (S81) → Option (Int × Int)
 | 0, _, _, _, _, _, _, _, _, _, _ => none
 | k + 1, x1, x2, x3, x4, x12, x13, x14, x15, x302000, x302001 => cottonpadref06_late.l1 k x1 x2 x3 x4 x12 x13 x14 x15 0 x302000 x302001
def cottonpadref06_late.l1 : Nat → List (S48) → List Int → List (List Int) → Bool → Int → Int → Int → Int → Int → List (S62) → List (S81) → Option (Int × Int)
 | 0, _, _, _, _, _, _, _, _, _, _, _ => none
 | k + 1, x1, x2, x3, x4, x12, x13, x14, x15, x16, x302000, x302001 => if x16 < (x1.length : Int) then (if 0 ≤ x16 then (if ((rd_T48 x1 x16).f0) = x14 then (if x16 < (x2.length : Int) then (if (rd x2 x16) > x15 then (if x12 < 0 then (cottonpadref06_late.l1 k x1 x2 x3 x4 x14 x13 x14 x15 (wrap64 (x16 + 1)) x302000 x302001) else (cottonpadref06_late.l1 k x1 x2 x3 x4 x12 x13 x14 x15 (wrap64 (x16 + 1)) x302000 x302001)) else (cottonpadref06_late.l1 k x1 x2 x3 x4 x12 x13 x14 x15 (wrap64 (x16 + 1)) x302000 x302001)) else (none)) else (cottonpadref06_late.l1 k x1 x2 x3 x4 x12 x13 x14 x15 (wrap64 (x16 + 1)) x302000 x302001)) else (none)) else (cottonpadref06_late.l0 k x1 x2 x3 x4 x12 x13 (wrap64 (x14 + 1)) x302000 x302001)
def cottonpadref06_late.l2 : Nat → List (List Int) → Bool → Int → Int → Int → List (S62) → List (S81) → Option (Int × Int)
 | 0, _, _, _, _, _, _, _ => none
 | k + 1, x3, x4, x12, x13, x17, x302000, x302001 => if x17 < (x302000.length : Int) then (if 0 ≤ x17 then (if x4 = true then (cottonpadref06_late.j4 k x3 x4 x12 x13 x17 ((rd_T62 x302000 x17).f3.f0) x302000 x302001) else (cottonpadref06_late.j4 k x3 x4 x12 x13 x17 ((rd_T62 x302000 x17).f3.f1) x302000 x302001)) else (none)) else (some (x12, x13))
def cottonpadref06_late.j4 : Nat → List (List Int) → Bool → Int → Int → Int → Int → List (S62) → List (S81) → Option (Int × Int)
 | 0, _, _, _, _, _, _, _, _ => none
 | k + 1, x3, x4, x12, x13, x17, x18, x302000, x302001 => cottonpadref06_late.l3 k x3 x4 x12 x13 x17 x18 0 x302000 x302001
def cottonpadref06_late.l3 : Nat → List (List Int) → Bool → Int → Int → Int → Int → Int → List (S62) → List (S81) → Option (Int × Int)
 | 0, _, _, _, _, _, _, _, _, _ => none
 | k + 1, x3, x4, x12, x13, x17, x18, x19, x302000, x302001 => if 0 ≤ x17 then (if x17 < (x3.length : Int) then (if x19 < ((rd_L11 x3 x17).length : Int) then (if 0 ≤ x19 then (if (rd (rd_L11 x3 x17) x19) > x18 then (if x13 < 0 then (cottonpadref06_late.l3 k x3 x4 x12 x17 x17 x18 (wrap64 (x19 + 1)) x302000 x302001) else (cottonpadref06_late.l3 k x3 x4 x12 x13 x17 x18 (wrap64 (x19 + 1)) x302000 x302001)) else (cottonpadref06_late.l3 k x3 x4 x12 x13 x17 x18 (wrap64 (x19 + 1)) x302000 x302001)) else (none)) else (cottonpadref06_late.l2 k x3 x4 x12 x13 (wrap64 (x17 + 1)) x302000 x302001)) else (none)) else (none)
end
def cottonpadref06_late.f (k : Nat) (l0_0 : List (S62)) (l0_1 : List (S81)) (l1 : List (S48)) (l2 : List Int) (l3 : List (List Int)) (a4 : Bool) : Option (Int × Int) := cottonpadref06_late.l0 k l1 l2 l3 a4 (-1) (-1) 0 l0_0 l0_1
theorem cottonpadref06_late.mono_l : ∀ k, (∀ y0 y1 y2 y3 y4 y5 y6 y7 y8, LeO (cottonpadref06_late.l0 k y0 y1 y2 y3 y4 y5 y6 y7 y8) (cottonpadref06_late.l0 (k + 1) y0 y1 y2 y3 y4 y5 y6 y7 y8)) ∧ (∀ y0 y1 y2 y3 y4 y5 y6 y7 y8 y9, LeO (cottonpadref06_late.j1 k y0 y1 y2 y3 y4 y5 y6 y7 y8 y9) (cottonpadref06_late.j1 (k + 1) y0 y1 y2 y3 y4 y5 y6 y7 y8 y9)) ∧ (∀ y0 y1 y2 y3 y4 y5 y6 y7 y8 y9 y10, LeO (cottonpadref06_late.l1 k y0 y1 y2 y3 y4 y5 y6 y7 y8 y9 y10) (cottonpadref06_late.l1 (k + 1) y0 y1 y2 y3 y4 y5 y6 y7 y8 y9 y10)) ∧ (∀ y0 y1 y2 y3 y4 y5 y6, LeO (cottonpadref06_late.l2 k y0 y1 y2 y3 y4 y5 y6) (cottonpadref06_late.l2 (k + 1) y0 y1 y2 y3 y4 y5 y6)) ∧ (∀ y0 y1 y2 y3 y4 y5 y6 y7, LeO (cottonpadref06_late.j4 k y0 y1 y2 y3 y4 y5 y6 y7) (cottonpadref06_late.j4 (k + 1) y0 y1 y2 y3 y4 y5 y6 y7)) ∧ (∀ y0 y1 y2 y3 y4 y5 y6 y7 y8, LeO (cottonpadref06_late.l3 k y0 y1 y2 y3 y4 y5 y6 y7 y8) (cottonpadref06_late.l3 (k + 1) y0 y1 y2 y3 y4 y5 y6 y7 y8))
 | 0 => ⟨fun _ _ _ _ _ _ _ _ _ r h => by simp [cottonpadref06_late.l0] at h, fun _ _ _ _ _ _ _ _ _ _ r h => by simp [cottonpadref06_late.j1] at h, fun _ _ _ _ _ _ _ _ _ _ _ r h => by simp [cottonpadref06_late.l1] at h, fun _ _ _ _ _ _ _ r h => by simp [cottonpadref06_late.l2] at h, fun _ _ _ _ _ _ _ _ r h => by simp [cottonpadref06_late.j4] at h, fun _ _ _ _ _ _ _ _ _ r h => by simp [cottonpadref06_late.l3] at h⟩
 | k + 1 => by
  obtain ⟨ih0, ih1, ih2, ih3, ih4, ih5⟩ := cottonpadref06_late.mono_l k
  refine ⟨?_, ?_, ?_, ?_, ?_, ?_⟩
  ·intro y0 y1 y2 y3 y4 y5 y6 y7 y8
   unfold cottonpadref06_late.l0
   repeat' first
   | (with_reducible exact ih0 _ _ _ _ _ _ _ _ _)
   | (with_reducible exact ih1 _ _ _ _ _ _ _ _ _ _)
   | (with_reducible exact ih2 _ _ _ _ _ _ _ _ _ _ _)
   | (with_reducible exact ih3 _ _ _ _ _ _ _)
   | (with_reducible exact ih4 _ _ _ _ _ _ _ _)
   | (with_reducible exact ih5 _ _ _ _ _ _ _ _ _)
   | (with_reducible exact LeO.refl _)
   | (with_reducible exact LeO.none _)
   | (with_reducible refine LeO.ite ?_ ?_)
   | (with_reducible refine LeO.bind ?_ (fun _ => ?_))
   | exact ih0 _ _ _ _ _ _ _ _ _
   | exact ih1 _ _ _ _ _ _ _ _ _ _
   | exact ih2 _ _ _ _ _ _ _ _ _ _ _
   | exact ih3 _ _ _ _ _ _ _
   | exact ih4 _ _ _ _ _ _ _ _
   | exact ih5 _ _ _ _ _ _ _ _ _
   | exact LeO.none _
   | refine LeO.ite ?_ ?_
   | refine LeO.bind ?_ (fun _ => ?_)
  ·intro y0 y1 y2 y3 y4 y5 y6 y7 y8 y9
   unfold cottonpadref06_late.j1
   repeat' first
   | (with_reducible exact ih0 _ _ _ _ _ _ _ _ _)
   | (with_reducible exact ih1 _ _ _ _ _ _ _ _ _ _)
   | (with_reducible exact ih2 _ _ _ _ _ _ _ _ _ _ _)
   | (with_reducible exact ih3 _ _ _ _ _ _ _)
   | (with_reducible exact ih4 _ _ _ _ _ _ _ _)
   | (with_reducible exact ih5 _ _ _ _ _ _ _ _ _)
   | (with_reducible exact LeO.refl _)
   | (with_reducible exact LeO.none _)
   | (with_reducible refine LeO.ite ?_ ?_)
   | (with_reducible refine LeO.bind ?_ (fun _ => ?_))
   | exact ih0 _ _ _ _ _ _ _ _ _
   | exact ih1 _ _ _ _ _ _ _ _ _ _
   | exact ih2 _ _ _ _ _ _ _ _ _ _ _
   | exact ih3 _ _ _ _ _ _ _
   | exact ih4 _ _ _ _ _ _ _ _
   | exact ih5 _ _ _ _ _ _ _ _ _
   | exact LeO.none _
   | refine LeO.ite ?_ ?_
   | refine LeO.bind ?_ (fun _ => ?_)
  ·intro y0 y1 y2 y3 y4 y5 y6 y7 y8 y9 y10
   unfold cottonpadref06_late.l1
   repeat' first
   | (with_reducible exact ih0 _ _ _ _ _ _ _ _ _)
   | (with_reducible exact ih1 _ _ _ _ _ _ _ _ _ _)
   | (with_reducible exact ih2 _ _ _ _ _ _ _ _ _ _ _)
   | (with_reducible exact ih3 _ _ _ _ _ _ _)
   | (with_reducible exact ih4 _ _ _ _ _ _ _ _)
   | (with_reducible exact ih5 _ _ _ _ _ _ _ _ _)
   | (with_reducible exact LeO.refl _)
   | (with_reducible exact LeO.none _)
   | (with_reducible refine LeO.ite ?_ ?_)
   | (with_reducible refine LeO.bind ?_ (fun _ => ?_))
   | exact ih0 _ _ _ _ _ _ _ _ _
   | exact ih1 _ _ _ _ _ _ _ _ _ _
   | exact ih2 _ _ _ _ _ _ _ _ _ _ _
   | exact ih3 _ _ _ _ _ _ _
   | exact ih4 _ _ _ _ _ _ _ _
   | exact ih5 _ _ _ _ _ _ _ _ _
   | exact LeO.none _
   | refine LeO.ite ?_ ?_
   | refine LeO.bind ?_ (fun _ => ?_)
  ·intro y0 y1 y2 y3 y4 y5 y6
   unfold cottonpadref06_late.l2
   repeat' first
   | (with_reducible exact ih0 _ _ _ _ _ _ _ _ _)
   | (with_reducible exact ih1 _ _ _ _ _ _ _ _ _ _)
   | (with_reducible exact ih2 _ _ _ _ _ _ _ _ _ _ _)
   | (with_reducible exact ih3 _ _ _ _ _ _ _)
   | (with_reducible exact ih4 _ _ _ _ _ _ _ _)
   | (with_reducible exact ih5 _ _ _ _ _ _ _ _ _)
   | (with_reducible exact LeO.refl _)
   | (with_reducible exact LeO.none _)
   | (with_reducible refine LeO.ite ?_ ?_)
   | (with_reducible refine LeO.bind ?_ (fun _ => ?_))
   | exact ih0 _ _ _ _ _ _ _ _ _
   | exact ih1 _ _ _ _ _ _ _ _ _ _
   | exact ih2 _ _ _ _ _ _ _ _ _ _ _
   | exact ih3 _ _ _ _ _ _ _
   | exact ih4 _ _ _ _ _ _ _ _
   | exact ih5 _ _ _ _ _ _ _ _ _
   | exact LeO.none _
   | refine LeO.ite ?_ ?_
   | refine LeO.bind ?_ (fun _ => ?_)
  ·intro y0 y1 y2 y3 y4 y5 y6 y7
   unfold cottonpadref06_late.j4
   repeat' first
   | (with_reducible exact ih0 _ _ _ _ _ _ _ _ _)
   | (with_reducible exact ih1 _ _ _ _ _ _ _ _ _ _)
   | (with_reducible exact ih2 _ _ _ _ _ _ _ _ _ _ _)
   | (with_reducible exact ih3 _ _ _ _ _ _ _)
   | (with_reducible exact ih4 _ _ _ _ _ _ _ _)
   | (with_reducible exact ih5 _ _ _ _ _ _ _ _ _)
   | (with_reducible exact LeO.refl _)
   | (with_reducible exact LeO.none _)
   | (with_reducible refine LeO.ite ?_ ?_)
   | (with_reducible refine LeO.bind ?_ (fun _ => ?_))
   | exact ih0 _ _ _ _ _ _ _ _ _
   | exact ih1 _ _ _ _ _ _ _ _ _ _
   | exact ih2 _ _ _ _ _ _ _ _ _ _ _
   | exact ih3 _ _ _ _ _ _ _
   | exact ih4 _ _ _ _ _ _ _ _
   | exact ih5 _ _ _ _ _ _ _ _ _
   | exact LeO.none _
   | refine LeO.ite ?_ ?_
   | refine LeO.bind ?_ (fun _ => ?_)
  ·intro y0 y1 y2 y3 y4 y5 y6 y7 y8
   unfold cottonpadref06_late.l3
   repeat' first
   | (with_reducible exact ih0 _ _ _ _ _ _ _ _ _)
   | (with_reducible exact ih1 _ _ _ _ _ _ _ _ _ _)
   | (with_reducible exact ih2 _ _ _ _ _ _ _ _ _ _ _)
   | (with_reducible exact ih3 _ _ _ _ _ _ _)
   | (with_reducible exact ih4 _ _ _ _ _ _ _ _)
   | (with_reducible exact ih5 _ _ _ _ _ _ _ _ _)
   | (with_reducible exact LeO.refl _)
   | (with_reducible exact LeO.none _)
   | (with_reducible refine LeO.ite ?_ ?_)
   | (with_reducible refine LeO.bind ?_ (fun _ => ?_))
   | exact ih0 _ _ _ _ _ _ _ _ _
   | exact ih1 _ _ _ _ _ _ _ _ _ _
   | exact ih2 _ _ _ _ _ _ _ _ _ _ _
   | exact ih3 _ _ _ _ _ _ _
   | exact ih4 _ _ _ _ _ _ _ _
   | exact ih5 _ _ _ _ _ _ _ _ _
   | exact LeO.none _
   | refine LeO.ite ?_ ?_
   | refine LeO.bind ?_ (fun _ => ?_)
theorem cottonpadref06_late.mono : ∀ a0 a1 a2 a3 a4 a5 k, LeO (cottonpadref06_late.f k a0 a1 a2 a3 a4 a5) (cottonpadref06_late.f (k + 1) a0 a1 a2 a3 a4 a5) := by
 intro a0 a1 a2 a3 a4 a5 k
 obtain ⟨ih0, ih1, ih2, ih3, ih4, ih5⟩ := cottonpadref06_late.mono_l k
 unfold cottonpadref06_late.f
 repeat' first
   | (with_reducible exact ih0 _ _ _ _ _ _ _ _ _)
   | (with_reducible exact ih1 _ _ _ _ _ _ _ _ _ _)
   | (with_reducible exact ih2 _ _ _ _ _ _ _ _ _ _ _)
   | (with_reducible exact ih3 _ _ _ _ _ _ _)
   | (with_reducible exact ih4 _ _ _ _ _ _ _ _)
   | (with_reducible exact ih5 _ _ _ _ _ _ _ _ _)
   | (with_reducible exact LeO.refl _)
   | (with_reducible exact LeO.none _)
   | (with_reducible refine LeO.ite ?_ ?_)
   | (with_reducible refine LeO.bind ?_ (fun _ => ?_))
   | exact ih0 _ _ _ _ _ _ _ _ _
   | exact ih1 _ _ _ _ _ _ _ _ _ _
   | exact ih2 _ _ _ _ _ _ _ _ _ _ _
   | exact ih3 _ _ _ _ _ _ _
   | exact ih4 _ _ _ _ _ _ _ _
   | exact ih5 _ _ _ _ _ _ _ _ _
   | exact LeO.none _
   | refine LeO.ite ?_ ?_
   | refine LeO.bind ?_ (fun _ => ?_)
set_option maxHeartbeats 8000000 in
set_option maxRecDepth 100000 in
theorem cottonpadref06_late.calls (k : Nat) (A0_0 : Option Addr) (c0_0 : Nat) (l0_0 : List (S62)) (A0_1 : Option Addr) (c0_1 : Nat) (l0_1 : List (S81)) (A1 : Option Addr) (c1 : Nat) (l1 : List (S48)) (A2 : Option Addr) (c2 : Nat) (l2 : List Int) (A3 : Option Addr) (c3 : Nat) (l3 : List (List Int)) (a4 : Bool) (r1 : Int) (r2 : Int) (w : World) (hr0_0 : Kd.C k62 w A0_0 l0_0.length l0_0) (hc0_0 : l0_0.length ≤ c0_0) (hr0_1 : Kd.C k81 w A0_1 l0_1.length l0_1) (hc0_1 : l0_1.length ≤ c0_1) (hr1 : Kd.C k48 w A1 l1.length l1) (hc1 : l1.length ≤ c1) (hr2 : Kd.C (Kd.int .i64) w A2 l2.length l2) (hc2 : l2.length ≤ c2) (hr3 : Kd.C (Kd.slice 3 (Kd.int .i64)) w A3 l3.length l3) (hc3 : l3.length ≤ c3) (h : cottonpadref06_late.f k l0_0 l0_1 l1 l2 l3 a4 = some (r1, r2)) :
  Calls Tryd.prog 66 #[.agg #[.slice A0_0 l0_0.length c0_0, .slice A0_1 l0_1.length c0_1], .slice A1 l1.length c1, .slice A2 l2.length c2, .slice A3 l3.length c3, .bool a4] w fun e w' => e = .returned (.tuple #[.int .i64 r1, .int .i64 r2]) ∧ Below w.heap.size w w' := by
 have hu25 := Tryd.underlying25
 have HR0_0 := Aside0.mk hr0_0
 have HC0_0 := Aside0.mk hc0_0
 clear hr0_0 hc0_0
 have HR0_1 := Aside0.mk hr0_1
 have HC0_1 := Aside0.mk hc0_1
 clear hr0_1 hc0_1
 have HR1 := Aside0.mk hr1
 have HC1 := Aside0.mk hc1
 clear hr1 hc1
 have HR2 := Aside0.mk hr2
 have HC2 := Aside0.mk hc2
 clear hr2 hc2
 have HR3 := Aside0.mk hr3
 have HC3 := Aside0.mk hc3
 clear hr3 hc3
 have HB := Aside0.mk (Below.refl w.heap.size w)
 have H : (cottonpadref06_late.l0 k l1 l2 l3 a4 (-1) (-1) 0 l0_0 l0_1) = some (r1, r2) := h
 clear h
 have H' := Aside0.mk H
 clear H
 go_enter Tryd.func66, Tryd.ntmps66
 go_wp2_with (first | ((with_reducible refine gate_dst (N := 5) rfl ?_); refine box_event ?hg (N := 5) ?hd (cs := #[.slice A0_0 l0_0.length c0_0, .slice A0_1 l0_1.length c0_1]) (t := 25) ?hr ?_; (case hd => rfl); (case hg => rfl); (case hr => exact gs_); intro gb301 hg w6 hbox hb; have BK301 := Aside0.mk (hbox); have GW301 := hl_ hg (be_ HB); have GE301 := hl_ hg (be_ HB); replace HB := bs_ HB hb; clear hb hbox hg))
 go_loopg [12, 14] k (fun kq v12 v14 w' => ∃ (x12_1 : Int) (x14_1 : Int), v12 = .int .i64 x12_1 ∧ v14 = .int .i64 x14_1 ∧ Aside0 (cottonpadref06_late.l0 kq l1 l2 l3 a4 x12_1 (-1) x14_1 l0_0 l0_1 = some (r1, r2)) ∧ Aside0 (kq ≤ k) ∧ Aside0 (w'.heap[gb301]? = some (.cells #[(.slice A0_0 l0_0.length c0_0), (.slice A0_1 l0_1.length c0_1)] 25 (0, 0))) ∧ Aside0 (Below w.heap.size w w'))
 case atStart => exact ⟨((-1)), (0), (by first | rfl | (simp; done) | (simp [*]; done)), (by first | rfl | (simp; done) | (simp [*]; done)), H', ⟨Nat.le_refl _⟩, ⟨by refine bx_ ?_; exact BK301.out⟩, ⟨be1_ HB GE301⟩⟩
 case round =>
  clear H'
  try clear c1
  try clear c2
  try clear p2
  try clear c3
  try clear c6
  obtain ⟨x12_1, x14_1, rfl, rfl, HA, HK1, BK301, HB⟩ := hrel
  cases gk with
  | zero => exact absurd HA.out (by simp [cottonpadref06_late.l0])
  | succ k1 =>
   have H := HA.out
   clear HA
   simp only [cottonpadref06_late.l0] at H
   by_cases c7 : x14_1 < (l0_1.length : Int)
   ·rw [if_pos c7] at H
    have c7b0 : decide (x14_1 < (l0_1.length : Int)) = true := decide_eq_true c7
    clear c7
    by_cases c8 : 0 ≤ x14_1
    ·rw [if_pos c8] at H
     have c8b0 : decide (0 ≤ x14_1) = true := decide_eq_true c8
     clear c8
     have HC9 := Aside0.mk H
     clear H
     have hcz10_0 : wr.cell? ⟨gb301, 0, none⟩ = some (.slice A0_0 l0_0.length c0_0) := bc_ BK301 0
     have hcz10_1 : wr.cell? ⟨gb301, 1, none⟩ = some (.slice A0_1 l0_1.length c0_1) := bc_ BK301 1
     have hfz10_0 := blk_frozen BK301.out 0
     have hfz10_1 := blk_frozen BK301.out 1
     have p302 : 0 ≤ (x14_1 : Int) := of_decide_eq_true as_
     have q302 : x14_1 < (l0_1.length : Int) := of_decide_eq_true as_
     obtain ⟨ad302, e302, hx302_0, hx302_1, hx302_2, hx302_3⟩ := at_T81 HR0_1.out x14_1 p302 q302
     cases e302
     try replace hx302_0 := ce_ HB hx302_0
     try replace hx302_1 := ce_ HB hx302_1
     try replace hx302_2 := ce_ HB hx302_2
     try replace hx302_3 := ce_ HB hx302_3
     replace p302 := eq_true p302
     replace q302 := eq_true q302
     go_upto_if 34 with (fail)
     go_cut [15] (fun v15 wc => ∃ (kq : Nat) (x15_8 : Int), v15 = .int .i64 x15_8 ∧ Aside0 (cottonpadref06_late.j1 kq l1 l2 l3 a4 x12_1 (-1) x14_1 x15_8 l0_0 l0_1 = some (r1, r2)) ∧ Aside0 (kq ≤ k1) ∧ Aside0 (wc.heap[gb301]? = some (.cells #[(.slice A0_0 l0_0.length c0_0), (.slice (some ad302) l0_1.length c0_1)] 25 (0, 0))) ∧ Aside0 (Below w.heap.size w wc))
     case first =>
      have H := HC9.out
      clear HC9
      by_cases c11 : a4 = true
      ·subst c11
       have H1 : (cottonpadref06_late.j1 k1 l1 l2 l3 true x12_1 (-1) x14_1 ((rd_T81 l0_1 x14_1).f2.f0) l0_0 l0_1) = some (r1, r2) := by rw [if_pos rfl] at H; exact H
       clear H
       have H := H1
       clear H1
       have H' := Aside0.mk H
       clear H
       have hcz12_0 : wr.cell? ⟨gb301, 0, none⟩ = some (.slice A0_0 l0_0.length c0_0) := bc_ BK301 0
       have hcz12_1 : wr.cell? ⟨gb301, 1, none⟩ = some (.slice (some ad302) l0_1.length c0_1) := bc_ BK301 1
       have hfz12_0 := blk_frozen BK301.out 0
       have hfz12_1 := blk_frozen BK301.out 1
       have p303 : 0 ≤ (x14_1 : Int) := of_decide_eq_true as_
       have q303 : x14_1 < (l0_1.length : Int) := of_decide_eq_true as_
       obtain ⟨ad303, e303, hx303_0, hx303_1, hx303_2, hx303_3⟩ := at_T81 HR0_1.out x14_1 p303 q303
       obtain rfl : ad302 = ad303 := (by injection e303)
       try replace hx303_0 := ce_ HB hx303_0
       try replace hx303_1 := ce_ HB hx303_1
       try replace hx303_2 := ce_ HB hx303_2
       try replace hx303_3 := ce_ HB hx303_3
       replace p303 := eq_true p303
       replace q303 := eq_true q303
       go_wp2
       go_meet
       case rel => exact ⟨_, ((rd_T81 l0_1 x14_1).f2.f0), (by first | rfl | (simp; done) | (simp [*]; done)), H', ⟨by have := HK1.out; first | omega | exact Nat.le_refl _⟩, ⟨by refine bx_ ?_; exact BK301.out⟩, ⟨be1_ HB GE301⟩⟩
      ·replace c11 := Bool.eq_false_iff.mpr c11
       subst c11
       have H1 : (cottonpadref06_late.j1 k1 l1 l2 l3 false x12_1 (-1) x14_1 ((rd_T81 l0_1 x14_1).f2.f1) l0_0 l0_1) = some (r1, r2) := by rw [if_neg (show ¬ (false = true) by decide)] at H; exact H
       clear H
       have H := H1
       clear H1
       have H' := Aside0.mk H
       clear H
       go_wp2
       go_meet
       case rel => exact ⟨_, ((rd_T81 l0_1 x14_1).f2.f1), (by first | rfl | (simp; done) | (simp [*]; done)), H', ⟨by have := HK1.out; first | omega | exact Nat.le_refl _⟩, ⟨by refine bx_ ?_; exact BK301.out⟩, ⟨be1_ HB GE301⟩⟩
     case rest =>
      clear HC9
      try clear c1
      try clear c2
      try clear p2
      try clear c3
      try clear p3
      try clear q3
      try clear hx3
      try clear c6
      try clear c7
      try clear c7b0
      try clear c8
      try clear c8b0
      try clear c11
      try clear hcz10_0
      try clear hcz10_1
      try clear hcz12_0
      try clear hcz12_1
      try clear hfz10_0
      try clear hfz10_1
      try clear hfz12_0
      try clear hfz12_1
      try clear hx302_0
      try clear hx302_1
      try clear hx302_2
      try clear hx302_3
      try clear hx303_0
      try clear hx303_1
      try clear hx303_2
      try clear hx303_3
      try clear p2
      try clear p302
      try clear p303
      try clear q302
      try clear q303
      obtain ⟨kq, x15_8, rfl, HA, HJ8, BK301, HB⟩ := hcut
      cases kq with
      | zero => exact absurd HA.out (by simp [cottonpadref06_late.j1])
      | succ kj8 =>
       have H := HA.out
       clear HA
       simp only [cottonpadref06_late.j1] at H
       have H' := Aside0.mk H
       clear H
       go_wp2
       go_loopg [12, 16] kj8 (fun kq v12 v16 w' => ∃ (x12_3 : Int) (x16_3 : Int), v12 = .int .i64 x12_3 ∧ v16 = .int .i64 x16_3 ∧ Aside0 (cottonpadref06_late.l1 kq l1 l2 l3 a4 x12_3 (-1) x14_1 x15_8 x16_3 l0_0 l0_1 = some (r1, r2)) ∧ Aside0 (kq ≤ kj8) ∧ Aside0 (w'.heap[gb301]? = some (.cells #[(.slice A0_0 l0_0.length c0_0), (.slice (some ad302) l0_1.length c0_1)] 25 (0, 0))) ∧ Aside0 (Below w.heap.size w w'))
       case atStart => exact ⟨(x12_1), (0), (by first | rfl | (simp; done) | (simp [*]; done)), (by first | rfl | (simp; done) | (simp [*]; done)), H', ⟨Nat.le_refl _⟩, ⟨by refine bx_ ?_; exact BK301.out⟩, ⟨be1_ HB GE301⟩⟩
       case round =>
        clear H'
        try clear c1
        try clear c2
        try clear p2
        try clear c3
        try clear p3
        try clear q3
        try clear hx3
        try clear c6
        try clear c7
        try clear c7b0
        try clear c8
        try clear c8b0
        try clear c11
        try clear hcz10_0
        try clear hcz10_1
        try clear hcz12_0
        try clear hcz12_1
        try clear hfz10_0
        try clear hfz10_1
        try clear hfz12_0
        try clear hfz12_1
        try clear hx302_0
        try clear hx302_1
        try clear hx302_2
        try clear hx302_3
        try clear hx303_0
        try clear hx303_1
        try clear hx303_2
        try clear hx303_3
        try clear p2
        try clear p3
        try clear p302
        try clear p303
        try clear q3
        try clear q302
        try clear q303
        obtain ⟨x12_3, x16_3, rfl, rfl, HA, HK3, BK301, HB⟩ := hrel
        cases gk with
        | zero => exact absurd HA.out (by simp [cottonpadref06_late.l1])
        | succ k3 =>
         have H := HA.out
         clear HA
         simp only [cottonpadref06_late.l1] at H
         by_cases c13 : x16_3 < (l1.length : Int)
         ·rw [if_pos c13] at H
          have c13b0 : decide (x16_3 < (l1.length : Int)) = true := decide_eq_true c13
          clear c13
          by_cases c14 : 0 ≤ x16_3
          ·rw [if_pos c14] at H
           have c14b0 : decide (0 ≤ x16_3) = true := decide_eq_true c14
           clear c14
           by_cases c15 : ((rd_T48 l1 x16_3).f0) = x14_1
           ·rw [if_pos c15] at H
            have c15b0 : (((rd_T48 l1 x16_3).f0) == x14_1) = true := beq_iff_eq.mpr c15
            have c15b1 : (((rd_T48 l1 x16_3).f0) != x14_1) = false := bne_eq_false_iff_eq.mpr c15
            clear c15
            by_cases c16 : x16_3 < (l2.length : Int)
            ·rw [if_pos c16] at H
             have c16b0 : decide (x16_3 < (l2.length : Int)) = true := decide_eq_true c16
             clear c16
             by_cases c17 : (rd l2 x16_3) > x15_8
             ·rw [if_pos c17] at H
              have c17b0 : decide (x15_8 < (rd l2 x16_3)) = true := decide_eq_true c17
              clear c17
              by_cases c18 : x12_3 < 0
              ·rw [if_pos c18] at H
               have c18b0 : decide (x12_3 < 0) = true := decide_eq_true c18
               clear c18
               have H' := Aside0.mk H
               clear H
               have p304 : 0 ≤ (x16_3 : Int) := of_decide_eq_true as_
               have q304 : x16_3 < (l1.length : Int) := of_decide_eq_true as_
               obtain ⟨ad304, e304, hx304_0, hx304_1, hx304_2, hx304_3, hx304_4⟩ := at_T48 HR1.out x16_3 p304 q304
               cases e304
               try replace hx304_0 := ce_ HB hx304_0
               try replace hx304_1 := ce_ HB hx304_1
               try replace hx304_2 := ce_ HB hx304_2
               try replace hx304_3 := ce_ HB hx304_3
               try replace hx304_4 := ce_ HB hx304_4
               replace p304 := eq_true p304
               replace q304 := eq_true q304
               have p305 : 0 ≤ (x16_3 : Int) := of_decide_eq_true as_
               have q305 : x16_3 < (l2.length : Int) := of_decide_eq_true as_
               obtain ⟨ad305, e305, hx305_0⟩ := Kd.at_int HR2.out x16_3 p305 q305
               cases e305
               try replace hx305_0 := ce_ HB hx305_0
               replace p305 := eq_true p305
               replace q305 := eq_true q305
               go_wp2
               go_roundg k3
               case measure => have := HK1.out; have := HJ8.out; have := HK3.out; omega
               case rel => exact ⟨(x14_1), (wrap64 (x16_3 + 1)), (by first | rfl | (simp; done) | (simp [*]; done)), (by first | rfl | (simp; done) | (simp [*]; done)), H', ⟨by have := HK1.out; have := HJ8.out; have := HK3.out; omega⟩, ⟨by refine bx_ ?_; exact BK301.out⟩, ⟨be1_ HB GE301⟩⟩
              ·rw [if_neg c18] at H
               have c18b0 : decide (x12_3 < 0) = false := decide_eq_false c18
               clear c18
               have H' := Aside0.mk H
               clear H
               have p304 : 0 ≤ (x16_3 : Int) := of_decide_eq_true as_
               have q304 : x16_3 < (l1.length : Int) := of_decide_eq_true as_
               obtain ⟨ad304, e304, hx304_0, hx304_1, hx304_2, hx304_3, hx304_4⟩ := at_T48 HR1.out x16_3 p304 q304
               cases e304
               try replace hx304_0 := ce_ HB hx304_0
               try replace hx304_1 := ce_ HB hx304_1
               try replace hx304_2 := ce_ HB hx304_2
               try replace hx304_3 := ce_ HB hx304_3
               try replace hx304_4 := ce_ HB hx304_4
               replace p304 := eq_true p304
               replace q304 := eq_true q304
               have p305 : 0 ≤ (x16_3 : Int) := of_decide_eq_true as_
               have q305 : x16_3 < (l2.length : Int) := of_decide_eq_true as_
               obtain ⟨ad305, e305, hx305_0⟩ := Kd.at_int HR2.out x16_3 p305 q305
               cases e305
               try replace hx305_0 := ce_ HB hx305_0
               replace p305 := eq_true p305
               replace q305 := eq_true q305
               go_wp2
               go_roundg k3
               case measure => have := HK1.out; have := HJ8.out; have := HK3.out; omega
               case rel => exact ⟨(x12_3), (wrap64 (x16_3 + 1)), (by first | rfl | (simp; done) | (simp [*]; done)), (by first | rfl | (simp; done) | (simp [*]; done)), H', ⟨by have := HK1.out; have := HJ8.out; have := HK3.out; omega⟩, ⟨by refine bx_ ?_; exact BK301.out⟩, ⟨be1_ HB GE301⟩⟩
             ·rw [if_neg c17] at H
              have c17b0 : decide (x15_8 < (rd l2 x16_3)) = false := decide_eq_false c17
              clear c17
              have H' := Aside0.mk H
              clear H
              have p304 : 0 ≤ (x16_3 : Int) := of_decide_eq_true as_
              have q304 : x16_3 < (l1.length : Int) := of_decide_eq_true as_
              obtain ⟨ad304, e304, hx304_0, hx304_1, hx304_2, hx304_3, hx304_4⟩ := at_T48 HR1.out x16_3 p304 q304
              cases e304
              try replace hx304_0 := ce_ HB hx304_0
              try replace hx304_1 := ce_ HB hx304_1
              try replace hx304_2 := ce_ HB hx304_2
              try replace hx304_3 := ce_ HB hx304_3
              try replace hx304_4 := ce_ HB hx304_4
              replace p304 := eq_true p304
              replace q304 := eq_true q304
              have p305 : 0 ≤ (x16_3 : Int) := of_decide_eq_true as_
              have q305 : x16_3 < (l2.length : Int) := of_decide_eq_true as_
              obtain ⟨ad305, e305, hx305_0⟩ := Kd.at_int HR2.out x16_3 p305 q305
              cases e305
              try replace hx305_0 := ce_ HB hx305_0
              replace p305 := eq_true p305
              replace q305 := eq_true q305
              go_wp2
              go_roundg k3
              case measure => have := HK1.out; have := HJ8.out; have := HK3.out; omega
              case rel => exact ⟨(x12_3), (wrap64 (x16_3 + 1)), (by first | rfl | (simp; done) | (simp [*]; done)), (by first | rfl | (simp; done) | (simp [*]; done)), H', ⟨by have := HK1.out; have := HJ8.out; have := HK3.out; omega⟩, ⟨by refine bx_ ?_; exact BK301.out⟩, ⟨be1_ HB GE301⟩⟩
            ·rw [if_neg c16] at H
             exact absurd H (by simp)
           ·rw [if_neg c15] at H
            have c15b0 : (((rd_T48 l1 x16_3).f0) == x14_1) = false := beq_eq_false_iff_ne.mpr c15
            have c15b1 : (((rd_T48 l1 x16_3).f0) != x14_1) = true := bne_iff_ne.mpr c15
            have H' := Aside0.mk H
            clear H
            have p304 : 0 ≤ (x16_3 : Int) := of_decide_eq_true as_
            have q304 : x16_3 < (l1.length : Int) := of_decide_eq_true as_
            obtain ⟨ad304, e304, hx304_0, hx304_1, hx304_2, hx304_3, hx304_4⟩ := at_T48 HR1.out x16_3 p304 q304
            cases e304
            try replace hx304_0 := ce_ HB hx304_0
            try replace hx304_1 := ce_ HB hx304_1
            try replace hx304_2 := ce_ HB hx304_2
            try replace hx304_3 := ce_ HB hx304_3
            try replace hx304_4 := ce_ HB hx304_4
            replace p304 := eq_true p304
            replace q304 := eq_true q304
            go_wp2
            go_roundg k3
            case measure => have := HK1.out; have := HJ8.out; have := HK3.out; omega
            case rel => exact ⟨(x12_3), (wrap64 (x16_3 + 1)), (by first | rfl | (simp; done) | (simp [*]; done)), (by first | rfl | (simp; done) | (simp [*]; done)), H', ⟨by have := HK1.out; have := HJ8.out; have := HK3.out; omega⟩, ⟨by refine bx_ ?_; exact BK301.out⟩, ⟨be1_ HB GE301⟩⟩
          ·rw [if_neg c14] at H
           exact absurd H (by simp)
         ·rw [if_neg c13] at H
          have c13b0 : decide (x16_3 < (l1.length : Int)) = false := decide_eq_false c13
          clear c13
          have H' := Aside0.mk H
          clear H
          go_wp2
          go_roundg k3
          case measure => have := HK1.out; have := HJ8.out; have := HK3.out; omega
          case rel => exact ⟨(x12_3), (wrap64 (x14_1 + 1)), (by first | rfl | (simp; done) | (simp [*]; done)), (by first | rfl | (simp; done) | (simp [*]; done)), H', ⟨by have := HK1.out; have := HJ8.out; have := HK3.out; omega⟩, ⟨by refine bx_ ?_; exact BK301.out⟩, ⟨be1_ HB GE301⟩⟩
    ·rw [if_neg c8] at H
     exact absurd H (by simp)
   ·rw [if_neg c7] at H
    have c7b0 : decide (x14_1 < (l0_1.length : Int)) = false := decide_eq_false c7
    clear c7
    have H' := Aside0.mk H
    clear H
    have hcz19_0 : wr.cell? ⟨gb301, 0, none⟩ = some (.slice A0_0 l0_0.length c0_0) := bc_ BK301 0
    have hcz19_1 : wr.cell? ⟨gb301, 1, none⟩ = some (.slice A0_1 l0_1.length c0_1) := bc_ BK301 1
    have hfz19_0 := blk_frozen BK301.out 0
    have hfz19_1 := blk_frozen BK301.out 1
    go_wp2
    go_loopg [13, 17] k1 (fun kq v13 v17 w' => ∃ (x13_2 : Int) (x17_2 : Int), v13 = .int .i64 x13_2 ∧ v17 = .int .i64 x17_2 ∧ Aside0 (cottonpadref06_late.l2 kq l3 a4 x12_1 x13_2 x17_2 l0_0 l0_1 = some (r1, r2)) ∧ Aside0 (kq ≤ k1) ∧ Aside0 (w'.heap[gb301]? = some (.cells #[(.slice A0_0 l0_0.length c0_0), (.slice A0_1 l0_1.length c0_1)] 25 (0, 0))) ∧ Aside0 (Below w.heap.size w w'))
    case atStart => exact ⟨((-1)), (0), (by first | rfl | (simp; done) | (simp [*]; done)), (by first | rfl | (simp; done) | (simp [*]; done)), H', ⟨Nat.le_refl _⟩, ⟨by refine bx_ ?_; exact BK301.out⟩, ⟨be1_ HB GE301⟩⟩
    case round =>
     clear H'
     try clear c1
     try clear c2
     try clear p2
     try clear c3
     try clear p3
     try clear q3
     try clear hx3
     try clear c6
     try clear p6
     try clear c7
     try clear c7b0
     try clear c8
     try clear c8b0
     try clear c11
     try clear c13
     try clear c13b0
     try clear c14
     try clear c14b0
     try clear c15
     try clear c15b0
     try clear c15b1
     try clear c16
     try clear c16b0
     try clear c17
     try clear c17b0
     try clear c18
     try clear c18b0
     try clear hcz10_0
     try clear hcz10_1
     try clear hcz12_0
     try clear hcz12_1
     try clear hcz19_0
     try clear hcz19_1
     try clear hfz10_0
     try clear hfz10_1
     try clear hfz12_0
     try clear hfz12_1
     try clear hfz19_0
     try clear hfz19_1
     try clear hx302_0
     try clear hx302_1
     try clear hx302_2
     try clear hx302_3
     try clear hx303_0
     try clear hx303_1
     try clear hx303_2
     try clear hx303_3
     try clear hx304_0
     try clear hx304_1
     try clear hx304_2
     try clear hx304_3
     try clear hx304_4
     try clear hx305_0
     try clear p2
     try clear p3
     try clear p302
     try clear p303
     try clear p304
     try clear p305
     try clear q3
     try clear q302
     try clear q303
     try clear q304
     try clear q305
     obtain ⟨x13_2, x17_2, rfl, rfl, HA, HK2, BK301, HB⟩ := hrel
     cases gk with
     | zero => exact absurd HA.out (by simp [cottonpadref06_late.l2])
     | succ k2 =>
      have H := HA.out
      clear HA
      simp only [cottonpadref06_late.l2] at H
      by_cases c20 : x17_2 < (l0_0.length : Int)
      ·rw [if_pos c20] at H
       have c20b0 : decide (x17_2 < (l0_0.length : Int)) = true := decide_eq_true c20
       clear c20
       by_cases c21 : 0 ≤ x17_2
       ·rw [if_pos c21] at H
        have c21b0 : decide (0 ≤ x17_2) = true := decide_eq_true c21
        clear c21
        have HC22 := Aside0.mk H
        clear H
        have hcz23_0 : wr.cell? ⟨gb301, 0, none⟩ = some (.slice A0_0 l0_0.length c0_0) := bc_ BK301 0
        have hcz23_1 : wr.cell? ⟨gb301, 1, none⟩ = some (.slice A0_1 l0_1.length c0_1) := bc_ BK301 1
        have hfz23_0 := blk_frozen BK301.out 0
        have hfz23_1 := blk_frozen BK301.out 1
        have p306 : 0 ≤ (x17_2 : Int) := of_decide_eq_true as_
        have q306 : x17_2 < (l0_0.length : Int) := of_decide_eq_true as_
        obtain ⟨ad306, e306, hx306_0, hx306_1, hx306_2, hx306_3, hx306_4, hx306_5⟩ := at_T62 HR0_0.out x17_2 p306 q306
        cases e306
        try replace hx306_0 := ce_ HB hx306_0
        try replace hx306_1 := ce_ HB hx306_1
        try replace hx306_2 := ce_ HB hx306_2
        try replace hx306_3 := ce_ HB hx306_3
        try replace hx306_4 := ce_ HB hx306_4
        try replace hx306_5 := ce_ HB hx306_5
        replace p306 := eq_true p306
        replace q306 := eq_true q306
        go_upto_if 82 with (fail)
        go_cut [18] (fun v18 wc => ∃ (kq : Nat) (x18_21 : Int), v18 = .int .i64 x18_21 ∧ Aside0 (cottonpadref06_late.j4 kq l3 a4 x12_1 x13_2 x17_2 x18_21 l0_0 l0_1 = some (r1, r2)) ∧ Aside0 (kq ≤ k2) ∧ Aside0 (wc.heap[gb301]? = some (.cells #[(.slice (some ad306) l0_0.length c0_0), (.slice A0_1 l0_1.length c0_1)] 25 (0, 0))) ∧ Aside0 (Below w.heap.size w wc))
        case first =>
         have H := HC22.out
         clear HC22
         by_cases c24 : a4 = true
         ·subst c24
          have H1 : (cottonpadref06_late.j4 k2 l3 true x12_1 x13_2 x17_2 ((rd_T62 l0_0 x17_2).f3.f0) l0_0 l0_1) = some (r1, r2) := by rw [if_pos rfl] at H; exact H
          clear H
          have H := H1
          clear H1
          have H' := Aside0.mk H
          clear H
          have hcz25_0 : wr.cell? ⟨gb301, 0, none⟩ = some (.slice (some ad306) l0_0.length c0_0) := bc_ BK301 0
          have hcz25_1 : wr.cell? ⟨gb301, 1, none⟩ = some (.slice A0_1 l0_1.length c0_1) := bc_ BK301 1
          have hfz25_0 := blk_frozen BK301.out 0
          have hfz25_1 := blk_frozen BK301.out 1
          have p307 : 0 ≤ (x17_2 : Int) := of_decide_eq_true as_
          have q307 : x17_2 < (l0_0.length : Int) := of_decide_eq_true as_
          obtain ⟨ad307, e307, hx307_0, hx307_1, hx307_2, hx307_3, hx307_4, hx307_5⟩ := at_T62 HR0_0.out x17_2 p307 q307
          obtain rfl : ad306 = ad307 := (by injection e307)
          try replace hx307_0 := ce_ HB hx307_0
          try replace hx307_1 := ce_ HB hx307_1
          try replace hx307_2 := ce_ HB hx307_2
          try replace hx307_3 := ce_ HB hx307_3
          try replace hx307_4 := ce_ HB hx307_4
          try replace hx307_5 := ce_ HB hx307_5
          replace p307 := eq_true p307
          replace q307 := eq_true q307
          go_wp2
          go_meet
          case rel => exact ⟨_, ((rd_T62 l0_0 x17_2).f3.f0), (by first | rfl | (simp; done) | (simp [*]; done)), H', ⟨by have := HK1.out; have := HK2.out; first | omega | exact Nat.le_refl _⟩, ⟨by refine bx_ ?_; exact BK301.out⟩, ⟨be1_ HB GE301⟩⟩
         ·replace c24 := Bool.eq_false_iff.mpr c24
          subst c24
          have H1 : (cottonpadref06_late.j4 k2 l3 false x12_1 x13_2 x17_2 ((rd_T62 l0_0 x17_2).f3.f1) l0_0 l0_1) = some (r1, r2) := by rw [if_neg (show ¬ (false = true) by decide)] at H; exact H
          clear H
          have H := H1
          clear H1
          have H' := Aside0.mk H
          clear H
          go_wp2
          go_meet
          case rel => exact ⟨_, ((rd_T62 l0_0 x17_2).f3.f1), (by first | rfl | (simp; done) | (simp [*]; done)), H', ⟨by have := HK1.out; have := HK2.out; first | omega | exact Nat.le_refl _⟩, ⟨by refine bx_ ?_; exact BK301.out⟩, ⟨be1_ HB GE301⟩⟩
        case rest =>
         clear HC22
         try clear c1
         try clear c2
         try clear p2
         try clear c3
         try clear p3
         try clear q3
         try clear hx3
         try clear c6
         try clear p6
         try clear c7
         try clear c7b0
         try clear c8
         try clear c8b0
         try clear c11
         try clear c13
         try clear c13b0
         try clear c14
         try clear c14b0
         try clear c15
         try clear c15b0
         try clear c15b1
         try clear c16
         try clear c16b0
         try clear c17
         try clear c17b0
         try clear c18
         try clear c18b0
         try clear c20
         try clear c20b0
         try clear c21
         try clear c21b0
         try clear c24
         try clear hcz10_0
         try clear hcz10_1
         try clear hcz12_0
         try clear hcz12_1
         try clear hcz19_0
         try clear hcz19_1
         try clear hcz23_0
         try clear hcz23_1
         try clear hcz25_0
         try clear hcz25_1
         try clear hfz10_0
         try clear hfz10_1
         try clear hfz12_0
         try clear hfz12_1
         try clear hfz19_0
         try clear hfz19_1
         try clear hfz23_0
         try clear hfz23_1
         try clear hfz25_0
         try clear hfz25_1
         try clear hx302_0
         try clear hx302_1
         try clear hx302_2
         try clear hx302_3
         try clear hx303_0
         try clear hx303_1
         try clear hx303_2
         try clear hx303_3
         try clear hx304_0
         try clear hx304_1
         try clear hx304_2
         try clear hx304_3
         try clear hx304_4
         try clear hx305_0
         try clear hx306_0
         try clear hx306_1
         try clear hx306_2
         try clear hx306_3
         try clear hx306_4
         try clear hx306_5
         try clear hx307_0
         try clear hx307_1
         try clear hx307_2
         try clear hx307_3
         try clear hx307_4
         try clear hx307_5
         try clear p2
         try clear p3
         try clear p302
         try clear p303
         try clear p304
         try clear p305
         try clear p306
         try clear p307
         try clear p6
         try clear q3
         try clear q302
         try clear q303
         try clear q304
         try clear q305
         try clear q306
         try clear q307
         obtain ⟨kq, x18_21, rfl, HA, HJ21, BK301, HB⟩ := hcut
         cases kq with
         | zero => exact absurd HA.out (by simp [cottonpadref06_late.j4])
         | succ kj21 =>
          have H := HA.out
          clear HA
          simp only [cottonpadref06_late.j4] at H
          have H' := Aside0.mk H
          clear H
          go_wp2
          go_loopg [13, 19] kj21 (fun kq v13 v19 w' => ∃ (x13_4 : Int) (x19_4 : Int), v13 = .int .i64 x13_4 ∧ v19 = .int .i64 x19_4 ∧ Aside0 (cottonpadref06_late.l3 kq l3 a4 x12_1 x13_4 x17_2 x18_21 x19_4 l0_0 l0_1 = some (r1, r2)) ∧ Aside0 (kq ≤ kj21) ∧ Aside0 (w'.heap[gb301]? = some (.cells #[(.slice (some ad306) l0_0.length c0_0), (.slice A0_1 l0_1.length c0_1)] 25 (0, 0))) ∧ Aside0 (Below w.heap.size w w'))
          case atStart => exact ⟨(x13_2), (0), (by first | rfl | (simp; done) | (simp [*]; done)), (by first | rfl | (simp; done) | (simp [*]; done)), H', ⟨Nat.le_refl _⟩, ⟨by refine bx_ ?_; exact BK301.out⟩, ⟨be1_ HB GE301⟩⟩
          case round =>
           clear H'
           try clear c1
           try clear c2
           try clear p2
           try clear c3
           try clear p3
           try clear q3
           try clear hx3
           try clear c6
           try clear p6
           try clear c7
           try clear c7b0
           try clear c8
           try clear c8b0
           try clear c11
           try clear c13
           try clear c13b0
           try clear c14
           try clear c14b0
           try clear c15
           try clear c15b0
           try clear c15b1
           try clear c16
           try clear c16b0
           try clear c17
           try clear c17b0
           try clear c18
           try clear c18b0
           try clear c20
           try clear c20b0
           try clear c21
           try clear c21b0
           try clear c24
           try clear hcz10_0
           try clear hcz10_1
           try clear hcz12_0
           try clear hcz12_1
           try clear hcz19_0
           try clear hcz19_1
           try clear hcz23_0
           try clear hcz23_1
           try clear hcz25_0
           try clear hcz25_1
           try clear hfz10_0
           try clear hfz10_1
           try clear hfz12_0
           try clear hfz12_1
           try clear hfz19_0
           try clear hfz19_1
           try clear hfz23_0
           try clear hfz23_1
           try clear hfz25_0
           try clear hfz25_1
           try clear hx302_0
           try clear hx302_1
           try clear hx302_2
           try clear hx302_3
           try clear hx303_0
           try clear hx303_1
           try clear hx303_2
           try clear hx303_3
           try clear hx304_0
           try clear hx304_1
           try clear hx304_2
           try clear hx304_3
           try clear hx304_4
           try clear hx305_0
           try clear hx306_0
           try clear hx306_1
           try clear hx306_2
           try clear hx306_3
           try clear hx306_4
           try clear hx306_5
           try clear hx307_0
           try clear hx307_1
           try clear hx307_2
           try clear hx307_3
           try clear hx307_4
           try clear hx307_5
           try clear p2
           try clear p3
           try clear p302
           try clear p303
           try clear p304
           try clear p305
           try clear p306
           try clear p307
           try clear p6
           try clear q3
           try clear q302
           try clear q303
           try clear q304
           try clear q305
           try clear q306
           try clear q307
           obtain ⟨x13_4, x19_4, rfl, rfl, HA, HK4, BK301, HB⟩ := hrel
           cases gk with
           | zero => exact absurd HA.out (by simp [cottonpadref06_late.l3])
           | succ k4 =>
            have H := HA.out
            clear HA
            simp only [cottonpadref06_late.l3] at H
            by_cases c26 : 0 ≤ x17_2
            ·rw [if_pos c26] at H
             have c26b0 : decide (0 ≤ x17_2) = true := decide_eq_true c26
             clear c26
             by_cases c27 : x17_2 < (l3.length : Int)
             ·rw [if_pos c27] at H
              have c27b0 : decide (x17_2 < (l3.length : Int)) = true := decide_eq_true c27
              clear c27
              by_cases c28 : x19_4 < ((rd_L11 l3 x17_2).length : Int)
              ·rw [if_pos c28] at H
               have c28b0 : decide (x19_4 < ((rd_L11 l3 x17_2).length : Int)) = true := decide_eq_true c28
               clear c28
               by_cases c29 : 0 ≤ x19_4
               ·rw [if_pos c29] at H
                have c29b0 : decide (0 ≤ x19_4) = true := decide_eq_true c29
                clear c29
                by_cases c30 : (rd (rd_L11 l3 x17_2) x19_4) > x18_21
                ·rw [if_pos c30] at H
                 have c30b0 : decide (x18_21 < (rd (rd_L11 l3 x17_2) x19_4)) = true := decide_eq_true c30
                 clear c30
                 by_cases c31 : x13_4 < 0
                 ·rw [if_pos c31] at H
                  have c31b0 : decide (x13_4 < 0) = true := decide_eq_true c31
                  clear c31
                  have H' := Aside0.mk H
                  clear H
                  have p308 : 0 ≤ (x17_2 : Int) := of_decide_eq_true as_
                  have q308 : x17_2 < (l3.length : Int) := of_decide_eq_true as_
                  obtain ⟨ad308, A308_0, c308_0, e308, hx308_0, hl308_0, hi308_0⟩ := at_L11 HR3.out x17_2 p308 q308
                  cases e308
                  try replace hx308_0 := ce_ HB hx308_0
                  have HR308_0 := Aside0.mk hi308_0
                  have HC308_0 := Aside0.mk hl308_0
                  clear hi308_0 hl308_0
                  replace p308 := eq_true p308
                  replace q308 := eq_true q308
                  have p309 : 0 ≤ (x17_2 : Int) := of_decide_eq_true as_
                  have q309 : x17_2 < (l3.length : Int) := of_decide_eq_true as_
                  obtain ⟨ad309, A309_0, c309_0, e309, hx309_0, hl309_0, hi309_0⟩ := at_L11 HR3.out x17_2 p309 q309
                  obtain rfl : ad308 = ad309 := (by injection e309)
                  try replace hx309_0 := ce_ HB hx309_0
                  have HR309_0 := Aside0.mk hi309_0
                  have HC309_0 := Aside0.mk hl309_0
                  clear hi309_0 hl309_0
                  replace p309 := eq_true p309
                  replace q309 := eq_true q309
                  have ea_ := Option.some.inj (hx308_0.symm.trans hx309_0)
                  injection ea_ with ea_ en_ ec_
                  subst ea_
                  subst ec_
                  clear en_
                  have p310 : 0 ≤ (x19_4 : Int) := of_decide_eq_true as_
                  have q310 : x19_4 < ((rd_L11 l3 x17_2).length : Int) := of_decide_eq_true as_
                  obtain ⟨ad310, e310, hx310_0⟩ := Kd.at_int HR309_0.out x19_4 p310 q310
                  cases e310
                  try replace hx310_0 := ce_ HB hx310_0
                  replace p310 := eq_true p310
                  replace q310 := eq_true q310
                  go_wp2
                  go_roundg k4
                  case measure => have := HK1.out; have := HK2.out; have := HJ21.out; have := HK4.out; omega
                  case rel => exact ⟨(x17_2), (wrap64 (x19_4 + 1)), (by first | rfl | (simp; done) | (simp [*]; done)), (by first | rfl | (simp; done) | (simp [*]; done)), H', ⟨by have := HK1.out; have := HK2.out; have := HJ21.out; have := HK4.out; omega⟩, ⟨by refine bx_ ?_; exact BK301.out⟩, ⟨be1_ HB GE301⟩⟩
                 ·rw [if_neg c31] at H
                  have c31b0 : decide (x13_4 < 0) = false := decide_eq_false c31
                  clear c31
                  have H' := Aside0.mk H
                  clear H
                  have p308 : 0 ≤ (x17_2 : Int) := of_decide_eq_true as_
                  have q308 : x17_2 < (l3.length : Int) := of_decide_eq_true as_
                  obtain ⟨ad308, A308_0, c308_0, e308, hx308_0, hl308_0, hi308_0⟩ := at_L11 HR3.out x17_2 p308 q308
                  cases e308
                  try replace hx308_0 := ce_ HB hx308_0
                  have HR308_0 := Aside0.mk hi308_0
                  have HC308_0 := Aside0.mk hl308_0
                  clear hi308_0 hl308_0
                  replace p308 := eq_true p308
                  replace q308 := eq_true q308
                  have p309 : 0 ≤ (x17_2 : Int) := of_decide_eq_true as_
                  have q309 : x17_2 < (l3.length : Int) := of_decide_eq_true as_
                  obtain ⟨ad309, A309_0, c309_0, e309, hx309_0, hl309_0, hi309_0⟩ := at_L11 HR3.out x17_2 p309 q309
                  obtain rfl : ad308 = ad309 := (by injection e309)
                  try replace hx309_0 := ce_ HB hx309_0
                  have HR309_0 := Aside0.mk hi309_0
                  have HC309_0 := Aside0.mk hl309_0
                  clear hi309_0 hl309_0
                  replace p309 := eq_true p309
                  replace q309 := eq_true q309
                  have ea_ := Option.some.inj (hx308_0.symm.trans hx309_0)
                  injection ea_ with ea_ en_ ec_
                  subst ea_
                  subst ec_
                  clear en_
                  have p310 : 0 ≤ (x19_4 : Int) := of_decide_eq_true as_
                  have q310 : x19_4 < ((rd_L11 l3 x17_2).length : Int) := of_decide_eq_true as_
                  obtain ⟨ad310, e310, hx310_0⟩ := Kd.at_int HR309_0.out x19_4 p310 q310
                  cases e310
                  try replace hx310_0 := ce_ HB hx310_0
                  replace p310 := eq_true p310
                  replace q310 := eq_true q310
                  go_wp2
                  go_roundg k4
                  case measure => have := HK1.out; have := HK2.out; have := HJ21.out; have := HK4.out; omega
                  case rel => exact ⟨(x13_4), (wrap64 (x19_4 + 1)), (by first | rfl | (simp; done) | (simp [*]; done)), (by first | rfl | (simp; done) | (simp [*]; done)), H', ⟨by have := HK1.out; have := HK2.out; have := HJ21.out; have := HK4.out; omega⟩, ⟨by refine bx_ ?_; exact BK301.out⟩, ⟨be1_ HB GE301⟩⟩
                ·rw [if_neg c30] at H
                 have c30b0 : decide (x18_21 < (rd (rd_L11 l3 x17_2) x19_4)) = false := decide_eq_false c30
                 clear c30
                 have H' := Aside0.mk H
                 clear H
                 have p308 : 0 ≤ (x17_2 : Int) := of_decide_eq_true as_
                 have q308 : x17_2 < (l3.length : Int) := of_decide_eq_true as_
                 obtain ⟨ad308, A308_0, c308_0, e308, hx308_0, hl308_0, hi308_0⟩ := at_L11 HR3.out x17_2 p308 q308
                 cases e308
                 try replace hx308_0 := ce_ HB hx308_0
                 have HR308_0 := Aside0.mk hi308_0
                 have HC308_0 := Aside0.mk hl308_0
                 clear hi308_0 hl308_0
                 replace p308 := eq_true p308
                 replace q308 := eq_true q308
                 have p309 : 0 ≤ (x17_2 : Int) := of_decide_eq_true as_
                 have q309 : x17_2 < (l3.length : Int) := of_decide_eq_true as_
                 obtain ⟨ad309, A309_0, c309_0, e309, hx309_0, hl309_0, hi309_0⟩ := at_L11 HR3.out x17_2 p309 q309
                 obtain rfl : ad308 = ad309 := (by injection e309)
                 try replace hx309_0 := ce_ HB hx309_0
                 have HR309_0 := Aside0.mk hi309_0
                 have HC309_0 := Aside0.mk hl309_0
                 clear hi309_0 hl309_0
                 replace p309 := eq_true p309
                 replace q309 := eq_true q309
                 have ea_ := Option.some.inj (hx308_0.symm.trans hx309_0)
                 injection ea_ with ea_ en_ ec_
                 subst ea_
                 subst ec_
                 clear en_
                 have p310 : 0 ≤ (x19_4 : Int) := of_decide_eq_true as_
                 have q310 : x19_4 < ((rd_L11 l3 x17_2).length : Int) := of_decide_eq_true as_
                 obtain ⟨ad310, e310, hx310_0⟩ := Kd.at_int HR309_0.out x19_4 p310 q310
                 cases e310
                 try replace hx310_0 := ce_ HB hx310_0
                 replace p310 := eq_true p310
                 replace q310 := eq_true q310
                 go_wp2
                 go_roundg k4
                 case measure => have := HK1.out; have := HK2.out; have := HJ21.out; have := HK4.out; omega
                 case rel => exact ⟨(x13_4), (wrap64 (x19_4 + 1)), (by first | rfl | (simp; done) | (simp [*]; done)), (by first | rfl | (simp; done) | (simp [*]; done)), H', ⟨by have := HK1.out; have := HK2.out; have := HJ21.out; have := HK4.out; omega⟩, ⟨by refine bx_ ?_; exact BK301.out⟩, ⟨be1_ HB GE301⟩⟩
               ·rw [if_neg c29] at H
                exact absurd H (by simp)
              ·rw [if_neg c28] at H
               have c28b0 : decide (x19_4 < ((rd_L11 l3 x17_2).length : Int)) = false := decide_eq_false c28
               clear c28
               have H' := Aside0.mk H
               clear H
               have p308 : 0 ≤ (x17_2 : Int) := of_decide_eq_true as_
               have q308 : x17_2 < (l3.length : Int) := of_decide_eq_true as_
               obtain ⟨ad308, A308_0, c308_0, e308, hx308_0, hl308_0, hi308_0⟩ := at_L11 HR3.out x17_2 p308 q308
               cases e308
               try replace hx308_0 := ce_ HB hx308_0
               have HR308_0 := Aside0.mk hi308_0
               have HC308_0 := Aside0.mk hl308_0
               clear hi308_0 hl308_0
               replace p308 := eq_true p308
               replace q308 := eq_true q308
               go_wp2
               go_roundg k4
               case measure => have := HK1.out; have := HK2.out; have := HJ21.out; have := HK4.out; omega
               case rel => exact ⟨(x13_4), (wrap64 (x17_2 + 1)), (by first | rfl | (simp; done) | (simp [*]; done)), (by first | rfl | (simp; done) | (simp [*]; done)), H', ⟨by have := HK1.out; have := HK2.out; have := HJ21.out; have := HK4.out; omega⟩, ⟨by refine bx_ ?_; exact BK301.out⟩, ⟨be1_ HB GE301⟩⟩
             ·rw [if_neg c27] at H
              exact absurd H (by simp)
            ·rw [if_neg c26] at H
             exact absurd H (by simp)
       ·rw [if_neg c21] at H
        exact absurd H (by simp)
      ·rw [if_neg c20] at H
       have c20b0 : decide (x17_2 < (l0_0.length : Int)) = false := decide_eq_false c20
       clear c20
       simp only [Option.some.injEq, Prod.mk.injEq] at H
       obtain ⟨rfl, rfl⟩ := H
       have hcz32_0 : wr.cell? ⟨gb301, 0, none⟩ = some (.slice A0_0 l0_0.length c0_0) := bc_ BK301 0
       have hcz32_1 : wr.cell? ⟨gb301, 1, none⟩ = some (.slice A0_1 l0_1.length c0_1) := bc_ BK301 1
       have hfz32_0 := blk_frozen BK301.out 0
       have hfz32_1 := blk_frozen BK301.out 1
       go_wp2
       go_ret2
       exact ⟨rf_, be1_ HB GE301⟩

end Go.Proofs.YtdeaccbolnlgpaaDoor.X
