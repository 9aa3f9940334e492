import Derived.Test.YtdeaccbolnlgpaaDoorX0
import Derived.Test.YtdeaccbolnlgpaaDoorXC13
namespace Go.Proofs.YtdeaccbolnlgpaaDoor.X
open Go.RowKit Go.Proofs.YtdeaccbolnlgpaaDoorW.PrintWords Go.Proofs.YtdeaccbolnlgpaaDoorW.PrintLast Go.Proofs.YtdeaccbolnlgpaaDoorW.PrintMore
attribute [local go_sem] max2_int min2_int max_two min_two max_three min_three max_four min_four   -- for this text's walks alone
set_option linter.unusedVariables false
set_option linter.unusedSimpArgs false

/-! ### cottonpadref06_Ends: function 56 -/
mutual
def cottonpadref06_Ends.l0 : Nat → List (S48) → Bool → List Int → List Int → Int → List (S62) → List (S81) → Option (List Int × (List (List Int)))
 | 0, _, _, _, _, _, _, _ => none
 | k + 1, x1, x2, x8, x9, x11, x162000, x162001 => if x11 < (x1.length : Int) then (if x2 = true then (if 0 ≤ x11 then ((some (([(rd_T48 x1 x11).f1.f0] : List Int) : List Int)).bind fun y163 => (if x8.length + y163.length < 17592186044416 then ((some (([(rd_T48 x1 x11).f2.f1] : List Int) : List Int)).bind fun y170 => (if x9.length + y170.length < 17592186044416 then (cottonpadref06_Ends.l0 k x1 x2 (x8 ++ y163) (x9 ++ y170) (wrap64 (x11 + 1)) x162000 x162001) else (none))) else (none))) else (none)) else (if 0 ≤ x11 then ((some (([(rd_T48 x1 x11).f1.f1] : List Int) : List Int)).bind fun y177 => (if x8.length + y177.length < 17592186044416 then ((some (([(rd_T48 x1 x11).f2.f0] : List Int) : List Int)).bind fun y184 => (if x9.length + y184.length < 17592186044416 then (cottonpadref06_Ends.l0 k x1 x2 (x8 ++ y177) (x9 ++ y184) (wrap64 (x11 + 1)) x162000 x162001) else (none))) else (none))) else (none))) else (cottonpadref06_Ends.l1 k x1 x2 x8 x9 ([] : List Int) 0 x162000 x162001)
def cottonpadref06_Ends.l1 : Nat → List (S48) → Bool → List Int → List Int → List Int → Int → List (S62) → List (S81) → Option (List Int × (List (List Int)))
 | 0, _, _, _, _, _, _, _, _ => none
 | k + 1, x1, x2, x8, x9, x10, x12, x162000, x162001 => if x12 < (x162000.length : Int) then (if x2 = true then (if 0 ≤ x12 then ((some (([(rd_T62 x162000 x12).f2.f1] : List Int) : List Int)).bind fun y191 => (if x10.length + y191.length < 17592186044416 then (cottonpadref06_Ends.l1 k x1 x2 x8 x9 (x10 ++ y191) (wrap64 (x12 + 1)) x162000 x162001) else (none))) else (none)) else (if 0 ≤ x12 then ((some (([(rd_T62 x162000 x12).f2.f0] : List Int) : List Int)).bind fun y198 => (if x10.length + y198.length < 17592186044416 then (cottonpadref06_Ends.l1 k x1 x2 x8 x9 (x10 ++ y198) (wrap64 (x12 + 1)) x162000 x162001) else (none))) else (none))) else ((cottonpadref06_Go.f x162000 x162001 x1 x8 x9 x10).bind fun bt204 => (some (bt204.1, bt204.2)))
end
def cottonpadref06_Ends.f (k : Nat) (l0_0 : List (S62)) (l0_1 : List (S81)) (l1 : List (S48)) (a2 : Bool) : Option (List Int × (List (List Int))) := cottonpadref06_Ends.l0 k l1 a2 ([] : List Int) ([] : List Int) 0 l0_0 l0_1
theorem cottonpadref06_Ends.mono_l : ∀ k, (∀ y0 y1 y2 y3 y4 y5 y6, LeO (cottonpadref06_Ends.l0 k y0 y1 y2 y3 y4 y5 y6) (cottonpadref06_Ends.l0 (k + 1) y0 y1 y2 y3 y4 y5 y6)) ∧ (∀ y0 y1 y2 y3 y4 y5 y6 y7, LeO (cottonpadref06_Ends.l1 k y0 y1 y2 y3 y4 y5 y6 y7) (cottonpadref06_Ends.l1 (k + 1) y0 y1 y2 y3 y4 y5 y6 y7))
 | 0 => ⟨fun _ _ _ _ _ _ _ r h => by simp [cottonpadref06_Ends.l0] at h, fun _ _ _ _ _ _ _ _ r h => by simp [cottonpadref06_Ends.l1] at h⟩
 | k + 1 => by
  obtain ⟨ih0, ih1⟩ := cottonpadref06_Ends.mono_l k
  refine ⟨?_, ?_⟩
  ·intro y0 y1 y2 y3 y4 y5 y6
   unfold cottonpadref06_Ends.l0
   repeat' first
   | (with_reducible exact ih0 _ _ _ _ _ _ _)
   | (with_reducible exact ih1 _ _ _ _ _ _ _ _)
   | (with_reducible exact LeO.refl _)
   | (with_reducible exact LeO.none _)
   | (with_reducible refine LeO.ite ?_ ?_)
   | (with_reducible refine LeO.bind ?_ (fun _ => ?_))
   | exact ih0 _ _ _ _ _ _ _
   | exact ih1 _ _ _ _ _ _ _ _
   | exact LeO.none _
   | refine LeO.ite ?_ ?_
   | refine LeO.bind ?_ (fun _ => ?_)
  ·intro y0 y1 y2 y3 y4 y5 y6 y7
   unfold cottonpadref06_Ends.l1
   repeat' first
   | (with_reducible exact ih0 _ _ _ _ _ _ _)
   | (with_reducible exact ih1 _ _ _ _ _ _ _ _)
   | (with_reducible exact LeO.refl _)
   | (with_reducible exact LeO.none _)
   | (with_reducible refine LeO.ite ?_ ?_)
   | (with_reducible refine LeO.bind ?_ (fun _ => ?_))
   | exact ih0 _ _ _ _ _ _ _
   | exact ih1 _ _ _ _ _ _ _ _
   | exact LeO.none _
   | refine LeO.ite ?_ ?_
   | refine LeO.bind ?_ (fun _ => ?_)
theorem cottonpadref06_Ends.mono : ∀ a0 a1 a2 a3 k, LeO (cottonpadref06_Ends.f k a0 a1 a2 a3) (cottonpadref06_Ends.f (k + 1) a0 a1 a2 a3) := by
 intro a0 a1 a2 a3 k
 obtain ⟨ih0, ih1⟩ := cottonpadref06_Ends.mono_l k
 unfold cottonpadref06_Ends.f
 repeat' first
   | (with_reducible exact ih0 _ _ _ _ _ _ _)
   | (with_reducible exact ih1 _ _ _ _ _ _ _ _)
   | (with_reducible exact LeO.refl _)
   | (with_reducible exact LeO.none _)
   | (with_reducible refine LeO.ite ?_ ?_)
   | (with_reducible refine LeO.bind ?_ (fun _ => ?_))
   | exact ih0 _ _ _ _ _ _ _
   | exact ih1 _ _ _ _ _ _ _ _
   | exact LeO.none _
   | refine LeO.ite ?_ ?_
   | refine LeO.bind ?_ (fun _ => ?_)
def cottonpadref06_Ends.T6 : Bool × List (List Nat × List Nat) := (true, [([], []), ([], []), ([], []), ([1, 2], [1, 2]), ([3], [3]), ([4], [4]), ([5], [5]), ([6], [6]), ([0, 7], [0, 7]), ([], []), ([], []), ([], []), ([10, 11], [10, 11]), ([12], [12]), ([13], [13]), ([14], [14]), ([15], [15]), ([9, 16, 8], [9, 16]), ([8, 17, 0, 1, 2, 3, 4, 5, 6, 7, 8], [0, 8]), ([17, 18, 0, 1, 2, 3, 4, 5, 6, 7, 8, 9, 10, 11, 12, 13, 14, 15, 16, 17, 18], [9, 17])])
def cottonpadref06_Ends.B6 : List Nat := [0, 0, 0, 6, 14, 30, 62, 126, 255, 0, 0, 0, 3072, 7168, 15360, 31744, 64512, 131071, 262143, 524287]
theorem cottonpadref06_Ends.tab6 : rtab .any (opsOf Tryd.f56 6) = cottonpadref06_Ends.T6 := by kernel_rfl
theorem cottonpadref06_Ends.bits6 : waitsOk cottonpadref06_Ends.T6.2 cottonpadref06_Ends.B6 = true := by kernel_rfl
def cottonpadref06_Ends.T7 : Bool × List (List Nat × List Nat) := (true, [([], []), ([], []), ([], []), ([1, 2], [1, 2]), ([3], [3]), ([4], [4]), ([5], [5]), ([6], [6]), ([0, 7], [0, 7]), ([], []), ([], []), ([], []), ([10, 11], [10, 11]), ([12], [12]), ([13], [13]), ([14], [14]), ([15], [15]), ([9, 16, 8], [9, 16]), ([8, 17, 0, 1, 2, 3, 4, 5, 6, 7, 8], [0, 8]), ([17, 18, 0, 1, 2, 3, 4, 5, 6, 7, 8, 9, 10, 11, 12, 13, 14, 15, 16, 17, 18], [9, 17])])
def cottonpadref06_Ends.B7 : List Nat := [0, 0, 0, 6, 14, 30, 62, 126, 255, 0, 0, 0, 3072, 7168, 15360, 31744, 64512, 131071, 262143, 524287]
theorem cottonpadref06_Ends.tab7 : rtab .any (opsOf Tryd.f56 7) = cottonpadref06_Ends.T7 := by kernel_rfl
theorem cottonpadref06_Ends.bits7 : waitsOk cottonpadref06_Ends.T7.2 cottonpadref06_Ends.B7 = true := by kernel_rfl
set_option maxHeartbeats 8000000 in
set_option maxRecDepth 100000 in
theorem cottonpadref06_Ends.calls (k : Nat) (A0_0 : Option Addr) (c0_0 : Nat) (l0_0 : List (S62)) (A0_1 : Option Addr) (c0_1 : Nat) (l0_1 : List (S81)) (A1 : Option Addr) (c1 : Nat) (l1 : List (S48)) (a2 : Bool) (r1 : List Int) (r2 : List (List Int)) (w : World) (hr0_0 : Kd.C k62 w A0_0 l0_0.length l0_0) (hc0_0 : l0_0.length ≤ c0_0) (hr0_1 : Kd.C k81 w A0_1 l0_1.length l0_1) (hc0_1 : l0_1.length ≤ c0_1) (hr1 : Kd.C k48 w A1 l1.length l1) (hc1 : l1.length ≤ c1) (h : cottonpadref06_Ends.f k l0_0 l0_1 l1 a2 = some (r1, r2)) :
  Calls Tryd.prog 56 #[.agg #[.slice A0_0 l0_0.length c0_0, .slice A0_1 l0_1.length c0_1], .slice A1 l1.length c1, .bool a2] w fun e w' => ∃ v0_ v1_ : Value, e = .returned (.tuple #[v0_, v1_]) ∧ Kd.R (Kd.int .i64) 3 w' w.heap.size (fun _ => True) v0_ r1 ∧ Kd.S (Kd.slice 3 (Kd.int .i64)) 67 w' w.heap.size (fun k_ => some k_ ≠ (v0_ : Value).ownBlock) v1_ r2 ∧ Below w.heap.size w w' := by
 have hu25 := Tryd.underlying25
 have HR0_0 := Aside0.mk hr0_0
 have HC0_0 := Aside0.mk hc0_0
 clear hr0_0 hc0_0
 have HR0_1 := Aside0.mk hr0_1
 have HC0_1 := Aside0.mk hc0_1
 clear hr0_1 hc0_1
 have HR1 := Aside0.mk hr1
 have HC1 := Aside0.mk hc1
 clear hr1 hc1
 have HB := Aside0.mk (Below.refl w.heap.size w)
 have H : (cottonpadref06_Ends.l0 k l1 a2 ([] : List Int) ([] : List Int) 0 l0_0 l0_1) = some (r1, r2) := h
 clear h
 have H' := Aside0.mk H
 clear H
 go_enter Tryd.func56, Tryd.ntmps56
 go_wp2_with (first | ((with_reducible refine gate_dst (N := 3) rfl ?_); refine box_event ?hg (N := 3) ?hd (cs := #[.slice A0_0 l0_0.length c0_0, .slice A0_1 l0_1.length c0_1]) (t := 25) ?hr ?_; (case hd => rfl); (case hg => rfl); (case hr => exact gs_); intro gb161 hg w4 hbox hb; have BK161 := Aside0.mk (hbox); have GW161 := hl_ hg (be_ HB); have GE161 := hl_ hg (be_ HB); replace HB := bs_ HB hb; clear hb hbox hg))
 go_loopg [8, 9, 11] k (fun kq v8 v9 v11 w' => ∃ (x8_1 : List Int) (x9_1 : List Int) (x11_1 : Int), v11 = .int .i64 x11_1 ∧ Aside0 (cottonpadref06_Ends.l0 kq l1 a2 x8_1 x9_1 x11_1 l0_0 l0_1 = some (r1, r2)) ∧ Aside0 (kq ≤ k) ∧ Aside0 (Kd.R (Kd.int .i64) 3 w' w.heap.size (fun k_ => some k_ ≠ (v9 : Value).ownBlock) v8 x8_1) ∧ Aside0 (Kd.R (Kd.int .i64) 3 w' w.heap.size (fun k_ => some k_ ≠ (v8 : Value).ownBlock) v9 x9_1) ∧ Aside0 (w'.heap[gb161]? = some (.cells #[(.slice A0_0 l0_0.length c0_0), (.slice A0_1 l0_1.length c0_1)] 25 (0, 0))) ∧ Aside0 (Below w.heap.size w w'))
 case atStart => exact ⟨(([] : List Int)), (([] : List Int)), (0), (by first | rfl | (simp; done) | (simp [*]; done)), H', ⟨Nat.le_refl _⟩, ⟨by first | exact Kd.R_nil _ _ _ _ _ | exact Kd.N_nil _ _ _ _ _ | exact Kd.V_nil _ _ _ _ _ | exact Kd.Q_nil _ _ _ _ _ | exact Kd.S_nil _ _ _ _ _⟩, ⟨by first | exact Kd.R_nil _ _ _ _ _ | exact Kd.N_nil _ _ _ _ _ | exact Kd.V_nil _ _ _ _ _ | exact Kd.Q_nil _ _ _ _ _ | exact Kd.S_nil _ _ _ _ _⟩, ⟨by refine bx_ ?_; exact BK161.out⟩, ⟨be1_ HB GE161⟩⟩
 case round =>
  clear H'
  try clear c1
  try clear p2
  obtain ⟨x8_1, x9_1, x11_1, rfl, HA, HK1, HO_8, HO_9, BK161, HB⟩ := hrel
  cases gk with
  | zero => exact absurd HA.out (by simp [cottonpadref06_Ends.l0])
  | succ k1 =>
   have H := HA.out
   clear HA
   simp only [cottonpadref06_Ends.l0] at H
   by_cases c5 : x11_1 < (l1.length : Int)
   ·rw [if_pos c5] at H
    have c5b0 : decide (x11_1 < (l1.length : Int)) = true := decide_eq_true c5
    clear c5
    by_cases c6 : a2 = true
    ·subst c6
     have H1 : (if 0 ≤ x11_1 then ((some (([(rd_T48 l1 x11_1).f1.f0] : List Int) : List Int)).bind fun y163 => (if x8_1.length + y163.length < 17592186044416 then ((some (([(rd_T48 l1 x11_1).f2.f1] : List Int) : List Int)).bind fun y170 => (if x9_1.length + y170.length < 17592186044416 then (cottonpadref06_Ends.l0 k1 l1 true (x8_1 ++ y163) (x9_1 ++ y170) (wrap64 (x11_1 + 1)) l0_0 l0_1) else (none))) else (none))) else (none)) = some (r1, r2) := by rw [if_pos rfl] at H; exact H
     clear H
     have H := H1
     clear H1
     by_cases c7 : 0 ≤ x11_1
     ·rw [if_pos c7] at H
      have c7b0 : decide (0 ≤ x11_1) = true := decide_eq_true c7
      clear c7
      obtain ⟨y163, hy163⟩ : ∃ y_ : List Int, y_ = (([(rd_T48 l1 x11_1).f1.f0] : List Int)) := ⟨_, rfl⟩
      replace H : (if x8_1.length + y163.length < 17592186044416 then ((some (([(rd_T48 l1 x11_1).f2.f1] : List Int) : List Int)).bind fun y170 => (if x9_1.length + y170.length < 17592186044416 then (cottonpadref06_Ends.l0 k1 l1 true (x8_1 ++ y163) (x9_1 ++ y170) (wrap64 (x11_1 + 1)) l0_0 l0_1) else (none))) else (none)) = some (r1, r2) := by first | (rw [hy163]; with_reducible exact H) | (have H2_ := (Option.bind_some _ _).symm.trans H; rw [hy163]; with_reducible exact H2_) | (have H2_ := (Option.bind_some _ _).symm.trans H; with_reducible exact H2_) | with_reducible exact H | (rw [hy163]; exact H) | exact H
      have Ny163 := Aside0.mk hy163
      clear hy163
      by_cases c8 : x8_1.length + y163.length < 17592186044416
      ·rw [if_pos c8] at H
       have LMc8 := Aside0.mk c8
       clear c8
       obtain ⟨y166, hy166⟩ : ∃ y_ : List Int, y_ = (x8_1 ++ y163) := ⟨_, rfl⟩
       replace H : ((some (([(rd_T48 l1 x11_1).f2.f1] : List Int) : List Int)).bind fun y170 => (if x9_1.length + y170.length < 17592186044416 then (cottonpadref06_Ends.l0 k1 l1 true y166 (x9_1 ++ y170) (wrap64 (x11_1 + 1)) l0_0 l0_1) else (none))) = some (r1, r2) := by first | (rw [hy166]; with_reducible exact H) | (have H2_ := (Option.bind_some _ _).symm.trans H; rw [hy166]; with_reducible exact H2_) | (have H2_ := (Option.bind_some _ _).symm.trans H; with_reducible exact H2_) | with_reducible exact H | (rw [hy166]; exact H) | exact H
       have Ny166 := Aside0.mk hy166
       clear hy166
       obtain ⟨y170, hy170⟩ : ∃ y_ : List Int, y_ = (([(rd_T48 l1 x11_1).f2.f1] : List Int)) := ⟨_, rfl⟩
       replace H : (if x9_1.length + y170.length < 17592186044416 then (cottonpadref06_Ends.l0 k1 l1 true y166 (x9_1 ++ y170) (wrap64 (x11_1 + 1)) l0_0 l0_1) else (none)) = some (r1, r2) := by first | (rw [hy170]; with_reducible exact H) | (have H2_ := (Option.bind_some _ _).symm.trans H; rw [hy170]; with_reducible exact H2_) | (have H2_ := (Option.bind_some _ _).symm.trans H; with_reducible exact H2_) | with_reducible exact H | (rw [hy170]; exact H) | exact H
       have Ny170 := Aside0.mk hy170
       clear hy170
       by_cases c9 : x9_1.length + y170.length < 17592186044416
       ·rw [if_pos c9] at H
        have LMc9 := Aside0.mk c9
        clear c9
        obtain ⟨y173, hy173⟩ : ∃ y_ : List Int, y_ = (x9_1 ++ y170) := ⟨_, rfl⟩
        replace H : (cottonpadref06_Ends.l0 k1 l1 true y166 y173 (wrap64 (x11_1 + 1)) l0_0 l0_1) = some (r1, r2) := by first | (rw [hy173]; with_reducible exact H) | (have H2_ := (Option.bind_some _ _).symm.trans H; rw [hy173]; with_reducible exact H2_) | (have H2_ := (Option.bind_some _ _).symm.trans H; with_reducible exact H2_) | with_reducible exact H | (rw [hy173]; exact H) | exact H
        have Ny173 := Aside0.mk hy173
        clear hy173
        have H' := Aside0.mk H
        clear H
        obtain ⟨Ao10, co10, eo10⟩ := Kd.R_slice HO_8.out
        subst eo10
        obtain ⟨Ao11, co11, eo11⟩ := Kd.R_slice HO_9.out
        subst eo11
        try go_wp2
        replace HO_8 := Aside0.mk (Kd.R_drew HO_8.out)
        replace HO_9 := Aside0.mk (Kd.R_drew HO_9.out)
        replace BK161 := Aside0.mk (blk_drew BK161.out)
        replace HB := Aside0.mk (below_drew1 HB.out)
        have p162 : 0 ≤ (x11_1 : Int) := of_decide_eq_true as_
        have q162 : x11_1 < (l1.length : Int) := of_decide_eq_true as_
        obtain ⟨ad162, e162, hx162_0, hx162_1, hx162_2, hx162_3, hx162_4⟩ := at_T48 HR1.out x11_1 p162 q162
        have hw162_4 := hx162_4
        have hw162_3 := hx162_3
        have hw162_2 := hx162_2
        have hw162_1 := hx162_1
        have hw162_0 := hx162_0
        cases e162
        try replace hx162_0 := ce_ HB hx162_0
        try replace hx162_1 := ce_ HB hx162_1
        try replace hx162_2 := ce_ HB hx162_2
        try replace hx162_3 := ce_ HB hx162_3
        try replace hx162_4 := ce_ HB hx162_4
        replace p162 := eq_true p162
        replace q162 := eq_true q162
        have p169 : 0 ≤ (x11_1 : Int) := of_decide_eq_true as_
        have q169 : x11_1 < (l1.length : Int) := of_decide_eq_true as_
        obtain ⟨ad169, e169, hx169_0, hx169_1, hx169_2, hx169_3, hx169_4⟩ := at_T48 HR1.out x11_1 p169 q169
        have hw169_4 := hx169_4
        have hw169_3 := hx169_3
        have hw169_2 := hx169_2
        have hw169_1 := hx169_1
        have hw169_0 := hx169_0
        obtain rfl : ad162 = ad169 := (by injection e169)
        try replace hx169_0 := ce_ HB hx169_0
        try replace hx169_1 := ce_ HB hx169_1
        try replace hx169_2 := ce_ HB hx169_2
        try replace hx169_3 := ce_ HB hx169_3
        try replace hx169_4 := ce_ HB hx169_4
        replace p169 := eq_true p169
        replace q169 := eq_true q169
        refine start_ (n := 20) (S := fun w' => w'.cell? (ad162.add ((x11_1).toNat * 5)) = some (.int .i64 ((rd_T48 l1 x11_1).f0)) ∧ w'.cell? ⟨(ad162.add ((x11_1).toNat * 5)).block, (ad162.add ((x11_1).toNat * 5)).off + 1, none⟩ = some (.int .i64 ((rd_T48 l1 x11_1).f1.f0)) ∧ w'.cell? ⟨(ad162.add ((x11_1).toNat * 5)).block, (ad162.add ((x11_1).toNat * 5)).off + 2, none⟩ = some (.int .i64 ((rd_T48 l1 x11_1).f1.f1)) ∧ w'.cell? ⟨(ad162.add ((x11_1).toNat * 5)).block, (ad162.add ((x11_1).toNat * 5)).off + 3, none⟩ = some (.int .i64 ((rd_T48 l1 x11_1).f2.f0)) ∧ w'.cell? ⟨(ad162.add ((x11_1).toNat * 5)).block, (ad162.add ((x11_1).toNat * 5)).off + 4, none⟩ = some (.int .i64 ((rd_T48 l1 x11_1).f2.f1)) ∧ w'.cell? (ad162.add ((x11_1).toNat * 5)) = some (.int .i64 ((rd_T48 l1 x11_1).f0)) ∧ w'.cell? ⟨(ad162.add ((x11_1).toNat * 5)).block, (ad162.add ((x11_1).toNat * 5)).off + 1, none⟩ = some (.int .i64 ((rd_T48 l1 x11_1).f1.f0)) ∧ w'.cell? ⟨(ad162.add ((x11_1).toNat * 5)).block, (ad162.add ((x11_1).toNat * 5)).off + 2, none⟩ = some (.int .i64 ((rd_T48 l1 x11_1).f1.f1)) ∧ w'.cell? ⟨(ad162.add ((x11_1).toNat * 5)).block, (ad162.add ((x11_1).toNat * 5)).off + 3, none⟩ = some (.int .i64 ((rd_T48 l1 x11_1).f2.f0)) ∧ w'.cell? ⟨(ad162.add ((x11_1).toNat * 5)).block, (ad162.add ((x11_1).toNat * 5)).off + 4, none⟩ = some (.int .i64 ((rd_T48 l1 x11_1).f2.f1))) (ds := []) (bm_ 20 0) (by kernel_rfl) rfl rfl ⟨(cf_ HB hw162_0), (cf_ HB hw162_1), (cf_ HB hw162_2), (cf_ HB hw162_3), (cf_ HB hw162_4), (cf_ HB hw169_0), (cf_ HB hw169_1), (cf_ HB hw169_2), (cf_ HB hw169_3), (cf_ HB hw169_4)⟩ (fun hHeld => ?_); refine with_tabW cottonpadref06_Ends.tab6 cottonpadref06_Ends.bits6 (fun HT_ HW_ => ?_)
        generalize wr.drew = w12 at HO_8 HO_9 BK161 HB hx162_0 hx162_1 hx162_2 hx162_3 hx162_4 hx169_0 hx169_1 hx169_2 hx169_3 hx169_4 hHeld ⊢
        refine pure_ (i := 0) (N := some 20) (v := ?_) (a' := ?_) (bm_ 20 1) rfl rfl (any_of HT_.out (by kernel_rfl)) (fun _ _ _ h => h) (Or.inl ⟨by rfl, ?_⟩) ?_ ?_
        rotate_left
        ·intro w'
         go_simp
         with_reducible rfl
        rotate_left
        ·exact pt_
        refine pure_ (i := 1) (N := some 21) (v := ?_) (a' := ?_) (bm_ 20 3) rfl rfl (any_of HT_.out (by kernel_rfl)) (fun _ _ _ h => h) (Or.inl ⟨by rfl, ?_⟩) ?_ ?_
        rotate_left
        ·intro w'
         go_simp
         with_reducible rfl
        rotate_left
        ·exact pt_
        refine pure_ (i := 2) (N := some 22) (v := ?_) (a' := ?_) (bm_ 20 7) rfl rfl (any_of HT_.out (by kernel_rfl)) (fun _ _ _ h => h) (Or.inl ⟨by rfl, ?_⟩) ?_ ?_
        rotate_left
        ·intro w'
         go_simp
         with_reducible rfl
        rotate_left
        ·exact pt_
        refine pure_ (i := 3) (N := some 23) (v := ?_) (a' := ?_) (bm_ 20 15) rfl rfl (any_of HT_.out (by kernel_rfl)) (fun _ _ _ h => h) (Or.inl ⟨by rfl, ?_⟩) ?_ ?_
        rotate_left
        ·intro w'
         go_simp
         with_reducible rfl
        rotate_left
        ·exact pt_
        refine pure_ (i := 4) (N := some 24) (v := ?_) (a' := ?_) (bm_ 20 31) rfl rfl (any_of HT_.out (by kernel_rfl)) (fun _ _ _ h => h) (Or.inl ⟨by rfl, ?_⟩) ?_ ?_
        rotate_left
        ·intro w'
         go_simp
         with_reducible rfl
        rotate_left
        ·exact pt_
        refine pure_ (i := 5) (N := some 25) (v := ?_) (a' := ?_) (bm_ 20 63) rfl rfl (any_of HT_.out (by kernel_rfl)) (fun _ _ _ h => h) (Or.inl ⟨by rfl, ?_⟩) ?_ ?_
        rotate_left
        ·intro w'
         go_simp
         with_reducible rfl
        rotate_left
        ·exact pt_
        refine pure_ (i := 9) (N := some 29) (v := ?_) (a' := ?_) (bm_ 20 575) rfl rfl (any_of HT_.out (by kernel_rfl)) (fun _ _ _ h => h) (Or.inl ⟨by rfl, ?_⟩) ?_ ?_
        rotate_left
        ·intro w'
         go_simp
         with_reducible rfl
        rotate_left
        ·exact pt_
        refine pure_ (i := 10) (N := some 30) (v := ?_) (a' := ?_) (bm_ 20 1599) rfl rfl (any_of HT_.out (by kernel_rfl)) (fun _ _ _ h => h) (Or.inl ⟨by rfl, ?_⟩) ?_ ?_
        rotate_left
        ·intro w'
         go_simp
         with_reducible rfl
        rotate_left
        ·exact pt_
        refine pure_ (i := 11) (N := some 31) (v := ?_) (a' := ?_) (bm_ 20 3647) rfl rfl (any_of HT_.out (by kernel_rfl)) (fun _ _ _ h => h) (Or.inl ⟨by rfl, ?_⟩) ?_ ?_
        rotate_left
        ·intro w'
         go_simp
         with_reducible rfl
        rotate_left
        ·exact pt_
        refine pure_ (i := 12) (N := some 32) (v := ?_) (a' := ?_) (bm_ 20 7743) rfl rfl (any_of HT_.out (by kernel_rfl)) (fun _ _ _ h => h) (Or.inl ⟨by rfl, ?_⟩) ?_ ?_
        rotate_left
        ·intro w'
         go_simp
         with_reducible rfl
        rotate_left
        ·exact pt_
        refine pure_ (i := 13) (N := some 33) (v := ?_) (a' := ?_) (bm_ 20 15935) rfl rfl (any_of HT_.out (by kernel_rfl)) (fun _ _ _ h => h) (Or.inl ⟨by rfl, ?_⟩) ?_ ?_
        rotate_left
        ·intro w'
         go_simp
         with_reducible rfl
        rotate_left
        ·exact pt_
        refine pure_ (i := 14) (N := some 34) (v := ?_) (a' := ?_) (bm_ 20 32319) rfl rfl (any_of HT_.out (by kernel_rfl)) (fun _ _ _ h => h) (Or.inl ⟨by rfl, ?_⟩) ?_ ?_
        rotate_left
        ·intro w'
         go_simp
         with_reducible rfl
        rotate_left
        ·exact pt_
        refine take_ (i := 6) (N := some 26) (v := ?_) (a' := ?_) (bm_ 20 32383) rfl rfl (take_ofW HT_.out HW_.out (by kernel_rfl)) (fun _ _ _ h => h) (Or.inl ⟨by rfl, ?_⟩) hHeld ?_ ?_
        rotate_left
        ·rintro w' ⟨s0, s1, s2, s3, s4, s5, s6, s7, s8, s9⟩
         go_simp
         with_reducible rfl
        rotate_left
        ·exact pt_
        refine take_ (i := 15) (N := some 35) (v := ?_) (a' := ?_) (bm_ 20 65151) rfl rfl (take_ofW HT_.out HW_.out (by kernel_rfl)) (fun _ _ _ h => h) (Or.inl ⟨by rfl, ?_⟩) hHeld ?_ ?_
        rotate_left
        ·rintro w' ⟨s0, s1, s2, s3, s4, s5, s6, s7, s8, s9⟩
         go_simp
         with_reducible rfl
        rotate_left
        ·exact pt_
        refine join_ (σ := Value × Value × Value) 3 (bm_ 20 131071) (fun s_ => [(27, s_.1), (28, s_.2.1), (36, s_.2.2)]) (fun s_ w' => (w'.cell? (ad162.add ((x11_1).toNat * 5)) = some (.int .i64 ((rd_T48 l1 x11_1).f0)) ∧ w'.cell? ⟨(ad162.add ((x11_1).toNat * 5)).block, (ad162.add ((x11_1).toNat * 5)).off + 1, none⟩ = some (.int .i64 ((rd_T48 l1 x11_1).f1.f0)) ∧ w'.cell? ⟨(ad162.add ((x11_1).toNat * 5)).block, (ad162.add ((x11_1).toNat * 5)).off + 2, none⟩ = some (.int .i64 ((rd_T48 l1 x11_1).f1.f1)) ∧ w'.cell? ⟨(ad162.add ((x11_1).toNat * 5)).block, (ad162.add ((x11_1).toNat * 5)).off + 3, none⟩ = some (.int .i64 ((rd_T48 l1 x11_1).f2.f0)) ∧ w'.cell? ⟨(ad162.add ((x11_1).toNat * 5)).block, (ad162.add ((x11_1).toNat * 5)).off + 4, none⟩ = some (.int .i64 ((rd_T48 l1 x11_1).f2.f1)) ∧ w'.cell? (ad162.add ((x11_1).toNat * 5)) = some (.int .i64 ((rd_T48 l1 x11_1).f0)) ∧ w'.cell? ⟨(ad162.add ((x11_1).toNat * 5)).block, (ad162.add ((x11_1).toNat * 5)).off + 1, none⟩ = some (.int .i64 ((rd_T48 l1 x11_1).f1.f0)) ∧ w'.cell? ⟨(ad162.add ((x11_1).toNat * 5)).block, (ad162.add ((x11_1).toNat * 5)).off + 2, none⟩ = some (.int .i64 ((rd_T48 l1 x11_1).f1.f1)) ∧ w'.cell? ⟨(ad162.add ((x11_1).toNat * 5)).block, (ad162.add ((x11_1).toNat * 5)).off + 3, none⟩ = some (.int .i64 ((rd_T48 l1 x11_1).f2.f0)) ∧ w'.cell? ⟨(ad162.add ((x11_1).toNat * 5)).block, (ad162.add ((x11_1).toNat * 5)).off + 4, none⟩ = some (.int .i64 ((rd_T48 l1 x11_1).f2.f1))) ∧ (Kd.R (Kd.int .i64) 3 w' w.heap.size (fun k_ => some k_ ≠ (s_.2.1 : Value).ownBlock ∧ some k_ ≠ (s_.2.2 : Value).ownBlock ∧ some k_ ≠ (.slice Ao11 x9_1.length co11 : Value).ownBlock) s_.1 y163) ∧ (Kd.R (Kd.int .i64) 3 w' w.heap.size (fun k_ => some k_ ≠ (s_.1 : Value).ownBlock ∧ some k_ ≠ (s_.2.2 : Value).ownBlock ∧ some k_ ≠ (.slice Ao11 x9_1.length co11 : Value).ownBlock) s_.2.1 y166) ∧ (Kd.R (Kd.int .i64) 3 w' w.heap.size (fun k_ => some k_ ≠ (s_.1 : Value).ownBlock ∧ some k_ ≠ (s_.2.1 : Value).ownBlock ∧ some k_ ≠ (.slice Ao11 x9_1.length co11 : Value).ownBlock) s_.2.2 y170) ∧ (Kd.R (Kd.int .i64) 3 w' w.heap.size (fun k_ => some k_ ≠ (s_.1 : Value).ownBlock ∧ some k_ ≠ (s_.2.1 : Value).ownBlock ∧ some k_ ≠ (s_.2.2 : Value).ownBlock) (.slice Ao11 x9_1.length co11) x9_1) ∧ (w'.heap[gb161]? = some (.cells #[.slice A0_0 l0_0.length c0_0, .slice A0_1 l0_1.length c0_1] 25 (0, 0))) ∧ (Below w.heap.size w w')) ?_ ?_
        rotate_left
        ·intro hCont
         refine two_ (i := 7) (j := 16) (Ni := some 27) (Nj := some 36) (bm_ 20 65279) (bm_ 20 130687) rfl rfl rfl rfl (two_of HT_.out (by kernel_rfl)) (by decide) (by decide) (fun K hK => ?_) (fun K hK => ?_)
         ·skip
          refine Kd.R_lit_step (Kd.int .i64) _ 3 ?hg (N := 27) ?hd (xs := ([(rd_T48 l1 x11_1).f1.f0] : List Int)) (inner := [.int .i64 ((rd_T48 l1 x11_1).f1.f0)]) (ok := fun _ => True) (okp := fun _ => True) ?hr ?hp (fun _ hk => hk) trivial (Below.refl _ _) (Nat.le_refl _) (by simp) ?_; (case hd => rfl); (case hg => rfl); (case hr => exact gs_); (case hp => exact (Reps.one (show Kd.M (Kd.int .i64) _ _ _ ((rd_T48 l1 x11_1).f1.f0) [.int .i64 ((rd_T48 l1 x11_1).f1.f0)] from rfl) (Reps.none _ _)))
          intro v164 w13 ho14 hb hg_ hnew_
          clear hg_ hnew_
          (first | rw [← Ny163.out] at ho14 | (simp only [Int.reduceToNat] at ho14; rw [← Ny163.out] at ho14))
          have HO165 := Aside0.mk (Kd.R_lower (Kd.R_new' (Kd.R_new' ho14 (Kd.R_lt (ro_ HO_8))) (Kd.R_lt (ro_ HO_9))) (below_size (be1_ HB GE161)))
          replace HO_8 := Aside0.mk (Kd.R_elder' (ro_ HO_8) (Kd.R_base ho14) hb)
          replace HO_9 := Aside0.mk (Kd.R_elder' (ro_ HO_9) (Kd.R_base ho14) hb)
          replace BK161 := bb_ BK161 hb
          replace HB := bs1_ HB GE161 hb
          clear hb ho14
          obtain ⟨Ao16, co16, eo16⟩ := Kd.R_slice HO165.out
          (first | subst eo16 | (injection eo16 with f1_ f2_ f3_; have f4_ := f1_.symm; have f5_ := f3_.symm; clear f1_ f2_ f3_; subst f4_; subst f5_))
          refine hK.out _ _ ⟨(cf_ HB hw162_0), (cf_ HB hw162_1), (cf_ HB hw162_2), (cf_ HB hw162_3), (cf_ HB hw162_4), (cf_ HB hw169_0), (cf_ HB hw169_1), (cf_ HB hw169_2), (cf_ HB hw169_3), (cf_ HB hw169_4)⟩ (fun hHeld => ?_)
          clear hK K
          refine norm_ (a' := ?_) ?_ ?_
          rotate_left
          ·show Act.put _ (some 27) _ = _
           simp only [Act.put, List.setIfInBounds_toArray, List.set_cons_zero, List.set_cons_succ, i64_w, i32_w]
           rfl
          refine two_ (i := 8) (j := 16) (Ni := some 28) (Nj := some 36) (bm_ 20 65535) (bm_ 20 130815) rfl rfl rfl rfl (two_of HT_.out (by kernel_rfl)) (by decide) (by decide) (fun K hK => ?_) (fun K hK => ?_)
          ·skip
           refine Kd.R_append_rows_step (Kd.int .i64) (w0 := w) w.heap.size (by rfl) (.tmp 20) (.tmp 27) 67 3 (.int .i64 0) 8 rfl Tryd.underlying67 info3 rfl (by decide) (by omega) (.slice Ao10 x8_1.length co10) x8_1 y163 _ _ _ (fun k_ => some k_ ≠ (.slice Ao11 x9_1.length co11 : Value).ownBlock ∧ some k_ ≠ (.slice Ao16 y163.length co16 : Value).ownBlock) (fun _ => False) rfl rfl ?aO ?aR (fun _ _ h => h) (fun _ h => h.elim) ?aF ?aB ?aS ?aL ?_
           (case aR => exact kd_ (Kd.R_reads' HO165.out).2.2)
           (case aB => exact (be1_ HB GE161))
           (case aF => exact (fun k_ hk => ⟨Kd.fresh' (Kd.R_lt (ro_ HO_9)) k_ hk, Kd.fresh' (Kd.R_lt (ro_ HO165)) k_ hk⟩))
           (case aO => exact (ro_ HO_8))
           (case aS => exact (below_size (be1_ HB GE161)))
           (case aL => have := LMc8.out; omega)
           intro v167 w15 ho hb hg hat
           rw [← Ny166.out] at ho
           replace HO_9 := Aside0.mk (Kd.R_after (ok := (fun k_ => some k_ ≠ (.slice Ao16 y163.length co16 : Value).ownBlock)) (by (with_reducible repeat (first | apply Kd.R_alloc | apply Kd.R_drewN | apply Kd.R_drew)); exact Kd.R_mono HO_9.out (fun _ hk => ⟨hk.2, hk.1⟩)) hg hat)
           replace BK161 := Aside0.mk (blk_grown (g := gb161) (o := .cells #[.slice A0_0 l0_0.length c0_0, .slice A0_1 l0_1.length c0_1] 25 (0, 0)) (bk_ BK161) hg (Kd.R_ne HO_8.out BK161.out (by decide)))
           replace HO165 := Aside0.mk (Kd.R_after (ok := (fun k_ => some k_ ≠ (.slice Ao11 x9_1.length co11 : Value).ownBlock)) (by (with_reducible repeat (first | apply Kd.R_alloc | apply Kd.R_drewN | apply Kd.R_drew)); exact Kd.R_mono HO165.out (fun _ hk => ⟨hk.2, hk.1.2⟩)) hg hat)
           replace HB := Aside0.mk (hb)
           have HO168 := Aside0.mk (ho)
           clear HO_8
           clear ho hb hg hat
           refine hK.out _ _ ⟨(cf_ HB hw162_0), (cf_ HB hw162_1), (cf_ HB hw162_2), (cf_ HB hw162_3), (cf_ HB hw162_4), (cf_ HB hw169_0), (cf_ HB hw169_1), (cf_ HB hw169_2), (cf_ HB hw169_3), (cf_ HB hw169_4)⟩ (fun hHeld => ?_)
           clear hK K
           refine norm_ (a' := ?_) ?_ ?_
           rotate_left
           ·show Act.put _ (some 28) _ = _
            simp only [Act.put, List.setIfInBounds_toArray, List.set_cons_zero, List.set_cons_succ, i64_w, i32_w]
            rfl
           refine one_ (i := 16) (N := some 36) (bm_ 20 131071) rfl rfl (one_of HT_.out (by kernel_rfl)) (by decide) (fun K hK => ?_)
           refine Kd.R_lit_step (Kd.int .i64) _ 3 ?hg (N := 36) ?hd (xs := ([(rd_T48 l1 x11_1).f2.f1] : List Int)) (inner := [.int .i64 ((rd_T48 l1 x11_1).f2.f1)]) (ok := fun _ => True) (okp := fun _ => True) ?hr ?hp (fun _ hk => hk) trivial (Below.refl _ _) (Nat.le_refl _) (by simp) ?_; (case hd => rfl); (case hg => rfl); (case hr => exact gs_); (case hp => exact (Reps.one (show Kd.M (Kd.int .i64) _ _ _ ((rd_T48 l1 x11_1).f2.f1) [.int .i64 ((rd_T48 l1 x11_1).f2.f1)] from rfl) (Reps.none _ _)))
           intro v171 w17 ho18 hb hg_ hnew_
           clear hg_ hnew_
           (first | rw [← Ny170.out] at ho18 | (simp only [Int.reduceToNat] at ho18; rw [← Ny170.out] at ho18))
           have HO172 := Aside0.mk (Kd.R_lower (Kd.R_new' (Kd.R_new' (Kd.R_new' ho18 (Kd.R_lt (ro_ HO_9))) (Kd.R_lt (ro_ HO165))) (Kd.R_lt (ro_ HO168))) (below_size (be1_ HB GE161)))
           replace HO_9 := Aside0.mk (Kd.R_elder' (ro_ HO_9) (Kd.R_base ho18) hb)
           replace HO165 := Aside0.mk (Kd.R_elder' (ro_ HO165) (Kd.R_base ho18) hb)
           replace HO168 := Aside0.mk (Kd.R_elder' (ro_ HO168) (Kd.R_base ho18) hb)
           replace BK161 := bb_ BK161 hb
           replace HB := bs1_ HB GE161 hb
           clear hb ho18
           refine hK.out _ _ ⟨(cf_ HB hw162_0), (cf_ HB hw162_1), (cf_ HB hw162_2), (cf_ HB hw162_3), (cf_ HB hw162_4), (cf_ HB hw169_0), (cf_ HB hw169_1), (cf_ HB hw169_2), (cf_ HB hw169_3), (cf_ HB hw169_4)⟩ (fun hHeld => ?_)
           clear hK K
           refine norm_ (a' := ?_) ?_ ?_
           rotate_left
           ·show Act.put _ (some 36) _ = _
            simp only [Act.put, List.setIfInBounds_toArray, List.set_cons_zero, List.set_cons_succ, i64_w, i32_w]
            rfl
           exact norm_ (by simp only [putAll, Act.put, List.setIfInBounds_toArray, List.set_cons_zero, List.set_cons_succ]) (hCont (.slice Ao16 y163.length co16, v167, v171) _ ⟨hHeld, (by (with_reducible repeat (first | apply Kd.R_alloc | apply Kd.R_drewN | apply Kd.R_drew)); exact Kd.R_mono HO165.out (fun _ hk => ⟨hk.1.2, ⟨hk.2, hk.1.1⟩⟩)), (by (with_reducible repeat (first | apply Kd.R_alloc | apply Kd.R_drewN | apply Kd.R_drew)); exact Kd.R_mono HO168.out (fun _ hk => ⟨hk.1.2, ⟨hk.2, hk.1.1⟩⟩)), (by (with_reducible repeat (first | apply Kd.R_alloc | apply Kd.R_drewN | apply Kd.R_drew)); exact Kd.R_mono HO172.out (fun _ hk => ⟨hk.1.2, ⟨hk.2, hk.1.1.2⟩⟩)), (by (with_reducible repeat (first | apply Kd.R_alloc | apply Kd.R_drewN | apply Kd.R_drew)); exact Kd.R_mono HO_9.out (fun _ hk => ⟨hk.1.1, ⟨hk.1.2, hk.2⟩⟩)), (bk_ BK161), (be1_ HB GE161)⟩)
          ·skip
           refine Kd.R_lit_step (Kd.int .i64) _ 3 ?hg (N := 36) ?hd (xs := ([(rd_T48 l1 x11_1).f2.f1] : List Int)) (inner := [.int .i64 ((rd_T48 l1 x11_1).f2.f1)]) (ok := fun _ => True) (okp := fun _ => True) ?hr ?hp (fun _ hk => hk) trivial (Below.refl _ _) (Nat.le_refl _) (by simp) ?_; (case hd => rfl); (case hg => rfl); (case hr => exact gs_); (case hp => exact (Reps.one (show Kd.M (Kd.int .i64) _ _ _ ((rd_T48 l1 x11_1).f2.f1) [.int .i64 ((rd_T48 l1 x11_1).f2.f1)] from rfl) (Reps.none _ _)))
           intro v171 w15 ho16 hb hg_ hnew_
           clear hg_ hnew_
           (first | rw [← Ny170.out] at ho16 | (simp only [Int.reduceToNat] at ho16; rw [← Ny170.out] at ho16))
           have HO172 := Aside0.mk (Kd.R_lower (Kd.R_new' (Kd.R_new' (Kd.R_new' ho16 (Kd.R_lt (ro_ HO_8))) (Kd.R_lt (ro_ HO_9))) (Kd.R_lt (ro_ HO165))) (below_size (be1_ HB GE161)))
           replace HO_8 := Aside0.mk (Kd.R_elder' (ro_ HO_8) (Kd.R_base ho16) hb)
           replace HO_9 := Aside0.mk (Kd.R_elder' (ro_ HO_9) (Kd.R_base ho16) hb)
           replace HO165 := Aside0.mk (Kd.R_elder' (ro_ HO165) (Kd.R_base ho16) hb)
           replace BK161 := bb_ BK161 hb
           replace HB := bs1_ HB GE161 hb
           clear hb ho16
           obtain ⟨Ao18, co18, eo18⟩ := Kd.R_slice HO165.out
           (first | subst eo18 | (injection eo18 with f1_ f2_ f3_; have f4_ := f1_.symm; have f5_ := f3_.symm; clear f1_ f2_ f3_; subst f4_; subst f5_))
           refine hK.out _ _ ⟨(cf_ HB hw162_0), (cf_ HB hw162_1), (cf_ HB hw162_2), (cf_ HB hw162_3), (cf_ HB hw162_4), (cf_ HB hw169_0), (cf_ HB hw169_1), (cf_ HB hw169_2), (cf_ HB hw169_3), (cf_ HB hw169_4)⟩ (fun hHeld => ?_)
           clear hK K
           refine norm_ (a' := ?_) ?_ ?_
           rotate_left
           ·show Act.put _ (some 36) _ = _
            simp only [Act.put, List.setIfInBounds_toArray, List.set_cons_zero, List.set_cons_succ, i64_w, i32_w]
            rfl
           refine one_ (i := 8) (N := some 28) (bm_ 20 131071) rfl rfl (one_of HT_.out (by kernel_rfl)) (by decide) (fun K hK => ?_)
           refine Kd.R_append_rows_step (Kd.int .i64) (w0 := w) w.heap.size (by rfl) (.tmp 20) (.tmp 27) 67 3 (.int .i64 0) 8 rfl Tryd.underlying67 info3 rfl (by decide) (by omega) (.slice Ao10 x8_1.length co10) x8_1 y163 _ _ _ (fun k_ => some k_ ≠ (.slice Ao11 x9_1.length co11 : Value).ownBlock ∧ some k_ ≠ (.slice Ao18 y163.length co18 : Value).ownBlock ∧ some k_ ≠ (v171 : Value).ownBlock) (fun _ => False) rfl rfl ?aO ?aR (fun _ _ h => h) (fun _ h => h.elim) ?aF ?aB ?aS ?aL ?_
           (case aR => exact kd_ (Kd.R_reads' HO165.out).2.2)
           (case aB => exact (be1_ HB GE161))
           (case aF => exact (fun k_ hk => ⟨Kd.fresh' (Kd.R_lt (ro_ HO_9)) k_ hk, Kd.fresh' (Kd.R_lt (ro_ HO165)) k_ hk, Kd.fresh' (Kd.R_lt (ro_ HO172)) k_ hk⟩))
           (case aO => exact (by (with_reducible repeat (first | apply Kd.R_alloc | apply Kd.R_drewN | apply Kd.R_drew)); exact Kd.R_mono HO_8.out (fun _ hk => ⟨hk.1.1, ⟨hk.1.2, hk.2⟩⟩)))
           (case aS => exact (below_size (be1_ HB GE161)))
           (case aL => have := LMc8.out; omega)
           intro v167 w17 ho hb hg hat
           rw [← Ny166.out] at ho
           replace HO_9 := Aside0.mk (Kd.R_after (ok := (fun k_ => some k_ ≠ (.slice Ao18 y163.length co18 : Value).ownBlock ∧ some k_ ≠ (v171 : Value).ownBlock)) (by (with_reducible repeat (first | apply Kd.R_alloc | apply Kd.R_drewN | apply Kd.R_drew)); exact Kd.R_mono HO_9.out (fun _ hk => ⟨⟨hk.1.2, hk.2⟩, hk.1.1⟩)) hg hat)
           replace BK161 := Aside0.mk (blk_grown (g := gb161) (o := .cells #[.slice A0_0 l0_0.length c0_0, .slice A0_1 l0_1.length c0_1] 25 (0, 0)) (bk_ BK161) hg (Kd.R_ne HO_8.out BK161.out (by decide)))
           replace HO165 := Aside0.mk (Kd.R_after (ok := (fun k_ => some k_ ≠ (.slice Ao11 x9_1.length co11 : Value).ownBlock ∧ some k_ ≠ (v171 : Value).ownBlock)) (by (with_reducible repeat (first | apply Kd.R_alloc | apply Kd.R_drewN | apply Kd.R_drew)); exact Kd.R_mono HO165.out (fun _ hk => ⟨⟨hk.1.2, hk.2⟩, hk.1.1.2⟩)) hg hat)
           replace HO172 := Aside0.mk (Kd.R_after (ok := (fun k_ => some k_ ≠ (.slice Ao11 x9_1.length co11 : Value).ownBlock ∧ some k_ ≠ (.slice Ao18 y163.length co18 : Value).ownBlock)) (by (with_reducible repeat (first | apply Kd.R_alloc | apply Kd.R_drewN | apply Kd.R_drew)); exact Kd.R_mono HO172.out (fun _ hk => ⟨⟨hk.1.2, hk.2⟩, hk.1.1.2⟩)) hg hat)
           replace HB := Aside0.mk (hb)
           have HO168 := Aside0.mk (ho)
           clear HO_8
           clear ho hb hg hat
           refine hK.out _ _ ⟨(cf_ HB hw162_0), (cf_ HB hw162_1), (cf_ HB hw162_2), (cf_ HB hw162_3), (cf_ HB hw162_4), (cf_ HB hw169_0), (cf_ HB hw169_1), (cf_ HB hw169_2), (cf_ HB hw169_3), (cf_ HB hw169_4)⟩ (fun hHeld => ?_)
           clear hK K
           refine norm_ (a' := ?_) ?_ ?_
           rotate_left
           ·show Act.put _ (some 28) _ = _
            simp only [Act.put, List.setIfInBounds_toArray, List.set_cons_zero, List.set_cons_succ, i64_w, i32_w]
            rfl
           exact norm_ (by simp only [putAll, Act.put, List.setIfInBounds_toArray, List.set_cons_zero, List.set_cons_succ]) (hCont (.slice Ao18 y163.length co18, v167, v171) _ ⟨hHeld, (by (with_reducible repeat (first | apply Kd.R_alloc | apply Kd.R_drewN | apply Kd.R_drew)); exact Kd.R_mono HO165.out (fun _ hk => ⟨hk.2, ⟨hk.1.2, hk.1.1⟩⟩)), (by (with_reducible repeat (first | apply Kd.R_alloc | apply Kd.R_drewN | apply Kd.R_drew)); exact Kd.R_mono HO168.out (fun _ hk => ⟨hk.2.1, ⟨hk.2.2, hk.1⟩⟩)), (by (with_reducible repeat (first | apply Kd.R_alloc | apply Kd.R_drewN | apply Kd.R_drew)); exact Kd.R_mono HO172.out (fun _ hk => ⟨hk.1.2, ⟨hk.2, hk.1.1⟩⟩)), (by (with_reducible repeat (first | apply Kd.R_alloc | apply Kd.R_drewN | apply Kd.R_drew)); exact Kd.R_mono HO_9.out (fun _ hk => ⟨hk.1.1, ⟨hk.2, hk.1.2⟩⟩)), (bk_ BK161), (be1_ HB GE161)⟩)
         ·skip
          refine Kd.R_lit_step (Kd.int .i64) _ 3 ?hg (N := 36) ?hd (xs := ([(rd_T48 l1 x11_1).f2.f1] : List Int)) (inner := [.int .i64 ((rd_T48 l1 x11_1).f2.f1)]) (ok := fun _ => True) (okp := fun _ => True) ?hr ?hp (fun _ hk => hk) trivial (Below.refl _ _) (Nat.le_refl _) (by simp) ?_; (case hd => rfl); (case hg => rfl); (case hr => exact gs_); (case hp => exact (Reps.one (show Kd.M (Kd.int .i64) _ _ _ ((rd_T48 l1 x11_1).f2.f1) [.int .i64 ((rd_T48 l1 x11_1).f2.f1)] from rfl) (Reps.none _ _)))
          intro v171 w13 ho14 hb hg_ hnew_
          clear hg_ hnew_
          (first | rw [← Ny170.out] at ho14 | (simp only [Int.reduceToNat] at ho14; rw [← Ny170.out] at ho14))
          have HO172 := Aside0.mk (Kd.R_lower (Kd.R_new' (Kd.R_new' ho14 (Kd.R_lt (ro_ HO_8))) (Kd.R_lt (ro_ HO_9))) (below_size (be1_ HB GE161)))
          replace HO_8 := Aside0.mk (Kd.R_elder' (ro_ HO_8) (Kd.R_base ho14) hb)
          replace HO_9 := Aside0.mk (Kd.R_elder' (ro_ HO_9) (Kd.R_base ho14) hb)
          replace BK161 := bb_ BK161 hb
          replace HB := bs1_ HB GE161 hb
          clear hb ho14
          refine hK.out _ _ ⟨(cf_ HB hw162_0), (cf_ HB hw162_1), (cf_ HB hw162_2), (cf_ HB hw162_3), (cf_ HB hw162_4), (cf_ HB hw169_0), (cf_ HB hw169_1), (cf_ HB hw169_2), (cf_ HB hw169_3), (cf_ HB hw169_4)⟩ (fun hHeld => ?_)
          clear hK K
          refine norm_ (a' := ?_) ?_ ?_
          rotate_left
          ·show Act.put _ (some 36) _ = _
           simp only [Act.put, List.setIfInBounds_toArray, List.set_cons_zero, List.set_cons_succ, i64_w, i32_w]
           rfl
          refine one_ (i := 7) (N := some 27) (bm_ 20 130815) rfl rfl (one_of HT_.out (by kernel_rfl)) (by decide) (fun K hK => ?_)
          refine Kd.R_lit_step (Kd.int .i64) _ 3 ?hg (N := 27) ?hd (xs := ([(rd_T48 l1 x11_1).f1.f0] : List Int)) (inner := [.int .i64 ((rd_T48 l1 x11_1).f1.f0)]) (ok := fun _ => True) (okp := fun _ => True) ?hr ?hp (fun _ hk => hk) trivial (Below.refl _ _) (Nat.le_refl _) (by simp) ?_; (case hd => rfl); (case hg => rfl); (case hr => exact gs_); (case hp => exact (Reps.one (show Kd.M (Kd.int .i64) _ _ _ ((rd_T48 l1 x11_1).f1.f0) [.int .i64 ((rd_T48 l1 x11_1).f1.f0)] from rfl) (Reps.none _ _)))
          intro v164 w15 ho16 hb hg_ hnew_
          clear hg_ hnew_
          (first | rw [← Ny163.out] at ho16 | (simp only [Int.reduceToNat] at ho16; rw [← Ny163.out] at ho16))
          have HO165 := Aside0.mk (Kd.R_lower (Kd.R_new' (Kd.R_new' (Kd.R_new' ho16 (Kd.R_lt (ro_ HO_8))) (Kd.R_lt (ro_ HO_9))) (Kd.R_lt (ro_ HO172))) (below_size (be1_ HB GE161)))
          replace HO_8 := Aside0.mk (Kd.R_elder' (ro_ HO_8) (Kd.R_base ho16) hb)
          replace HO_9 := Aside0.mk (Kd.R_elder' (ro_ HO_9) (Kd.R_base ho16) hb)
          replace HO172 := Aside0.mk (Kd.R_elder' (ro_ HO172) (Kd.R_base ho16) hb)
          replace BK161 := bb_ BK161 hb
          replace HB := bs1_ HB GE161 hb
          clear hb ho16
          obtain ⟨Ao18, co18, eo18⟩ := Kd.R_slice HO165.out
          (first | subst eo18 | (injection eo18 with f1_ f2_ f3_; have f4_ := f1_.symm; have f5_ := f3_.symm; clear f1_ f2_ f3_; subst f4_; subst f5_))
          refine hK.out _ _ ⟨(cf_ HB hw162_0), (cf_ HB hw162_1), (cf_ HB hw162_2), (cf_ HB hw162_3), (cf_ HB hw162_4), (cf_ HB hw169_0), (cf_ HB hw169_1), (cf_ HB hw169_2), (cf_ HB hw169_3), (cf_ HB hw169_4)⟩ (fun hHeld => ?_)
          clear hK K
          refine norm_ (a' := ?_) ?_ ?_
          rotate_left
          ·show Act.put _ (some 27) _ = _
           simp only [Act.put, List.setIfInBounds_toArray, List.set_cons_zero, List.set_cons_succ, i64_w, i32_w]
           rfl
          refine one_ (i := 8) (N := some 28) (bm_ 20 131071) rfl rfl (one_of HT_.out (by kernel_rfl)) (by decide) (fun K hK => ?_)
          refine Kd.R_append_rows_step (Kd.int .i64) (w0 := w) w.heap.size (by rfl) (.tmp 20) (.tmp 27) 67 3 (.int .i64 0) 8 rfl Tryd.underlying67 info3 rfl (by decide) (by omega) (.slice Ao10 x8_1.length co10) x8_1 y163 _ _ _ (fun k_ => some k_ ≠ (.slice Ao11 x9_1.length co11 : Value).ownBlock ∧ some k_ ≠ (v171 : Value).ownBlock ∧ some k_ ≠ (.slice Ao18 y163.length co18 : Value).ownBlock) (fun _ => False) rfl rfl ?aO ?aR (fun _ _ h => h) (fun _ h => h.elim) ?aF ?aB ?aS ?aL ?_
          (case aR => exact kd_ (Kd.R_reads' HO165.out).2.2)
          (case aB => exact (be1_ HB GE161))
          (case aF => exact (fun k_ hk => ⟨Kd.fresh' (Kd.R_lt (ro_ HO_9)) k_ hk, Kd.fresh' (Kd.R_lt (ro_ HO172)) k_ hk, Kd.fresh' (Kd.R_lt (ro_ HO165)) k_ hk⟩))
          (case aO => exact (by (with_reducible repeat (first | apply Kd.R_alloc | apply Kd.R_drewN | apply Kd.R_drew)); exact Kd.R_mono HO_8.out (fun _ hk => ⟨hk.1.1, ⟨hk.1.2, hk.2⟩⟩)))
          (case aS => exact (below_size (be1_ HB GE161)))
          (case aL => have := LMc8.out; omega)
          intro v167 w17 ho hb hg hat
          rw [← Ny166.out] at ho
          replace HO_9 := Aside0.mk (Kd.R_after (ok := (fun k_ => some k_ ≠ (v171 : Value).ownBlock ∧ some k_ ≠ (.slice Ao18 y163.length co18 : Value).ownBlock)) (by (with_reducible repeat (first | apply Kd.R_alloc | apply Kd.R_drewN | apply Kd.R_drew)); exact Kd.R_mono HO_9.out (fun _ hk => ⟨⟨hk.1.2, hk.2⟩, hk.1.1⟩)) hg hat)
          replace BK161 := Aside0.mk (blk_grown (g := gb161) (o := .cells #[.slice A0_0 l0_0.length c0_0, .slice A0_1 l0_1.length c0_1] 25 (0, 0)) (bk_ BK161) hg (Kd.R_ne HO_8.out BK161.out (by decide)))
          replace HO172 := Aside0.mk (Kd.R_after (ok := (fun k_ => some k_ ≠ (.slice Ao11 x9_1.length co11 : Value).ownBlock ∧ some k_ ≠ (.slice Ao18 y163.length co18 : Value).ownBlock)) (by (with_reducible repeat (first | apply Kd.R_alloc | apply Kd.R_drewN | apply Kd.R_drew)); exact Kd.R_mono HO172.out (fun _ hk => ⟨⟨hk.1.2, hk.2⟩, hk.1.1.2⟩)) hg hat)
          replace HO165 := Aside0.mk (Kd.R_after (ok := (fun k_ => some k_ ≠ (.slice Ao11 x9_1.length co11 : Value).ownBlock ∧ some k_ ≠ (v171 : Value).ownBlock)) (by (with_reducible repeat (first | apply Kd.R_alloc | apply Kd.R_drewN | apply Kd.R_drew)); exact Kd.R_mono HO165.out (fun _ hk => ⟨⟨hk.1.2, hk.2⟩, hk.1.1.2⟩)) hg hat)
          replace HB := Aside0.mk (hb)
          have HO168 := Aside0.mk (ho)
          clear HO_8
          clear ho hb hg hat
          refine hK.out _ _ ⟨(cf_ HB hw162_0), (cf_ HB hw162_1), (cf_ HB hw162_2), (cf_ HB hw162_3), (cf_ HB hw162_4), (cf_ HB hw169_0), (cf_ HB hw169_1), (cf_ HB hw169_2), (cf_ HB hw169_3), (cf_ HB hw169_4)⟩ (fun hHeld => ?_)
          clear hK K
          refine norm_ (a' := ?_) ?_ ?_
          rotate_left
          ·show Act.put _ (some 28) _ = _
           simp only [Act.put, List.setIfInBounds_toArray, List.set_cons_zero, List.set_cons_succ, i64_w, i32_w]
           rfl
          exact norm_ (by simp only [putAll, Act.put, List.setIfInBounds_toArray, List.set_cons_zero, List.set_cons_succ]) (hCont (.slice Ao18 y163.length co18, v167, v171) _ ⟨hHeld, (by (with_reducible repeat (first | apply Kd.R_alloc | apply Kd.R_drewN | apply Kd.R_drew)); exact Kd.R_mono HO165.out (fun _ hk => ⟨hk.2, ⟨hk.1.2, hk.1.1⟩⟩)), (by (with_reducible repeat (first | apply Kd.R_alloc | apply Kd.R_drewN | apply Kd.R_drew)); exact Kd.R_mono HO168.out (fun _ hk => ⟨hk.2.2, ⟨hk.2.1, hk.1⟩⟩)), (by (with_reducible repeat (first | apply Kd.R_alloc | apply Kd.R_drewN | apply Kd.R_drew)); exact Kd.R_mono HO172.out (fun _ hk => ⟨hk.1.2, ⟨hk.2, hk.1.1⟩⟩)), (by (with_reducible repeat (first | apply Kd.R_alloc | apply Kd.R_drewN | apply Kd.R_drew)); exact Kd.R_mono HO_9.out (fun _ hk => ⟨hk.1.2, ⟨hk.2, hk.1.1⟩⟩)), (bk_ BK161), (be1_ HB GE161)⟩)
        rintro ⟨v164, v167, v171⟩ w19 ⟨hS_, h0_, h1_, h2_, h3_, h4_, h5_⟩
        have HO165 : Aside0 (Kd.R (Kd.int .i64) 3 w19 w.heap.size (fun k_ => some k_ ≠ (v167 : Value).ownBlock ∧ some k_ ≠ (v171 : Value).ownBlock ∧ some k_ ≠ (.slice Ao11 x9_1.length co11 : Value).ownBlock) v164 y163) := ⟨h0_⟩
        have HO168 : Aside0 (Kd.R (Kd.int .i64) 3 w19 w.heap.size (fun k_ => some k_ ≠ (v164 : Value).ownBlock ∧ some k_ ≠ (v171 : Value).ownBlock ∧ some k_ ≠ (.slice Ao11 x9_1.length co11 : Value).ownBlock) v167 y166) := ⟨h1_⟩
        have HO172 : Aside0 (Kd.R (Kd.int .i64) 3 w19 w.heap.size (fun k_ => some k_ ≠ (v164 : Value).ownBlock ∧ some k_ ≠ (v167 : Value).ownBlock ∧ some k_ ≠ (.slice Ao11 x9_1.length co11 : Value).ownBlock) v171 y170) := ⟨h2_⟩
        replace HO_9 : Aside0 (Kd.R (Kd.int .i64) 3 w19 w.heap.size (fun k_ => some k_ ≠ (v164 : Value).ownBlock ∧ some k_ ≠ (v167 : Value).ownBlock ∧ some k_ ≠ (v171 : Value).ownBlock) (.slice Ao11 x9_1.length co11) x9_1) := ⟨h3_⟩
        replace BK161 : Aside0 (w19.heap[gb161]? = some (.cells #[.slice A0_0 l0_0.length c0_0, .slice A0_1 l0_1.length c0_1] 25 (0, 0))) := ⟨h4_⟩
        replace HB : Aside0 (Below w.heap.size w w19) := ⟨h5_⟩
        clear HO_8 h0_ h1_ h2_ h3_ h4_ h5_
        have hHeld : w19.cell? (ad162.add ((x11_1).toNat * 5)) = some (.int .i64 ((rd_T48 l1 x11_1).f0)) ∧ w19.cell? ⟨(ad162.add ((x11_1).toNat * 5)).block, (ad162.add ((x11_1).toNat * 5)).off + 1, none⟩ = some (.int .i64 ((rd_T48 l1 x11_1).f1.f0)) ∧ w19.cell? ⟨(ad162.add ((x11_1).toNat * 5)).block, (ad162.add ((x11_1).toNat * 5)).off + 2, none⟩ = some (.int .i64 ((rd_T48 l1 x11_1).f1.f1)) ∧ w19.cell? ⟨(ad162.add ((x11_1).toNat * 5)).block, (ad162.add ((x11_1).toNat * 5)).off + 3, none⟩ = some (.int .i64 ((rd_T48 l1 x11_1).f2.f0)) ∧ w19.cell? ⟨(ad162.add ((x11_1).toNat * 5)).block, (ad162.add ((x11_1).toNat * 5)).off + 4, none⟩ = some (.int .i64 ((rd_T48 l1 x11_1).f2.f1)) ∧ w19.cell? (ad162.add ((x11_1).toNat * 5)) = some (.int .i64 ((rd_T48 l1 x11_1).f0)) ∧ w19.cell? ⟨(ad162.add ((x11_1).toNat * 5)).block, (ad162.add ((x11_1).toNat * 5)).off + 1, none⟩ = some (.int .i64 ((rd_T48 l1 x11_1).f1.f0)) ∧ w19.cell? ⟨(ad162.add ((x11_1).toNat * 5)).block, (ad162.add ((x11_1).toNat * 5)).off + 2, none⟩ = some (.int .i64 ((rd_T48 l1 x11_1).f1.f1)) ∧ w19.cell? ⟨(ad162.add ((x11_1).toNat * 5)).block, (ad162.add ((x11_1).toNat * 5)).off + 3, none⟩ = some (.int .i64 ((rd_T48 l1 x11_1).f2.f0)) ∧ w19.cell? ⟨(ad162.add ((x11_1).toNat * 5)).block, (ad162.add ((x11_1).toNat * 5)).off + 4, none⟩ = some (.int .i64 ((rd_T48 l1 x11_1).f2.f1)) := hS_
        obtain ⟨Ao21, co21, eo21⟩ := Kd.R_slice HO172.out
        (first | subst eo21 | (injection eo21 with f1_ f2_ f3_; have f4_ := f1_.symm; have f5_ := f3_.symm; clear f1_ f2_ f3_; subst f4_; subst f5_))
        refine norm_ (a' := ?_) ?_ ?_
        rotate_left
        ·simp only [putAll, Act.put, List.setIfInBounds_toArray, List.set_cons_zero, List.set_cons_succ]
         rfl
        refine one_ (i := 17) (N := some 37) (bm_ 20 262143) rfl rfl (one_of HT_.out (by kernel_rfl)) (by decide) (fun K hK => ?_)
        refine Kd.R_append_rows_step (Kd.int .i64) (w0 := w) w.heap.size (by rfl) (.tmp 29) (.tmp 36) 67 3 (.int .i64 0) 8 rfl Tryd.underlying67 info3 rfl (by decide) (by omega) (.slice Ao11 x9_1.length co11) x9_1 y170 _ _ _ (fun k_ => some k_ ≠ (v164 : Value).ownBlock ∧ some k_ ≠ (v167 : Value).ownBlock ∧ some k_ ≠ (.slice Ao21 y170.length co21 : Value).ownBlock) (fun _ => False) rfl rfl ?aO ?aR (fun _ _ h => h) (fun _ h => h.elim) ?aF ?aB ?aS ?aL ?_
        (case aR => exact kd_ (Kd.R_reads' HO172.out).2.2)
        (case aB => exact (be1_ HB GE161))
        (case aF => exact (fun k_ hk => ⟨Kd.fresh' (Kd.R_lt (ro_ HO165)) k_ hk, Kd.fresh' (Kd.R_lt (ro_ HO168)) k_ hk, Kd.fresh' (Kd.R_lt (ro_ HO172)) k_ hk⟩))
        (case aO => exact (ro_ HO_9))
        (case aS => exact (below_size (be1_ HB GE161)))
        (case aL => have := LMc9.out; omega)
        intro v174 w20 ho hb hg hat
        rw [← Ny173.out] at ho
        replace BK161 := Aside0.mk (blk_grown (g := gb161) (o := .cells #[.slice A0_0 l0_0.length c0_0, .slice A0_1 l0_1.length c0_1] 25 (0, 0)) (bk_ BK161) hg (Kd.R_ne HO_9.out BK161.out (by decide)))
        replace HO165 := Aside0.mk (Kd.R_after (ok := (fun k_ => some k_ ≠ (v167 : Value).ownBlock ∧ some k_ ≠ (.slice Ao21 y170.length co21 : Value).ownBlock)) (by (with_reducible repeat (first | apply Kd.R_alloc | apply Kd.R_drewN | apply Kd.R_drew)); exact Kd.R_mono HO165.out (fun _ hk => ⟨⟨hk.1, hk.2.1⟩, hk.2.2⟩)) hg hat)
        replace HO168 := Aside0.mk (Kd.R_after (ok := (fun k_ => some k_ ≠ (v164 : Value).ownBlock ∧ some k_ ≠ (.slice Ao21 y170.length co21 : Value).ownBlock)) (by (with_reducible repeat (first | apply Kd.R_alloc | apply Kd.R_drewN | apply Kd.R_drew)); exact Kd.R_mono HO168.out (fun _ hk => ⟨⟨hk.1, hk.2.1⟩, hk.2.2⟩)) hg hat)
        replace HO172 := Aside0.mk (Kd.R_after (ok := (fun k_ => some k_ ≠ (v164 : Value).ownBlock ∧ some k_ ≠ (v167 : Value).ownBlock)) (by (with_reducible repeat (first | apply Kd.R_alloc | apply Kd.R_drewN | apply Kd.R_drew)); exact Kd.R_mono HO172.out (fun _ hk => ⟨⟨hk.1, hk.2.1⟩, hk.2.2⟩)) hg hat)
        replace HB := Aside0.mk (hb)
        have HO175 := Aside0.mk (ho)
        clear HO_9
        clear ho hb hg hat
        refine hK.out _ _ ⟨(cf_ HB hw162_0), (cf_ HB hw162_1), (cf_ HB hw162_2), (cf_ HB hw162_3), (cf_ HB hw162_4), (cf_ HB hw169_0), (cf_ HB hw169_1), (cf_ HB hw169_2), (cf_ HB hw169_3), (cf_ HB hw169_4)⟩ (fun hHeld => ?_)
        clear hK K
        refine norm_ (a' := ?_) ?_ ?_
        rotate_left
        ·show Act.put _ (some 37) _ = _
         simp only [Act.put, List.setIfInBounds_toArray, List.set_cons_zero, List.set_cons_succ, i64_w, i32_w]
         rfl
        refine pure_ (i := 18) (N := some 8) (v := ?_) (a' := ?_) (bm_ 20 524287) rfl rfl (any_of HT_.out (by kernel_rfl)) (fun _ _ _ h => h) (Or.inl ⟨by rfl, ?_⟩) ?_ ?_
        rotate_left
        ·intro w'
         go_simp
         with_reducible rfl
        rotate_left
        ·exact pt_
        refine pure_ (i := 19) (N := some 9) (v := ?_) (a' := ?_) (bm_ 20 1048575) rfl rfl (any_of HT_.out (by kernel_rfl)) (fun _ _ _ h => h) (Or.inl ⟨by rfl, ?_⟩) ?_ ?_
        rotate_left
        ·intro w'
         go_simp
         with_reducible rfl
        rotate_left
        ·exact pt_
        refine done_ (done_of HT_.out (by kernel_rfl)) ?_
        try go_wp2
        go_roundg k1
        case measure => have := HK1.out; omega
        case rel => exact ⟨(y166), (y173), (wrap64 (x11_1 + 1)), (by first | rfl | (simp; done) | (simp [*]; done)), H', ⟨by have := HK1.out; omega⟩, ⟨by (with_reducible repeat (first | apply Kd.R_alloc | apply Kd.R_drewN | apply Kd.R_drew)); exact Kd.R_mono HO168.out (fun _ hk => hk.2)⟩, ⟨by (with_reducible repeat (first | apply Kd.R_alloc | apply Kd.R_drewN | apply Kd.R_drew)); exact Kd.R_mono HO175.out (fun _ hk => hk.2.1)⟩, ⟨by refine bx_ ?_; exact BK161.out⟩, ⟨be1_ HB GE161⟩⟩
       ·rw [if_neg c9] at H
        exact absurd H (by simp)
      ·rw [if_neg c8] at H
       exact absurd H (by simp)
     ·rw [if_neg c7] at H
      exact absurd H (by simp)
    ·replace c6 := Bool.eq_false_iff.mpr c6
     subst c6
     have H1 : (if 0 ≤ x11_1 then ((some (([(rd_T48 l1 x11_1).f1.f1] : List Int) : List Int)).bind fun y177 => (if x8_1.length + y177.length < 17592186044416 then ((some (([(rd_T48 l1 x11_1).f2.f0] : List Int) : List Int)).bind fun y184 => (if x9_1.length + y184.length < 17592186044416 then (cottonpadref06_Ends.l0 k1 l1 false (x8_1 ++ y177) (x9_1 ++ y184) (wrap64 (x11_1 + 1)) l0_0 l0_1) else (none))) else (none))) else (none)) = some (r1, r2) := by rw [if_neg (show ¬ (false = true) by decide)] at H; exact H
     clear H
     have H := H1
     clear H1
     by_cases c22 : 0 ≤ x11_1
     ·rw [if_pos c22] at H
      have c22b0 : decide (0 ≤ x11_1) = true := decide_eq_true c22
      clear c22
      obtain ⟨y177, hy177⟩ : ∃ y_ : List Int, y_ = (([(rd_T48 l1 x11_1).f1.f1] : List Int)) := ⟨_, rfl⟩
      replace H : (if x8_1.length + y177.length < 17592186044416 then ((some (([(rd_T48 l1 x11_1).f2.f0] : List Int) : List Int)).bind fun y184 => (if x9_1.length + y184.length < 17592186044416 then (cottonpadref06_Ends.l0 k1 l1 false (x8_1 ++ y177) (x9_1 ++ y184) (wrap64 (x11_1 + 1)) l0_0 l0_1) else (none))) else (none)) = some (r1, r2) := by first | (rw [hy177]; with_reducible exact H) | (have H2_ := (Option.bind_some _ _).symm.trans H; rw [hy177]; with_reducible exact H2_) | (have H2_ := (Option.bind_some _ _).symm.trans H; with_reducible exact H2_) | with_reducible exact H | (rw [hy177]; exact H) | exact H
      have Ny177 := Aside0.mk hy177
      clear hy177
      by_cases c23 : x8_1.length + y177.length < 17592186044416
      ·rw [if_pos c23] at H
       have LMc23 := Aside0.mk c23
       clear c23
       obtain ⟨y180, hy180⟩ : ∃ y_ : List Int, y_ = (x8_1 ++ y177) := ⟨_, rfl⟩
       replace H : ((some (([(rd_T48 l1 x11_1).f2.f0] : List Int) : List Int)).bind fun y184 => (if x9_1.length + y184.length < 17592186044416 then (cottonpadref06_Ends.l0 k1 l1 false y180 (x9_1 ++ y184) (wrap64 (x11_1 + 1)) l0_0 l0_1) else (none))) = some (r1, r2) := by first | (rw [hy180]; with_reducible exact H) | (have H2_ := (Option.bind_some _ _).symm.trans H; rw [hy180]; with_reducible exact H2_) | (have H2_ := (Option.bind_some _ _).symm.trans H; with_reducible exact H2_) | with_reducible exact H | (rw [hy180]; exact H) | exact H
       have Ny180 := Aside0.mk hy180
       clear hy180
       obtain ⟨y184, hy184⟩ : ∃ y_ : List Int, y_ = (([(rd_T48 l1 x11_1).f2.f0] : List Int)) := ⟨_, rfl⟩
       replace H : (if x9_1.length + y184.length < 17592186044416 then (cottonpadref06_Ends.l0 k1 l1 false y180 (x9_1 ++ y184) (wrap64 (x11_1 + 1)) l0_0 l0_1) else (none)) = some (r1, r2) := by first | (rw [hy184]; with_reducible exact H) | (have H2_ := (Option.bind_some _ _).symm.trans H; rw [hy184]; with_reducible exact H2_) | (have H2_ := (Option.bind_some _ _).symm.trans H; with_reducible exact H2_) | with_reducible exact H | (rw [hy184]; exact H) | exact H
       have Ny184 := Aside0.mk hy184
       clear hy184
       by_cases c24 : x9_1.length + y184.length < 17592186044416
       ·rw [if_pos c24] at H
        have LMc24 := Aside0.mk c24
        clear c24
        obtain ⟨y187, hy187⟩ : ∃ y_ : List Int, y_ = (x9_1 ++ y184) := ⟨_, rfl⟩
        replace H : (cottonpadref06_Ends.l0 k1 l1 false y180 y187 (wrap64 (x11_1 + 1)) l0_0 l0_1) = some (r1, r2) := by first | (rw [hy187]; with_reducible exact H) | (have H2_ := (Option.bind_some _ _).symm.trans H; rw [hy187]; with_reducible exact H2_) | (have H2_ := (Option.bind_some _ _).symm.trans H; with_reducible exact H2_) | with_reducible exact H | (rw [hy187]; exact H) | exact H
        have Ny187 := Aside0.mk hy187
        clear hy187
        have H' := Aside0.mk H
        clear H
        obtain ⟨Ao25, co25, eo25⟩ := Kd.R_slice HO_8.out
        subst eo25
        obtain ⟨Ao26, co26, eo26⟩ := Kd.R_slice HO_9.out
        subst eo26
        try go_wp2
        replace HO_8 := Aside0.mk (Kd.R_drew HO_8.out)
        replace HO_9 := Aside0.mk (Kd.R_drew HO_9.out)
        replace BK161 := Aside0.mk (blk_drew BK161.out)
        replace HB := Aside0.mk (below_drew1 HB.out)
        have p176 : 0 ≤ (x11_1 : Int) := of_decide_eq_true as_
        have q176 : x11_1 < (l1.length : Int) := of_decide_eq_true as_
        obtain ⟨ad176, e176, hx176_0, hx176_1, hx176_2, hx176_3, hx176_4⟩ := at_T48 HR1.out x11_1 p176 q176
        have hw176_4 := hx176_4
        have hw176_3 := hx176_3
        have hw176_2 := hx176_2
        have hw176_1 := hx176_1
        have hw176_0 := hx176_0
        cases e176
        try replace hx176_0 := ce_ HB hx176_0
        try replace hx176_1 := ce_ HB hx176_1
        try replace hx176_2 := ce_ HB hx176_2
        try replace hx176_3 := ce_ HB hx176_3
        try replace hx176_4 := ce_ HB hx176_4
        replace p176 := eq_true p176
        replace q176 := eq_true q176
        have p183 : 0 ≤ (x11_1 : Int) := of_decide_eq_true as_
        have q183 : x11_1 < (l1.length : Int) := of_decide_eq_true as_
        obtain ⟨ad183, e183, hx183_0, hx183_1, hx183_2, hx183_3, hx183_4⟩ := at_T48 HR1.out x11_1 p183 q183
        have hw183_4 := hx183_4
        have hw183_3 := hx183_3
        have hw183_2 := hx183_2
        have hw183_1 := hx183_1
        have hw183_0 := hx183_0
        obtain rfl : ad176 = ad183 := (by injection e183)
        try replace hx183_0 := ce_ HB hx183_0
        try replace hx183_1 := ce_ HB hx183_1
        try replace hx183_2 := ce_ HB hx183_2
        try replace hx183_3 := ce_ HB hx183_3
        try replace hx183_4 := ce_ HB hx183_4
        replace p183 := eq_true p183
        replace q183 := eq_true q183
        refine start_ (n := 20) (S := fun w' => w'.cell? (ad176.add ((x11_1).toNat * 5)) = some (.int .i64 ((rd_T48 l1 x11_1).f0)) ∧ w'.cell? ⟨(ad176.add ((x11_1).toNat * 5)).block, (ad176.add ((x11_1).toNat * 5)).off + 1, none⟩ = some (.int .i64 ((rd_T48 l1 x11_1).f1.f0)) ∧ w'.cell? ⟨(ad176.add ((x11_1).toNat * 5)).block, (ad176.add ((x11_1).toNat * 5)).off + 2, none⟩ = some (.int .i64 ((rd_T48 l1 x11_1).f1.f1)) ∧ w'.cell? ⟨(ad176.add ((x11_1).toNat * 5)).block, (ad176.add ((x11_1).toNat * 5)).off + 3, none⟩ = some (.int .i64 ((rd_T48 l1 x11_1).f2.f0)) ∧ w'.cell? ⟨(ad176.add ((x11_1).toNat * 5)).block, (ad176.add ((x11_1).toNat * 5)).off + 4, none⟩ = some (.int .i64 ((rd_T48 l1 x11_1).f2.f1)) ∧ w'.cell? (ad176.add ((x11_1).toNat * 5)) = some (.int .i64 ((rd_T48 l1 x11_1).f0)) ∧ w'.cell? ⟨(ad176.add ((x11_1).toNat * 5)).block, (ad176.add ((x11_1).toNat * 5)).off + 1, none⟩ = some (.int .i64 ((rd_T48 l1 x11_1).f1.f0)) ∧ w'.cell? ⟨(ad176.add ((x11_1).toNat * 5)).block, (ad176.add ((x11_1).toNat * 5)).off + 2, none⟩ = some (.int .i64 ((rd_T48 l1 x11_1).f1.f1)) ∧ w'.cell? ⟨(ad176.add ((x11_1).toNat * 5)).block, (ad176.add ((x11_1).toNat * 5)).off + 3, none⟩ = some (.int .i64 ((rd_T48 l1 x11_1).f2.f0)) ∧ w'.cell? ⟨(ad176.add ((x11_1).toNat * 5)).block, (ad176.add ((x11_1).toNat * 5)).off + 4, none⟩ = some (.int .i64 ((rd_T48 l1 x11_1).f2.f1))) (ds := []) (bm_ 20 0) (by kernel_rfl) rfl rfl ⟨(cf_ HB hw176_0), (cf_ HB hw176_1), (cf_ HB hw176_2), (cf_ HB hw176_3), (cf_ HB hw176_4), (cf_ HB hw183_0), (cf_ HB hw183_1), (cf_ HB hw183_2), (cf_ HB hw183_3), (cf_ HB hw183_4)⟩ (fun hHeld => ?_); refine with_tabW cottonpadref06_Ends.tab7 cottonpadref06_Ends.bits7 (fun HT_ HW_ => ?_)
        generalize wr.drew = w27 at HO_8 HO_9 BK161 HB hx176_0 hx176_1 hx176_2 hx176_3 hx176_4 hx183_0 hx183_1 hx183_2 hx183_3 hx183_4 hHeld ⊢
        refine pure_ (i := 0) (N := some 38) (v := ?_) (a' := ?_) (bm_ 20 1) rfl rfl (any_of HT_.out (by kernel_rfl)) (fun _ _ _ h => h) (Or.inl ⟨by rfl, ?_⟩) ?_ ?_
        rotate_left
        ·intro w'
         go_simp
         with_reducible rfl
        rotate_left
        ·exact pt_
        refine pure_ (i := 1) (N := some 39) (v := ?_) (a' := ?_) (bm_ 20 3) rfl rfl (any_of HT_.out (by kernel_rfl)) (fun _ _ _ h => h) (Or.inl ⟨by rfl, ?_⟩) ?_ ?_
        rotate_left
        ·intro w'
         go_simp
         with_reducible rfl
        rotate_left
        ·exact pt_
        refine pure_ (i := 2) (N := some 40) (v := ?_) (a' := ?_) (bm_ 20 7) rfl rfl (any_of HT_.out (by kernel_rfl)) (fun _ _ _ h => h) (Or.inl ⟨by rfl, ?_⟩) ?_ ?_
        rotate_left
        ·intro w'
         go_simp
         with_reducible rfl
        rotate_left
        ·exact pt_
        refine pure_ (i := 3) (N := some 41) (v := ?_) (a' := ?_) (bm_ 20 15) rfl rfl (any_of HT_.out (by kernel_rfl)) (fun _ _ _ h => h) (Or.inl ⟨by rfl, ?_⟩) ?_ ?_
        rotate_left
        ·intro w'
         go_simp
         with_reducible rfl
        rotate_left
        ·exact pt_
        refine pure_ (i := 4) (N := some 42) (v := ?_) (a' := ?_) (bm_ 20 31) rfl rfl (any_of HT_.out (by kernel_rfl)) (fun _ _ _ h => h) (Or.inl ⟨by rfl, ?_⟩) ?_ ?_
        rotate_left
        ·intro w'
         go_simp
         with_reducible rfl
        rotate_left
        ·exact pt_
        refine pure_ (i := 5) (N := some 43) (v := ?_) (a' := ?_) (bm_ 20 63) rfl rfl (any_of HT_.out (by kernel_rfl)) (fun _ _ _ h => h) (Or.inl ⟨by rfl, ?_⟩) ?_ ?_
        rotate_left
        ·intro w'
         go_simp
         with_reducible rfl
        rotate_left
        ·exact pt_
        refine pure_ (i := 9) (N := some 47) (v := ?_) (a' := ?_) (bm_ 20 575) rfl rfl (any_of HT_.out (by kernel_rfl)) (fun _ _ _ h => h) (Or.inl ⟨by rfl, ?_⟩) ?_ ?_
        rotate_left
        ·intro w'
         go_simp
         with_reducible rfl
        rotate_left
        ·exact pt_
        refine pure_ (i := 10) (N := some 48) (v := ?_) (a' := ?_) (bm_ 20 1599) rfl rfl (any_of HT_.out (by kernel_rfl)) (fun _ _ _ h => h) (Or.inl ⟨by rfl, ?_⟩) ?_ ?_
        rotate_left
        ·intro w'
         go_simp
         with_reducible rfl
        rotate_left
        ·exact pt_
        refine pure_ (i := 11) (N := some 49) (v := ?_) (a' := ?_) (bm_ 20 3647) rfl rfl (any_of HT_.out (by kernel_rfl)) (fun _ _ _ h => h) (Or.inl ⟨by rfl, ?_⟩) ?_ ?_
        rotate_left
        ·intro w'
         go_simp
         with_reducible rfl
        rotate_left
        ·exact pt_
        refine pure_ (i := 12) (N := some 50) (v := ?_) (a' := ?_) (bm_ 20 7743) rfl rfl (any_of HT_.out (by kernel_rfl)) (fun _ _ _ h => h) (Or.inl ⟨by rfl, ?_⟩) ?_ ?_
        rotate_left
        ·intro w'
         go_simp
         with_reducible rfl
        rotate_left
        ·exact pt_
        refine pure_ (i := 13) (N := some 51) (v := ?_) (a' := ?_) (bm_ 20 15935) rfl rfl (any_of HT_.out (by kernel_rfl)) (fun _ _ _ h => h) (Or.inl ⟨by rfl, ?_⟩) ?_ ?_
        rotate_left
        ·intro w'
         go_simp
         with_reducible rfl
        rotate_left
        ·exact pt_
        refine pure_ (i := 14) (N := some 52) (v := ?_) (a' := ?_) (bm_ 20 32319) rfl rfl (any_of HT_.out (by kernel_rfl)) (fun _ _ _ h => h) (Or.inl ⟨by rfl, ?_⟩) ?_ ?_
        rotate_left
        ·intro w'
         go_simp
         with_reducible rfl
        rotate_left
        ·exact pt_
        refine take_ (i := 6) (N := some 44) (v := ?_) (a' := ?_) (bm_ 20 32383) rfl rfl (take_ofW HT_.out HW_.out (by kernel_rfl)) (fun _ _ _ h => h) (Or.inl ⟨by rfl, ?_⟩) hHeld ?_ ?_
        rotate_left
        ·rintro w' ⟨s0, s1, s2, s3, s4, s5, s6, s7, s8, s9⟩
         go_simp
         with_reducible rfl
        rotate_left
        ·exact pt_
        refine take_ (i := 15) (N := some 53) (v := ?_) (a' := ?_) (bm_ 20 65151) rfl rfl (take_ofW HT_.out HW_.out (by kernel_rfl)) (fun _ _ _ h => h) (Or.inl ⟨by rfl, ?_⟩) hHeld ?_ ?_
        rotate_left
        ·rintro w' ⟨s0, s1, s2, s3, s4, s5, s6, s7, s8, s9⟩
         go_simp
         with_reducible rfl
        rotate_left
        ·exact pt_
        refine join_ (σ := Value × Value × Value) 3 (bm_ 20 131071) (fun s_ => [(45, s_.1), (46, s_.2.1), (54, s_.2.2)]) (fun s_ w' => (w'.cell? (ad176.add ((x11_1).toNat * 5)) = some (.int .i64 ((rd_T48 l1 x11_1).f0)) ∧ w'.cell? ⟨(ad176.add ((x11_1).toNat * 5)).block, (ad176.add ((x11_1).toNat * 5)).off + 1, none⟩ = some (.int .i64 ((rd_T48 l1 x11_1).f1.f0)) ∧ w'.cell? ⟨(ad176.add ((x11_1).toNat * 5)).block, (ad176.add ((x11_1).toNat * 5)).off + 2, none⟩ = some (.int .i64 ((rd_T48 l1 x11_1).f1.f1)) ∧ w'.cell? ⟨(ad176.add ((x11_1).toNat * 5)).block, (ad176.add ((x11_1).toNat * 5)).off + 3, none⟩ = some (.int .i64 ((rd_T48 l1 x11_1).f2.f0)) ∧ w'.cell? ⟨(ad176.add ((x11_1).toNat * 5)).block, (ad176.add ((x11_1).toNat * 5)).off + 4, none⟩ = some (.int .i64 ((rd_T48 l1 x11_1).f2.f1)) ∧ w'.cell? (ad176.add ((x11_1).toNat * 5)) = some (.int .i64 ((rd_T48 l1 x11_1).f0)) ∧ w'.cell? ⟨(ad176.add ((x11_1).toNat * 5)).block, (ad176.add ((x11_1).toNat * 5)).off + 1, none⟩ = some (.int .i64 ((rd_T48 l1 x11_1).f1.f0)) ∧ w'.cell? ⟨(ad176.add ((x11_1).toNat * 5)).block, (ad176.add ((x11_1).toNat * 5)).off + 2, none⟩ = some (.int .i64 ((rd_T48 l1 x11_1).f1.f1)) ∧ w'.cell? ⟨(ad176.add ((x11_1).toNat * 5)).block, (ad176.add ((x11_1).toNat * 5)).off + 3, none⟩ = some (.int .i64 ((rd_T48 l1 x11_1).f2.f0)) ∧ w'.cell? ⟨(ad176.add ((x11_1).toNat * 5)).block, (ad176.add ((x11_1).toNat * 5)).off + 4, none⟩ = some (.int .i64 ((rd_T48 l1 x11_1).f2.f1))) ∧ (Kd.R (Kd.int .i64) 3 w' w.heap.size (fun k_ => some k_ ≠ (s_.2.1 : Value).ownBlock ∧ some k_ ≠ (s_.2.2 : Value).ownBlock ∧ some k_ ≠ (.slice Ao26 x9_1.length co26 : Value).ownBlock) s_.1 y177) ∧ (Kd.R (Kd.int .i64) 3 w' w.heap.size (fun k_ => some k_ ≠ (s_.1 : Value).ownBlock ∧ some k_ ≠ (s_.2.2 : Value).ownBlock ∧ some k_ ≠ (.slice Ao26 x9_1.length co26 : Value).ownBlock) s_.2.1 y180) ∧ (Kd.R (Kd.int .i64) 3 w' w.heap.size (fun k_ => some k_ ≠ (s_.1 : Value).ownBlock ∧ some k_ ≠ (s_.2.1 : Value).ownBlock ∧ some k_ ≠ (.slice Ao26 x9_1.length co26 : Value).ownBlock) s_.2.2 y184) ∧ (Kd.R (Kd.int .i64) 3 w' w.heap.size (fun k_ => some k_ ≠ (s_.1 : Value).ownBlock ∧ some k_ ≠ (s_.2.1 : Value).ownBlock ∧ some k_ ≠ (s_.2.2 : Value).ownBlock) (.slice Ao26 x9_1.length co26) x9_1) ∧ (w'.heap[gb161]? = some (.cells #[.slice A0_0 l0_0.length c0_0, .slice A0_1 l0_1.length c0_1] 25 (0, 0))) ∧ (Below w.heap.size w w')) ?_ ?_
        rotate_left
        ·intro hCont
         refine two_ (i := 7) (j := 16) (Ni := some 45) (Nj := some 54) (bm_ 20 65279) (bm_ 20 130687) rfl rfl rfl rfl (two_of HT_.out (by kernel_rfl)) (by decide) (by decide) (fun K hK => ?_) (fun K hK => ?_)
         ·skip
          refine Kd.R_lit_step (Kd.int .i64) _ 3 ?hg (N := 45) ?hd (xs := ([(rd_T48 l1 x11_1).f1.f1] : List Int)) (inner := [.int .i64 ((rd_T48 l1 x11_1).f1.f1)]) (ok := fun _ => True) (okp := fun _ => True) ?hr ?hp (fun _ hk => hk) trivial (Below.refl _ _) (Nat.le_refl _) (by simp) ?_; (case hd => rfl); (case hg => rfl); (case hr => exact gs_); (case hp => exact (Reps.one (show Kd.M (Kd.int .i64) _ _ _ ((rd_T48 l1 x11_1).f1.f1) [.int .i64 ((rd_T48 l1 x11_1).f1.f1)] from rfl) (Reps.none _ _)))
          intro v178 w28 ho29 hb hg_ hnew_
          clear hg_ hnew_
          (first | rw [← Ny177.out] at ho29 | (simp only [Int.reduceToNat] at ho29; rw [← Ny177.out] at ho29))
          have HO179 := Aside0.mk (Kd.R_lower (Kd.R_new' (Kd.R_new' ho29 (Kd.R_lt (ro_ HO_8))) (Kd.R_lt (ro_ HO_9))) (below_size (be1_ HB GE161)))
          replace HO_8 := Aside0.mk (Kd.R_elder' (ro_ HO_8) (Kd.R_base ho29) hb)
          replace HO_9 := Aside0.mk (Kd.R_elder' (ro_ HO_9) (Kd.R_base ho29) hb)
          replace BK161 := bb_ BK161 hb
          replace HB := bs1_ HB GE161 hb
          clear hb ho29
          obtain ⟨Ao31, co31, eo31⟩ := Kd.R_slice HO179.out
          (first | subst eo31 | (injection eo31 with f1_ f2_ f3_; have f4_ := f1_.symm; have f5_ := f3_.symm; clear f1_ f2_ f3_; subst f4_; subst f5_))
          refine hK.out _ _ ⟨(cf_ HB hw176_0), (cf_ HB hw176_1), (cf_ HB hw176_2), (cf_ HB hw176_3), (cf_ HB hw176_4), (cf_ HB hw183_0), (cf_ HB hw183_1), (cf_ HB hw183_2), (cf_ HB hw183_3), (cf_ HB hw183_4)⟩ (fun hHeld => ?_)
          clear hK K
          refine norm_ (a' := ?_) ?_ ?_
          rotate_left
          ·show Act.put _ (some 45) _ = _
           simp only [Act.put, List.setIfInBounds_toArray, List.set_cons_zero, List.set_cons_succ, i64_w, i32_w]
           rfl
          refine two_ (i := 8) (j := 16) (Ni := some 46) (Nj := some 54) (bm_ 20 65535) (bm_ 20 130815) rfl rfl rfl rfl (two_of HT_.out (by kernel_rfl)) (by decide) (by decide) (fun K hK => ?_) (fun K hK => ?_)
          ·skip
           refine Kd.R_append_rows_step (Kd.int .i64) (w0 := w) w.heap.size (by rfl) (.tmp 38) (.tmp 45) 67 3 (.int .i64 0) 8 rfl Tryd.underlying67 info3 rfl (by decide) (by omega) (.slice Ao25 x8_1.length co25) x8_1 y177 _ _ _ (fun k_ => some k_ ≠ (.slice Ao26 x9_1.length co26 : Value).ownBlock ∧ some k_ ≠ (.slice Ao31 y177.length co31 : Value).ownBlock) (fun _ => False) rfl rfl ?aO ?aR (fun _ _ h => h) (fun _ h => h.elim) ?aF ?aB ?aS ?aL ?_
           (case aR => exact kd_ (Kd.R_reads' HO179.out).2.2)
           (case aB => exact (be1_ HB GE161))
           (case aF => exact (fun k_ hk => ⟨Kd.fresh' (Kd.R_lt (ro_ HO_9)) k_ hk, Kd.fresh' (Kd.R_lt (ro_ HO179)) k_ hk⟩))
           (case aO => exact (ro_ HO_8))
           (case aS => exact (below_size (be1_ HB GE161)))
           (case aL => have := LMc23.out; omega)
           intro v181 w30 ho hb hg hat
           rw [← Ny180.out] at ho
           replace HO_9 := Aside0.mk (Kd.R_after (ok := (fun k_ => some k_ ≠ (.slice Ao31 y177.length co31 : Value).ownBlock)) (by (with_reducible repeat (first | apply Kd.R_alloc | apply Kd.R_drewN | apply Kd.R_drew)); exact Kd.R_mono HO_9.out (fun _ hk => ⟨hk.2, hk.1⟩)) hg hat)
           replace BK161 := Aside0.mk (blk_grown (g := gb161) (o := .cells #[.slice A0_0 l0_0.length c0_0, .slice A0_1 l0_1.length c0_1] 25 (0, 0)) (bk_ BK161) hg (Kd.R_ne HO_8.out BK161.out (by decide)))
           replace HO179 := Aside0.mk (Kd.R_after (ok := (fun k_ => some k_ ≠ (.slice Ao26 x9_1.length co26 : Value).ownBlock)) (by (with_reducible repeat (first | apply Kd.R_alloc | apply Kd.R_drewN | apply Kd.R_drew)); exact Kd.R_mono HO179.out (fun _ hk => ⟨hk.2, hk.1.2⟩)) hg hat)
           replace HB := Aside0.mk (hb)
           have HO182 := Aside0.mk (ho)
           clear HO_8
           clear ho hb hg hat
           refine hK.out _ _ ⟨(cf_ HB hw176_0), (cf_ HB hw176_1), (cf_ HB hw176_2), (cf_ HB hw176_3), (cf_ HB hw176_4), (cf_ HB hw183_0), (cf_ HB hw183_1), (cf_ HB hw183_2), (cf_ HB hw183_3), (cf_ HB hw183_4)⟩ (fun hHeld => ?_)
           clear hK K
           refine norm_ (a' := ?_) ?_ ?_
           rotate_left
           ·show Act.put _ (some 46) _ = _
            simp only [Act.put, List.setIfInBounds_toArray, List.set_cons_zero, List.set_cons_succ, i64_w, i32_w]
            rfl
           refine one_ (i := 16) (N := some 54) (bm_ 20 131071) rfl rfl (one_of HT_.out (by kernel_rfl)) (by decide) (fun K hK => ?_)
           refine Kd.R_lit_step (Kd.int .i64) _ 3 ?hg (N := 54) ?hd (xs := ([(rd_T48 l1 x11_1).f2.f0] : List Int)) (inner := [.int .i64 ((rd_T48 l1 x11_1).f2.f0)]) (ok := fun _ => True) (okp := fun _ => True) ?hr ?hp (fun _ hk => hk) trivial (Below.refl _ _) (Nat.le_refl _) (by simp) ?_; (case hd => rfl); (case hg => rfl); (case hr => exact gs_); (case hp => exact (Reps.one (show Kd.M (Kd.int .i64) _ _ _ ((rd_T48 l1 x11_1).f2.f0) [.int .i64 ((rd_T48 l1 x11_1).f2.f0)] from rfl) (Reps.none _ _)))
           intro v185 w32 ho33 hb hg_ hnew_
           clear hg_ hnew_
           (first | rw [← Ny184.out] at ho33 | (simp only [Int.reduceToNat] at ho33; rw [← Ny184.out] at ho33))
           have HO186 := Aside0.mk (Kd.R_lower (Kd.R_new' (Kd.R_new' (Kd.R_new' ho33 (Kd.R_lt (ro_ HO_9))) (Kd.R_lt (ro_ HO179))) (Kd.R_lt (ro_ HO182))) (below_size (be1_ HB GE161)))
           replace HO_9 := Aside0.mk (Kd.R_elder' (ro_ HO_9) (Kd.R_base ho33) hb)
           replace HO179 := Aside0.mk (Kd.R_elder' (ro_ HO179) (Kd.R_base ho33) hb)
           replace HO182 := Aside0.mk (Kd.R_elder' (ro_ HO182) (Kd.R_base ho33) hb)
           replace BK161 := bb_ BK161 hb
           replace HB := bs1_ HB GE161 hb
           clear hb ho33
           refine hK.out _ _ ⟨(cf_ HB hw176_0), (cf_ HB hw176_1), (cf_ HB hw176_2), (cf_ HB hw176_3), (cf_ HB hw176_4), (cf_ HB hw183_0), (cf_ HB hw183_1), (cf_ HB hw183_2), (cf_ HB hw183_3), (cf_ HB hw183_4)⟩ (fun hHeld => ?_)
           clear hK K
           refine norm_ (a' := ?_) ?_ ?_
           rotate_left
           ·show Act.put _ (some 54) _ = _
            simp only [Act.put, List.setIfInBounds_toArray, List.set_cons_zero, List.set_cons_succ, i64_w, i32_w]
            rfl
           exact norm_ (by simp only [putAll, Act.put, List.setIfInBounds_toArray, List.set_cons_zero, List.set_cons_succ]) (hCont (.slice Ao31 y177.length co31, v181, v185) _ ⟨hHeld, (by (with_reducible repeat (first | apply Kd.R_alloc | apply Kd.R_drewN | apply Kd.R_drew)); exact Kd.R_mono HO179.out (fun _ hk => ⟨hk.1.2, ⟨hk.2, hk.1.1⟩⟩)), (by (with_reducible repeat (first | apply Kd.R_alloc | apply Kd.R_drewN | apply Kd.R_drew)); exact Kd.R_mono HO182.out (fun _ hk => ⟨hk.1.2, ⟨hk.2, hk.1.1⟩⟩)), (by (with_reducible repeat (first | apply Kd.R_alloc | apply Kd.R_drewN | apply Kd.R_drew)); exact Kd.R_mono HO186.out (fun _ hk => ⟨hk.1.2, ⟨hk.2, hk.1.1.2⟩⟩)), (by (with_reducible repeat (first | apply Kd.R_alloc | apply Kd.R_drewN | apply Kd.R_drew)); exact Kd.R_mono HO_9.out (fun _ hk => ⟨hk.1.1, ⟨hk.1.2, hk.2⟩⟩)), (bk_ BK161), (be1_ HB GE161)⟩)
          ·skip
           refine Kd.R_lit_step (Kd.int .i64) _ 3 ?hg (N := 54) ?hd (xs := ([(rd_T48 l1 x11_1).f2.f0] : List Int)) (inner := [.int .i64 ((rd_T48 l1 x11_1).f2.f0)]) (ok := fun _ => True) (okp := fun _ => True) ?hr ?hp (fun _ hk => hk) trivial (Below.refl _ _) (Nat.le_refl _) (by simp) ?_; (case hd => rfl); (case hg => rfl); (case hr => exact gs_); (case hp => exact (Reps.one (show Kd.M (Kd.int .i64) _ _ _ ((rd_T48 l1 x11_1).f2.f0) [.int .i64 ((rd_T48 l1 x11_1).f2.f0)] from rfl) (Reps.none _ _)))
           intro v185 w30 ho31 hb hg_ hnew_
           clear hg_ hnew_
           (first | rw [← Ny184.out] at ho31 | (simp only [Int.reduceToNat] at ho31; rw [← Ny184.out] at ho31))
           have HO186 := Aside0.mk (Kd.R_lower (Kd.R_new' (Kd.R_new' (Kd.R_new' ho31 (Kd.R_lt (ro_ HO_8))) (Kd.R_lt (ro_ HO_9))) (Kd.R_lt (ro_ HO179))) (below_size (be1_ HB GE161)))
           replace HO_8 := Aside0.mk (Kd.R_elder' (ro_ HO_8) (Kd.R_base ho31) hb)
           replace HO_9 := Aside0.mk (Kd.R_elder' (ro_ HO_9) (Kd.R_base ho31) hb)
           replace HO179 := Aside0.mk (Kd.R_elder' (ro_ HO179) (Kd.R_base ho31) hb)
           replace BK161 := bb_ BK161 hb
           replace HB := bs1_ HB GE161 hb
           clear hb ho31
           obtain ⟨Ao33, co33, eo33⟩ := Kd.R_slice HO179.out
           (first | subst eo33 | (injection eo33 with f1_ f2_ f3_; have f4_ := f1_.symm; have f5_ := f3_.symm; clear f1_ f2_ f3_; subst f4_; subst f5_))
           refine hK.out _ _ ⟨(cf_ HB hw176_0), (cf_ HB hw176_1), (cf_ HB hw176_2), (cf_ HB hw176_3), (cf_ HB hw176_4), (cf_ HB hw183_0), (cf_ HB hw183_1), (cf_ HB hw183_2), (cf_ HB hw183_3), (cf_ HB hw183_4)⟩ (fun hHeld => ?_)
           clear hK K
           refine norm_ (a' := ?_) ?_ ?_
           rotate_left
           ·show Act.put _ (some 54) _ = _
            simp only [Act.put, List.setIfInBounds_toArray, List.set_cons_zero, List.set_cons_succ, i64_w, i32_w]
            rfl
           refine one_ (i := 8) (N := some 46) (bm_ 20 131071) rfl rfl (one_of HT_.out (by kernel_rfl)) (by decide) (fun K hK => ?_)
           refine Kd.R_append_rows_step (Kd.int .i64) (w0 := w) w.heap.size (by rfl) (.tmp 38) (.tmp 45) 67 3 (.int .i64 0) 8 rfl Tryd.underlying67 info3 rfl (by decide) (by omega) (.slice Ao25 x8_1.length co25) x8_1 y177 _ _ _ (fun k_ => some k_ ≠ (.slice Ao26 x9_1.length co26 : Value).ownBlock ∧ some k_ ≠ (.slice Ao33 y177.length co33 : Value).ownBlock ∧ some k_ ≠ (v185 : Value).ownBlock) (fun _ => False) rfl rfl ?aO ?aR (fun _ _ h => h) (fun _ h => h.elim) ?aF ?aB ?aS ?aL ?_
           (case aR => exact kd_ (Kd.R_reads' HO179.out).2.2)
           (case aB => exact (be1_ HB GE161))
           (case aF => exact (fun k_ hk => ⟨Kd.fresh' (Kd.R_lt (ro_ HO_9)) k_ hk, Kd.fresh' (Kd.R_lt (ro_ HO179)) k_ hk, Kd.fresh' (Kd.R_lt (ro_ HO186)) k_ hk⟩))
           (case aO => exact (by (with_reducible repeat (first | apply Kd.R_alloc | apply Kd.R_drewN | apply Kd.R_drew)); exact Kd.R_mono HO_8.out (fun _ hk => ⟨hk.1.1, ⟨hk.1.2, hk.2⟩⟩)))
           (case aS => exact (below_size (be1_ HB GE161)))
           (case aL => have := LMc23.out; omega)
           intro v181 w32 ho hb hg hat
           rw [← Ny180.out] at ho
           replace HO_9 := Aside0.mk (Kd.R_after (ok := (fun k_ => some k_ ≠ (.slice Ao33 y177.length co33 : Value).ownBlock ∧ some k_ ≠ (v185 : Value).ownBlock)) (by (with_reducible repeat (first | apply Kd.R_alloc | apply Kd.R_drewN | apply Kd.R_drew)); exact Kd.R_mono HO_9.out (fun _ hk => ⟨⟨hk.1.2, hk.2⟩, hk.1.1⟩)) hg hat)
           replace BK161 := Aside0.mk (blk_grown (g := gb161) (o := .cells #[.slice A0_0 l0_0.length c0_0, .slice A0_1 l0_1.length c0_1] 25 (0, 0)) (bk_ BK161) hg (Kd.R_ne HO_8.out BK161.out (by decide)))
           replace HO179 := Aside0.mk (Kd.R_after (ok := (fun k_ => some k_ ≠ (.slice Ao26 x9_1.length co26 : Value).ownBlock ∧ some k_ ≠ (v185 : Value).ownBlock)) (by (with_reducible repeat (first | apply Kd.R_alloc | apply Kd.R_drewN | apply Kd.R_drew)); exact Kd.R_mono HO179.out (fun _ hk => ⟨⟨hk.1.2, hk.2⟩, hk.1.1.2⟩)) hg hat)
           replace HO186 := Aside0.mk (Kd.R_after (ok := (fun k_ => some k_ ≠ (.slice Ao26 x9_1.length co26 : Value).ownBlock ∧ some k_ ≠ (.slice Ao33 y177.length co33 : Value).ownBlock)) (by (with_reducible repeat (first | apply Kd.R_alloc | apply Kd.R_drewN | apply Kd.R_drew)); exact Kd.R_mono HO186.out (fun _ hk => ⟨⟨hk.1.2, hk.2⟩, hk.1.1.2⟩)) hg hat)
           replace HB := Aside0.mk (hb)
           have HO182 := Aside0.mk (ho)
           clear HO_8
           clear ho hb hg hat
           refine hK.out _ _ ⟨(cf_ HB hw176_0), (cf_ HB hw176_1), (cf_ HB hw176_2), (cf_ HB hw176_3), (cf_ HB hw176_4), (cf_ HB hw183_0), (cf_ HB hw183_1), (cf_ HB hw183_2), (cf_ HB hw183_3), (cf_ HB hw183_4)⟩ (fun hHeld => ?_)
           clear hK K
           refine norm_ (a' := ?_) ?_ ?_
           rotate_left
           ·show Act.put _ (some 46) _ = _
            simp only [Act.put, List.setIfInBounds_toArray, List.set_cons_zero, List.set_cons_succ, i64_w, i32_w]
            rfl
           exact norm_ (by simp only [putAll, Act.put, List.setIfInBounds_toArray, List.set_cons_zero, List.set_cons_succ]) (hCont (.slice Ao33 y177.length co33, v181, v185) _ ⟨hHeld, (by (with_reducible repeat (first | apply Kd.R_alloc | apply Kd.R_drewN | apply Kd.R_drew)); exact Kd.R_mono HO179.out (fun _ hk => ⟨hk.2, ⟨hk.1.2, hk.1.1⟩⟩)), (by (with_reducible repeat (first | apply Kd.R_alloc | apply Kd.R_drewN | apply Kd.R_drew)); exact Kd.R_mono HO182.out (fun _ hk => ⟨hk.2.1, ⟨hk.2.2, hk.1⟩⟩)), (by (with_reducible repeat (first | apply Kd.R_alloc | apply Kd.R_drewN | apply Kd.R_drew)); exact Kd.R_mono HO186.out (fun _ hk => ⟨hk.1.2, ⟨hk.2, hk.1.1⟩⟩)), (by (with_reducible repeat (first | apply Kd.R_alloc | apply Kd.R_drewN | apply Kd.R_drew)); exact Kd.R_mono HO_9.out (fun _ hk => ⟨hk.1.1, ⟨hk.2, hk.1.2⟩⟩)), (bk_ BK161), (be1_ HB GE161)⟩)
         ·skip
          refine Kd.R_lit_step (Kd.int .i64) _ 3 ?hg (N := 54) ?hd (xs := ([(rd_T48 l1 x11_1).f2.f0] : List Int)) (inner := [.int .i64 ((rd_T48 l1 x11_1).f2.f0)]) (ok := fun _ => True) (okp := fun _ => True) ?hr ?hp (fun _ hk => hk) trivial (Below.refl _ _) (Nat.le_refl _) (by simp) ?_; (case hd => rfl); (case hg => rfl); (case hr => exact gs_); (case hp => exact (Reps.one (show Kd.M (Kd.int .i64) _ _ _ ((rd_T48 l1 x11_1).f2.f0) [.int .i64 ((rd_T48 l1 x11_1).f2.f0)] from rfl) (Reps.none _ _)))
          intro v185 w28 ho29 hb hg_ hnew_
          clear hg_ hnew_
          (first | rw [← Ny184.out] at ho29 | (simp only [Int.reduceToNat] at ho29; rw [← Ny184.out] at ho29))
          have HO186 := Aside0.mk (Kd.R_lower (Kd.R_new' (Kd.R_new' ho29 (Kd.R_lt (ro_ HO_8))) (Kd.R_lt (ro_ HO_9))) (below_size (be1_ HB GE161)))
          replace HO_8 := Aside0.mk (Kd.R_elder' (ro_ HO_8) (Kd.R_base ho29) hb)
          replace HO_9 := Aside0.mk (Kd.R_elder' (ro_ HO_9) (Kd.R_base ho29) hb)
          replace BK161 := bb_ BK161 hb
          replace HB := bs1_ HB GE161 hb
          clear hb ho29
          refine hK.out _ _ ⟨(cf_ HB hw176_0), (cf_ HB hw176_1), (cf_ HB hw176_2), (cf_ HB hw176_3), (cf_ HB hw176_4), (cf_ HB hw183_0), (cf_ HB hw183_1), (cf_ HB hw183_2), (cf_ HB hw183_3), (cf_ HB hw183_4)⟩ (fun hHeld => ?_)
          clear hK K
          refine norm_ (a' := ?_) ?_ ?_
          rotate_left
          ·show Act.put _ (some 54) _ = _
           simp only [Act.put, List.setIfInBounds_toArray, List.set_cons_zero, List.set_cons_succ, i64_w, i32_w]
           rfl
          refine one_ (i := 7) (N := some 45) (bm_ 20 130815) rfl rfl (one_of HT_.out (by kernel_rfl)) (by decide) (fun K hK => ?_)
          refine Kd.R_lit_step (Kd.int .i64) _ 3 ?hg (N := 45) ?hd (xs := ([(rd_T48 l1 x11_1).f1.f1] : List Int)) (inner := [.int .i64 ((rd_T48 l1 x11_1).f1.f1)]) (ok := fun _ => True) (okp := fun _ => True) ?hr ?hp (fun _ hk => hk) trivial (Below.refl _ _) (Nat.le_refl _) (by simp) ?_; (case hd => rfl); (case hg => rfl); (case hr => exact gs_); (case hp => exact (Reps.one (show Kd.M (Kd.int .i64) _ _ _ ((rd_T48 l1 x11_1).f1.f1) [.int .i64 ((rd_T48 l1 x11_1).f1.f1)] from rfl) (Reps.none _ _)))
          intro v178 w30 ho31 hb hg_ hnew_
          clear hg_ hnew_
          (first | rw [← Ny177.out] at ho31 | (simp only [Int.reduceToNat] at ho31; rw [← Ny177.out] at ho31))
          have HO179 := Aside0.mk (Kd.R_lower (Kd.R_new' (Kd.R_new' (Kd.R_new' ho31 (Kd.R_lt (ro_ HO_8))) (Kd.R_lt (ro_ HO_9))) (Kd.R_lt (ro_ HO186))) (below_size (be1_ HB GE161)))
          replace HO_8 := Aside0.mk (Kd.R_elder' (ro_ HO_8) (Kd.R_base ho31) hb)
          replace HO_9 := Aside0.mk (Kd.R_elder' (ro_ HO_9) (Kd.R_base ho31) hb)
          replace HO186 := Aside0.mk (Kd.R_elder' (ro_ HO186) (Kd.R_base ho31) hb)
          replace BK161 := bb_ BK161 hb
          replace HB := bs1_ HB GE161 hb
          clear hb ho31
          obtain ⟨Ao33, co33, eo33⟩ := Kd.R_slice HO179.out
          (first | subst eo33 | (injection eo33 with f1_ f2_ f3_; have f4_ := f1_.symm; have f5_ := f3_.symm; clear f1_ f2_ f3_; subst f4_; subst f5_))
          refine hK.out _ _ ⟨(cf_ HB hw176_0), (cf_ HB hw176_1), (cf_ HB hw176_2), (cf_ HB hw176_3), (cf_ HB hw176_4), (cf_ HB hw183_0), (cf_ HB hw183_1), (cf_ HB hw183_2), (cf_ HB hw183_3), (cf_ HB hw183_4)⟩ (fun hHeld => ?_)
          clear hK K
          refine norm_ (a' := ?_) ?_ ?_
          rotate_left
          ·show Act.put _ (some 45) _ = _
           simp only [Act.put, List.setIfInBounds_toArray, List.set_cons_zero, List.set_cons_succ, i64_w, i32_w]
           rfl
          refine one_ (i := 8) (N := some 46) (bm_ 20 131071) rfl rfl (one_of HT_.out (by kernel_rfl)) (by decide) (fun K hK => ?_)
          refine Kd.R_append_rows_step (Kd.int .i64) (w0 := w) w.heap.size (by rfl) (.tmp 38) (.tmp 45) 67 3 (.int .i64 0) 8 rfl Tryd.underlying67 info3 rfl (by decide) (by omega) (.slice Ao25 x8_1.length co25) x8_1 y177 _ _ _ (fun k_ => some k_ ≠ (.slice Ao26 x9_1.length co26 : Value).ownBlock ∧ some k_ ≠ (v185 : Value).ownBlock ∧ some k_ ≠ (.slice Ao33 y177.length co33 : Value).ownBlock) (fun _ => False) rfl rfl ?aO ?aR (fun _ _ h => h) (fun _ h => h.elim) ?aF ?aB ?aS ?aL ?_
          (case aR => exact kd_ (Kd.R_reads' HO179.out).2.2)
          (case aB => exact (be1_ HB GE161))
          (case aF => exact (fun k_ hk => ⟨Kd.fresh' (Kd.R_lt (ro_ HO_9)) k_ hk, Kd.fresh' (Kd.R_lt (ro_ HO186)) k_ hk, Kd.fresh' (Kd.R_lt (ro_ HO179)) k_ hk⟩))
          (case aO => exact (by (with_reducible repeat (first | apply Kd.R_alloc | apply Kd.R_drewN | apply Kd.R_drew)); exact Kd.R_mono HO_8.out (fun _ hk => ⟨hk.1.1, ⟨hk.1.2, hk.2⟩⟩)))
          (case aS => exact (below_size (be1_ HB GE161)))
          (case aL => have := LMc23.out; omega)
          intro v181 w32 ho hb hg hat
          rw [← Ny180.out] at ho
          replace HO_9 := Aside0.mk (Kd.R_after (ok := (fun k_ => some k_ ≠ (v185 : Value).ownBlock ∧ some k_ ≠ (.slice Ao33 y177.length co33 : Value).ownBlock)) (by (with_reducible repeat (first | apply Kd.R_alloc | apply Kd.R_drewN | apply Kd.R_drew)); exact Kd.R_mono HO_9.out (fun _ hk => ⟨⟨hk.1.2, hk.2⟩, hk.1.1⟩)) hg hat)
          replace BK161 := Aside0.mk (blk_grown (g := gb161) (o := .cells #[.slice A0_0 l0_0.length c0_0, .slice A0_1 l0_1.length c0_1] 25 (0, 0)) (bk_ BK161) hg (Kd.R_ne HO_8.out BK161.out (by decide)))
          replace HO186 := Aside0.mk (Kd.R_after (ok := (fun k_ => some k_ ≠ (.slice Ao26 x9_1.length co26 : Value).ownBlock ∧ some k_ ≠ (.slice Ao33 y177.length co33 : Value).ownBlock)) (by (with_reducible repeat (first | apply Kd.R_alloc | apply Kd.R_drewN | apply Kd.R_drew)); exact Kd.R_mono HO186.out (fun _ hk => ⟨⟨hk.1.2, hk.2⟩, hk.1.1.2⟩)) hg hat)
          replace HO179 := Aside0.mk (Kd.R_after (ok := (fun k_ => some k_ ≠ (.slice Ao26 x9_1.length co26 : Value).ownBlock ∧ some k_ ≠ (v185 : Value).ownBlock)) (by (with_reducible repeat (first | apply Kd.R_alloc | apply Kd.R_drewN | apply Kd.R_drew)); exact Kd.R_mono HO179.out (fun _ hk => ⟨⟨hk.1.2, hk.2⟩, hk.1.1.2⟩)) hg hat)
          replace HB := Aside0.mk (hb)
          have HO182 := Aside0.mk (ho)
          clear HO_8
          clear ho hb hg hat
          refine hK.out _ _ ⟨(cf_ HB hw176_0), (cf_ HB hw176_1), (cf_ HB hw176_2), (cf_ HB hw176_3), (cf_ HB hw176_4), (cf_ HB hw183_0), (cf_ HB hw183_1), (cf_ HB hw183_2), (cf_ HB hw183_3), (cf_ HB hw183_4)⟩ (fun hHeld => ?_)
          clear hK K
          refine norm_ (a' := ?_) ?_ ?_
          rotate_left
          ·show Act.put _ (some 46) _ = _
           simp only [Act.put, List.setIfInBounds_toArray, List.set_cons_zero, List.set_cons_succ, i64_w, i32_w]
           rfl
          exact norm_ (by simp only [putAll, Act.put, List.setIfInBounds_toArray, List.set_cons_zero, List.set_cons_succ]) (hCont (.slice Ao33 y177.length co33, v181, v185) _ ⟨hHeld, (by (with_reducible repeat (first | apply Kd.R_alloc | apply Kd.R_drewN | apply Kd.R_drew)); exact Kd.R_mono HO179.out (fun _ hk => ⟨hk.2, ⟨hk.1.2, hk.1.1⟩⟩)), (by (with_reducible repeat (first | apply Kd.R_alloc | apply Kd.R_drewN | apply Kd.R_drew)); exact Kd.R_mono HO182.out (fun _ hk => ⟨hk.2.2, ⟨hk.2.1, hk.1⟩⟩)), (by (with_reducible repeat (first | apply Kd.R_alloc | apply Kd.R_drewN | apply Kd.R_drew)); exact Kd.R_mono HO186.out (fun _ hk => ⟨hk.1.2, ⟨hk.2, hk.1.1⟩⟩)), (by (with_reducible repeat (first | apply Kd.R_alloc | apply Kd.R_drewN | apply Kd.R_drew)); exact Kd.R_mono HO_9.out (fun _ hk => ⟨hk.1.2, ⟨hk.2, hk.1.1⟩⟩)), (bk_ BK161), (be1_ HB GE161)⟩)
        rintro ⟨v178, v181, v185⟩ w34 ⟨hS_, h0_, h1_, h2_, h3_, h4_, h5_⟩
        have HO179 : Aside0 (Kd.R (Kd.int .i64) 3 w34 w.heap.size (fun k_ => some k_ ≠ (v181 : Value).ownBlock ∧ some k_ ≠ (v185 : Value).ownBlock ∧ some k_ ≠ (.slice Ao26 x9_1.length co26 : Value).ownBlock) v178 y177) := ⟨h0_⟩
        have HO182 : Aside0 (Kd.R (Kd.int .i64) 3 w34 w.heap.size (fun k_ => some k_ ≠ (v178 : Value).ownBlock ∧ some k_ ≠ (v185 : Value).ownBlock ∧ some k_ ≠ (.slice Ao26 x9_1.length co26 : Value).ownBlock) v181 y180) := ⟨h1_⟩
        have HO186 : Aside0 (Kd.R (Kd.int .i64) 3 w34 w.heap.size (fun k_ => some k_ ≠ (v178 : Value).ownBlock ∧ some k_ ≠ (v181 : Value).ownBlock ∧ some k_ ≠ (.slice Ao26 x9_1.length co26 : Value).ownBlock) v185 y184) := ⟨h2_⟩
        replace HO_9 : Aside0 (Kd.R (Kd.int .i64) 3 w34 w.heap.size (fun k_ => some k_ ≠ (v178 : Value).ownBlock ∧ some k_ ≠ (v181 : Value).ownBlock ∧ some k_ ≠ (v185 : Value).ownBlock) (.slice Ao26 x9_1.length co26) x9_1) := ⟨h3_⟩
        replace BK161 : Aside0 (w34.heap[gb161]? = some (.cells #[.slice A0_0 l0_0.length c0_0, .slice A0_1 l0_1.length c0_1] 25 (0, 0))) := ⟨h4_⟩
        replace HB : Aside0 (Below w.heap.size w w34) := ⟨h5_⟩
        clear HO_8 h0_ h1_ h2_ h3_ h4_ h5_
        have hHeld : w34.cell? (ad176.add ((x11_1).toNat * 5)) = some (.int .i64 ((rd_T48 l1 x11_1).f0)) ∧ w34.cell? ⟨(ad176.add ((x11_1).toNat * 5)).block, (ad176.add ((x11_1).toNat * 5)).off + 1, none⟩ = some (.int .i64 ((rd_T48 l1 x11_1).f1.f0)) ∧ w34.cell? ⟨(ad176.add ((x11_1).toNat * 5)).block, (ad176.add ((x11_1).toNat * 5)).off + 2, none⟩ = some (.int .i64 ((rd_T48 l1 x11_1).f1.f1)) ∧ w34.cell? ⟨(ad176.add ((x11_1).toNat * 5)).block, (ad176.add ((x11_1).toNat * 5)).off + 3, none⟩ = some (.int .i64 ((rd_T48 l1 x11_1).f2.f0)) ∧ w34.cell? ⟨(ad176.add ((x11_1).toNat * 5)).block, (ad176.add ((x11_1).toNat * 5)).off + 4, none⟩ = some (.int .i64 ((rd_T48 l1 x11_1).f2.f1)) ∧ w34.cell? (ad176.add ((x11_1).toNat * 5)) = some (.int .i64 ((rd_T48 l1 x11_1).f0)) ∧ w34.cell? ⟨(ad176.add ((x11_1).toNat * 5)).block, (ad176.add ((x11_1).toNat * 5)).off + 1, none⟩ = some (.int .i64 ((rd_T48 l1 x11_1).f1.f0)) ∧ w34.cell? ⟨(ad176.add ((x11_1).toNat * 5)).block, (ad176.add ((x11_1).toNat * 5)).off + 2, none⟩ = some (.int .i64 ((rd_T48 l1 x11_1).f1.f1)) ∧ w34.cell? ⟨(ad176.add ((x11_1).toNat * 5)).block, (ad176.add ((x11_1).toNat * 5)).off + 3, none⟩ = some (.int .i64 ((rd_T48 l1 x11_1).f2.f0)) ∧ w34.cell? ⟨(ad176.add ((x11_1).toNat * 5)).block, (ad176.add ((x11_1).toNat * 5)).off + 4, none⟩ = some (.int .i64 ((rd_T48 l1 x11_1).f2.f1)) := hS_
        obtain ⟨Ao36, co36, eo36⟩ := Kd.R_slice HO186.out
        (first | subst eo36 | (injection eo36 with f1_ f2_ f3_; have f4_ := f1_.symm; have f5_ := f3_.symm; clear f1_ f2_ f3_; subst f4_; subst f5_))
        refine norm_ (a' := ?_) ?_ ?_
        rotate_left
        ·simp only [putAll, Act.put, List.setIfInBounds_toArray, List.set_cons_zero, List.set_cons_succ]
         rfl
        refine one_ (i := 17) (N := some 55) (bm_ 20 262143) rfl rfl (one_of HT_.out (by kernel_rfl)) (by decide) (fun K hK => ?_)
        refine Kd.R_append_rows_step (Kd.int .i64) (w0 := w) w.heap.size (by rfl) (.tmp 47) (.tmp 54) 67 3 (.int .i64 0) 8 rfl Tryd.underlying67 info3 rfl (by decide) (by omega) (.slice Ao26 x9_1.length co26) x9_1 y184 _ _ _ (fun k_ => some k_ ≠ (v178 : Value).ownBlock ∧ some k_ ≠ (v181 : Value).ownBlock ∧ some k_ ≠ (.slice Ao36 y184.length co36 : Value).ownBlock) (fun _ => False) rfl rfl ?aO ?aR (fun _ _ h => h) (fun _ h => h.elim) ?aF ?aB ?aS ?aL ?_
        (case aR => exact kd_ (Kd.R_reads' HO186.out).2.2)
        (case aB => exact (be1_ HB GE161))
        (case aF => exact (fun k_ hk => ⟨Kd.fresh' (Kd.R_lt (ro_ HO179)) k_ hk, Kd.fresh' (Kd.R_lt (ro_ HO182)) k_ hk, Kd.fresh' (Kd.R_lt (ro_ HO186)) k_ hk⟩))
        (case aO => exact (ro_ HO_9))
        (case aS => exact (below_size (be1_ HB GE161)))
        (case aL => have := LMc24.out; omega)
        intro v188 w35 ho hb hg hat
        rw [← Ny187.out] at ho
        replace BK161 := Aside0.mk (blk_grown (g := gb161) (o := .cells #[.slice A0_0 l0_0.length c0_0, .slice A0_1 l0_1.length c0_1] 25 (0, 0)) (bk_ BK161) hg (Kd.R_ne HO_9.out BK161.out (by decide)))
        replace HO179 := Aside0.mk (Kd.R_after (ok := (fun k_ => some k_ ≠ (v181 : Value).ownBlock ∧ some k_ ≠ (.slice Ao36 y184.length co36 : Value).ownBlock)) (by (with_reducible repeat (first | apply Kd.R_alloc | apply Kd.R_drewN | apply Kd.R_drew)); exact Kd.R_mono HO179.out (fun _ hk => ⟨⟨hk.1, hk.2.1⟩, hk.2.2⟩)) hg hat)
        replace HO182 := Aside0.mk (Kd.R_after (ok := (fun k_ => some k_ ≠ (v178 : Value).ownBlock ∧ some k_ ≠ (.slice Ao36 y184.length co36 : Value).ownBlock)) (by (with_reducible repeat (first | apply Kd.R_alloc | apply Kd.R_drewN | apply Kd.R_drew)); exact Kd.R_mono HO182.out (fun _ hk => ⟨⟨hk.1, hk.2.1⟩, hk.2.2⟩)) hg hat)
        replace HO186 := Aside0.mk (Kd.R_after (ok := (fun k_ => some k_ ≠ (v178 : Value).ownBlock ∧ some k_ ≠ (v181 : Value).ownBlock)) (by (with_reducible repeat (first | apply Kd.R_alloc | apply Kd.R_drewN | apply Kd.R_drew)); exact Kd.R_mono HO186.out (fun _ hk => ⟨⟨hk.1, hk.2.1⟩, hk.2.2⟩)) hg hat)
        replace HB := Aside0.mk (hb)
        have HO189 := Aside0.mk (ho)
        clear HO_9
        clear ho hb hg hat
        refine hK.out _ _ ⟨(cf_ HB hw176_0), (cf_ HB hw176_1), (cf_ HB hw176_2), (cf_ HB hw176_3), (cf_ HB hw176_4), (cf_ HB hw183_0), (cf_ HB hw183_1), (cf_ HB hw183_2), (cf_ HB hw183_3), (cf_ HB hw183_4)⟩ (fun hHeld => ?_)
        clear hK K
        refine norm_ (a' := ?_) ?_ ?_
        rotate_left
        ·show Act.put _ (some 55) _ = _
         simp only [Act.put, List.setIfInBounds_toArray, List.set_cons_zero, List.set_cons_succ, i64_w, i32_w]
         rfl
        refine pure_ (i := 18) (N := some 8) (v := ?_) (a' := ?_) (bm_ 20 524287) rfl rfl (any_of HT_.out (by kernel_rfl)) (fun _ _ _ h => h) (Or.inl ⟨by rfl, ?_⟩) ?_ ?_
        rotate_left
        ·intro w'
         go_simp
         with_reducible rfl
        rotate_left
        ·exact pt_
        refine pure_ (i := 19) (N := some 9) (v := ?_) (a' := ?_) (bm_ 20 1048575) rfl rfl (any_of HT_.out (by kernel_rfl)) (fun _ _ _ h => h) (Or.inl ⟨by rfl, ?_⟩) ?_ ?_
        rotate_left
        ·intro w'
         go_simp
         with_reducible rfl
        rotate_left
        ·exact pt_
        refine done_ (done_of HT_.out (by kernel_rfl)) ?_
        try go_wp2
        go_roundg k1
        case measure => have := HK1.out; omega
        case rel => exact ⟨(y180), (y187), (wrap64 (x11_1 + 1)), (by first | rfl | (simp; done) | (simp [*]; done)), H', ⟨by have := HK1.out; omega⟩, ⟨by (with_reducible repeat (first | apply Kd.R_alloc | apply Kd.R_drewN | apply Kd.R_drew)); exact Kd.R_mono HO182.out (fun _ hk => hk.2)⟩, ⟨by (with_reducible repeat (first | apply Kd.R_alloc | apply Kd.R_drewN | apply Kd.R_drew)); exact Kd.R_mono HO189.out (fun _ hk => hk.2.1)⟩, ⟨by refine bx_ ?_; exact BK161.out⟩, ⟨be1_ HB GE161⟩⟩
       ·rw [if_neg c24] at H
        exact absurd H (by simp)
      ·rw [if_neg c23] at H
       exact absurd H (by simp)
     ·rw [if_neg c22] at H
      exact absurd H (by simp)
   ·rw [if_neg c5] at H
    have c5b0 : decide (x11_1 < (l1.length : Int)) = false := decide_eq_false c5
    clear c5
    have H' := Aside0.mk H
    clear H
    go_wp2
    go_loopg [10, 12] k1 (fun kq v10 v12 w' => ∃ (x10_2 : List Int) (x12_2 : Int), v12 = .int .i64 x12_2 ∧ Aside0 (cottonpadref06_Ends.l1 kq l1 a2 x8_1 x9_1 x10_2 x12_2 l0_0 l0_1 = some (r1, r2)) ∧ Aside0 (kq ≤ k1) ∧ Aside0 (Kd.R (Kd.int .i64) 3 w' w.heap.size (fun k_ => some k_ ≠ (u9 : Value).ownBlock ∧ some k_ ≠ (v10 : Value).ownBlock) u8 x8_1) ∧ Aside0 (Kd.R (Kd.int .i64) 3 w' w.heap.size (fun k_ => some k_ ≠ (u8 : Value).ownBlock ∧ some k_ ≠ (v10 : Value).ownBlock) u9 x9_1) ∧ Aside0 (Kd.R (Kd.int .i64) 3 w' w.heap.size (fun k_ => some k_ ≠ (u8 : Value).ownBlock ∧ some k_ ≠ (u9 : Value).ownBlock) v10 x10_2) ∧ Aside0 (w'.heap[gb161]? = some (.cells #[(.slice A0_0 l0_0.length c0_0), (.slice A0_1 l0_1.length c0_1)] 25 (0, 0))) ∧ Aside0 (Below w.heap.size w w'))
    case atStart => exact ⟨(([] : List Int)), (0), (by first | rfl | (simp; done) | (simp [*]; done)), H', ⟨Nat.le_refl _⟩, ⟨by (with_reducible repeat (first | apply Kd.R_alloc | apply Kd.R_drewN | apply Kd.R_drew)); exact Kd.R_mono HO_8.out (fun _ hk => ⟨hk, (by simp [Value.ownBlock])⟩)⟩, ⟨by (with_reducible repeat (first | apply Kd.R_alloc | apply Kd.R_drewN | apply Kd.R_drew)); exact Kd.R_mono HO_9.out (fun _ hk => ⟨hk, (by simp [Value.ownBlock])⟩)⟩, ⟨by first | exact Kd.R_nil _ _ _ _ _ | exact Kd.N_nil _ _ _ _ _ | exact Kd.V_nil _ _ _ _ _ | exact Kd.Q_nil _ _ _ _ _ | exact Kd.S_nil _ _ _ _ _⟩, ⟨by refine bx_ ?_; exact BK161.out⟩, ⟨be1_ HB GE161⟩⟩
    case round =>
     clear H'
     try clear p1
     try clear q1
     try clear hx1
     try clear c2
     try clear p2
     try clear c5
     try clear c5b0
     try clear c6
     try clear p6
     try clear c7
     try clear c8
     try clear c9
     try clear p17
     try clear q17
     try clear hx17
     try clear p18
     try clear q18
     try clear hx18
     try clear c22
     try clear c22b0
     try clear c23
     try clear c24
     try clear hx176_0
     try clear hx176_1
     try clear hx176_2
     try clear hx176_3
     try clear hx176_4
     try clear hx183_0
     try clear hx183_1
     try clear hx183_2
     try clear hx183_3
     try clear hx183_4
     try clear p176
     try clear p183
     try clear q176
     try clear q183
     obtain ⟨x10_2, x12_2, rfl, HA, HK2, HO_8, HO_9, HO_10, BK161, HB⟩ := hrel
     cases gk with
     | zero => exact absurd HA.out (by simp [cottonpadref06_Ends.l1])
     | succ k2 =>
      have H := HA.out
      clear HA
      simp only [cottonpadref06_Ends.l1] at H
      by_cases c37 : x12_2 < (l0_0.length : Int)
      ·rw [if_pos c37] at H
       have c37b0 : decide (x12_2 < (l0_0.length : Int)) = true := decide_eq_true c37
       clear c37
       by_cases c38 : a2 = true
       ·subst c38
        have H1 : (if 0 ≤ x12_2 then ((some (([(rd_T62 l0_0 x12_2).f2.f1] : List Int) : List Int)).bind fun y191 => (if x10_2.length + y191.length < 17592186044416 then (cottonpadref06_Ends.l1 k2 l1 true x8_1 x9_1 (x10_2 ++ y191) (wrap64 (x12_2 + 1)) l0_0 l0_1) else (none))) else (none)) = some (r1, r2) := by rw [if_pos rfl] at H; exact H
        clear H
        have H := H1
        clear H1
        by_cases c39 : 0 ≤ x12_2
        ·rw [if_pos c39] at H
         have c39b0 : decide (0 ≤ x12_2) = true := decide_eq_true c39
         clear c39
         obtain ⟨y191, hy191⟩ : ∃ y_ : List Int, y_ = (([(rd_T62 l0_0 x12_2).f2.f1] : List Int)) := ⟨_, rfl⟩
         replace H : (if x10_2.length + y191.length < 17592186044416 then (cottonpadref06_Ends.l1 k2 l1 true x8_1 x9_1 (x10_2 ++ y191) (wrap64 (x12_2 + 1)) l0_0 l0_1) else (none)) = some (r1, r2) := by first | (rw [hy191]; with_reducible exact H) | (have H2_ := (Option.bind_some _ _).symm.trans H; rw [hy191]; with_reducible exact H2_) | (have H2_ := (Option.bind_some _ _).symm.trans H; with_reducible exact H2_) | with_reducible exact H | (rw [hy191]; exact H) | exact H
         have Ny191 := Aside0.mk hy191
         clear hy191
         by_cases c40 : x10_2.length + y191.length < 17592186044416
         ·rw [if_pos c40] at H
          have LMc40 := Aside0.mk c40
          clear c40
          obtain ⟨y194, hy194⟩ : ∃ y_ : List Int, y_ = (x10_2 ++ y191) := ⟨_, rfl⟩
          replace H : (cottonpadref06_Ends.l1 k2 l1 true x8_1 x9_1 y194 (wrap64 (x12_2 + 1)) l0_0 l0_1) = some (r1, r2) := by first | (rw [hy194]; with_reducible exact H) | (have H2_ := (Option.bind_some _ _).symm.trans H; rw [hy194]; with_reducible exact H2_) | (have H2_ := (Option.bind_some _ _).symm.trans H; with_reducible exact H2_) | with_reducible exact H | (rw [hy194]; exact H) | exact H
          have Ny194 := Aside0.mk hy194
          clear hy194
          have H' := Aside0.mk H
          clear H
          have hcz41_0 : wr.cell? ⟨gb161, 0, none⟩ = some (.slice A0_0 l0_0.length c0_0) := bc_ BK161 0
          have hcz41_1 : wr.cell? ⟨gb161, 1, none⟩ = some (.slice A0_1 l0_1.length c0_1) := bc_ BK161 1
          have hfz41_0 := blk_frozen BK161.out 0
          have hfz41_1 := blk_frozen BK161.out 1
          have p190 : 0 ≤ (x12_2 : Int) := of_decide_eq_true as_
          have q190 : x12_2 < (l0_0.length : Int) := of_decide_eq_true as_
          obtain ⟨ad190, e190, hx190_0, hx190_1, hx190_2, hx190_3, hx190_4, hx190_5⟩ := at_T62 HR0_0.out x12_2 p190 q190
          cases e190
          try replace hx190_0 := ce_ HB hx190_0
          try replace hx190_1 := ce_ HB hx190_1
          try replace hx190_2 := ce_ HB hx190_2
          try replace hx190_3 := ce_ HB hx190_3
          try replace hx190_4 := ce_ HB hx190_4
          try replace hx190_5 := ce_ HB hx190_5
          replace p190 := eq_true p190
          replace q190 := eq_true q190
          go_wp2_with (first | ((with_reducible refine gate_dst (N := 72) rfl ?_); refine Kd.R_lit (Kd.int .i64) _ 3 ?hg (N := 72) ?hd (xs := ([(rd_T62 l0_0 x12_2).f2.f1] : List Int)) (inner := [.int .i64 ((rd_T62 l0_0 x12_2).f2.f1)]) (ok := fun _ => True) (okp := fun _ => True) ?hr ?hp (fun _ hk => hk) trivial (Below.refl _ _) (Nat.le_refl _) (by simp) ?_; (case hd => rfl); (case hg => rfl); (case hr => exact gs_); (case hp => exact (Reps.one (show Kd.M (Kd.int .i64) _ _ _ ((rd_T62 l0_0 x12_2).f2.f1) [.int .i64 ((rd_T62 l0_0 x12_2).f2.f1)] from rfl) (Reps.none _ _))); intro v192 w42 ho43 hb hg_ hnew_; clear hg_ hnew_; (first | rw [← Ny191.out] at ho43 | (simp only [Int.reduceToNat] at ho43; rw [← Ny191.out] at ho43)); have HO193 := Aside0.mk (Kd.R_lower (Kd.R_new' (Kd.R_new' (Kd.R_new' ho43 (Kd.R_lt (ro_ HO_8))) (Kd.R_lt (ro_ HO_9))) (Kd.R_lt (ro_ HO_10))) (below_size (be1_ HB GE161))); replace HO_8 := Aside0.mk (Kd.R_elder' (ro_ HO_8) (Kd.R_base ho43) hb); replace HO_9 := Aside0.mk (Kd.R_elder' (ro_ HO_9) (Kd.R_base ho43) hb); replace HO_10 := Aside0.mk (Kd.R_elder' (ro_ HO_10) (Kd.R_base ho43) hb); replace BK161 := bb_ BK161 hb; replace HB := bs1_ HB GE161 hb; clear hb ho43; obtain ⟨Ao45, co45, eo45⟩ := Kd.R_slice HO193.out; subst eo45) | ((with_reducible refine gate_builtin (b := .append) (xs := #[.tmp 64, .tmp 72]) rfl ?_); at_builtin; refine Kd.R_append_rows (Kd.int .i64) (w0 := w) w.heap.size rfl (.tmp 64) (.tmp 72) 67 3 (.int .i64 0) 8 rfl Tryd.underlying67 info3 rfl (by decide) (by omega) u10 x10_2 y191 _ _ _ (fun k_ => some k_ ≠ (u8 : Value).ownBlock ∧ some k_ ≠ (u9 : Value).ownBlock ∧ some k_ ≠ (.slice Ao45 y191.length co45 : Value).ownBlock) (fun _ => False) rfl rfl ?aO ?aR (fun _ _ h => h) (fun _ h => h.elim) ?aF ?aB ?aS ?aL ?_; (case aR => exact kd_ (Kd.R_reads' HO193.out).2.2); (case aB => exact (be1_ HB GE161)); (case aF => exact (fun k_ hk => ⟨Kd.fresh' (Kd.R_lt (ro_ HO_8)) k_ hk, Kd.fresh' (Kd.R_lt (ro_ HO_9)) k_ hk, Kd.fresh' (Kd.R_lt (ro_ HO193)) k_ hk⟩)); (case aO => exact (by (with_reducible repeat (first | apply Kd.R_alloc | apply Kd.R_drewN | apply Kd.R_drew)); exact Kd.R_mono HO_10.out (fun _ hk => ⟨hk.1.1, ⟨hk.1.2, hk.2⟩⟩))); (case aS => exact (below_size (be1_ HB GE161))); (case aL => have := LMc40.out; omega); intro v195 w44 ho hb hg hat; rw [← Ny194.out] at ho; replace HO_8 := Aside0.mk (Kd.R_after (ok := (fun k_ => some k_ ≠ (u9 : Value).ownBlock ∧ some k_ ≠ (.slice Ao45 y191.length co45 : Value).ownBlock)) (by (with_reducible repeat (first | apply Kd.R_alloc | apply Kd.R_drewN | apply Kd.R_drew)); exact Kd.R_mono HO_8.out (fun _ hk => ⟨⟨hk.1.1, hk.2⟩, hk.1.2⟩)) hg hat); replace HO_9 := Aside0.mk (Kd.R_after (ok := (fun k_ => some k_ ≠ (u8 : Value).ownBlock ∧ some k_ ≠ (.slice Ao45 y191.length co45 : Value).ownBlock)) (by (with_reducible repeat (first | apply Kd.R_alloc | apply Kd.R_drewN | apply Kd.R_drew)); exact Kd.R_mono HO_9.out (fun _ hk => ⟨⟨hk.1.1, hk.2⟩, hk.1.2⟩)) hg hat); replace BK161 := Aside0.mk (blk_grown (g := gb161) (o := .cells #[.slice (some ad190) l0_0.length c0_0, .slice A0_1 l0_1.length c0_1] 25 (0, 0)) (bk_ BK161) hg (Kd.R_ne HO_10.out BK161.out (by decide))); replace HO193 := Aside0.mk (Kd.R_after (ok := (fun k_ => some k_ ≠ (u8 : Value).ownBlock ∧ some k_ ≠ (u9 : Value).ownBlock)) (by (with_reducible repeat (first | apply Kd.R_alloc | apply Kd.R_drewN | apply Kd.R_drew)); exact Kd.R_mono HO193.out (fun _ hk => ⟨⟨hk.1.1.2, hk.1.2⟩, hk.2⟩)) hg hat); replace HB := Aside0.mk (hb); have HO196 := Aside0.mk (ho); clear HO_10; clear ho hb hg hat))
          go_roundg k2
          case measure => have := HK1.out; have := HK2.out; omega
          case rel => exact ⟨(y194), (wrap64 (x12_2 + 1)), (by first | rfl | (simp; done) | (simp [*]; done)), H', ⟨by have := HK1.out; have := HK2.out; omega⟩, ⟨by (with_reducible repeat (first | apply Kd.R_alloc | apply Kd.R_drewN | apply Kd.R_drew)); exact Kd.R_mono HO_8.out (fun _ hk => ⟨hk.1.1, hk.2⟩)⟩, ⟨by (with_reducible repeat (first | apply Kd.R_alloc | apply Kd.R_drewN | apply Kd.R_drew)); exact Kd.R_mono HO_9.out (fun _ hk => ⟨hk.1.1, hk.2⟩)⟩, ⟨by (with_reducible repeat (first | apply Kd.R_alloc | apply Kd.R_drewN | apply Kd.R_drew)); exact Kd.R_mono HO196.out (fun _ hk => ⟨hk.1, hk.2.1⟩)⟩, ⟨by refine bx_ ?_; exact BK161.out⟩, ⟨be1_ HB GE161⟩⟩
         ·rw [if_neg c40] at H
          exact absurd H (by simp)
        ·rw [if_neg c39] at H
         exact absurd H (by simp)
       ·replace c38 := Bool.eq_false_iff.mpr c38
        subst c38
        have H1 : (if 0 ≤ x12_2 then ((some (([(rd_T62 l0_0 x12_2).f2.f0] : List Int) : List Int)).bind fun y198 => (if x10_2.length + y198.length < 17592186044416 then (cottonpadref06_Ends.l1 k2 l1 false x8_1 x9_1 (x10_2 ++ y198) (wrap64 (x12_2 + 1)) l0_0 l0_1) else (none))) else (none)) = some (r1, r2) := by rw [if_neg (show ¬ (false = true) by decide)] at H; exact H
        clear H
        have H := H1
        clear H1
        by_cases c46 : 0 ≤ x12_2
        ·rw [if_pos c46] at H
         have c46b0 : decide (0 ≤ x12_2) = true := decide_eq_true c46
         clear c46
         obtain ⟨y198, hy198⟩ : ∃ y_ : List Int, y_ = (([(rd_T62 l0_0 x12_2).f2.f0] : List Int)) := ⟨_, rfl⟩
         replace H : (if x10_2.length + y198.length < 17592186044416 then (cottonpadref06_Ends.l1 k2 l1 false x8_1 x9_1 (x10_2 ++ y198) (wrap64 (x12_2 + 1)) l0_0 l0_1) else (none)) = some (r1, r2) := by first | (rw [hy198]; with_reducible exact H) | (have H2_ := (Option.bind_some _ _).symm.trans H; rw [hy198]; with_reducible exact H2_) | (have H2_ := (Option.bind_some _ _).symm.trans H; with_reducible exact H2_) | with_reducible exact H | (rw [hy198]; exact H) | exact H
         have Ny198 := Aside0.mk hy198
         clear hy198
         by_cases c47 : x10_2.length + y198.length < 17592186044416
         ·rw [if_pos c47] at H
          have LMc47 := Aside0.mk c47
          clear c47
          obtain ⟨y201, hy201⟩ : ∃ y_ : List Int, y_ = (x10_2 ++ y198) := ⟨_, rfl⟩
          replace H : (cottonpadref06_Ends.l1 k2 l1 false x8_1 x9_1 y201 (wrap64 (x12_2 + 1)) l0_0 l0_1) = some (r1, r2) := by first | (rw [hy201]; with_reducible exact H) | (have H2_ := (Option.bind_some _ _).symm.trans H; rw [hy201]; with_reducible exact H2_) | (have H2_ := (Option.bind_some _ _).symm.trans H; with_reducible exact H2_) | with_reducible exact H | (rw [hy201]; exact H) | exact H
          have Ny201 := Aside0.mk hy201
          clear hy201
          have H' := Aside0.mk H
          clear H
          have hcz48_0 : wr.cell? ⟨gb161, 0, none⟩ = some (.slice A0_0 l0_0.length c0_0) := bc_ BK161 0
          have hcz48_1 : wr.cell? ⟨gb161, 1, none⟩ = some (.slice A0_1 l0_1.length c0_1) := bc_ BK161 1
          have hfz48_0 := blk_frozen BK161.out 0
          have hfz48_1 := blk_frozen BK161.out 1
          have p197 : 0 ≤ (x12_2 : Int) := of_decide_eq_true as_
          have q197 : x12_2 < (l0_0.length : Int) := of_decide_eq_true as_
          obtain ⟨ad197, e197, hx197_0, hx197_1, hx197_2, hx197_3, hx197_4, hx197_5⟩ := at_T62 HR0_0.out x12_2 p197 q197
          cases e197
          try replace hx197_0 := ce_ HB hx197_0
          try replace hx197_1 := ce_ HB hx197_1
          try replace hx197_2 := ce_ HB hx197_2
          try replace hx197_3 := ce_ HB hx197_3
          try replace hx197_4 := ce_ HB hx197_4
          try replace hx197_5 := ce_ HB hx197_5
          replace p197 := eq_true p197
          replace q197 := eq_true q197
          go_wp2_with (first | ((with_reducible refine gate_dst (N := 82) rfl ?_); refine Kd.R_lit (Kd.int .i64) _ 3 ?hg (N := 82) ?hd (xs := ([(rd_T62 l0_0 x12_2).f2.f0] : List Int)) (inner := [.int .i64 ((rd_T62 l0_0 x12_2).f2.f0)]) (ok := fun _ => True) (okp := fun _ => True) ?hr ?hp (fun _ hk => hk) trivial (Below.refl _ _) (Nat.le_refl _) (by simp) ?_; (case hd => rfl); (case hg => rfl); (case hr => exact gs_); (case hp => exact (Reps.one (show Kd.M (Kd.int .i64) _ _ _ ((rd_T62 l0_0 x12_2).f2.f0) [.int .i64 ((rd_T62 l0_0 x12_2).f2.f0)] from rfl) (Reps.none _ _))); intro v199 w49 ho50 hb hg_ hnew_; clear hg_ hnew_; (first | rw [← Ny198.out] at ho50 | (simp only [Int.reduceToNat] at ho50; rw [← Ny198.out] at ho50)); have HO200 := Aside0.mk (Kd.R_lower (Kd.R_new' (Kd.R_new' (Kd.R_new' ho50 (Kd.R_lt (ro_ HO_8))) (Kd.R_lt (ro_ HO_9))) (Kd.R_lt (ro_ HO_10))) (below_size (be1_ HB GE161))); replace HO_8 := Aside0.mk (Kd.R_elder' (ro_ HO_8) (Kd.R_base ho50) hb); replace HO_9 := Aside0.mk (Kd.R_elder' (ro_ HO_9) (Kd.R_base ho50) hb); replace HO_10 := Aside0.mk (Kd.R_elder' (ro_ HO_10) (Kd.R_base ho50) hb); replace BK161 := bb_ BK161 hb; replace HB := bs1_ HB GE161 hb; clear hb ho50; obtain ⟨Ao52, co52, eo52⟩ := Kd.R_slice HO200.out; subst eo52) | ((with_reducible refine gate_builtin (b := .append) (xs := #[.tmp 74, .tmp 82]) rfl ?_); at_builtin; refine Kd.R_append_rows (Kd.int .i64) (w0 := w) w.heap.size rfl (.tmp 74) (.tmp 82) 67 3 (.int .i64 0) 8 rfl Tryd.underlying67 info3 rfl (by decide) (by omega) u10 x10_2 y198 _ _ _ (fun k_ => some k_ ≠ (u8 : Value).ownBlock ∧ some k_ ≠ (u9 : Value).ownBlock ∧ some k_ ≠ (.slice Ao52 y198.length co52 : Value).ownBlock) (fun _ => False) rfl rfl ?aO ?aR (fun _ _ h => h) (fun _ h => h.elim) ?aF ?aB ?aS ?aL ?_; (case aR => exact kd_ (Kd.R_reads' HO200.out).2.2); (case aB => exact (be1_ HB GE161)); (case aF => exact (fun k_ hk => ⟨Kd.fresh' (Kd.R_lt (ro_ HO_8)) k_ hk, Kd.fresh' (Kd.R_lt (ro_ HO_9)) k_ hk, Kd.fresh' (Kd.R_lt (ro_ HO200)) k_ hk⟩)); (case aO => exact (by (with_reducible repeat (first | apply Kd.R_alloc | apply Kd.R_drewN | apply Kd.R_drew)); exact Kd.R_mono HO_10.out (fun _ hk => ⟨hk.1.1, ⟨hk.1.2, hk.2⟩⟩))); (case aS => exact (below_size (be1_ HB GE161))); (case aL => have := LMc47.out; omega); intro v202 w51 ho hb hg hat; rw [← Ny201.out] at ho; replace HO_8 := Aside0.mk (Kd.R_after (ok := (fun k_ => some k_ ≠ (u9 : Value).ownBlock ∧ some k_ ≠ (.slice Ao52 y198.length co52 : Value).ownBlock)) (by (with_reducible repeat (first | apply Kd.R_alloc | apply Kd.R_drewN | apply Kd.R_drew)); exact Kd.R_mono HO_8.out (fun _ hk => ⟨⟨hk.1.1, hk.2⟩, hk.1.2⟩)) hg hat); replace HO_9 := Aside0.mk (Kd.R_after (ok := (fun k_ => some k_ ≠ (u8 : Value).ownBlock ∧ some k_ ≠ (.slice Ao52 y198.length co52 : Value).ownBlock)) (by (with_reducible repeat (first | apply Kd.R_alloc | apply Kd.R_drewN | apply Kd.R_drew)); exact Kd.R_mono HO_9.out (fun _ hk => ⟨⟨hk.1.1, hk.2⟩, hk.1.2⟩)) hg hat); replace BK161 := Aside0.mk (blk_grown (g := gb161) (o := .cells #[.slice (some ad197) l0_0.length c0_0, .slice A0_1 l0_1.length c0_1] 25 (0, 0)) (bk_ BK161) hg (Kd.R_ne HO_10.out BK161.out (by decide))); replace HO200 := Aside0.mk (Kd.R_after (ok := (fun k_ => some k_ ≠ (u8 : Value).ownBlock ∧ some k_ ≠ (u9 : Value).ownBlock)) (by (with_reducible repeat (first | apply Kd.R_alloc | apply Kd.R_drewN | apply Kd.R_drew)); exact Kd.R_mono HO200.out (fun _ hk => ⟨⟨hk.1.1.2, hk.1.2⟩, hk.2⟩)) hg hat); replace HB := Aside0.mk (hb); have HO203 := Aside0.mk (ho); clear HO_10; clear ho hb hg hat))
          go_roundg k2
          case measure => have := HK1.out; have := HK2.out; omega
          case rel => exact ⟨(y201), (wrap64 (x12_2 + 1)), (by first | rfl | (simp; done) | (simp [*]; done)), H', ⟨by have := HK1.out; have := HK2.out; omega⟩, ⟨by (with_reducible repeat (first | apply Kd.R_alloc | apply Kd.R_drewN | apply Kd.R_drew)); exact Kd.R_mono HO_8.out (fun _ hk => ⟨hk.1.1, hk.2⟩)⟩, ⟨by (with_reducible repeat (first | apply Kd.R_alloc | apply Kd.R_drewN | apply Kd.R_drew)); exact Kd.R_mono HO_9.out (fun _ hk => ⟨hk.1.1, hk.2⟩)⟩, ⟨by (with_reducible repeat (first | apply Kd.R_alloc | apply Kd.R_drewN | apply Kd.R_drew)); exact Kd.R_mono HO203.out (fun _ hk => ⟨hk.1, hk.2.1⟩)⟩, ⟨by refine bx_ ?_; exact BK161.out⟩, ⟨be1_ HB GE161⟩⟩
         ·rw [if_neg c47] at H
          exact absurd H (by simp)
        ·rw [if_neg c46] at H
         exact absurd H (by simp)
      ·rw [if_neg c37] at H
       have c37b0 : decide (x12_2 < (l0_0.length : Int)) = false := decide_eq_false c37
       clear c37
       replace H := Option.bind_eq_some_iff.mp H
       obtain ⟨⟨t204, t207⟩, A530, H⟩ := H
       replace H : (some (t204, t207)) = some (r1, r2) := H
       have A53 := Aside0.mk A530
       clear A530
       simp only [Option.some.injEq, Prod.mk.injEq] at H
       obtain ⟨rfl, rfl⟩ := H
       have hcz54_0 : wr.cell? ⟨gb161, 0, none⟩ = some (.slice A0_0 l0_0.length c0_0) := bc_ BK161 0
       have hcz54_1 : wr.cell? ⟨gb161, 1, none⟩ = some (.slice A0_1 l0_1.length c0_1) := bc_ BK161 1
       have hfz54_0 := blk_frozen BK161.out 0
       have hfz54_1 := blk_frozen BK161.out 1
       obtain ⟨Ao55, co55, eo55⟩ := Kd.R_slice HO_8.out
       subst eo55
       obtain ⟨Ao56, co56, eo56⟩ := Kd.R_slice HO_9.out
       subst eo56
       obtain ⟨Ao57, co57, eo57⟩ := Kd.R_slice HO_10.out
       subst eo57
       go_wp2_with (first | ((with_reducible refine gate_callee (f := 69) rfl ?_); refine goesL_ (some 89) rfl rfl Tryd.func69 (by kernel_rfl) rfl #[.agg #[.slice A0_0 l0_0.length c0_0, .slice A0_1 l0_1.length c0_1], .slice A1 l1.length c1, .slice Ao55 x8_1.length co55, .slice Ao56 x9_1.length co56, .slice Ao57 x10_2.length co57] rfl ls_ ?_; (with_reducible refine (cottonpadref06_Go.calls _ _ l0_0 _ _ l0_1 _ _ l1 _ _ x8_1 _ _ x9_1 _ _ x10_2 t204 t207 _ ?side1 ?side2 ?side3 ?side4 ?side5 ?side6 ?side7 ?side8 ?side9 ?side10 ?side11 ?side12 A53.out).mono ?_); (case side1 => exact kc_ HR0_0 HB); (case side2 => exact HC0_0.out); (case side3 => exact kc_ HR0_1 HB); (case side4 => exact HC0_1.out); (case side5 => exact kc_ HR1 HB); (case side6 => exact HC1.out); (case side7 => exact kd_ (Kd.R_reads' HO_8.out).2.2); (case side8 => exact (Kd.R_reads' HO_8.out).2.1); (case side9 => exact kd_ (Kd.R_reads' HO_9.out).2.2); (case side10 => exact (Kd.R_reads' HO_9.out).2.1); (case side11 => exact kd_ (Kd.R_reads' HO_10.out).2.2); (case side12 => exact (Kd.R_reads' HO_10.out).2.1); rintro e w58 ⟨v205, v208, rfl, ho0, ho1, hb⟩; refine ⟨_, rfl, ?_⟩; have HO206 := Aside0.mk (Kd.R_lower (Kd.R_new' (Kd.R_new' (Kd.R_new' ho0 (Kd.R_lt (ro_ HO_8))) (Kd.R_lt (ro_ HO_9))) (Kd.R_lt (ro_ HO_10))) (below_size (be1_ HB GE161))); have HO209 := Aside0.mk (Kd.S_lower (Kd.S_new' (Kd.S_new' (Kd.S_new' ho1 (Kd.R_lt (ro_ HO_8))) (Kd.R_lt (ro_ HO_9))) (Kd.R_lt (ro_ HO_10))) (below_size (be1_ HB GE161))); replace HO_8 := Aside0.mk (Kd.R_elder' (ro_ HO_8) (Kd.R_base ho0) hb); replace HO_9 := Aside0.mk (Kd.R_elder' (ro_ HO_9) (Kd.R_base ho0) hb); replace HO_10 := Aside0.mk (Kd.R_elder' (ro_ HO_10) (Kd.R_base ho0) hb); replace BK161 := bb_ BK161 hb; replace HB := bs1_ HB GE161 hb; (try clear hb); (try clear hb2); (try clear hk); (try clear hi); (try clear ho0); (try clear ho1)))
       go_ret2
       exact ⟨_, _, rf_, by (with_reducible repeat (first | apply Kd.R_alloc | apply Kd.R_drewN | apply Kd.R_drew)); exact Kd.R_mono HO206.out (fun _ hk => trivial), by (with_reducible repeat (first | apply Kd.S_alloc | apply Kd.S_drewN | apply Kd.S_drew)); exact Kd.S_mono HO209.out (fun _ hk => hk.1.1.1), be1_ HB GE161⟩

end Go.Proofs.YtdeaccbolnlgpaaDoor.X
