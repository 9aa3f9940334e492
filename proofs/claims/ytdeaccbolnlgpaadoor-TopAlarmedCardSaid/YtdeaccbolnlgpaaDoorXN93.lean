import Derived.Test.YtdeaccbolnlgpaaDoorX0
namespace Go.Proofs.YtdeaccbolnlgpaaDoor.X
open Go.RowKit Go.Proofs.YtdeaccbolnlgpaaDoorW.PrintWords Go.Proofs.YtdeaccbolnlgpaaDoorW.PrintLast Go.Proofs.YtdeaccbolnlgpaaDoorW.PrintMore
attribute [local go_sem] max2_int min2_int max_two min_two max_three min_three max_four min_four   -- for this text's walks alone
set_option linter.unusedVariables false
set_option linter.unusedSimpArgs false

/-! ### cottonpadref06_sorted: function 93 -/
mutual
def cottonpadref06_sorted.l0 : Nat → List Int → Int → Option (List Int)
 | 0, _, _ => none
 | k + 1, x3, x4 => if x4 < (x3.length : Int) then (cottonpadref06_sorted.l1 k x3 x4 x4) else (some x3)
def cottonpadref06_sorted.l1 : Nat → List Int → Int → Int → Option (List Int)
 | 0, _, _, _ => none
 | k + 1, x3, x4, x5 => if x5 > 0 then (if 0 ≤ x5 then (if x5 < (x3.length : Int) then (if 0 ≤ (wrap64 (x5 - 1)) then (if (wrap64 (x5 - 1)) < (x3.length : Int) then (if (rd x3 x5) < (rd x3 (wrap64 (x5 - 1))) then (cottonpadref06_sorted.l1 k ((x3.set (x5 : Int).toNat (rd x3 (wrap64 (x5 - 1)))).set ((wrap64 (x5 - 1)) : Int).toNat (rd x3 x5)) x4 (wrap64 (x5 - 1))) else (cottonpadref06_sorted.l0 k x3 (wrap64 (x4 + 1)))) else (none)) else (none)) else (none)) else (none)) else (cottonpadref06_sorted.l0 k x3 (wrap64 (x4 + 1)))
end
def cottonpadref06_sorted.f (k : Nat) (l0 : List Int) : Option (List Int) := (some (([] : List Int) : List Int)).bind fun y149 => (if y149.length + l0.length < 17592186044416 then (cottonpadref06_sorted.l0 k (y149 ++ l0) 1) else (none))
theorem cottonpadref06_sorted.mono_l : ∀ k, (∀ y0 y1, LeO (cottonpadref06_sorted.l0 k y0 y1) (cottonpadref06_sorted.l0 (k + 1) y0 y1)) ∧ (∀ y0 y1 y2, LeO (cottonpadref06_sorted.l1 k y0 y1 y2) (cottonpadref06_sorted.l1 (k + 1) y0 y1 y2))
 | 0 => ⟨fun _ _ r h => by simp [cottonpadref06_sorted.l0] at h, fun _ _ _ r h => by simp [cottonpadref06_sorted.l1] at h⟩
 | k + 1 => by
  obtain ⟨ih0, ih1⟩ := cottonpadref06_sorted.mono_l k
  refine ⟨?_, ?_⟩
  ·intro y0 y1
   unfold cottonpadref06_sorted.l0
   repeat' (with_reducible first | exact ih0 .. | exact ih1 .. | exact LeO.refl .. | exact LeO.none .. | refine LeO.ite ?_ ?_ | refine LeO.bind ?_ (fun _ => ?_))
  ·intro y0 y1 y2
   unfold cottonpadref06_sorted.l1
   repeat' (with_reducible first | exact ih0 .. | exact ih1 .. | exact LeO.refl .. | exact LeO.none .. | refine LeO.ite ?_ ?_ | refine LeO.bind ?_ (fun _ => ?_))
theorem cottonpadref06_sorted.mono : ∀ a0 k, LeO (cottonpadref06_sorted.f k a0) (cottonpadref06_sorted.f (k + 1) a0) := by
 intro a0 k
 obtain ⟨ih0, ih1⟩ := cottonpadref06_sorted.mono_l k
 unfold cottonpadref06_sorted.f
 repeat' (with_reducible first | exact ih0 .. | exact ih1 .. | exact LeO.refl .. | exact LeO.none .. | refine LeO.ite ?_ ?_ | refine LeO.bind ?_ (fun _ => ?_))
def cottonpadref06_sorted.T6 : Bool × List (List Nat × List Nat) := (true, [([], []), ([0], [0]), ([1], [1]), ([2], [2]), ([2], [2]), ([3, 4, 2], [2, 3, 4]), ([5, 2], [2, 5]), ([2], [2]), ([2], [2]), ([8, 2], [2, 8]), ([7, 9, 2], [2, 7, 9]), ([10, 2], [2, 10]), ([6, 11, 2], [2, 6, 11]), ([2, 12], [2, 12])])
def cottonpadref06_sorted.B6 : List Nat := [0, 1, 3, 7, 7, 31, 63, 7, 7, 263, 903, 1927, 4095, 8191]
theorem cottonpadref06_sorted.tab6 : rtab .any (opsOf Tryd.f93 6) = cottonpadref06_sorted.T6 := by kernel_rfl
theorem cottonpadref06_sorted.bits6 : waitsOk cottonpadref06_sorted.T6.2 cottonpadref06_sorted.B6 = true := by kernel_rfl
def cottonpadref06_sorted.T8 : Bool × List (List Nat × List Nat) := (true, [([], []), ([], []), ([], []), ([], []), ([3], [3]), ([], []), ([], []), ([6], [6]), ([5, 7], [5, 7]), ([8], [8]), ([], []), ([], []), ([10, 11], [10, 11]), ([12], [12]), ([0, 1, 0, 1, 5, 6, 7, 8, 9, 13], [0, 1]), ([14, 9, 0, 1, 5, 6, 7, 8, 9, 13], [9, 14]), ([2, 4, 0, 1, 2, 3, 4, 5, 6, 7, 8, 9, 10, 11, 12, 13, 14, 15], [2, 4]), ([16, 13, 15, 0, 1, 2, 3, 4, 5, 6, 7, 8, 9, 10, 11, 12, 13, 14, 15], [13, 16])])
def cottonpadref06_sorted.B8 : List Nat := [0, 0, 0, 0, 8, 0, 0, 64, 224, 480, 0, 0, 3072, 7168, 16355, 32739, 65535, 131071]
theorem cottonpadref06_sorted.tab8 : rtab .any (opsOf Tryd.f93 8) = cottonpadref06_sorted.T8 := by kernel_rfl
theorem cottonpadref06_sorted.bits8 : waitsOk cottonpadref06_sorted.T8.2 cottonpadref06_sorted.B8 = true := by kernel_rfl
set_option maxHeartbeats 8000000 in
set_option maxRecDepth 100000 in
theorem cottonpadref06_sorted.calls (k : Nat) (A0 : Option Addr) (c0 : Nat) (l0 : List Int) (r : List Int) (w : World) (hr0 : Kd.C (Kd.int .i64) w A0 l0.length l0) (hc0 : l0.length ≤ c0) (h : cottonpadref06_sorted.f k l0 = some r) :
  Calls Tryd.prog 93 #[.slice A0 l0.length c0] w fun e w' => ∃ v0_ : Value, e = .returned (v0_) ∧ Kd.R (Kd.int .i64) 3 w' w.heap.size (fun _ => True) v0_ r ∧ Below w.heap.size w w' := by
 have HR0 := Aside0.mk hr0
 have HC0 := Aside0.mk hc0
 clear hr0 hc0
 have HB := Aside0.mk (Below.refl w.heap.size w)
 have H : ((some (([] : List Int) : List Int)).bind fun y149 => (if y149.length + l0.length < 17592186044416 then (cottonpadref06_sorted.l0 k (y149 ++ l0) 1) else (none))) = some r := h
 clear h
 obtain ⟨y149, hy149⟩ : ∃ y_ : List Int, y_ = (([] : List Int)) := ⟨_, rfl⟩
 replace H : (if y149.length + l0.length < 17592186044416 then (cottonpadref06_sorted.l0 k (y149 ++ l0) 1) else (none)) = some r := by first | (rw [hy149]; with_reducible exact H) | (have H2_ := (Option.bind_some _ _).symm.trans H; rw [hy149]; with_reducible exact H2_) | (have H2_ := (Option.bind_some _ _).symm.trans H; with_reducible exact H2_) | with_reducible exact H | (rw [hy149]; exact H) | exact H
 have Ny149 := Aside0.mk hy149
 clear hy149
 by_cases c2 : y149.length + l0.length < 17592186044416
 ·rw [if_pos c2] at H
  have LMc2 := Aside0.mk c2
  clear c2
  obtain ⟨y152, hy152⟩ : ∃ y_ : List Int, y_ = (y149 ++ l0) := ⟨_, rfl⟩
  replace H : (cottonpadref06_sorted.l0 k y152 1) = some r := by first | (rw [hy152]; with_reducible exact H) | (have H2_ := (Option.bind_some _ _).symm.trans H; rw [hy152]; with_reducible exact H2_) | (have H2_ := (Option.bind_some _ _).symm.trans H; with_reducible exact H2_) | with_reducible exact H | (rw [hy152]; exact H) | exact H
  have Ny152 := Aside0.mk hy152
  clear hy152
  have H' := Aside0.mk H
  clear H
  go_enter Tryd.func93, Tryd.ntmps93
  go_wp2_with (first | ((with_reducible refine gate_dst (N := 6) rfl ?_); refine Kd.R_lit (Kd.int .i64) _ 3 ?hg (N := 6) ?hd (xs := ([] : List Int)) (inner := []) (ok := fun _ => True) (okp := fun _ => True) ?hr ?hp (fun _ hk => hk) trivial (Below.refl _ _) (Nat.le_refl _) (by simp) ?_; (case hd => rfl); (case hg => rfl); (case hr => exact gs_); (case hp => exact (Reps.none _ _)); intro v150 w3 ho4 hb hg_ hnew_; clear hg_ hnew_; (first | rw [← Ny149.out] at ho4 | (simp only [Int.reduceToNat] at ho4; rw [← Ny149.out] at ho4)); have HO151 := Aside0.mk (Kd.R_lower ho4 (below_size (be_ HB))); replace HB := bs_ HB hb; clear hb ho4) | ((with_reducible refine gate_builtin (b := .append) (xs := #[.tmp 6, .tmp 7]) rfl ?_); at_builtin; refine Kd.R_append_rows (Kd.int .i64) (w0 := w) w.heap.size rfl (.tmp 6) (.tmp 7) 67 3 (.int .i64 0) 8 rfl Tryd.underlying67 info3 rfl (by decide) (by omega) v150 y149 l0 _ _ _ (fun _ => True) (fun _ => False) rfl rfl ?aO ?aR (fun _ _ h => h) (fun _ h => h.elim) ?aF ?aB ?aS ?aL ?_; (case aR => exact kc_ HR0 HB); (case aB => exact (be_ HB)); (case aF => exact (fun _ _ => trivial)); (case aO => exact (ro_ HO151)); (case aS => exact (below_size (be_ HB))); (case aL => have := LMc2.out; omega); intro v153 w5 ho hb hg hat; rw [← Ny152.out] at ho; replace HB := Aside0.mk (hb); have HO154 := Aside0.mk (ho); clear HO151; clear ho hb hg hat))
  go_loopg [4] k (fun kq v4 w' => ∃ (x3_1 : List Int) (x4_1 : Int), v4 = .int .i64 x4_1 ∧ Aside0 (cottonpadref06_sorted.l0 kq x3_1 x4_1 = some r) ∧ Aside0 (kq ≤ k) ∧ Aside0 (Kd.R (Kd.int .i64) 3 w' w.heap.size (fun _ => True) v153 x3_1) ∧ Aside0 (Below w.heap.size w w'))
  case atStart => exact ⟨(y152), (1), (by first | rfl | (simp; done) | (simp [*]; done)), H', ⟨Nat.le_refl _⟩, ⟨by (with_reducible repeat (first | apply Kd.R_alloc | apply Kd.R_drewN | apply Kd.R_drew)); exact HO154.out⟩, ⟨be_ HB⟩⟩
  case round =>
   clear H'
   try clear c2
   try clear p2
   obtain ⟨x3_1, x4_1, rfl, HA, HK1, HO_3, HB⟩ := hrel
   cases gk with
   | zero => exact absurd HA.out (by simp [cottonpadref06_sorted.l0])
   | succ k1 =>
    have H := HA.out
    clear HA
    simp only [cottonpadref06_sorted.l0] at H
    by_cases c6 : x4_1 < (x3_1.length : Int)
    ·rw [if_pos c6] at H
     have c6b0 : decide (x4_1 < (x3_1.length : Int)) = true := decide_eq_true c6
     clear c6
     have H' := Aside0.mk H
     clear H
     obtain ⟨Ao7, co7, eo7⟩ := Kd.R_slice HO_3.out
     subst eo7
     go_wp2
     go_loopg [5] k1 (fun kq v5 w' => ∃ (x3_2 : List Int) (x5_2 : Int), v5 = .int .i64 x5_2 ∧ Aside0 (cottonpadref06_sorted.l1 kq x3_2 x4_1 x5_2 = some r) ∧ Aside0 (kq ≤ k1) ∧ Aside0 (Kd.R (Kd.int .i64) 3 w' w.heap.size (fun _ => True) (.slice Ao7 x3_1.length co7) x3_2) ∧ Aside0 (Below w.heap.size w w'))
     case atStart => exact ⟨(x3_1), (x4_1), (by first | rfl | (simp; done) | (simp [*]; done)), H', ⟨Nat.le_refl _⟩, ⟨by (with_reducible repeat (first | apply Kd.R_alloc | apply Kd.R_drewN | apply Kd.R_drew)); exact HO_3.out⟩, ⟨be_ HB⟩⟩
     case round =>
      clear H'
      try clear c2
      try clear p2
      try clear c6
      try clear c6b0
      try clear p2
      obtain ⟨x3_2, x5_2, rfl, HA, HK2, HO_3, HB⟩ := hrel
      have hl3_2 := (Kd.R_reads' HO_3.out).1
      rw [hl3_2] at HO_3
      (try simp only [hl3_2])
      cases gk with
      | zero => exact absurd HA.out (by simp [cottonpadref06_sorted.l1])
      | succ k2 =>
       have H := HA.out
       clear HA
       simp only [cottonpadref06_sorted.l1] at H
       by_cases c8 : x5_2 > 0
       ·rw [if_pos c8] at H
        have c8b0 : decide (0 < x5_2) = true := decide_eq_true c8
        clear c8
        by_cases c9 : 0 ≤ x5_2
        ·rw [if_pos c9] at H
         have c9b0 : decide (0 ≤ x5_2) = true := decide_eq_true c9
         clear c9
         by_cases c10 : x5_2 < (x3_2.length : Int)
         ·rw [if_pos c10] at H
          have c10b0 : decide (x5_2 < (x3_2.length : Int)) = true := decide_eq_true c10
          clear c10
          obtain ⟨ji11, hji11⟩ : ∃ j_ : Int, (wrap64 (x5_2 - 1)) = j_ := ⟨_, rfl⟩
          replace H : (if 0 ≤ (ji11) then (if (ji11) < (x3_2.length : Int) then (if (rd x3_2 x5_2) < (rd x3_2 (ji11)) then (cottonpadref06_sorted.l1 k2 ((x3_2.set (x5_2 : Int).toNat (rd x3_2 (ji11))).set ((ji11) : Int).toNat (rd x3_2 x5_2)) x4_1 ji11) else (cottonpadref06_sorted.l0 k2 x3_2 (wrap64 (x4_1 + 1)))) else (none)) else (none)) = some r := by first | (rw [hji11] at H; exact H) | (simp only [hji11] at H ⊢; exact H)
          have hji11w : (IntKind.i64.wrap (x5_2 - 1)) = ji11 := (i64_w _).trans hji11
          by_cases c12 : 0 ≤ (ji11)
          ·rw [if_pos c12] at H
           have c12b0 : decide (0 ≤ (ji11)) = true := decide_eq_true c12
           clear c12
           by_cases c13 : (ji11) < (x3_2.length : Int)
           ·rw [if_pos c13] at H
            have c13b0 : decide ((ji11) < (x3_2.length : Int)) = true := decide_eq_true c13
            clear c13
            by_cases c14 : (rd x3_2 x5_2) < (rd x3_2 (ji11))
            ·rw [if_pos c14] at H
             have c14b0 : decide ((rd x3_2 x5_2) < (rd x3_2 (ji11))) = true := decide_eq_true c14
             clear c14
             obtain ⟨y159, hy159⟩ : ∃ y_ : List Int, y_ = (x3_2.set (x5_2 : Int).toNat (rd x3_2 (ji11))) := ⟨_, rfl⟩
             replace H : (cottonpadref06_sorted.l1 k2 (y159.set ((ji11) : Int).toNat (rd x3_2 x5_2)) x4_1 ji11) = some r := by first | (rw [hy159]; with_reducible exact H) | (have H2_ := (Option.bind_some _ _).symm.trans H; rw [hy159]; with_reducible exact H2_) | (have H2_ := (Option.bind_some _ _).symm.trans H; with_reducible exact H2_) | with_reducible exact H | (rw [hy159]; exact H) | exact H
             have Ny159 := Aside0.mk hy159
             clear hy159
             obtain ⟨y160, hy160⟩ : ∃ y_ : List Int, y_ = (y159.set ((ji11) : Int).toNat (rd x3_2 x5_2)) := ⟨_, rfl⟩
             replace H : (cottonpadref06_sorted.l1 k2 y160 x4_1 ji11) = some r := by first | (rw [hy160]; with_reducible exact H) | (have H2_ := (Option.bind_some _ _).symm.trans H; rw [hy160]; with_reducible exact H2_) | (have H2_ := (Option.bind_some _ _).symm.trans H; with_reducible exact H2_) | with_reducible exact H | (rw [hy160]; exact H) | exact H
             have Ny160 := Aside0.mk hy160
             clear hy160
             have H' := Aside0.mk H
             clear H
             try go_wp2
             replace HO_3 := Aside0.mk (Kd.R_drew HO_3.out)
             replace HB := Aside0.mk (below_drew1 HB.out)
             have p155 : 0 ≤ (x5_2 : Int) := of_decide_eq_true as_
             have q155 : x5_2 < (x3_2.length : Int) := of_decide_eq_true as_
             obtain ⟨ad155, e155, hx155_0⟩ := Kd.at_int (Kd.R_reads' HO_3.out).2.2 x5_2 p155 q155
             cases e155
             replace p155 := eq_true p155
             replace q155 := eq_true q155
             have p156 : 0 ≤ ((ji11) : Int) := of_decide_eq_true as_
             have q156 : (ji11) < (x3_2.length : Int) := of_decide_eq_true as_
             obtain ⟨ad156, e156, hx156_0⟩ := Kd.at_int (Kd.R_reads' HO_3.out).2.2 (ji11) p156 q156
             obtain rfl : ad155 = ad156 := (by injection e156)
             replace p156 := eq_true p156
             replace q156 := eq_true q156
             refine start_ (n := 14) (S := fun w' => w'.cell? (ad155.add (x5_2).toNat) = some (.int .i64 (rd x3_2 x5_2)) ∧ w'.cell? (ad155.add ((ji11)).toNat) = some (.int .i64 (rd x3_2 (ji11)))) (ds := []) (bm_ 14 0) (by kernel_rfl) rfl rfl ⟨hx155_0, hx156_0⟩ (fun hHeld => ?_); refine with_tabW cottonpadref06_sorted.tab6 cottonpadref06_sorted.bits6 (fun HT_ HW_ => ?_)
             generalize wr.drew = w17 at HO_3 HB hx155_0 hx156_0 hHeld ⊢
             refine pr_ 0 16 14 1 HT_ rfl rfl ?_
             refine pr_ 1 17 14 3 HT_ rfl rfl ?_
             refine pr_ 2 18 14 7 HT_ rfl rfl ?_
             refine pr_ 3 19 14 15 HT_ rfl rfl ?_
             refine pr_ 4 20 14 31 HT_ rfl rfl ?_
             refine pr_ 5 21 14 63 HT_ rfl rfl ?_
             refine pr_ 7 23 14 191 HT_ rfl rfl ?_
             refine pr_ 8 24 14 447 HT_ rfl rfl ?_
             refine pr_ 9 25 14 959 HT_ rfl rfl ?_
             refine pr_ 10 26 14 1983 HT_ rfl rfl ?_
             refine ta_ 6 22 14 2047 HT_ HW_ rfl rfl hHeld ?_
             refine ta_ 11 27 14 4095 HT_ HW_ rfl rfl hHeld ?_
             refine pr_ 12 28 14 8191 HT_ rfl rfl ?_
             refine pr_ 13 29 14 16383 HT_ rfl rfl ?_
             refine done_ (done_of HT_.out (by kernel_rfl)) ?_
             try go_wp2
             replace HO_3 := Aside0.mk (Kd.R_drew HO_3.out)
             replace HB := Aside0.mk (below_drew1 HB.out)
             have p157 : 0 ≤ ((ji11) : Int) := of_decide_eq_true as_
             have q157 : (ji11) < (x3_2.length : Int) := of_decide_eq_true as_
             obtain ⟨ad157, e157, hx157_0⟩ := Kd.at_int (Kd.R_reads' HO_3.out).2.2 (ji11) p157 q157
             obtain rfl : ad155 = ad157 := (by injection e157)
             replace p157 := eq_true p157
             replace q157 := eq_true q157
             have p158 : 0 ≤ (x5_2 : Int) := of_decide_eq_true as_
             have q158 : x5_2 < (x3_2.length : Int) := of_decide_eq_true as_
             obtain ⟨ad158, e158, hx158_0⟩ := Kd.at_int (Kd.R_reads' HO_3.out).2.2 x5_2 p158 q158
             obtain rfl : ad155 = ad158 := (by injection e158)
             replace p158 := eq_true p158
             replace q158 := eq_true q158
             have p15 : 0 ≤ (x5_2 : Int) := of_decide_eq_true as_
             have q15 : (x5_2 : Int) < ((x3_2.length : Int) : Int) := of_decide_eq_true as_
             obtain ⟨go15, co15, eo15, gb15, gl15, cl15, HG15⟩ := Kd.R_form HO_3.out (by omega)
             (first | cases eo15 | (injection eo15 with ea_ en_ ec_; (first | subst ea_ | (injection ea_ with ea_; subst ea_)); subst ec_; clear en_))
             have GB15 := Aside0.mk gb15
             have GG15 := Aside0.mk HG15
             clear gb15 gl15 HG15
             (first | simp only [add_plain] at hx155_0 | skip)
             (first | simp only [add_plain] at hx156_0 | skip)
             (first | simp only [add_plain] at hx157_0 | skip)
             (first | simp only [add_plain] at hx158_0 | skip)
             obtain ⟨hx15_0, hf15_0⟩ := Kd.R_celln 0 HO_3.out (x5_2 : Int) p15 q15
             replace p15 := eq_true p15
             replace q15 := eq_true q15
             have HP19 := Kd.R_putn HO_3.out (x5_2 : Int) (rd x3_2 (ji11))
             rw [← Ny159.out] at HP19
             have HQ19 := Aside0.mk HP19
             clear HP19
             have p16 : 0 ≤ ((ji11) : Int) := of_decide_eq_true as_
             have q16 : ((ji11) : Int) < ((x3_2.length : Int) : Int) := of_decide_eq_true as_
             obtain ⟨hx16_0, hf16_0⟩ := Kd.R_celln 0 HQ19.out ((ji11) : Int) p16 q16
             replace p16 := eq_true p16
             replace q16 := eq_true q16
             have HP20 := Kd.R_putn HQ19.out ((ji11) : Int) (rd x3_2 x5_2)
             rw [← Ny160.out] at HP20
             have HQ20 := Aside0.mk HP20
             clear HP20
             refine start_ (n := 18) (S := fun w' => w'.cell? ⟨go15, ((ji11)).toNat, none⟩ = some (.int .i64 (rd x3_2 (ji11))) ∧ w'.cell? ⟨go15, (x5_2).toNat, none⟩ = some (.int .i64 (rd x3_2 x5_2))) (ds := [15, 17]) (bm_ 18 0) (by kernel_rfl) rfl rfl ⟨hx157_0, hx158_0⟩ (fun hHeld => ?_); refine with_tabW cottonpadref06_sorted.tab8 cottonpadref06_sorted.bits8 (fun HT_ HW_ => ?_)
             generalize w17.drew = w18 at HO_3 HB GG15 HQ19 HQ20 hf15_0 hf16_0 hx155_0 hx156_0 hx157_0 hx158_0 hx15_0 hx16_0 hHeld ⊢
             refine pr_ 0 32 18 1 HT_ rfl rfl ?_
             refine pr_ 1 33 18 3 HT_ rfl rfl ?_
             refine pr_ 2 34 18 7 HT_ rfl rfl ?_
             refine pr_ 3 35 18 15 HT_ rfl rfl ?_
             refine pr_ 4 36 18 31 HT_ rfl rfl ?_
             refine pr_ 5 37 18 63 HT_ rfl rfl ?_
             refine pr_ 6 38 18 127 HT_ rfl rfl ?_
             refine pr_ 7 39 18 255 HT_ rfl rfl ?_
             refine pr_ 8 40 18 511 HT_ rfl rfl ?_
             refine pr_ 10 42 18 1535 HT_ rfl rfl ?_
             refine pr_ 11 43 18 3583 HT_ rfl rfl ?_
             refine pr_ 12 44 18 7679 HT_ rfl rfl ?_
             refine ta_ 9 41 18 8191 HT_ HW_ rfl rfl hHeld ?_
             refine ta_ 13 45 18 16383 HT_ HW_ rfl rfl hHeld ?_
             refine pr_ 14 46 18 32767 HT_ rfl rfl ?_
             refine last_ (i := 15) (N := none) (bm_ 18 65535) rfl rfl (one_of HT_.out (by kernel_rfl)) (by decide) (fun K hK => ?_)
             refine skip_ (w1 := ?_) (by rfl) rfl ?_ ?_
             rotate_left
             ·go_simp
              rfl
             refine hK.out _ _ ?_
             clear hK K
             refine pr_ 16 47 18 131071 HT_ rfl rfl ?_
             refine last_ (i := 17) (N := none) (bm_ 18 262143) rfl rfl (one_of HT_.out (by kernel_rfl)) (by decide) (fun K hK => ?_)
             refine skip_ (w1 := ?_) (by rfl) rfl ?_ ?_
             rotate_left
             ·go_simp
              rfl
             refine hK.out _ _ ?_
             clear hK K
             refine done_ (done_of HT_.out (by kernel_rfl)) ?_
             try go_wp2
             (try simp only [← hl3_2])
             go_roundg k2
             case measure => have := HK1.out; have := HK2.out; omega
             case rel => exact ⟨(y160), (ji11), (by first | rfl | (simp; done) | (simp only [← hji11] <;> (first | rfl | simp)) | (simp [*]; done)), H', ⟨by have := HK1.out; have := HK2.out; omega⟩, ⟨by (try simp only [hl3_2]); (with_reducible repeat (first | apply Kd.R_alloc | apply Kd.R_drewN | apply Kd.R_drew)); exact HQ20.out⟩, ⟨by repeat (first | (with_reducible first | exact HB.out | apply below_alloc | apply pw_below_drewN | apply below_drew1 | refine below_set ?_ GB15.out | refine below_set ?_ GB15.out) | exact HB.out)⟩⟩
            ·rw [if_neg c14] at H
             have c14b0 : decide ((rd x3_2 x5_2) < (rd x3_2 (ji11))) = false := decide_eq_false c14
             clear c14
             have H' := Aside0.mk H
             clear H
             try go_wp2
             replace HO_3 := Aside0.mk (Kd.R_drew HO_3.out)
             replace HB := Aside0.mk (below_drew1 HB.out)
             have p155 : 0 ≤ (x5_2 : Int) := of_decide_eq_true as_
             have q155 : x5_2 < (x3_2.length : Int) := of_decide_eq_true as_
             obtain ⟨ad155, e155, hx155_0⟩ := Kd.at_int (Kd.R_reads' HO_3.out).2.2 x5_2 p155 q155
             cases e155
             replace p155 := eq_true p155
             replace q155 := eq_true q155
             have p156 : 0 ≤ ((ji11) : Int) := of_decide_eq_true as_
             have q156 : (ji11) < (x3_2.length : Int) := of_decide_eq_true as_
             obtain ⟨ad156, e156, hx156_0⟩ := Kd.at_int (Kd.R_reads' HO_3.out).2.2 (ji11) p156 q156
             obtain rfl : ad155 = ad156 := (by injection e156)
             replace p156 := eq_true p156
             replace q156 := eq_true q156
             refine start_ (n := 14) (S := fun w' => w'.cell? (ad155.add (x5_2).toNat) = some (.int .i64 (rd x3_2 x5_2)) ∧ w'.cell? (ad155.add ((ji11)).toNat) = some (.int .i64 (rd x3_2 (ji11)))) (ds := []) (bm_ 14 0) (by kernel_rfl) rfl rfl ⟨hx155_0, hx156_0⟩ (fun hHeld => ?_); refine with_tabW cottonpadref06_sorted.tab6 cottonpadref06_sorted.bits6 (fun HT_ HW_ => ?_)
             generalize wr.drew = w21 at HO_3 HB hx155_0 hx156_0 hHeld ⊢
             refine pr_ 0 16 14 1 HT_ rfl rfl ?_
             refine pr_ 1 17 14 3 HT_ rfl rfl ?_
             refine pr_ 2 18 14 7 HT_ rfl rfl ?_
             refine pr_ 3 19 14 15 HT_ rfl rfl ?_
             refine pr_ 4 20 14 31 HT_ rfl rfl ?_
             refine pr_ 5 21 14 63 HT_ rfl rfl ?_
             refine pr_ 7 23 14 191 HT_ rfl rfl ?_
             refine pr_ 8 24 14 447 HT_ rfl rfl ?_
             refine pr_ 9 25 14 959 HT_ rfl rfl ?_
             refine pr_ 10 26 14 1983 HT_ rfl rfl ?_
             refine ta_ 6 22 14 2047 HT_ HW_ rfl rfl hHeld ?_
             refine ta_ 11 27 14 4095 HT_ HW_ rfl rfl hHeld ?_
             refine pr_ 12 28 14 8191 HT_ rfl rfl ?_
             refine pr_ 13 29 14 16383 HT_ rfl rfl ?_
             refine done_ (done_of HT_.out (by kernel_rfl)) ?_
             try go_wp2
             (try simp only [← hl3_2])
             go_roundg k2
             case measure => have := HK1.out; have := HK2.out; omega
             case rel => exact ⟨(x3_2), (wrap64 (x4_1 + 1)), (by first | rfl | (simp; done) | (simp [*]; done)), H', ⟨by have := HK1.out; have := HK2.out; omega⟩, ⟨by (try simp only [hl3_2]); (with_reducible repeat (first | apply Kd.R_alloc | apply Kd.R_drewN | apply Kd.R_drew)); exact HO_3.out⟩, ⟨be_ HB⟩⟩
           ·rw [if_neg c13] at H
            exact absurd H (by simp)
          ·rw [if_neg c12] at H
           exact absurd H (by simp)
         ·rw [if_neg c10] at H
          exact absurd H (by simp)
        ·rw [if_neg c9] at H
         exact absurd H (by simp)
       ·rw [if_neg c8] at H
        have c8b0 : decide (0 < x5_2) = false := decide_eq_false c8
        clear c8
        have H' := Aside0.mk H
        clear H
        try go_wp2
        replace HO_3 := Aside0.mk (Kd.R_drew HO_3.out)
        replace HB := Aside0.mk (below_drew1 HB.out)
        refine start_ (n := 14) (S := fun w' => True) (ds := []) (bm_ 14 0) (by kernel_rfl) rfl rfl trivial (fun hHeld => ?_); refine with_tabW cottonpadref06_sorted.tab6 cottonpadref06_sorted.bits6 (fun HT_ HW_ => ?_)
        generalize wr.drew = w22 at HO_3 HB hHeld ⊢
        refine pr_ 0 16 14 1 HT_ rfl rfl ?_
        refine pr_ 1 17 14 3 HT_ rfl rfl ?_
        refine pr_ 2 18 14 7 HT_ rfl rfl ?_
        refine pn_ 3 19 14 15 HT_ rfl rfl ?_
        refine pn_ 4 20 14 31 HT_ rfl rfl ?_
        refine pn_ 5 21 14 63 HT_ rfl rfl ?_
        refine pn_ 6 22 14 127 HT_ rfl rfl ?_
        refine pn_ 7 23 14 255 HT_ rfl rfl ?_
        refine pn_ 8 24 14 511 HT_ rfl rfl ?_
        refine pn_ 9 25 14 1023 HT_ rfl rfl ?_
        refine pn_ 10 26 14 2047 HT_ rfl rfl ?_
        refine pn_ 11 27 14 4095 HT_ rfl rfl ?_
        refine pn_ 12 28 14 8191 HT_ rfl rfl ?_
        refine pr_ 13 29 14 16383 HT_ rfl rfl ?_
        refine done_ (done_of HT_.out (by kernel_rfl)) ?_
        try go_wp2
        (try simp only [← hl3_2])
        go_roundg k2
        case measure => have := HK1.out; have := HK2.out; omega
        case rel => exact ⟨(x3_2), (wrap64 (x4_1 + 1)), (by first | rfl | (simp; done) | (simp [*]; done)), H', ⟨by have := HK1.out; have := HK2.out; omega⟩, ⟨by (try simp only [hl3_2]); (with_reducible repeat (first | apply Kd.R_alloc | apply Kd.R_drewN | apply Kd.R_drew)); exact HO_3.out⟩, ⟨be_ HB⟩⟩
    ·rw [if_neg c6] at H
     have c6b0 : decide (x4_1 < (x3_1.length : Int)) = false := decide_eq_false c6
     clear c6
     obtain rfl := Option.some.inj H
     obtain ⟨Ao23, co23, eo23⟩ := Kd.R_slice HO_3.out
     subst eo23
     go_wp2
     go_ret
     exact ⟨_, rf_, by (with_reducible repeat (first | apply Kd.R_alloc | apply Kd.R_drewN | apply Kd.R_drew)); exact HO_3.out, be_ HB⟩
 ·rw [if_neg c2] at H
  exact absurd H (by simp)

end Go.Proofs.YtdeaccbolnlgpaaDoor.X
