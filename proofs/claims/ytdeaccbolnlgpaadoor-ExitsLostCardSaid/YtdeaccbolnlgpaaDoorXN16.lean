import Derived.Test.YtdeaccbolnlgpaaDoorX0
namespace Go.Proofs.YtdeaccbolnlgpaaDoor.X
open Go.RowKit Go.Proofs.YtdeaccbolnlgpaaDoorW.PrintWords Go.Proofs.YtdeaccbolnlgpaaDoorW.PrintLast Go.Proofs.YtdeaccbolnlgpaaDoorW.PrintMore
attribute [local go_sem] max2_int min2_int max_two min_two max_three min_three max_four min_four   -- for this text's walks alone
set_option linter.unusedVariables false
set_option linter.unusedSimpArgs false

/-! ### cottonpadref06_Twin: function 16 -/
def cottonpadref06_Twin.f (l0_0 : List (S62)) (l0_1 : List (S81)) : Option ((List (S62)) × (List (S81))) := (some (([] : List (S62)) : List (S62))).bind fun y104 => (if y104.length + l0_0.length < 2932031007402 then ((some (([] : List (S81)) : List (S81))).bind fun y110 => (if y110.length + l0_1.length < 4398046511104 then (some ((y104 ++ l0_0), (y110 ++ l0_1))) else (none))) else (none))
def cottonpadref06_Twin.T1 : Bool × List (List Nat × List Nat) := (true, [([], []), ([], []), ([1], [1]), ([0, 2], [0, 2]), ([], []), ([], []), ([5], [5]), ([4, 6, 3], [4, 6]), ([3, 7], [3, 7]), ([8, 7, 0, 1, 2, 3, 4, 5, 6, 7, 8], [8])])
def cottonpadref06_Twin.B1 : List Nat := [0, 0, 2, 7, 0, 0, 32, 127, 255, 511]
theorem cottonpadref06_Twin.tab1 : rtab .any (opsOf Tryd.f16 1) = cottonpadref06_Twin.T1 := by kernel_rfl
theorem cottonpadref06_Twin.bits1 : waitsOk cottonpadref06_Twin.T1.2 cottonpadref06_Twin.B1 = true := by kernel_rfl
set_option maxHeartbeats 8000000 in
set_option maxRecDepth 100000 in
theorem cottonpadref06_Twin.calls (A0_0 : Option Addr) (c0_0 : Nat) (l0_0 : List (S62)) (A0_1 : Option Addr) (c0_1 : Nat) (l0_1 : List (S81)) (r1 : List (S62)) (r2 : List (S81)) (w : World) (hr0_0 : Kd.C k62 w A0_0 l0_0.length l0_0) (hc0_0 : l0_0.length ≤ c0_0) (hr0_1 : Kd.C k81 w A0_1 l0_1.length l0_1) (hc0_1 : l0_1.length ≤ c0_1) (h : cottonpadref06_Twin.f l0_0 l0_1 = some (r1, r2)) :
  Calls Tryd.prog 16 #[.agg #[.slice A0_0 l0_0.length c0_0, .slice A0_1 l0_1.length c0_1]] w fun e w' => ∃ v0_ v1_ : Value, e = .returned (.agg #[v0_, v1_]) ∧ Kd.R k62 62 w' w.heap.size (fun _ => True) v0_ r1 ∧ Kd.R k81 81 w' w.heap.size (fun _ => True) v1_ r2 ∧ Below w.heap.size w w' := by
 have hu25 := Tryd.underlying25
 have HR0_0 := Aside0.mk hr0_0
 have HC0_0 := Aside0.mk hc0_0
 clear hr0_0 hc0_0
 have HR0_1 := Aside0.mk hr0_1
 have HC0_1 := Aside0.mk hc0_1
 clear hr0_1 hc0_1
 have HB := Aside0.mk (Below.refl w.heap.size w)
 have H : ((some (([] : List (S62)) : List (S62))).bind fun y104 => (if y104.length + l0_0.length < 2932031007402 then ((some (([] : List (S81)) : List (S81))).bind fun y110 => (if y110.length + l0_1.length < 4398046511104 then (some ((y104 ++ l0_0), (y110 ++ l0_1))) else (none))) else (none))) = some (r1, r2) := h
 clear h
 obtain ⟨y104, hy104⟩ : ∃ y_ : List (S62), y_ = (([] : List (S62))) := ⟨_, rfl⟩
 replace H : (if y104.length + l0_0.length < 2932031007402 then ((some (([] : List (S81)) : List (S81))).bind fun y110 => (if y110.length + l0_1.length < 4398046511104 then (some ((y104 ++ l0_0), (y110 ++ l0_1))) else (none))) else (none)) = some (r1, r2) := by first | (rw [hy104]; with_reducible exact H) | (have H2_ := (Option.bind_some _ _).symm.trans H; rw [hy104]; with_reducible exact H2_) | (have H2_ := (Option.bind_some _ _).symm.trans H; with_reducible exact H2_) | with_reducible exact H | (rw [hy104]; exact H) | exact H
 have Ny104 := Aside0.mk hy104
 clear hy104
 by_cases c2 : y104.length + l0_0.length < 2932031007402
 ·rw [if_pos c2] at H
  have LMc2 := Aside0.mk c2
  clear c2
  obtain ⟨y107, hy107⟩ : ∃ y_ : List (S62), y_ = (y104 ++ l0_0) := ⟨_, rfl⟩
  replace H : ((some (([] : List (S81)) : List (S81))).bind fun y110 => (if y110.length + l0_1.length < 4398046511104 then (some (y107, (y110 ++ l0_1))) else (none))) = some (r1, r2) := by first | (rw [hy107]; with_reducible exact H) | (have H2_ := (Option.bind_some _ _).symm.trans H; rw [hy107]; with_reducible exact H2_) | (have H2_ := (Option.bind_some _ _).symm.trans H; with_reducible exact H2_) | with_reducible exact H | (rw [hy107]; exact H) | exact H
  have Ny107 := Aside0.mk hy107
  clear hy107
  obtain ⟨y110, hy110⟩ : ∃ y_ : List (S81), y_ = (([] : List (S81))) := ⟨_, rfl⟩
  replace H : (if y110.length + l0_1.length < 4398046511104 then (some (y107, (y110 ++ l0_1))) else (none)) = some (r1, r2) := by first | (rw [hy110]; with_reducible exact H) | (have H2_ := (Option.bind_some _ _).symm.trans H; rw [hy110]; with_reducible exact H2_) | (have H2_ := (Option.bind_some _ _).symm.trans H; with_reducible exact H2_) | with_reducible exact H | (rw [hy110]; exact H) | exact H
  have Ny110 := Aside0.mk hy110
  clear hy110
  by_cases c3 : y110.length + l0_1.length < 4398046511104
  ·rw [if_pos c3] at H
   have LMc3 := Aside0.mk c3
   clear c3
   obtain ⟨y113, hy113⟩ : ∃ y_ : List (S81), y_ = (y110 ++ l0_1) := ⟨_, rfl⟩
   replace H : (some (y107, y113)) = some (r1, r2) := by first | (rw [hy113]; with_reducible exact H) | (have H2_ := (Option.bind_some _ _).symm.trans H; rw [hy113]; with_reducible exact H2_) | (have H2_ := (Option.bind_some _ _).symm.trans H; with_reducible exact H2_) | with_reducible exact H | (rw [hy113]; exact H) | exact H
   have Ny113 := Aside0.mk hy113
   clear hy113
   simp only [Option.some.injEq, Prod.mk.injEq] at H
   obtain ⟨rfl, rfl⟩ := H
   go_enter Tryd.func16, Tryd.ntmps16
   try go_wp2_with (first | ((with_reducible refine gate_dst (N := 1) rfl ?_); refine box_event ?hg (N := 1) ?hd (cs := #[.slice A0_0 l0_0.length c0_0, .slice A0_1 l0_1.length c0_1]) (t := 25) ?hr ?_; (case hd => rfl); (case hg => rfl); (case hr => exact gs_); intro gb102 hg w4 hbox hb; have BK102 := Aside0.mk (hbox); have GW102 := hl_ hg (be_ HB); have GE102 := hl_ hg (be_ HB); replace HB := bs_ HB hb; clear hb hbox hg) | ((with_reducible refine gate_dst (N := 2) rfl ?_); refine box_event ?hg (N := 2) ?hd (cs := #[.slice none 0 0, .slice none 0 0]) (t := 25) ?hr ?_; (case hd => rfl); (case hg => rfl); (case hr => exact gs_); intro gb103 hg w5 hbox hb; have BK103 := Aside0.mk (hbox); have GW103 := hl_ hg (be1_ HB GE102); have GE103 := hl_ hg (be1_ HB GE102); replace HB := bs1_ HB GE102 hb; have NB102_103 := Aside0.mk ((by rw [hg]; exact Nat.ne_of_lt (blk_lt (bk_ BK102)) : gb102 ≠ gb103)); have NB103_102 := Aside0.mk ((by rw [hg]; exact Nat.ne_of_gt (blk_lt (bk_ BK102)) : gb103 ≠ gb102)); replace BK102 := bb_ BK102 hb; clear hb hbox hg))
   replace BK102 := Aside0.mk (blk_drew BK102.out)
   replace BK103 := Aside0.mk (blk_drew BK103.out)
   replace HB := Aside0.mk (below_drew1 HB.out)
   refine start_ (n := 10) (S := fun w' => w'.cell? ⟨gb102, 0, none⟩ = some (.slice A0_0 l0_0.length c0_0) ∧ w'.cell? ⟨gb102, 1, none⟩ = some (.slice A0_1 l0_1.length c0_1)) (ds := []) (bm_ 10 0) (by kernel_rfl) rfl rfl ⟨bc_ BK102 0, bc_ BK102 1⟩ (fun hHeld => ?_); refine with_tabW cottonpadref06_Twin.tab1 cottonpadref06_Twin.bits1 (fun HT_ HW_ => ?_)
   generalize w5.drew = w6 at BK102 BK103 HB hHeld ⊢
   refine pr_ 1 4 10 2 HT_ rfl rfl ?_
   refine pr_ 5 8 10 34 HT_ rfl rfl ?_
   refine ta_ 2 5 10 38 HT_ HW_ rfl rfl hHeld ?_
   refine ta_ 6 9 10 102 HT_ HW_ rfl rfl hHeld ?_
   refine join_ (σ := Value × Value × Value) 3 (bm_ 10 127) (fun s_ => [(3, s_.1), (6, s_.2.1), (7, s_.2.2)]) (fun s_ w' => (w'.cell? ⟨gb102, 0, none⟩ = some (.slice A0_0 l0_0.length c0_0) ∧ w'.cell? ⟨gb102, 1, none⟩ = some (.slice A0_1 l0_1.length c0_1)) ∧ (Kd.R k62 62 w' w.heap.size (fun _ => True) s_.2.1 y107) ∧ (Kd.R k81 81 w' w.heap.size (fun _ => True) s_.2.2 y110) ∧ (w'.heap[gb102]? = some (.cells #[.slice A0_0 l0_0.length c0_0, .slice A0_1 l0_1.length c0_1] 25 (0, 0))) ∧ (w'.heap[gb103]? = some (.cells #[.slice none 0 0, .slice none 0 0] 25 (0, 0))) ∧ (Below w.heap.size w w')) ?_ ?_
   rotate_left
   ·intro hCont
    refine two_ (i := 0) (j := 4) (Ni := some 3) (Nj := some 7) (bm_ 10 103) (bm_ 10 118) rfl rfl rfl rfl (two_of HT_.out (by kernel_rfl)) (by decide) (by decide) (fun K hK => ?_) (fun K hK => ?_)
    ·skip
     refine Kd.R_lit_step k62 _ 62 ?hg (N := 3) ?hd (xs := ([] : List (S62))) (inner := []) (ok := fun _ => True) (okp := fun _ => True) ?hr ?hp (fun _ hk => hk) trivial (Below.refl _ _) (Nat.le_refl _) (by simp) ?_; (case hd => rfl); (case hg => rfl); (case hr => exact gs_); (case hp => exact (Reps.none _ _))
     intro v105 w7 ho8 hb hg_ hnew_
     clear hg_ hnew_
     (first | rw [← Ny104.out] at ho8 | (simp only [Int.reduceToNat] at ho8; rw [← Ny104.out] at ho8))
     have HO106 := Aside0.mk (Kd.R_lower ho8 (below_size (be2_ HB GE102 GE103)))
     replace BK102 := bb_ BK102 hb
     replace BK103 := bb_ BK103 hb
     replace HB := bs2_ HB GE102 GE103 hb
     clear hb ho8
     refine hK.out _ _ ⟨bc_ BK102 0, bc_ BK102 1⟩ (fun hHeld => ?_)
     clear hK K
     refine norm_ (a' := ?_) ?_ ?_
     rotate_left
     ·show Act.put _ (some 3) _ = _
      simp only [Act.put, List.setIfInBounds_toArray, List.set_cons_zero, List.set_cons_succ, i64_w, i32_w]
      rfl
     refine two_ (i := 3) (j := 4) (Ni := some 6) (Nj := some 7) (bm_ 10 111) (bm_ 10 119) rfl rfl rfl rfl (two_of HT_.out (by kernel_rfl)) (by decide) (by decide) (fun K hK => ?_) (fun K hK => ?_)
     ·skip
      refine Kd.R_append_rows_step k62 (w0 := w) w.heap.size (by rfl) (.tmp 3) (.tmp 5) 22 62 (.agg #[(.int .i64 0), (.int .i64 0), (.int .i64 0), (.int .i64 0), (.int .i64 0), (.int .i64 0)]) 48 rfl Tryd.underlying22 info62 rfl (by decide) (by omega) v105 y104 l0_0 _ _ _ (fun _ => True) (fun _ => False) rfl rfl ?aO ?aR (fun _ _ h => h) (fun _ h => h.elim) ?aF ?aB ?aS ?aL ?_
      (case aR => exact kc_ HR0_0 HB)
      (case aB => exact (be2_ HB GE102 GE103))
      (case aF => exact (fun _ _ => trivial))
      (case aO => exact (ro_ HO106))
      (case aS => exact (below_size (be2_ HB GE102 GE103)))
      (case aL => have := LMc2.out; omega)
      intro v108 w9 ho hb hg hat
      rw [← Ny107.out] at ho
      replace BK102 := Aside0.mk (blk_grown (g := gb102) (o := .cells #[.slice A0_0 l0_0.length c0_0, .slice A0_1 l0_1.length c0_1] 25 (0, 0)) (bk_ BK102) hg (Kd.R_ne HO106.out BK102.out (by decide)))
      replace BK103 := Aside0.mk (blk_grown (g := gb103) (o := .cells #[.slice none 0 0, .slice none 0 0] 25 (0, 0)) (bk_ BK103) hg (Kd.R_ne HO106.out BK103.out (by decide)))
      replace HB := Aside0.mk (hb)
      have HO109 := Aside0.mk (ho)
      clear HO106
      clear ho hb hg hat
      refine hK.out _ _ ⟨bc_ BK102 0, bc_ BK102 1⟩ (fun hHeld => ?_)
      clear hK K
      refine norm_ (a' := ?_) ?_ ?_
      rotate_left
      ·show Act.put _ (some 6) _ = _
       simp only [Act.put, List.setIfInBounds_toArray, List.set_cons_zero, List.set_cons_succ, i64_w, i32_w]
       rfl
      refine one_ (i := 4) (N := some 7) (bm_ 10 127) rfl rfl (one_of HT_.out (by kernel_rfl)) (by decide) (fun K hK => ?_)
      refine Kd.R_lit_step k81 _ 81 ?hg (N := 7) ?hd (xs := ([] : List (S81))) (inner := []) (ok := fun _ => True) (okp := fun _ => True) ?hr ?hp (fun _ hk => hk) trivial (Below.refl _ _) (Nat.le_refl _) (by simp) ?_; (case hd => rfl); (case hg => rfl); (case hr => exact gs_); (case hp => exact (Reps.none _ _))
      intro v111 w10 ho11 hb hg_ hnew_
      clear hg_ hnew_
      (first | rw [← Ny110.out] at ho11 | (simp only [Int.reduceToNat] at ho11; rw [← Ny110.out] at ho11))
      replace HO109 := rb_ HO109 hb
      have HO112 := Aside0.mk (Kd.R_lower ho11 (below_size (be2_ HB GE102 GE103)))
      replace BK102 := bb_ BK102 hb
      replace BK103 := bb_ BK103 hb
      replace HB := bs2_ HB GE102 GE103 hb
      clear hb ho11
      refine hK.out _ _ ⟨bc_ BK102 0, bc_ BK102 1⟩ (fun hHeld => ?_)
      clear hK K
      refine norm_ (a' := ?_) ?_ ?_
      rotate_left
      ·show Act.put _ (some 7) _ = _
       simp only [Act.put, List.setIfInBounds_toArray, List.set_cons_zero, List.set_cons_succ, i64_w, i32_w]
       rfl
      exact norm_ (by simp only [putAll, Act.put, List.setIfInBounds_toArray, List.set_cons_zero, List.set_cons_succ]) (hCont (v105, v108, v111) _ ⟨hHeld, (ro_ HO109), (ro_ HO112), (bk_ BK102), (bk_ BK103), (be2_ HB GE102 GE103)⟩)
     ·skip
      refine Kd.R_lit_step k81 _ 81 ?hg (N := 7) ?hd (xs := ([] : List (S81))) (inner := []) (ok := fun _ => True) (okp := fun _ => True) ?hr ?hp (fun _ hk => hk) trivial (Below.refl _ _) (Nat.le_refl _) (by simp) ?_; (case hd => rfl); (case hg => rfl); (case hr => exact gs_); (case hp => exact (Reps.none _ _))
      intro v111 w9 ho10 hb hg_ hnew_
      clear hg_ hnew_
      (first | rw [← Ny110.out] at ho10 | (simp only [Int.reduceToNat] at ho10; rw [← Ny110.out] at ho10))
      replace HO106 := rb_ HO106 hb
      have HO112 := Aside0.mk (Kd.R_lower ho10 (below_size (be2_ HB GE102 GE103)))
      replace BK102 := bb_ BK102 hb
      replace BK103 := bb_ BK103 hb
      replace HB := bs2_ HB GE102 GE103 hb
      clear hb ho10
      refine hK.out _ _ ⟨bc_ BK102 0, bc_ BK102 1⟩ (fun hHeld => ?_)
      clear hK K
      refine norm_ (a' := ?_) ?_ ?_
      rotate_left
      ·show Act.put _ (some 7) _ = _
       simp only [Act.put, List.setIfInBounds_toArray, List.set_cons_zero, List.set_cons_succ, i64_w, i32_w]
       rfl
      refine one_ (i := 3) (N := some 6) (bm_ 10 127) rfl rfl (one_of HT_.out (by kernel_rfl)) (by decide) (fun K hK => ?_)
      refine Kd.R_append_rows_step k62 (w0 := w) w.heap.size (by rfl) (.tmp 3) (.tmp 5) 22 62 (.agg #[(.int .i64 0), (.int .i64 0), (.int .i64 0), (.int .i64 0), (.int .i64 0), (.int .i64 0)]) 48 rfl Tryd.underlying22 info62 rfl (by decide) (by omega) v105 y104 l0_0 _ _ _ (fun _ => True) (fun _ => False) rfl rfl ?aO ?aR (fun _ _ h => h) (fun _ h => h.elim) ?aF ?aB ?aS ?aL ?_
      (case aR => exact kc_ HR0_0 HB)
      (case aB => exact (be2_ HB GE102 GE103))
      (case aF => exact (fun _ _ => trivial))
      (case aO => exact (ro_ HO106))
      (case aS => exact (below_size (be2_ HB GE102 GE103)))
      (case aL => have := LMc2.out; omega)
      intro v108 w11 ho hb hg hat
      rw [← Ny107.out] at ho
      replace BK102 := Aside0.mk (blk_grown (g := gb102) (o := .cells #[.slice A0_0 l0_0.length c0_0, .slice A0_1 l0_1.length c0_1] 25 (0, 0)) (bk_ BK102) hg (Kd.R_ne HO106.out BK102.out (by decide)))
      replace BK103 := Aside0.mk (blk_grown (g := gb103) (o := .cells #[.slice none 0 0, .slice none 0 0] 25 (0, 0)) (bk_ BK103) hg (Kd.R_ne HO106.out BK103.out (by decide)))
      replace HO112 := Aside0.mk (Kd.R_over' (ro_ HO112) (Kd.R_typed (ro_ HO106)) (by decide) hg)
      replace HB := Aside0.mk (hb)
      have HO109 := Aside0.mk (ho)
      clear HO106
      clear ho hb hg hat
      refine hK.out _ _ ⟨bc_ BK102 0, bc_ BK102 1⟩ (fun hHeld => ?_)
      clear hK K
      refine norm_ (a' := ?_) ?_ ?_
      rotate_left
      ·show Act.put _ (some 6) _ = _
       simp only [Act.put, List.setIfInBounds_toArray, List.set_cons_zero, List.set_cons_succ, i64_w, i32_w]
       rfl
      exact norm_ (by simp only [putAll, Act.put, List.setIfInBounds_toArray, List.set_cons_zero, List.set_cons_succ]) (hCont (v105, v108, v111) _ ⟨hHeld, (ro_ HO109), (ro_ HO112), (bk_ BK102), (bk_ BK103), (be2_ HB GE102 GE103)⟩)
    ·skip
     refine Kd.R_lit_step k81 _ 81 ?hg (N := 7) ?hd (xs := ([] : List (S81))) (inner := []) (ok := fun _ => True) (okp := fun _ => True) ?hr ?hp (fun _ hk => hk) trivial (Below.refl _ _) (Nat.le_refl _) (by simp) ?_; (case hd => rfl); (case hg => rfl); (case hr => exact gs_); (case hp => exact (Reps.none _ _))
     intro v111 w7 ho8 hb hg_ hnew_
     clear hg_ hnew_
     (first | rw [← Ny110.out] at ho8 | (simp only [Int.reduceToNat] at ho8; rw [← Ny110.out] at ho8))
     have HO112 := Aside0.mk (Kd.R_lower ho8 (below_size (be2_ HB GE102 GE103)))
     replace BK102 := bb_ BK102 hb
     replace BK103 := bb_ BK103 hb
     replace HB := bs2_ HB GE102 GE103 hb
     clear hb ho8
     refine hK.out _ _ ⟨bc_ BK102 0, bc_ BK102 1⟩ (fun hHeld => ?_)
     clear hK K
     refine norm_ (a' := ?_) ?_ ?_
     rotate_left
     ·show Act.put _ (some 7) _ = _
      simp only [Act.put, List.setIfInBounds_toArray, List.set_cons_zero, List.set_cons_succ, i64_w, i32_w]
      rfl
     refine one_ (i := 0) (N := some 3) (bm_ 10 119) rfl rfl (one_of HT_.out (by kernel_rfl)) (by decide) (fun K hK => ?_)
     refine Kd.R_lit_step k62 _ 62 ?hg (N := 3) ?hd (xs := ([] : List (S62))) (inner := []) (ok := fun _ => True) (okp := fun _ => True) ?hr ?hp (fun _ hk => hk) trivial (Below.refl _ _) (Nat.le_refl _) (by simp) ?_; (case hd => rfl); (case hg => rfl); (case hr => exact gs_); (case hp => exact (Reps.none _ _))
     intro v105 w9 ho10 hb hg_ hnew_
     clear hg_ hnew_
     (first | rw [← Ny104.out] at ho10 | (simp only [Int.reduceToNat] at ho10; rw [← Ny104.out] at ho10))
     replace HO112 := rb_ HO112 hb
     have HO106 := Aside0.mk (Kd.R_lower ho10 (below_size (be2_ HB GE102 GE103)))
     replace BK102 := bb_ BK102 hb
     replace BK103 := bb_ BK103 hb
     replace HB := bs2_ HB GE102 GE103 hb
     clear hb ho10
     refine hK.out _ _ ⟨bc_ BK102 0, bc_ BK102 1⟩ (fun hHeld => ?_)
     clear hK K
     refine norm_ (a' := ?_) ?_ ?_
     rotate_left
     ·show Act.put _ (some 3) _ = _
      simp only [Act.put, List.setIfInBounds_toArray, List.set_cons_zero, List.set_cons_succ, i64_w, i32_w]
      rfl
     refine one_ (i := 3) (N := some 6) (bm_ 10 127) rfl rfl (one_of HT_.out (by kernel_rfl)) (by decide) (fun K hK => ?_)
     refine Kd.R_append_rows_step k62 (w0 := w) w.heap.size (by rfl) (.tmp 3) (.tmp 5) 22 62 (.agg #[(.int .i64 0), (.int .i64 0), (.int .i64 0), (.int .i64 0), (.int .i64 0), (.int .i64 0)]) 48 rfl Tryd.underlying22 info62 rfl (by decide) (by omega) v105 y104 l0_0 _ _ _ (fun _ => True) (fun _ => False) rfl rfl ?aO ?aR (fun _ _ h => h) (fun _ h => h.elim) ?aF ?aB ?aS ?aL ?_
     (case aR => exact kc_ HR0_0 HB)
     (case aB => exact (be2_ HB GE102 GE103))
     (case aF => exact (fun _ _ => trivial))
     (case aO => exact (ro_ HO106))
     (case aS => exact (below_size (be2_ HB GE102 GE103)))
     (case aL => have := LMc2.out; omega)
     intro v108 w11 ho hb hg hat
     rw [← Ny107.out] at ho
     replace BK102 := Aside0.mk (blk_grown (g := gb102) (o := .cells #[.slice A0_0 l0_0.length c0_0, .slice A0_1 l0_1.length c0_1] 25 (0, 0)) (bk_ BK102) hg (Kd.R_ne HO106.out BK102.out (by decide)))
     replace BK103 := Aside0.mk (blk_grown (g := gb103) (o := .cells #[.slice none 0 0, .slice none 0 0] 25 (0, 0)) (bk_ BK103) hg (Kd.R_ne HO106.out BK103.out (by decide)))
     replace HO112 := Aside0.mk (Kd.R_over' (ro_ HO112) (Kd.R_typed (ro_ HO106)) (by decide) hg)
     replace HB := Aside0.mk (hb)
     have HO109 := Aside0.mk (ho)
     clear HO106
     clear ho hb hg hat
     refine hK.out _ _ ⟨bc_ BK102 0, bc_ BK102 1⟩ (fun hHeld => ?_)
     clear hK K
     refine norm_ (a' := ?_) ?_ ?_
     rotate_left
     ·show Act.put _ (some 6) _ = _
      simp only [Act.put, List.setIfInBounds_toArray, List.set_cons_zero, List.set_cons_succ, i64_w, i32_w]
      rfl
     exact norm_ (by simp only [putAll, Act.put, List.setIfInBounds_toArray, List.set_cons_zero, List.set_cons_succ]) (hCont (v105, v108, v111) _ ⟨hHeld, (ro_ HO109), (ro_ HO112), (bk_ BK102), (bk_ BK103), (be2_ HB GE102 GE103)⟩)
   rintro ⟨v105, v108, v111⟩ w12 ⟨hS_, h0_, h1_, h2_, h3_, h4_⟩
   have HO109 : Aside0 (Kd.R k62 62 w12 w.heap.size (fun _ => True) v108 y107) := ⟨h0_⟩
   have HO112 : Aside0 (Kd.R k81 81 w12 w.heap.size (fun _ => True) v111 y110) := ⟨h1_⟩
   replace BK102 : Aside0 (w12.heap[gb102]? = some (.cells #[.slice A0_0 l0_0.length c0_0, .slice A0_1 l0_1.length c0_1] 25 (0, 0))) := ⟨h2_⟩
   replace BK103 : Aside0 (w12.heap[gb103]? = some (.cells #[.slice none 0 0, .slice none 0 0] 25 (0, 0))) := ⟨h3_⟩
   replace HB : Aside0 (Below w.heap.size w w12) := ⟨h4_⟩
   clear h0_ h1_ h2_ h3_ h4_
   have hHeld : w12.cell? ⟨gb102, 0, none⟩ = some (.slice A0_0 l0_0.length c0_0) ∧ w12.cell? ⟨gb102, 1, none⟩ = some (.slice A0_1 l0_1.length c0_1) := hS_
   refine norm_ (a' := ?_) ?_ ?_
   rotate_left
   ·simp only [putAll, Act.put, List.setIfInBounds_toArray, List.set_cons_zero, List.set_cons_succ]
    rfl
   refine one_ (i := 7) (N := some 10) (bm_ 10 255) rfl rfl (one_of HT_.out (by kernel_rfl)) (by decide) (fun K hK => ?_)
   refine Kd.R_append_rows_step k81 (w0 := w) w.heap.size (by rfl) (.tmp 7) (.tmp 9) 23 81 (.agg #[(.int .i64 0), (.int .i64 0), (.int .i64 0), (.int .i64 0)]) 32 rfl Tryd.underlying23 info81 rfl (by decide) (by omega) v111 y110 l0_1 _ _ _ (fun _ => True) (fun _ => False) rfl rfl ?aO ?aR (fun _ _ h => h) (fun _ h => h.elim) ?aF ?aB ?aS ?aL ?_
   (case aR => exact kc_ HR0_1 HB)
   (case aB => exact (be2_ HB GE102 GE103))
   (case aF => exact (fun _ _ => trivial))
   (case aO => exact (ro_ HO112))
   (case aS => exact (below_size (be2_ HB GE102 GE103)))
   (case aL => have := LMc3.out; omega)
   intro v114 w13 ho hb hg hat
   rw [← Ny113.out] at ho
   replace BK102 := Aside0.mk (blk_grown (g := gb102) (o := .cells #[.slice A0_0 l0_0.length c0_0, .slice A0_1 l0_1.length c0_1] 25 (0, 0)) (bk_ BK102) hg (Kd.R_ne HO112.out BK102.out (by decide)))
   replace BK103 := Aside0.mk (blk_grown (g := gb103) (o := .cells #[.slice none 0 0, .slice none 0 0] 25 (0, 0)) (bk_ BK103) hg (Kd.R_ne HO112.out BK103.out (by decide)))
   replace HO109 := Aside0.mk (Kd.R_over' (ro_ HO109) (Kd.R_typed (ro_ HO112)) (by decide) hg)
   replace HB := Aside0.mk (hb)
   have HO115 := Aside0.mk (ho)
   clear HO112
   clear ho hb hg hat
   obtain ⟨Ao14, co14, eo14⟩ := Kd.R_slice HO115.out
   (first | subst eo14 | (injection eo14 with f1_ f2_ f3_; have f4_ := f1_.symm; have f5_ := f3_.symm; clear f1_ f2_ f3_; subst f4_; subst f5_))
   obtain ⟨Ao15, co15, eo15⟩ := Kd.R_slice HO109.out
   (first | subst eo15 | (injection eo15 with f1_ f2_ f3_; have f4_ := f1_.symm; have f5_ := f3_.symm; clear f1_ f2_ f3_; subst f4_; subst f5_))
   refine hK.out _ _ ⟨bc_ BK102 0, bc_ BK102 1⟩ (fun hHeld => ?_)
   clear hK K
   refine norm_ (a' := ?_) ?_ ?_
   rotate_left
   ·show Act.put _ (some 10) _ = _
    simp only [Act.put, List.setIfInBounds_toArray, List.set_cons_zero, List.set_cons_succ, i64_w, i32_w]
    rfl
   refine pr_ 8 11 10 511 HT_ rfl rfl ?_
   refine one_ (i := 9) (N := none) (bm_ 10 1023) rfl rfl (one_of HT_.out (by kernel_rfl)) (by decide) (fun K hK => ?_)
   have hs16 : w13.cell? ⟨gb103, 0, none⟩ = some (.slice none 0 0) := bc_ BK103 0
   have hfs16 := blk_frozen BK103.out 0
   have hns16_0 := NB102_103.out
   have hms16_0 := NB103_102.out
   have hs17 : w13.cell? ⟨gb103, 1, none⟩ = some (.slice none 0 0) := bc_ BK103 1
   have hfs17 := blk_frozen BK103.out 1
   have hns17_0 := NB102_103.out
   have hms17_0 := NB103_102.out
   refine skip_ (w1 := ?_) (by rfl) rfl ?_ ?_
   rotate_left
   ·go_simp
    rfl
   refine hK.out _ _ ⟨((cell_far (p := ⟨gb103, _, none⟩) NB102_103.out _).trans (((cell_far (p := ⟨gb103, _, none⟩) NB102_103.out _).trans (hHeld.1)))), ((cell_far (p := ⟨gb103, _, none⟩) NB102_103.out _).trans (((cell_far (p := ⟨gb103, _, none⟩) NB102_103.out _).trans (hHeld.2))))⟩ (fun hHeld => ?_)
   clear hK K
   refine done_ (done_of HT_.out (by kernel_rfl)) ?_
   try go_wp2
   refine bodyPost_ret (results_cell_row rfl _ _ gb103 25 #[.slice Ao15 y107.length co15, .slice Ao14 y113.length co14] (0, 0) _ rfl (by refine bx_ ?_; refine blk_put (cs := #[.slice Ao15 y107.length co15, .slice none 0 0]) ?_ 1 _ rfl; refine bx_ ?_; refine blk_put (cs := #[.slice none 0 0, .slice none 0 0]) ?_ 0 _ rfl; refine bx_ ?_; exact BK103.out) Tryd.underlying25 rfl (by kernel_rfl)) rfl ?_
   exact ⟨_, _, rf_, by (with_reducible repeat (first | apply Kd.R_alloc | apply Kd.R_drewN | apply Kd.R_drew)); exact Kd.R_mono (Kd.R_far (p := ⟨gb103, 1, none⟩) (Kd.R_far (p := ⟨gb103, 0, none⟩) (Kd.R_types HO109.out BK103.out (by decide)) (fun _ hk => hk.2) (.slice Ao15 y107.length co15)) (fun _ hk => hk.2) (.slice Ao14 y113.length co14)) (fun _ hk => trivial), by (with_reducible repeat (first | apply Kd.R_alloc | apply Kd.R_drewN | apply Kd.R_drew)); exact Kd.R_mono (Kd.R_far (p := ⟨gb103, 1, none⟩) (Kd.R_far (p := ⟨gb103, 0, none⟩) (Kd.R_types HO115.out BK103.out (by decide)) (fun _ hk => hk.2) (.slice Ao15 y107.length co15)) (fun _ hk => hk.2) (.slice Ao14 y113.length co14)) (fun _ hk => trivial), be2_ HB GE102 GE103⟩
  ·rw [if_neg c3] at H
   exact absurd H (by simp)
 ·rw [if_neg c2] at H
  exact absurd H (by simp)

end Go.Proofs.YtdeaccbolnlgpaaDoor.X
