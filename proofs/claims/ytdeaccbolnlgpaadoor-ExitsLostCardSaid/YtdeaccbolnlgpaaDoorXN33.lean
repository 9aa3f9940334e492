import Derived.Test.YtdeaccbolnlgpaaDoorX0
import Derived.Test.YtdeaccbolnlgpaaDoorXNB
import Derived.Test.YtdeaccbolnlgpaaDoorXG
import Derived.Test.YtdeaccbolnlgpaaDoorXHS
namespace Go.Proofs.YtdeaccbolnlgpaaDoor.X
open Go.RowKit Go.Proofs.YtdeaccbolnlgpaaDoorW.PrintWords Go.Proofs.YtdeaccbolnlgpaaDoorW.PrintLast Go.Proofs.YtdeaccbolnlgpaaDoorW.PrintMore
attribute [local go_sem] max2_int min2_int max_two min_two max_three min_three max_four min_four   -- for this text's walks alone
set_option linter.unusedVariables false
set_option linter.unusedSimpArgs false

/-! ### cottonpadlaw06_safe: function 33 -/
def cottonpadlaw06_safe.f (l0_0 : List (S62)) (l0_1 : List (S81)) (a1 : Int) (a2 : Int) (a3 : Int) : Option (Bool) := (cottonpadlaw06_people.f).bind fun t431 => ((exits_Safe.f l0_0 l0_1 t431).bind fun bt434 => (if bt434.2.2.2 = 0 then (if bt434.1 = a1 then (if bt434.2.1 = a2 then (some (bt434.2.2.1 == a3)) else (some false)) else (some false)) else (some false)))
def cottonpadlaw06_safe.T1 : Bool × List (List Nat × List Nat) := (true, [([], []), ([], []), ([0, 1, 1], [0, 1]), ([2], [2]), ([3], [3]), ([3], [3]), ([3], [3]), ([3], [3]), ([4, 2, 0, 1, 2, 3, 4], [4]), ([5, 8, 0, 1, 2, 3, 4, 5, 8], [5]), ([6, 9, 0, 1, 2, 3, 4, 5, 6, 8, 9], [6]), ([7, 10, 0, 1, 2, 3, 4, 5, 6, 7, 8, 9, 10], [7])])
def cottonpadlaw06_safe.B1 : List Nat := [0, 0, 3, 7, 15, 15, 15, 15, 31, 319, 895, 2047]
theorem cottonpadlaw06_safe.tab1 : rtab .any (opsOf Tryd.f33 1) = cottonpadlaw06_safe.T1 := by kernel_rfl
theorem cottonpadlaw06_safe.bits1 : waitsOk cottonpadlaw06_safe.T1.2 cottonpadlaw06_safe.B1 = true := by kernel_rfl
set_option maxHeartbeats 8000000 in
set_option maxRecDepth 100000 in
theorem cottonpadlaw06_safe.calls (A0_0 : Option Addr) (c0_0 : Nat) (l0_0 : List (S62)) (A0_1 : Option Addr) (c0_1 : Nat) (l0_1 : List (S81)) (a1 : Int) (a2 : Int) (a3 : Int) (r : Bool) (w : World) (hG : Globs w) (hr0_0 : Kd.C k62 w A0_0 l0_0.length l0_0) (hc0_0 : l0_0.length ≤ c0_0) (hr0_1 : Kd.C k81 w A0_1 l0_1.length l0_1) (hc0_1 : l0_1.length ≤ c0_1) (h : cottonpadlaw06_safe.f l0_0 l0_1 a1 a2 a3 = some r) :
  Calls Tryd.prog 33 #[.agg #[.slice A0_0 l0_0.length c0_0, .slice A0_1 l0_1.length c0_1], .int .u8 a1, .int .i64 a2, .int .i64 a3] w fun e w' => e = .returned (.bool r) ∧ Below w.heap.size w w' := by
 have hu25 := Tryd.underlying25
 have HR0_0 := Aside0.mk hr0_0
 have HC0_0 := Aside0.mk hc0_0
 clear hr0_0 hc0_0
 have HR0_1 := Aside0.mk hr0_1
 have HC0_1 := Aside0.mk hc0_1
 clear hr0_1 hc0_1
 have HB := Aside0.mk (Below.refl w.heap.size w)
 have HG := Aside0.mk hG
 clear hG
 have H : ((cottonpadlaw06_people.f).bind fun t431 => ((exits_Safe.f l0_0 l0_1 t431).bind fun bt434 => (if bt434.2.2.2 = 0 then (if bt434.1 = a1 then (if bt434.2.1 = a2 then (some (bt434.2.2.1 == a3)) else (some false)) else (some false)) else (some false)))) = some r := h
 clear h
 replace H := Option.bind_eq_some_iff.mp H
 obtain ⟨t431, A50, H⟩ := H
 replace H : ((exits_Safe.f l0_0 l0_1 t431).bind fun bt434 => (if bt434.2.2.2 = 0 then (if bt434.1 = a1 then (if bt434.2.1 = a2 then (some (bt434.2.2.1 == a3)) else (some false)) else (some false)) else (some false))) = some r := H
 have A5 := Aside0.mk A50
 clear A50
 replace H := Option.bind_eq_some_iff.mp H
 obtain ⟨⟨t434, t435, t436, t437⟩, A60, H⟩ := H
 replace H : (if t437 = 0 then (if t434 = a1 then (if t435 = a2 then (some (t436 == a3)) else (some false)) else (some false)) else (some false)) = some r := H
 have A6 := Aside0.mk A60
 clear A60
 by_cases c7 : t437 = 0
 ·rw [if_pos c7] at H
  have c7b0 : (t437 == 0) = true := beq_iff_eq.mpr c7
  have c7b1 : (t437 != 0) = false := bne_eq_false_iff_eq.mpr c7
  clear c7
  by_cases c8 : t434 = a1
  ·rw [if_pos c8] at H
   have c8b0 : (t434 == a1) = true := beq_iff_eq.mpr c8
   have c8b1 : (t434 != a1) = false := bne_eq_false_iff_eq.mpr c8
   clear c8
   by_cases c9 : t435 = a2
   ·rw [if_pos c9] at H
    have c9b0 : (t435 == a2) = true := beq_iff_eq.mpr c9
    have c9b1 : (t435 != a2) = false := bne_eq_false_iff_eq.mpr c9
    clear c9
    obtain rfl := Option.some.inj H
    go_enter Tryd.func33, Tryd.ntmps33
    try go_wp2_with (first | ((with_reducible refine gate_dst (N := 4) rfl ?_); refine box_event ?hg (N := 4) ?hd (cs := #[.slice A0_0 l0_0.length c0_0, .slice A0_1 l0_1.length c0_1]) (t := 25) ?hr ?_; (case hd => rfl); (case hg => rfl); (case hr => exact gs_); intro gb430 hg w10 hbox hb; have BK430 := Aside0.mk (hbox); have GW430 := hl_ hg (be_ HB); have GE430 := hl_ hg (be_ HB); replace HB := bs_ HB hb; clear hb hbox hg))
    replace BK430 := Aside0.mk (blk_drew BK430.out)
    replace HB := Aside0.mk (below_drew1 HB.out)
    refine start_ (n := 12) (S := fun w' => w'.cell? ⟨gb430, 0, none⟩ = some (.slice A0_0 l0_0.length c0_0) ∧ w'.cell? ⟨gb430, 1, none⟩ = some (.slice A0_1 l0_1.length c0_1)) (ds := []) (bm_ 12 0) (by kernel_rfl) rfl rfl ⟨bc_ BK430 0, bc_ BK430 1⟩ (fun hHeld => ?_); refine with_tabW cottonpadlaw06_safe.tab1 cottonpadlaw06_safe.bits1 (fun HT_ HW_ => ?_)
    generalize w10.drew = w11 at BK430 HB hHeld ⊢
    refine ta_ 0 14 12 1 HT_ HW_ rfl rfl hHeld ?_
    refine one_ (i := 1) (N := some 15) (bm_ 12 3) rfl rfl (one_of HT_.out (by kernel_rfl)) (by decide) (fun K hK => ?_)
    refine goes_ Tryd.func34 (by kernel_rfl) rfl #[] (by rfl) rfl rfl ls_ ?_
    with_reducible refine (cottonpadlaw06_people.calls  t431 _ A5.out).mono ?_
    rintro e w12 ⟨v432, rfl, ho0, hb⟩
    refine ⟨_, rfl, ?_⟩
    have HO433 := Aside0.mk (Kd.R_lower ho0 (below_size (be1_ HB GE430)))
    replace BK430 := bb_ BK430 hb
    replace HB := bs1_ HB GE430 hb
    (try clear hb)
    (try clear hb2)
    (try clear hk)
    (try clear hi)
    (try clear ho0)
    obtain ⟨Ao13, co13, eo13⟩ := Kd.R_slice HO433.out
    (first | subst eo13 | (injection eo13 with f1_ f2_ f3_; have f4_ := f1_.symm; have f5_ := f3_.symm; clear f1_ f2_ f3_; subst f4_; subst f5_))
    refine hK.out _ _ ⟨bc_ BK430 0, bc_ BK430 1⟩ (fun hHeld => ?_)
    clear hK K
    refine norm_ (a' := ?_) ?_ ?_
    rotate_left
    ·show Act.put _ (some 15) _ = _
     simp only [Act.put, List.setIfInBounds_toArray, List.set_cons_zero, List.set_cons_succ, i64_w, i32_w]
     rfl
    refine one_ (i := 2) (N := some 16) (bm_ 12 7) rfl rfl (one_of HT_.out (by kernel_rfl)) (by decide) (fun K hK => ?_)
    refine goes_ Tryd.func26 (by kernel_rfl) rfl #[.agg #[.slice A0_0 l0_0.length c0_0, .slice A0_1 l0_1.length c0_1], .slice Ao13 t431.length co13] (by rfl) rfl rfl ls_ ?_
    with_reducible refine (exits_Safe.calls _ _ l0_0 _ _ l0_1 _ _ t431 t434 t435 t436 t437 _ ?side7 ?side1 ?side2 ?side3 ?side4 ?side5 ?side6 A6.out).mono ?_
    (case side1 => exact kc_ HR0_0 HB)
    (case side2 => exact HC0_0.out)
    (case side3 => exact kc_ HR0_1 HB)
    (case side4 => exact HC0_1.out)
    (case side5 => exact kd_ (Kd.R_reads' HO433.out).2.2)
    (case side6 => exact (Kd.R_reads' HO433.out).2.1)
    (case side7 => exact Globs.below HG.out (be1_ HB GE430))
    rintro e w14 ⟨rfl, hb⟩
    refine ⟨_, rfl, ?_⟩
    replace HO433 := rb_ HO433 hb
    replace BK430 := bb_ BK430 hb
    replace HB := bs1_ HB GE430 hb
    (try clear hb)
    (try clear hb2)
    (try clear hk)
    (try clear hi)
    refine hK.out _ _ ⟨bc_ BK430 0, bc_ BK430 1⟩ (fun hHeld => ?_)
    clear hK K
    refine norm_ (a' := ?_) ?_ ?_
    rotate_left
    ·show Act.put _ (some 16) _ = _
     simp only [Act.put, List.setIfInBounds_toArray, List.set_cons_zero, List.set_cons_succ, i64_w, i32_w]
     rfl
    refine pr_ 3 13 12 15 HT_ rfl rfl ?_
    refine pr_ 4 17 12 31 HT_ rfl rfl ?_
    refine pr_ 5 18 12 63 HT_ rfl rfl ?_
    refine pr_ 6 19 12 127 HT_ rfl rfl ?_
    refine pr_ 7 20 12 255 HT_ rfl rfl ?_
    refine pr_ 8 9 12 511 HT_ rfl rfl ?_
    refine pr_ 9 10 12 1023 HT_ rfl rfl ?_
    refine pr_ 10 11 12 2047 HT_ rfl rfl ?_
    refine pr_ 11 12 12 4095 HT_ rfl rfl ?_
    refine done_ (done_of HT_.out (by kernel_rfl)) ?_
    try go_wp2
    go_ret
    exact ⟨rf_, be1_ HB GE430⟩
   ·rw [if_neg c9] at H
    have c9b0 : (t435 == a2) = false := beq_eq_false_iff_ne.mpr c9
    have c9b1 : (t435 != a2) = true := bne_iff_ne.mpr c9
    obtain rfl := Option.some.inj H
    go_enter Tryd.func33, Tryd.ntmps33
    try go_wp2_with (first | ((with_reducible refine gate_dst (N := 4) rfl ?_); refine box_event ?hg (N := 4) ?hd (cs := #[.slice A0_0 l0_0.length c0_0, .slice A0_1 l0_1.length c0_1]) (t := 25) ?hr ?_; (case hd => rfl); (case hg => rfl); (case hr => exact gs_); intro gb430 hg w15 hbox hb; have BK430 := Aside0.mk (hbox); have GW430 := hl_ hg (be_ HB); have GE430 := hl_ hg (be_ HB); replace HB := bs_ HB hb; clear hb hbox hg))
    replace BK430 := Aside0.mk (blk_drew BK430.out)
    replace HB := Aside0.mk (below_drew1 HB.out)
    refine start_ (n := 12) (S := fun w' => w'.cell? ⟨gb430, 0, none⟩ = some (.slice A0_0 l0_0.length c0_0) ∧ w'.cell? ⟨gb430, 1, none⟩ = some (.slice A0_1 l0_1.length c0_1)) (ds := []) (bm_ 12 0) (by kernel_rfl) rfl rfl ⟨bc_ BK430 0, bc_ BK430 1⟩ (fun hHeld => ?_); refine with_tabW cottonpadlaw06_safe.tab1 cottonpadlaw06_safe.bits1 (fun HT_ HW_ => ?_)
    generalize w15.drew = w16 at BK430 HB hHeld ⊢
    refine ta_ 0 14 12 1 HT_ HW_ rfl rfl hHeld ?_
    refine one_ (i := 1) (N := some 15) (bm_ 12 3) rfl rfl (one_of HT_.out (by kernel_rfl)) (by decide) (fun K hK => ?_)
    refine goes_ Tryd.func34 (by kernel_rfl) rfl #[] (by rfl) rfl rfl ls_ ?_
    with_reducible refine (cottonpadlaw06_people.calls  t431 _ A5.out).mono ?_
    rintro e w17 ⟨v432, rfl, ho0, hb⟩
    refine ⟨_, rfl, ?_⟩
    have HO433 := Aside0.mk (Kd.R_lower ho0 (below_size (be1_ HB GE430)))
    replace BK430 := bb_ BK430 hb
    replace HB := bs1_ HB GE430 hb
    (try clear hb)
    (try clear hb2)
    (try clear hk)
    (try clear hi)
    (try clear ho0)
    obtain ⟨Ao18, co18, eo18⟩ := Kd.R_slice HO433.out
    (first | subst eo18 | (injection eo18 with f1_ f2_ f3_; have f4_ := f1_.symm; have f5_ := f3_.symm; clear f1_ f2_ f3_; subst f4_; subst f5_))
    refine hK.out _ _ ⟨bc_ BK430 0, bc_ BK430 1⟩ (fun hHeld => ?_)
    clear hK K
    refine norm_ (a' := ?_) ?_ ?_
    rotate_left
    ·show Act.put _ (some 15) _ = _
     simp only [Act.put, List.setIfInBounds_toArray, List.set_cons_zero, List.set_cons_succ, i64_w, i32_w]
     rfl
    refine one_ (i := 2) (N := some 16) (bm_ 12 7) rfl rfl (one_of HT_.out (by kernel_rfl)) (by decide) (fun K hK => ?_)
    refine goes_ Tryd.func26 (by kernel_rfl) rfl #[.agg #[.slice A0_0 l0_0.length c0_0, .slice A0_1 l0_1.length c0_1], .slice Ao18 t431.length co18] (by rfl) rfl rfl ls_ ?_
    with_reducible refine (exits_Safe.calls _ _ l0_0 _ _ l0_1 _ _ t431 t434 t435 t436 t437 _ ?side7 ?side1 ?side2 ?side3 ?side4 ?side5 ?side6 A6.out).mono ?_
    (case side1 => exact kc_ HR0_0 HB)
    (case side2 => exact HC0_0.out)
    (case side3 => exact kc_ HR0_1 HB)
    (case side4 => exact HC0_1.out)
    (case side5 => exact kd_ (Kd.R_reads' HO433.out).2.2)
    (case side6 => exact (Kd.R_reads' HO433.out).2.1)
    (case side7 => exact Globs.below HG.out (be1_ HB GE430))
    rintro e w19 ⟨rfl, hb⟩
    refine ⟨_, rfl, ?_⟩
    replace HO433 := rb_ HO433 hb
    replace BK430 := bb_ BK430 hb
    replace HB := bs1_ HB GE430 hb
    (try clear hb)
    (try clear hb2)
    (try clear hk)
    (try clear hi)
    refine hK.out _ _ ⟨bc_ BK430 0, bc_ BK430 1⟩ (fun hHeld => ?_)
    clear hK K
    refine norm_ (a' := ?_) ?_ ?_
    rotate_left
    ·show Act.put _ (some 16) _ = _
     simp only [Act.put, List.setIfInBounds_toArray, List.set_cons_zero, List.set_cons_succ, i64_w, i32_w]
     rfl
    refine pr_ 3 13 12 15 HT_ rfl rfl ?_
    refine pr_ 4 17 12 31 HT_ rfl rfl ?_
    refine pr_ 5 18 12 63 HT_ rfl rfl ?_
    refine pr_ 6 19 12 127 HT_ rfl rfl ?_
    refine pr_ 7 20 12 255 HT_ rfl rfl ?_
    refine pr_ 8 9 12 511 HT_ rfl rfl ?_
    refine pr_ 9 10 12 1023 HT_ rfl rfl ?_
    refine pr_ 10 11 12 2047 HT_ rfl rfl ?_
    refine pr_ 11 12 12 4095 HT_ rfl rfl ?_
    refine done_ (done_of HT_.out (by kernel_rfl)) ?_
    try go_wp2
    go_ret
    exact ⟨rf_, be1_ HB GE430⟩
  ·rw [if_neg c8] at H
   have c8b0 : (t434 == a1) = false := beq_eq_false_iff_ne.mpr c8
   have c8b1 : (t434 != a1) = true := bne_iff_ne.mpr c8
   obtain rfl := Option.some.inj H
   go_enter Tryd.func33, Tryd.ntmps33
   try go_wp2_with (first | ((with_reducible refine gate_dst (N := 4) rfl ?_); refine box_event ?hg (N := 4) ?hd (cs := #[.slice A0_0 l0_0.length c0_0, .slice A0_1 l0_1.length c0_1]) (t := 25) ?hr ?_; (case hd => rfl); (case hg => rfl); (case hr => exact gs_); intro gb430 hg w20 hbox hb; have BK430 := Aside0.mk (hbox); have GW430 := hl_ hg (be_ HB); have GE430 := hl_ hg (be_ HB); replace HB := bs_ HB hb; clear hb hbox hg))
   replace BK430 := Aside0.mk (blk_drew BK430.out)
   replace HB := Aside0.mk (below_drew1 HB.out)
   refine start_ (n := 12) (S := fun w' => w'.cell? ⟨gb430, 0, none⟩ = some (.slice A0_0 l0_0.length c0_0) ∧ w'.cell? ⟨gb430, 1, none⟩ = some (.slice A0_1 l0_1.length c0_1)) (ds := []) (bm_ 12 0) (by kernel_rfl) rfl rfl ⟨bc_ BK430 0, bc_ BK430 1⟩ (fun hHeld => ?_); refine with_tabW cottonpadlaw06_safe.tab1 cottonpadlaw06_safe.bits1 (fun HT_ HW_ => ?_)
   generalize w20.drew = w21 at BK430 HB hHeld ⊢
   refine ta_ 0 14 12 1 HT_ HW_ rfl rfl hHeld ?_
   refine one_ (i := 1) (N := some 15) (bm_ 12 3) rfl rfl (one_of HT_.out (by kernel_rfl)) (by decide) (fun K hK => ?_)
   refine goes_ Tryd.func34 (by kernel_rfl) rfl #[] (by rfl) rfl rfl ls_ ?_
   with_reducible refine (cottonpadlaw06_people.calls  t431 _ A5.out).mono ?_
   rintro e w22 ⟨v432, rfl, ho0, hb⟩
   refine ⟨_, rfl, ?_⟩
   have HO433 := Aside0.mk (Kd.R_lower ho0 (below_size (be1_ HB GE430)))
   replace BK430 := bb_ BK430 hb
   replace HB := bs1_ HB GE430 hb
   (try clear hb)
   (try clear hb2)
   (try clear hk)
   (try clear hi)
   (try clear ho0)
   obtain ⟨Ao23, co23, eo23⟩ := Kd.R_slice HO433.out
   (first | subst eo23 | (injection eo23 with f1_ f2_ f3_; have f4_ := f1_.symm; have f5_ := f3_.symm; clear f1_ f2_ f3_; subst f4_; subst f5_))
   refine hK.out _ _ ⟨bc_ BK430 0, bc_ BK430 1⟩ (fun hHeld => ?_)
   clear hK K
   refine norm_ (a' := ?_) ?_ ?_
   rotate_left
   ·show Act.put _ (some 15) _ = _
    simp only [Act.put, List.setIfInBounds_toArray, List.set_cons_zero, List.set_cons_succ, i64_w, i32_w]
    rfl
   refine one_ (i := 2) (N := some 16) (bm_ 12 7) rfl rfl (one_of HT_.out (by kernel_rfl)) (by decide) (fun K hK => ?_)
   refine goes_ Tryd.func26 (by kernel_rfl) rfl #[.agg #[.slice A0_0 l0_0.length c0_0, .slice A0_1 l0_1.length c0_1], .slice Ao23 t431.length co23] (by rfl) rfl rfl ls_ ?_
   with_reducible refine (exits_Safe.calls _ _ l0_0 _ _ l0_1 _ _ t431 t434 t435 t436 t437 _ ?side7 ?side1 ?side2 ?side3 ?side4 ?side5 ?side6 A6.out).mono ?_
   (case side1 => exact kc_ HR0_0 HB)
   (case side2 => exact HC0_0.out)
   (case side3 => exact kc_ HR0_1 HB)
   (case side4 => exact HC0_1.out)
   (case side5 => exact kd_ (Kd.R_reads' HO433.out).2.2)
   (case side6 => exact (Kd.R_reads' HO433.out).2.1)
   (case side7 => exact Globs.below HG.out (be1_ HB GE430))
   rintro e w24 ⟨rfl, hb⟩
   refine ⟨_, rfl, ?_⟩
   replace HO433 := rb_ HO433 hb
   replace BK430 := bb_ BK430 hb
   replace HB := bs1_ HB GE430 hb
   (try clear hb)
   (try clear hb2)
   (try clear hk)
   (try clear hi)
   refine hK.out _ _ ⟨bc_ BK430 0, bc_ BK430 1⟩ (fun hHeld => ?_)
   clear hK K
   refine norm_ (a' := ?_) ?_ ?_
   rotate_left
   ·show Act.put _ (some 16) _ = _
    simp only [Act.put, List.setIfInBounds_toArray, List.set_cons_zero, List.set_cons_succ, i64_w, i32_w]
    rfl
   refine pr_ 3 13 12 15 HT_ rfl rfl ?_
   refine pr_ 4 17 12 31 HT_ rfl rfl ?_
   refine pr_ 5 18 12 63 HT_ rfl rfl ?_
   refine pr_ 6 19 12 127 HT_ rfl rfl ?_
   refine pr_ 7 20 12 255 HT_ rfl rfl ?_
   refine pr_ 8 9 12 511 HT_ rfl rfl ?_
   refine pr_ 9 10 12 1023 HT_ rfl rfl ?_
   refine pr_ 10 11 12 2047 HT_ rfl rfl ?_
   refine pr_ 11 12 12 4095 HT_ rfl rfl ?_
   refine done_ (done_of HT_.out (by kernel_rfl)) ?_
   try go_wp2
   go_ret
   exact ⟨rf_, be1_ HB GE430⟩
 ·rw [if_neg c7] at H
  have c7b0 : (t437 == 0) = false := beq_eq_false_iff_ne.mpr c7
  have c7b1 : (t437 != 0) = true := bne_iff_ne.mpr c7
  obtain rfl := Option.some.inj H
  go_enter Tryd.func33, Tryd.ntmps33
  try go_wp2_with (first | ((with_reducible refine gate_dst (N := 4) rfl ?_); refine box_event ?hg (N := 4) ?hd (cs := #[.slice A0_0 l0_0.length c0_0, .slice A0_1 l0_1.length c0_1]) (t := 25) ?hr ?_; (case hd => rfl); (case hg => rfl); (case hr => exact gs_); intro gb430 hg w25 hbox hb; have BK430 := Aside0.mk (hbox); have GW430 := hl_ hg (be_ HB); have GE430 := hl_ hg (be_ HB); replace HB := bs_ HB hb; clear hb hbox hg))
  replace BK430 := Aside0.mk (blk_drew BK430.out)
  replace HB := Aside0.mk (below_drew1 HB.out)
  refine start_ (n := 12) (S := fun w' => w'.cell? ⟨gb430, 0, none⟩ = some (.slice A0_0 l0_0.length c0_0) ∧ w'.cell? ⟨gb430, 1, none⟩ = some (.slice A0_1 l0_1.length c0_1)) (ds := []) (bm_ 12 0) (by kernel_rfl) rfl rfl ⟨bc_ BK430 0, bc_ BK430 1⟩ (fun hHeld => ?_); refine with_tabW cottonpadlaw06_safe.tab1 cottonpadlaw06_safe.bits1 (fun HT_ HW_ => ?_)
  generalize w25.drew = w26 at BK430 HB hHeld ⊢
  refine ta_ 0 14 12 1 HT_ HW_ rfl rfl hHeld ?_
  refine one_ (i := 1) (N := some 15) (bm_ 12 3) rfl rfl (one_of HT_.out (by kernel_rfl)) (by decide) (fun K hK => ?_)
  refine goes_ Tryd.func34 (by kernel_rfl) rfl #[] (by rfl) rfl rfl ls_ ?_
  with_reducible refine (cottonpadlaw06_people.calls  t431 _ A5.out).mono ?_
  rintro e w27 ⟨v432, rfl, ho0, hb⟩
  refine ⟨_, rfl, ?_⟩
  have HO433 := Aside0.mk (Kd.R_lower ho0 (below_size (be1_ HB GE430)))
  replace BK430 := bb_ BK430 hb
  replace HB := bs1_ HB GE430 hb
  (try clear hb)
  (try clear hb2)
  (try clear hk)
  (try clear hi)
  (try clear ho0)
  obtain ⟨Ao28, co28, eo28⟩ := Kd.R_slice HO433.out
  (first | subst eo28 | (injection eo28 with f1_ f2_ f3_; have f4_ := f1_.symm; have f5_ := f3_.symm; clear f1_ f2_ f3_; subst f4_; subst f5_))
  refine hK.out _ _ ⟨bc_ BK430 0, bc_ BK430 1⟩ (fun hHeld => ?_)
  clear hK K
  refine norm_ (a' := ?_) ?_ ?_
  rotate_left
  ·show Act.put _ (some 15) _ = _
   simp only [Act.put, List.setIfInBounds_toArray, List.set_cons_zero, List.set_cons_succ, i64_w, i32_w]
   rfl
  refine one_ (i := 2) (N := some 16) (bm_ 12 7) rfl rfl (one_of HT_.out (by kernel_rfl)) (by decide) (fun K hK => ?_)
  refine goes_ Tryd.func26 (by kernel_rfl) rfl #[.agg #[.slice A0_0 l0_0.length c0_0, .slice A0_1 l0_1.length c0_1], .slice Ao28 t431.length co28] (by rfl) rfl rfl ls_ ?_
  with_reducible refine (exits_Safe.calls _ _ l0_0 _ _ l0_1 _ _ t431 t434 t435 t436 t437 _ ?side7 ?side1 ?side2 ?side3 ?side4 ?side5 ?side6 A6.out).mono ?_
  (case side1 => exact kc_ HR0_0 HB)
  (case side2 => exact HC0_0.out)
  (case side3 => exact kc_ HR0_1 HB)
  (case side4 => exact HC0_1.out)
  (case side5 => exact kd_ (Kd.R_reads' HO433.out).2.2)
  (case side6 => exact (Kd.R_reads' HO433.out).2.1)
  (case side7 => exact Globs.below HG.out (be1_ HB GE430))
  rintro e w29 ⟨rfl, hb⟩
  refine ⟨_, rfl, ?_⟩
  replace HO433 := rb_ HO433 hb
  replace BK430 := bb_ BK430 hb
  replace HB := bs1_ HB GE430 hb
  (try clear hb)
  (try clear hb2)
  (try clear hk)
  (try clear hi)
  refine hK.out _ _ ⟨bc_ BK430 0, bc_ BK430 1⟩ (fun hHeld => ?_)
  clear hK K
  refine norm_ (a' := ?_) ?_ ?_
  rotate_left
  ·show Act.put _ (some 16) _ = _
   simp only [Act.put, List.setIfInBounds_toArray, List.set_cons_zero, List.set_cons_succ, i64_w, i32_w]
   rfl
  refine pr_ 3 13 12 15 HT_ rfl rfl ?_
  refine pr_ 4 17 12 31 HT_ rfl rfl ?_
  refine pr_ 5 18 12 63 HT_ rfl rfl ?_
  refine pr_ 6 19 12 127 HT_ rfl rfl ?_
  refine pr_ 7 20 12 255 HT_ rfl rfl ?_
  refine pr_ 8 9 12 511 HT_ rfl rfl ?_
  refine pr_ 9 10 12 1023 HT_ rfl rfl ?_
  refine pr_ 10 11 12 2047 HT_ rfl rfl ?_
  refine pr_ 11 12 12 4095 HT_ rfl rfl ?_
  refine done_ (done_of HT_.out (by kernel_rfl)) ?_
  try go_wp2
  go_ret
  exact ⟨rf_, be1_ HB GE430⟩

end Go.Proofs.YtdeaccbolnlgpaaDoor.X
