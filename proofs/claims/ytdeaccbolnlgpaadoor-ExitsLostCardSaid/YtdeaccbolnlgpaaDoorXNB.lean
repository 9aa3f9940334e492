import Derived.Test.YtdeaccbolnlgpaaDoorX0
namespace Go.Proofs.YtdeaccbolnlgpaaDoor.X
open Go.RowKit Go.Proofs.YtdeaccbolnlgpaaDoorW.PrintWords Go.Proofs.YtdeaccbolnlgpaaDoorW.PrintLast Go.Proofs.YtdeaccbolnlgpaaDoorW.PrintMore
attribute [local go_sem] max2_int min2_int max_two min_two max_three min_three max_four min_four   -- for this text's walks alone
set_option linter.unusedVariables false
set_option linter.unusedSimpArgs false

/-! ### cottonpadlaw06_span: function 32 -/
def cottonpadlaw06_span.f (a0 : Int) (a1 : Int) : Option (Int × Int) := some (a0, a1)
set_option maxHeartbeats 8000000 in
set_option maxRecDepth 100000 in
theorem cottonpadlaw06_span.calls (a0 : Int) (a1 : Int) (r1 : Int) (r2 : Int) (w : World) (h : cottonpadlaw06_span.f a0 a1 = some (r1, r2)) :
  Calls Tryd.prog 32 #[.int .i64 a0, .int .i64 a1] w fun e w' => e = .returned (.agg #[.int .i64 r1, .int .i64 r2]) ∧ Below w.heap.size w w' := by
 have hu36 := Tryd.underlying36
 have HB := Aside0.mk (Below.refl w.heap.size w)
 have H : (some (a0, a1)) = some (r1, r2) := h
 clear h
 simp only [Option.some.injEq, Prod.mk.injEq] at H
 obtain ⟨rfl, rfl⟩ := H
 go_enter Tryd.func32, Tryd.ntmps32
 go_wp2_with (first | ((with_reducible refine gate_dst (N := 4) rfl ?_); refine box_event ?hg (N := 4) ?hd (cs := #[.int .i64 0, .int .i64 0]) (t := 36) ?hr ?_; (case hd => rfl); (case hg => rfl); (case hr => exact gs_); intro gb388 hg w3 hbox hb; have BK388 := Aside0.mk (hbox); have GW388 := hl_ hg (be_ HB); have GE388 := hl_ hg (be_ HB); replace HB := bs_ HB hb; clear hb hbox hg; have hcz4_0 : w3.cell? ⟨gb388, 0, none⟩ = some (.int .i64 0) := bc_ BK388 0; have hcz4_1 : w3.cell? ⟨gb388, 1, none⟩ = some (.int .i64 0) := bc_ BK388 1; have hfz4_0 := blk_frozen BK388.out 0; have hfz4_1 := blk_frozen BK388.out 1))
 refine bodyPost_ret (results_cell_row rfl _ _ gb388 36 #[.int .i64 a0, .int .i64 a1] (0, 0) _ rfl (by refine bx_ ?_; refine blk_put (cs := #[.int .i64 a0, .int .i64 0]) ?_ 1 _ rfl; refine bx_ ?_; refine blk_put (cs := #[.int .i64 0, .int .i64 0]) ?_ 0 _ rfl; refine bx_ ?_; exact BK388.out) Tryd.underlying36 rfl (by kernel_rfl)) rfl ?_
 exact ⟨rf_, be1_ HB GE388⟩

end Go.Proofs.YtdeaccbolnlgpaaDoor.X

namespace Go.Proofs.YtdeaccbolnlgpaaDoor.X
open Go.RowKit Go.Proofs.YtdeaccbolnlgpaaDoorW.PrintWords Go.Proofs.YtdeaccbolnlgpaaDoorW.PrintLast Go.Proofs.YtdeaccbolnlgpaaDoorW.PrintMore
attribute [local go_sem] max2_int min2_int max_two min_two max_three min_three max_four min_four   -- for this text's walks alone
set_option linter.unusedVariables false
set_option linter.unusedSimpArgs false

/-! ### cottonpadlaw06_walker: function 35 -/
def cottonpadlaw06_walker.f  : Option (Int × Int × Int × Int × Int) := (cottonpadlaw06_span.f 800 1000).bind fun bt409 => ((cottonpadlaw06_span.f 10 15).bind fun bt411 => (some (0, bt409.1, bt409.2, bt411.1, bt411.2)))
set_option maxHeartbeats 8000000 in
set_option maxRecDepth 100000 in
theorem cottonpadlaw06_walker.calls  (r1 : Int) (r2 : Int) (r3 : Int) (r4 : Int) (r5 : Int) (w : World) (h : cottonpadlaw06_walker.f  = some (r1, r2, r3, r4, r5)) :
  Calls Tryd.prog 35 #[] w fun e w' => e = .returned (.agg #[.int .i64 r1, .int .i64 r2, .int .i64 r3, .int .i64 r4, .int .i64 r5]) ∧ Below w.heap.size w w' := by
 have hu48 := Tryd.underlying48
 have HB := Aside0.mk (Below.refl w.heap.size w)
 have H : ((cottonpadlaw06_span.f 800 1000).bind fun bt409 => ((cottonpadlaw06_span.f 10 15).bind fun bt411 => (some (0, bt409.1, bt409.2, bt411.1, bt411.2)))) = some (r1, r2, r3, r4, r5) := h
 clear h
 replace H := Option.bind_eq_some_iff.mp H
 obtain ⟨⟨t409, t410⟩, A10, H⟩ := H
 replace H : ((cottonpadlaw06_span.f 10 15).bind fun bt411 => (some (0, t409, t410, bt411.1, bt411.2))) = some (r1, r2, r3, r4, r5) := H
 have A1 := Aside0.mk A10
 clear A10
 replace H := Option.bind_eq_some_iff.mp H
 obtain ⟨⟨t411, t412⟩, A20, H⟩ := H
 replace H : (some (0, t409, t410, t411, t412)) = some (r1, r2, r3, r4, r5) := H
 have A2 := Aside0.mk A20
 clear A20
 simp only [Option.some.injEq, Prod.mk.injEq] at H
 obtain ⟨rfl, rfl, rfl, rfl, rfl⟩ := H
 go_enter Tryd.func35, Tryd.ntmps35
 go_wp2_with (first | ((with_reducible refine gate_dst (N := 0) rfl ?_); refine box_event ?hg (N := 0) ?hd (cs := #[.int .i64 0, .int .i64 0, .int .i64 0, .int .i64 0, .int .i64 0]) (t := 48) ?hr ?_; (case hd => rfl); (case hg => rfl); (case hr => exact gs_); intro gb408 hg w3 hbox hb; have BK408 := Aside0.mk (hbox); have GW408 := hl_ hg (be_ HB); have GE408 := hl_ hg (be_ HB); replace HB := bs_ HB hb; clear hb hbox hg) | ((with_reducible refine gate_callee (f := 32) rfl ?_); refine goesL_ (some 1) rfl rfl Tryd.func32 (by kernel_rfl) rfl #[.int .i64 800, .int .i64 1000] rfl ls_ ?_; (with_reducible refine (cottonpadlaw06_span.calls 800 1000 t409 t410 _ A1.out).mono ?_); rintro e w4 ⟨rfl, hb⟩; refine ⟨_, rfl, ?_⟩; replace BK408 := bb_ BK408 hb; replace HB := bs1_ HB GE408 hb; (try clear hb); (try clear hb2); (try clear hk); (try clear hi)) | ((with_reducible refine gate_callee (f := 32) rfl ?_); refine goesL_ (some 2) rfl rfl Tryd.func32 (by kernel_rfl) rfl #[.int .i64 10, .int .i64 15] rfl ls_ ?_; (with_reducible refine (cottonpadlaw06_span.calls 10 15 t411 t412 _ A2.out).mono ?_); rintro e w5 ⟨rfl, hb⟩; refine ⟨_, rfl, ?_⟩; replace BK408 := bb_ BK408 hb; replace HB := bs1_ HB GE408 hb; (try clear hb); (try clear hb2); (try clear hk); (try clear hi); have hcz6_0 : w5.cell? ⟨gb408, 0, none⟩ = some (.int .i64 0) := bc_ BK408 0; have hcz6_1 : w5.cell? ⟨gb408, 1, none⟩ = some (.int .i64 0) := bc_ BK408 1; have hcz6_2 : w5.cell? ⟨gb408, 2, none⟩ = some (.int .i64 0) := bc_ BK408 2; have hcz6_3 : w5.cell? ⟨gb408, 3, none⟩ = some (.int .i64 0) := bc_ BK408 3; have hcz6_4 : w5.cell? ⟨gb408, 4, none⟩ = some (.int .i64 0) := bc_ BK408 4; have hfz6_0 := blk_frozen BK408.out 0; have hfz6_1 := blk_frozen BK408.out 1; have hfz6_2 := blk_frozen BK408.out 2; have hfz6_3 := blk_frozen BK408.out 3; have hfz6_4 := blk_frozen BK408.out 4))
 refine bodyPost_ret (results_cell_row rfl _ _ gb408 48 #[.int .i64 0, .int .i64 t409, .int .i64 t410, .int .i64 t411, .int .i64 t412] (0, 0) _ rfl (by refine bx_ ?_; refine blk_put (cs := #[.int .i64 0, .int .i64 t409, .int .i64 t410, .int .i64 t411, .int .i64 0]) ?_ 4 _ rfl; refine bx_ ?_; refine blk_put (cs := #[.int .i64 0, .int .i64 t409, .int .i64 t410, .int .i64 0, .int .i64 0]) ?_ 3 _ rfl; refine bx_ ?_; refine blk_put (cs := #[.int .i64 0, .int .i64 t409, .int .i64 0, .int .i64 0, .int .i64 0]) ?_ 2 _ rfl; refine bx_ ?_; refine blk_put (cs := #[.int .i64 0, .int .i64 0, .int .i64 0, .int .i64 0, .int .i64 0]) ?_ 1 _ rfl; refine bx_ ?_; refine blk_put (cs := #[.int .i64 0, .int .i64 0, .int .i64 0, .int .i64 0, .int .i64 0]) ?_ 0 _ rfl; refine bx_ ?_; exact BK408.out) Tryd.underlying48 rfl (by kernel_rfl)) rfl ?_
 exact ⟨rf_, be1_ HB GE408⟩

end Go.Proofs.YtdeaccbolnlgpaaDoor.X

namespace Go.Proofs.YtdeaccbolnlgpaaDoor.X
open Go.RowKit Go.Proofs.YtdeaccbolnlgpaaDoorW.PrintWords Go.Proofs.YtdeaccbolnlgpaaDoorW.PrintLast Go.Proofs.YtdeaccbolnlgpaaDoorW.PrintMore
attribute [local go_sem] max2_int min2_int max_two min_two max_three min_three max_four min_four   -- for this text's walks alone
set_option linter.unusedVariables false
set_option linter.unusedSimpArgs false

/-! ### cottonpadlaw06_people: function 34 -/
def cottonpadlaw06_people.f  : Option ((List (S48))) := (cottonpadlaw06_walker.f).bind fun bt413 => ((cottonpadlaw06_walker.f).bind fun bt418 => ((cottonpadlaw06_span.f 400 500).bind fun bt423 => ((cottonpadlaw06_span.f 20 21).bind fun bt425 => (some (([(⟨bt413.1, (⟨bt413.2.1, bt413.2.2.1⟩ : S36), (⟨bt413.2.2.2.1, bt413.2.2.2.2⟩ : S36)⟩ : S48), (⟨bt418.1, (⟨bt418.2.1, bt418.2.2.1⟩ : S36), (⟨bt418.2.2.2.1, bt418.2.2.2.2⟩ : S36)⟩ : S48), (⟨1, (⟨bt423.1, bt423.2⟩ : S36), (⟨bt425.1, bt425.2⟩ : S36)⟩ : S48)] : List (S48)))))))
set_option maxHeartbeats 8000000 in
set_option maxRecDepth 100000 in
theorem cottonpadlaw06_people.calls  (r : List (S48)) (w : World) (h : cottonpadlaw06_people.f  = some r) :
  Calls Tryd.prog 34 #[] w fun e w' => ∃ v0_ : Value, e = .returned (v0_) ∧ Kd.R k48 48 w' w.heap.size (fun _ => True) v0_ r ∧ Below w.heap.size w w' := by
 have hu48 := Tryd.underlying48
 have HB := Aside0.mk (Below.refl w.heap.size w)
 have H : ((cottonpadlaw06_walker.f).bind fun bt413 => ((cottonpadlaw06_walker.f).bind fun bt418 => ((cottonpadlaw06_span.f 400 500).bind fun bt423 => ((cottonpadlaw06_span.f 20 21).bind fun bt425 => (some (([(⟨bt413.1, (⟨bt413.2.1, bt413.2.2.1⟩ : S36), (⟨bt413.2.2.2.1, bt413.2.2.2.2⟩ : S36)⟩ : S48), (⟨bt418.1, (⟨bt418.2.1, bt418.2.2.1⟩ : S36), (⟨bt418.2.2.2.1, bt418.2.2.2.2⟩ : S36)⟩ : S48), (⟨1, (⟨bt423.1, bt423.2⟩ : S36), (⟨bt425.1, bt425.2⟩ : S36)⟩ : S48)] : List (S48)))))))) = some r := h
 clear h
 replace H := Option.bind_eq_some_iff.mp H
 obtain ⟨⟨t413, t414, t415, t416, t417⟩, A10, H⟩ := H
 replace H : ((cottonpadlaw06_walker.f).bind fun bt418 => ((cottonpadlaw06_span.f 400 500).bind fun bt423 => ((cottonpadlaw06_span.f 20 21).bind fun bt425 => (some (([(⟨t413, (⟨t414, t415⟩ : S36), (⟨t416, t417⟩ : S36)⟩ : S48), (⟨bt418.1, (⟨bt418.2.1, bt418.2.2.1⟩ : S36), (⟨bt418.2.2.2.1, bt418.2.2.2.2⟩ : S36)⟩ : S48), (⟨1, (⟨bt423.1, bt423.2⟩ : S36), (⟨bt425.1, bt425.2⟩ : S36)⟩ : S48)] : List (S48))))))) = some r := H
 have A1 := Aside0.mk A10
 clear A10
 replace H := Option.bind_eq_some_iff.mp H
 obtain ⟨⟨t418, t419, t420, t421, t422⟩, A20, H⟩ := H
 replace H : ((cottonpadlaw06_span.f 400 500).bind fun bt423 => ((cottonpadlaw06_span.f 20 21).bind fun bt425 => (some (([(⟨t413, (⟨t414, t415⟩ : S36), (⟨t416, t417⟩ : S36)⟩ : S48), (⟨t418, (⟨t419, t420⟩ : S36), (⟨t421, t422⟩ : S36)⟩ : S48), (⟨1, (⟨bt423.1, bt423.2⟩ : S36), (⟨bt425.1, bt425.2⟩ : S36)⟩ : S48)] : List (S48)))))) = some r := H
 have A2 := Aside0.mk A20
 clear A20
 replace H := Option.bind_eq_some_iff.mp H
 obtain ⟨⟨t423, t424⟩, A30, H⟩ := H
 replace H : ((cottonpadlaw06_span.f 20 21).bind fun bt425 => (some (([(⟨t413, (⟨t414, t415⟩ : S36), (⟨t416, t417⟩ : S36)⟩ : S48), (⟨t418, (⟨t419, t420⟩ : S36), (⟨t421, t422⟩ : S36)⟩ : S48), (⟨1, (⟨t423, t424⟩ : S36), (⟨bt425.1, bt425.2⟩ : S36)⟩ : S48)] : List (S48))))) = some r := H
 have A3 := Aside0.mk A30
 clear A30
 replace H := Option.bind_eq_some_iff.mp H
 obtain ⟨⟨t425, t426⟩, A40, H⟩ := H
 replace H : (some (([(⟨t413, (⟨t414, t415⟩ : S36), (⟨t416, t417⟩ : S36)⟩ : S48), (⟨t418, (⟨t419, t420⟩ : S36), (⟨t421, t422⟩ : S36)⟩ : S48), (⟨1, (⟨t423, t424⟩ : S36), (⟨t425, t426⟩ : S36)⟩ : S48)] : List (S48)))) = some r := H
 have A4 := Aside0.mk A40
 clear A40
 obtain ⟨y427, hy427⟩ : ∃ y_ : List (S48), y_ = (([(⟨t413, (⟨t414, t415⟩ : S36), (⟨t416, t417⟩ : S36)⟩ : S48), (⟨t418, (⟨t419, t420⟩ : S36), (⟨t421, t422⟩ : S36)⟩ : S48), (⟨1, (⟨t423, t424⟩ : S36), (⟨t425, t426⟩ : S36)⟩ : S48)] : List (S48))) := ⟨_, rfl⟩
 replace H : (some y427) = some r := by first | (rw [hy427]; with_reducible exact H) | (have H2_ := (Option.bind_some _ _).symm.trans H; rw [hy427]; with_reducible exact H2_) | (have H2_ := (Option.bind_some _ _).symm.trans H; with_reducible exact H2_) | with_reducible exact H | (rw [hy427]; exact H) | exact H
 have Ny427 := Aside0.mk hy427
 clear hy427
 obtain rfl := Option.some.inj H
 go_enter Tryd.func34, Tryd.ntmps34
 go_wp2_with (first | ((with_reducible refine gate_callee (f := 35) rfl ?_); refine goesL_ (some 1) rfl rfl Tryd.func35 (by kernel_rfl) rfl #[] rfl ls_ ?_; (with_reducible refine (cottonpadlaw06_walker.calls  t413 t414 t415 t416 t417 _ A1.out).mono ?_); rintro e w5 ⟨rfl, hb⟩; refine ⟨_, rfl, ?_⟩; replace HB := bs_ HB hb; (try clear hb); (try clear hb2); (try clear hk); (try clear hi)) | ((with_reducible refine gate_callee (f := 35) rfl ?_); refine goesL_ (some 2) rfl rfl Tryd.func35 (by kernel_rfl) rfl #[] rfl ls_ ?_; (with_reducible refine (cottonpadlaw06_walker.calls  t418 t419 t420 t421 t422 _ A2.out).mono ?_); rintro e w6 ⟨rfl, hb⟩; refine ⟨_, rfl, ?_⟩; replace HB := bs_ HB hb; (try clear hb); (try clear hb2); (try clear hk); (try clear hi)) | ((with_reducible refine gate_callee (f := 32) rfl ?_); refine goesL_ (some 3) rfl rfl Tryd.func32 (by kernel_rfl) rfl #[.int .i64 400, .int .i64 500] rfl ls_ ?_; (with_reducible refine (cottonpadlaw06_span.calls 400 500 t423 t424 _ A3.out).mono ?_); rintro e w7 ⟨rfl, hb⟩; refine ⟨_, rfl, ?_⟩; replace HB := bs_ HB hb; (try clear hb); (try clear hb2); (try clear hk); (try clear hi)) | ((with_reducible refine gate_callee (f := 32) rfl ?_); refine goesL_ (some 4) rfl rfl Tryd.func32 (by kernel_rfl) rfl #[.int .i64 20, .int .i64 21] rfl ls_ ?_; (with_reducible refine (cottonpadlaw06_span.calls 20 21 t425 t426 _ A4.out).mono ?_); rintro e w8 ⟨rfl, hb⟩; refine ⟨_, rfl, ?_⟩; replace HB := bs_ HB hb; (try clear hb); (try clear hb2); (try clear hk); (try clear hi)) | ((with_reducible refine gate_dst (N := 6) rfl ?_); refine Kd.R_lit k48 _ 48 ?hg (N := 6) ?hd (xs := ([(⟨t413, (⟨t414, t415⟩ : S36), (⟨t416, t417⟩ : S36)⟩ : S48), (⟨t418, (⟨t419, t420⟩ : S36), (⟨t421, t422⟩ : S36)⟩ : S48), (⟨1, (⟨t423, t424⟩ : S36), (⟨t425, t426⟩ : S36)⟩ : S48)] : List (S48))) (inner := [.int .i64 t413, .int .i64 t414, .int .i64 t415, .int .i64 t416, .int .i64 t417, .int .i64 t418, .int .i64 t419, .int .i64 t420, .int .i64 t421, .int .i64 t422, .int .i64 1, .int .i64 t423, .int .i64 t424, .int .i64 t425, .int .i64 t426]) (ok := fun _ => True) (okp := fun _ => True) ?hr ?hp (fun _ hk => hk) trivial (Below.refl _ _) (Nat.le_refl _) (by simp) ?_; (case hd => rfl); (case hg => rfl); (case hr => exact gs_); (case hp => exact (Reps.c5 (show Kd.M k48 _ _ _ (⟨t413, (⟨t414, t415⟩ : S36), (⟨t416, t417⟩ : S36)⟩ : S48) [.int .i64 t413, .int .i64 t414, .int .i64 t415, .int .i64 t416, .int .i64 t417] from (k48_mkM _ _ _ (⟨t413, (⟨t414, t415⟩ : S36), (⟨t416, t417⟩ : S36)⟩ : S48) )) (Reps.c5 (show Kd.M k48 _ _ _ (⟨t418, (⟨t419, t420⟩ : S36), (⟨t421, t422⟩ : S36)⟩ : S48) [.int .i64 t418, .int .i64 t419, .int .i64 t420, .int .i64 t421, .int .i64 t422] from (k48_mkM _ _ _ (⟨t418, (⟨t419, t420⟩ : S36), (⟨t421, t422⟩ : S36)⟩ : S48) )) (Reps.c5 (show Kd.M k48 _ _ _ (⟨1, (⟨t423, t424⟩ : S36), (⟨t425, t426⟩ : S36)⟩ : S48) [.int .i64 1, .int .i64 t423, .int .i64 t424, .int .i64 t425, .int .i64 t426] from (k48_mkM _ _ _ (⟨1, (⟨t423, t424⟩ : S36), (⟨t425, t426⟩ : S36)⟩ : S48) )) (Reps.none _ _))))); intro v428 w9 ho10 hb hg_ hnew_; clear hg_ hnew_; (first | rw [← Ny427.out] at ho10 | (simp only [Int.reduceToNat] at ho10; rw [← Ny427.out] at ho10)); have HO429 := Aside0.mk (Kd.R_lower ho10 (below_size (be_ HB))); replace HB := bs_ HB hb; clear hb ho10))
 go_ret
 exact ⟨_, rf_, by (with_reducible repeat (first | apply Kd.R_alloc | apply Kd.R_drewN | apply Kd.R_drew)); exact HO429.out, be_ HB⟩

end Go.Proofs.YtdeaccbolnlgpaaDoor.X

namespace Go.Proofs.YtdeaccbolnlgpaaDoor.X
open Go.RowKit Go.Proofs.YtdeaccbolnlgpaaDoorW.PrintWords Go.Proofs.YtdeaccbolnlgpaaDoorW.PrintLast Go.Proofs.YtdeaccbolnlgpaaDoorW.PrintMore
attribute [local go_sem] max2_int min2_int max_two min_two max_three min_three max_four min_four   -- for this text's walks alone
set_option linter.unusedVariables false
set_option linter.unusedSimpArgs false

/-! ### cottonpadlaw06_building: function 31 -/
def cottonpadlaw06_building.f  : Option ((List (S62)) × (List (S81))) := (cottonpadlaw06_span.f 10 12).bind fun bt390 => ((cottonpadlaw06_span.f 60 90).bind fun bt392 => ((cottonpadlaw06_span.f 5 5).bind fun bt394 => ((cottonpadlaw06_span.f 70 100).bind fun bt396 => ((cottonpadlaw06_span.f 30 40).bind fun bt401 => ((cottonpadlaw06_span.f 40 50).bind fun bt403 => (some ((([(⟨1, 2, (⟨bt390.1, bt390.2⟩ : S36), (⟨bt392.1, bt392.2⟩ : S36)⟩ : S62), (⟨(-1), 3, (⟨bt394.1, bt394.2⟩ : S36), (⟨bt396.1, bt396.2⟩ : S36)⟩ : S62)] : List (S62))), (([(⟨0, 10000, (⟨bt401.1, bt401.2⟩ : S36)⟩ : S81), (⟨1, 4000, (⟨bt403.1, bt403.2⟩ : S36)⟩ : S81)] : List (S81))))))))))
set_option maxHeartbeats 8000000 in
set_option maxRecDepth 100000 in
theorem cottonpadlaw06_building.calls  (r1 : List (S62)) (r2 : List (S81)) (w : World) (h : cottonpadlaw06_building.f  = some (r1, r2)) :
  Calls Tryd.prog 31 #[] w fun e w' => ∃ v0_ v1_ : Value, e = .returned (.agg #[v0_, v1_]) ∧ Kd.R k62 62 w' w.heap.size (fun _ => True) v0_ r1 ∧ Kd.R k81 81 w' w.heap.size (fun _ => True) v1_ r2 ∧ Below w.heap.size w w' := by
 have hu25 := Tryd.underlying25
 have hu62 := Tryd.underlying62
 have hu81 := Tryd.underlying81
 have HB := Aside0.mk (Below.refl w.heap.size w)
 have H : ((cottonpadlaw06_span.f 10 12).bind fun bt390 => ((cottonpadlaw06_span.f 60 90).bind fun bt392 => ((cottonpadlaw06_span.f 5 5).bind fun bt394 => ((cottonpadlaw06_span.f 70 100).bind fun bt396 => ((cottonpadlaw06_span.f 30 40).bind fun bt401 => ((cottonpadlaw06_span.f 40 50).bind fun bt403 => (some ((([(⟨1, 2, (⟨bt390.1, bt390.2⟩ : S36), (⟨bt392.1, bt392.2⟩ : S36)⟩ : S62), (⟨(-1), 3, (⟨bt394.1, bt394.2⟩ : S36), (⟨bt396.1, bt396.2⟩ : S36)⟩ : S62)] : List (S62))), (([(⟨0, 10000, (⟨bt401.1, bt401.2⟩ : S36)⟩ : S81), (⟨1, 4000, (⟨bt403.1, bt403.2⟩ : S36)⟩ : S81)] : List (S81))))))))))) = some (r1, r2) := h
 clear h
 replace H := Option.bind_eq_some_iff.mp H
 obtain ⟨⟨t390, t391⟩, A10, H⟩ := H
 replace H : ((cottonpadlaw06_span.f 60 90).bind fun bt392 => ((cottonpadlaw06_span.f 5 5).bind fun bt394 => ((cottonpadlaw06_span.f 70 100).bind fun bt396 => ((cottonpadlaw06_span.f 30 40).bind fun bt401 => ((cottonpadlaw06_span.f 40 50).bind fun bt403 => (some ((([(⟨1, 2, (⟨t390, t391⟩ : S36), (⟨bt392.1, bt392.2⟩ : S36)⟩ : S62), (⟨(-1), 3, (⟨bt394.1, bt394.2⟩ : S36), (⟨bt396.1, bt396.2⟩ : S36)⟩ : S62)] : List (S62))), (([(⟨0, 10000, (⟨bt401.1, bt401.2⟩ : S36)⟩ : S81), (⟨1, 4000, (⟨bt403.1, bt403.2⟩ : S36)⟩ : S81)] : List (S81)))))))))) = some (r1, r2) := H
 have A1 := Aside0.mk A10
 clear A10
 replace H := Option.bind_eq_some_iff.mp H
 obtain ⟨⟨t392, t393⟩, A20, H⟩ := H
 replace H : ((cottonpadlaw06_span.f 5 5).bind fun bt394 => ((cottonpadlaw06_span.f 70 100).bind fun bt396 => ((cottonpadlaw06_span.f 30 40).bind fun bt401 => ((cottonpadlaw06_span.f 40 50).bind fun bt403 => (some ((([(⟨1, 2, (⟨t390, t391⟩ : S36), (⟨t392, t393⟩ : S36)⟩ : S62), (⟨(-1), 3, (⟨bt394.1, bt394.2⟩ : S36), (⟨bt396.1, bt396.2⟩ : S36)⟩ : S62)] : List (S62))), (([(⟨0, 10000, (⟨bt401.1, bt401.2⟩ : S36)⟩ : S81), (⟨1, 4000, (⟨bt403.1, bt403.2⟩ : S36)⟩ : S81)] : List (S81))))))))) = some (r1, r2) := H
 have A2 := Aside0.mk A20
 clear A20
 replace H := Option.bind_eq_some_iff.mp H
 obtain ⟨⟨t394, t395⟩, A30, H⟩ := H
 replace H : ((cottonpadlaw06_span.f 70 100).bind fun bt396 => ((cottonpadlaw06_span.f 30 40).bind fun bt401 => ((cottonpadlaw06_span.f 40 50).bind fun bt403 => (some ((([(⟨1, 2, (⟨t390, t391⟩ : S36), (⟨t392, t393⟩ : S36)⟩ : S62), (⟨(-1), 3, (⟨t394, t395⟩ : S36), (⟨bt396.1, bt396.2⟩ : S36)⟩ : S62)] : List (S62))), (([(⟨0, 10000, (⟨bt401.1, bt401.2⟩ : S36)⟩ : S81), (⟨1, 4000, (⟨bt403.1, bt403.2⟩ : S36)⟩ : S81)] : List (S81)))))))) = some (r1, r2) := H
 have A3 := Aside0.mk A30
 clear A30
 replace H := Option.bind_eq_some_iff.mp H
 obtain ⟨⟨t396, t397⟩, A40, H⟩ := H
 replace H : ((cottonpadlaw06_span.f 30 40).bind fun bt401 => ((cottonpadlaw06_span.f 40 50).bind fun bt403 => (some ((([(⟨1, 2, (⟨t390, t391⟩ : S36), (⟨t392, t393⟩ : S36)⟩ : S62), (⟨(-1), 3, (⟨t394, t395⟩ : S36), (⟨t396, t397⟩ : S36)⟩ : S62)] : List (S62))), (([(⟨0, 10000, (⟨bt401.1, bt401.2⟩ : S36)⟩ : S81), (⟨1, 4000, (⟨bt403.1, bt403.2⟩ : S36)⟩ : S81)] : List (S81))))))) = some (r1, r2) := H
 have A4 := Aside0.mk A40
 clear A40
 obtain ⟨y398, hy398⟩ : ∃ y_ : List (S62), y_ = (([(⟨1, 2, (⟨t390, t391⟩ : S36), (⟨t392, t393⟩ : S36)⟩ : S62), (⟨(-1), 3, (⟨t394, t395⟩ : S36), (⟨t396, t397⟩ : S36)⟩ : S62)] : List (S62))) := ⟨_, rfl⟩
 replace H : ((cottonpadlaw06_span.f 30 40).bind fun bt401 => ((cottonpadlaw06_span.f 40 50).bind fun bt403 => (some (y398, (([(⟨0, 10000, (⟨bt401.1, bt401.2⟩ : S36)⟩ : S81), (⟨1, 4000, (⟨bt403.1, bt403.2⟩ : S36)⟩ : S81)] : List (S81))))))) = some (r1, r2) := by first | (rw [hy398]; with_reducible exact H) | (have H2_ := (Option.bind_some _ _).symm.trans H; rw [hy398]; with_reducible exact H2_) | (have H2_ := (Option.bind_some _ _).symm.trans H; with_reducible exact H2_) | with_reducible exact H | (rw [hy398]; exact H) | exact H
 have Ny398 := Aside0.mk hy398
 clear hy398
 replace H := Option.bind_eq_some_iff.mp H
 obtain ⟨⟨t401, t402⟩, A50, H⟩ := H
 replace H : ((cottonpadlaw06_span.f 40 50).bind fun bt403 => (some (y398, (([(⟨0, 10000, (⟨t401, t402⟩ : S36)⟩ : S81), (⟨1, 4000, (⟨bt403.1, bt403.2⟩ : S36)⟩ : S81)] : List (S81)))))) = some (r1, r2) := H
 have A5 := Aside0.mk A50
 clear A50
 replace H := Option.bind_eq_some_iff.mp H
 obtain ⟨⟨t403, t404⟩, A60, H⟩ := H
 replace H : (some (y398, (([(⟨0, 10000, (⟨t401, t402⟩ : S36)⟩ : S81), (⟨1, 4000, (⟨t403, t404⟩ : S36)⟩ : S81)] : List (S81))))) = some (r1, r2) := H
 have A6 := Aside0.mk A60
 clear A60
 obtain ⟨y405, hy405⟩ : ∃ y_ : List (S81), y_ = (([(⟨0, 10000, (⟨t401, t402⟩ : S36)⟩ : S81), (⟨1, 4000, (⟨t403, t404⟩ : S36)⟩ : S81)] : List (S81))) := ⟨_, rfl⟩
 replace H : (some (y398, y405)) = some (r1, r2) := by first | (rw [hy405]; with_reducible exact H) | (have H2_ := (Option.bind_some _ _).symm.trans H; rw [hy405]; with_reducible exact H2_) | (have H2_ := (Option.bind_some _ _).symm.trans H; with_reducible exact H2_) | with_reducible exact H | (rw [hy405]; exact H) | exact H
 have Ny405 := Aside0.mk hy405
 clear hy405
 simp only [Option.some.injEq, Prod.mk.injEq] at H
 obtain ⟨rfl, rfl⟩ := H
 go_enter Tryd.func31, Tryd.ntmps31
 go_wp2_with (first | ((with_reducible refine gate_dst (N := 0) rfl ?_); refine box_event ?hg (N := 0) ?hd (cs := #[.slice none 0 0, .slice none 0 0]) (t := 25) ?hr ?_; (case hd => rfl); (case hg => rfl); (case hr => exact gs_); intro gb389 hg w7 hbox hb; have BK389 := Aside0.mk (hbox); have GW389 := hl_ hg (be_ HB); have GE389 := hl_ hg (be_ HB); replace HB := bs_ HB hb; clear hb hbox hg) | ((with_reducible refine gate_callee (f := 32) rfl ?_); refine goesL_ (some 1) rfl rfl Tryd.func32 (by kernel_rfl) rfl #[.int .i64 10, .int .i64 12] rfl ls_ ?_; (with_reducible refine (cottonpadlaw06_span.calls 10 12 t390 t391 _ A1.out).mono ?_); rintro e w8 ⟨rfl, hb⟩; refine ⟨_, rfl, ?_⟩; replace BK389 := bb_ BK389 hb; replace HB := bs1_ HB GE389 hb; (try clear hb); (try clear hb2); (try clear hk); (try clear hi)) | ((with_reducible refine gate_callee (f := 32) rfl ?_); refine goesL_ (some 2) rfl rfl Tryd.func32 (by kernel_rfl) rfl #[.int .i64 60, .int .i64 90] rfl ls_ ?_; (with_reducible refine (cottonpadlaw06_span.calls 60 90 t392 t393 _ A2.out).mono ?_); rintro e w9 ⟨rfl, hb⟩; refine ⟨_, rfl, ?_⟩; replace BK389 := bb_ BK389 hb; replace HB := bs1_ HB GE389 hb; (try clear hb); (try clear hb2); (try clear hk); (try clear hi)) | ((with_reducible refine gate_callee (f := 32) rfl ?_); refine goesL_ (some 4) rfl rfl Tryd.func32 (by kernel_rfl) rfl #[.int .i64 5, .int .i64 5] rfl ls_ ?_; (with_reducible refine (cottonpadlaw06_span.calls 5 5 t394 t395 _ A3.out).mono ?_); rintro e w10 ⟨rfl, hb⟩; refine ⟨_, rfl, ?_⟩; replace BK389 := bb_ BK389 hb; replace HB := bs1_ HB GE389 hb; (try clear hb); (try clear hb2); (try clear hk); (try clear hi)) | ((with_reducible refine gate_callee (f := 32) rfl ?_); refine goesL_ (some 5) rfl rfl Tryd.func32 (by kernel_rfl) rfl #[.int .i64 70, .int .i64 100] rfl ls_ ?_; (with_reducible refine (cottonpadlaw06_span.calls 70 100 t396 t397 _ A4.out).mono ?_); rintro e w11 ⟨rfl, hb⟩; refine ⟨_, rfl, ?_⟩; replace BK389 := bb_ BK389 hb; replace HB := bs1_ HB GE389 hb; (try clear hb); (try clear hb2); (try clear hk); (try clear hi)) | ((with_reducible refine gate_dst (N := 7) rfl ?_); refine Kd.R_lit k62 _ 62 ?hg (N := 7) ?hd (xs := ([(⟨1, 2, (⟨t390, t391⟩ : S36), (⟨t392, t393⟩ : S36)⟩ : S62), (⟨(-1), 3, (⟨t394, t395⟩ : S36), (⟨t396, t397⟩ : S36)⟩ : S62)] : List (S62))) (inner := [.int .i64 1, .int .i64 2, .int .i64 t390, .int .i64 t391, .int .i64 t392, .int .i64 t393, .int .i64 (-1), .int .i64 3, .int .i64 t394, .int .i64 t395, .int .i64 t396, .int .i64 t397]) (ok := fun _ => True) (okp := fun _ => True) ?hr ?hp (fun _ hk => hk) trivial (Below.refl _ _) (Nat.le_refl _) (by simp) ?_; (case hd => rfl); (case hg => rfl); (case hr => exact gs_); (case hp => exact (Reps.c6 (show Kd.M k62 _ _ _ (⟨1, 2, (⟨t390, t391⟩ : S36), (⟨t392, t393⟩ : S36)⟩ : S62) [.int .i64 1, .int .i64 2, .int .i64 t390, .int .i64 t391, .int .i64 t392, .int .i64 t393] from (k62_mkM _ _ _ (⟨1, 2, (⟨t390, t391⟩ : S36), (⟨t392, t393⟩ : S36)⟩ : S62) )) (Reps.c6 (show Kd.M k62 _ _ _ (⟨(-1), 3, (⟨t394, t395⟩ : S36), (⟨t396, t397⟩ : S36)⟩ : S62) [.int .i64 (-1), .int .i64 3, .int .i64 t394, .int .i64 t395, .int .i64 t396, .int .i64 t397] from (k62_mkM _ _ _ (⟨(-1), 3, (⟨t394, t395⟩ : S36), (⟨t396, t397⟩ : S36)⟩ : S62) )) (Reps.none _ _)))); intro v399 w12 ho13 hb hg_ hnew_; clear hg_ hnew_; (first | rw [← Ny398.out] at ho13 | (simp only [Int.reduceToNat] at ho13; rw [← Ny398.out] at ho13)); have HO400 := Aside0.mk (Kd.R_lower ho13 (below_size (be1_ HB GE389))); replace BK389 := bb_ BK389 hb; replace HB := bs1_ HB GE389 hb; clear hb ho13) | ((with_reducible refine gate_callee (f := 32) rfl ?_); refine goesL_ (some 8) rfl rfl Tryd.func32 (by kernel_rfl) rfl #[.int .i64 30, .int .i64 40] rfl ls_ ?_; (with_reducible refine (cottonpadlaw06_span.calls 30 40 t401 t402 _ A5.out).mono ?_); rintro e w14 ⟨rfl, hb⟩; refine ⟨_, rfl, ?_⟩; replace HO400 := rb_ HO400 hb; replace BK389 := bb_ BK389 hb; replace HB := bs1_ HB GE389 hb; (try clear hb); (try clear hb2); (try clear hk); (try clear hi)) | ((with_reducible refine gate_callee (f := 32) rfl ?_); refine goesL_ (some 10) rfl rfl Tryd.func32 (by kernel_rfl) rfl #[.int .i64 40, .int .i64 50] rfl ls_ ?_; (with_reducible refine (cottonpadlaw06_span.calls 40 50 t403 t404 _ A6.out).mono ?_); rintro e w15 ⟨rfl, hb⟩; refine ⟨_, rfl, ?_⟩; replace HO400 := rb_ HO400 hb; replace BK389 := bb_ BK389 hb; replace HB := bs1_ HB GE389 hb; (try clear hb); (try clear hb2); (try clear hk); (try clear hi)) | ((with_reducible refine gate_dst (N := 12) rfl ?_); refine Kd.R_lit k81 _ 81 ?hg (N := 12) ?hd (xs := ([(⟨0, 10000, (⟨t401, t402⟩ : S36)⟩ : S81), (⟨1, 4000, (⟨t403, t404⟩ : S36)⟩ : S81)] : List (S81))) (inner := [.int .i64 0, .int .i64 10000, .int .i64 t401, .int .i64 t402, .int .i64 1, .int .i64 4000, .int .i64 t403, .int .i64 t404]) (ok := fun _ => True) (okp := fun _ => True) ?hr ?hp (fun _ hk => hk) trivial (Below.refl _ _) (Nat.le_refl _) (by simp) ?_; (case hd => rfl); (case hg => rfl); (case hr => exact gs_); (case hp => exact (Reps.c4 (show Kd.M k81 _ _ _ (⟨0, 10000, (⟨t401, t402⟩ : S36)⟩ : S81) [.int .i64 0, .int .i64 10000, .int .i64 t401, .int .i64 t402] from (k81_mkM _ _ _ (⟨0, 10000, (⟨t401, t402⟩ : S36)⟩ : S81) )) (Reps.c4 (show Kd.M k81 _ _ _ (⟨1, 4000, (⟨t403, t404⟩ : S36)⟩ : S81) [.int .i64 1, .int .i64 4000, .int .i64 t403, .int .i64 t404] from (k81_mkM _ _ _ (⟨1, 4000, (⟨t403, t404⟩ : S36)⟩ : S81) )) (Reps.none _ _)))); intro v406 w16 ho17 hb hg_ hnew_; clear hg_ hnew_; (first | rw [← Ny405.out] at ho17 | (simp only [Int.reduceToNat] at ho17; rw [← Ny405.out] at ho17)); replace HO400 := rb_ HO400 hb; have HO407 := Aside0.mk (Kd.R_lower ho17 (below_size (be1_ HB GE389))); replace BK389 := bb_ BK389 hb; replace HB := bs1_ HB GE389 hb; clear hb ho17; obtain ⟨Ao18, co18, eo18⟩ := Kd.R_slice HO407.out; subst eo18; obtain ⟨Ao19, co19, eo19⟩ := Kd.R_slice HO400.out; subst eo19; have hcz20_0 : w16.cell? ⟨gb389, 0, none⟩ = some (.slice none 0 0) := bc_ BK389 0; have hcz20_1 : w16.cell? ⟨gb389, 1, none⟩ = some (.slice none 0 0) := bc_ BK389 1; have hfz20_0 := blk_frozen BK389.out 0; have hfz20_1 := blk_frozen BK389.out 1))
 refine bodyPost_ret (results_cell_row rfl _ _ gb389 25 #[.slice Ao19 y398.length co19, .slice Ao18 y405.length co18] (0, 0) _ rfl (by refine bx_ ?_; refine blk_put (cs := #[.slice Ao19 y398.length co19, .slice none 0 0]) ?_ 1 _ rfl; refine bx_ ?_; refine blk_put (cs := #[.slice none 0 0, .slice none 0 0]) ?_ 0 _ rfl; refine bx_ ?_; exact BK389.out) Tryd.underlying25 rfl (by kernel_rfl)) rfl ?_
 exact ⟨_, _, rf_, by (with_reducible repeat (first | apply Kd.R_alloc | apply Kd.R_drewN | apply Kd.R_drew)); exact Kd.R_mono (Kd.R_far (p := ⟨gb389, 1, none⟩) (Kd.R_far (p := ⟨gb389, 0, none⟩) (Kd.R_types HO400.out BK389.out (by decide)) (fun _ hk => hk.2) (.slice Ao19 y398.length co19)) (fun _ hk => hk.2) (.slice Ao18 y405.length co18)) (fun _ hk => trivial), by (with_reducible repeat (first | apply Kd.R_alloc | apply Kd.R_drewN | apply Kd.R_drew)); exact Kd.R_mono (Kd.R_far (p := ⟨gb389, 1, none⟩) (Kd.R_far (p := ⟨gb389, 0, none⟩) (Kd.R_types HO407.out BK389.out (by decide)) (fun _ hk => hk.2) (.slice Ao19 y398.length co19)) (fun _ hk => hk.2) (.slice Ao18 y405.length co18)) (fun _ hk => trivial), be1_ HB GE389⟩

end Go.Proofs.YtdeaccbolnlgpaaDoor.X
