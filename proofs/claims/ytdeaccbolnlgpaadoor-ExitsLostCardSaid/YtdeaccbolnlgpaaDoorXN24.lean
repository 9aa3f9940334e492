import Derived.Test.YtdeaccbolnlgpaaDoorX0
import Derived.Test.YtdeaccbolnlgpaaDoorXE1
namespace Go.Proofs.YtdeaccbolnlgpaaDoor.X
open Go.RowKit Go.Proofs.YtdeaccbolnlgpaaDoorW.PrintWords Go.Proofs.YtdeaccbolnlgpaaDoorW.PrintLast Go.Proofs.YtdeaccbolnlgpaaDoorW.PrintMore
attribute [local go_sem] max2_int min2_int max_two min_two max_three min_three max_four min_four   -- for this text's walks alone
set_option linter.unusedVariables false
set_option linter.unusedSimpArgs false

attribute [local go_sem high] eqA62 eqA81
/-! ### cottonpadref06_Same: function 24 -/
mutual
def cottonpadref06_Same.j0 : Nat → Bool → List (S62) → List (S81) → List (S62) → List (S81) → Option (Bool)
 | 0, _, _, _, _, _ => none
 | k + 1, x22, x258000, x258001, x259000, x259001 => if x22 = true then (some false) else (cottonpadref06_Same.l0 k 0 x258000 x258001 x259000 x259001)
def cottonpadref06_Same.l0 : Nat → Int → List (S62) → List (S81) → List (S62) → List (S81) → Option (Bool)
 | 0, _, _, _, _, _ => none
 | k + 1, x5, x258000, x258001, x259000, x259001 => if x5 < (x258000.length : Int) then (if 0 ≤ x5 then (if x5 < (x259000.length : Int) then (if (!(((rd_T62 x258000 x5).f0) == ((rd_T62 x259000 x5).f0)) || (!(((rd_T62 x258000 x5).f1) == ((rd_T62 x259000 x5).f1)) || ((!(((rd_T62 x258000 x5).f2.f0) == ((rd_T62 x259000 x5).f2.f0)) || (!(((rd_T62 x258000 x5).f2.f1) == ((rd_T62 x259000 x5).f2.f1)))) || ((!(((rd_T62 x258000 x5).f3.f0) == ((rd_T62 x259000 x5).f3.f0)) || (!(((rd_T62 x258000 x5).f3.f1) == ((rd_T62 x259000 x5).f3.f1)))))))) = true then (some false) else (cottonpadref06_Same.l0 k (wrap64 (x5 + 1)) x258000 x258001 x259000 x259001)) else (none)) else (none)) else (cottonpadref06_Same.l1 k 0 x258000 x258001 x259000 x259001)
def cottonpadref06_Same.l1 : Nat → Int → List (S62) → List (S81) → List (S62) → List (S81) → Option (Bool)
 | 0, _, _, _, _, _ => none
 | k + 1, x6, x258000, x258001, x259000, x259001 => if x6 < (x258001.length : Int) then (if 0 ≤ x6 then (if x6 < (x259001.length : Int) then (if (!(((rd_T81 x258001 x6).f0) == ((rd_T81 x259001 x6).f0)) || (!(((rd_T81 x258001 x6).f1) == ((rd_T81 x259001 x6).f1)) || ((!(((rd_T81 x258001 x6).f2.f0) == ((rd_T81 x259001 x6).f2.f0)) || (!(((rd_T81 x258001 x6).f2.f1) == ((rd_T81 x259001 x6).f2.f1))))))) = true then (some false) else (cottonpadref06_Same.l1 k (wrap64 (x6 + 1)) x258000 x258001 x259000 x259001)) else (none)) else (none)) else (some true)
end
def cottonpadref06_Same.f (k : Nat) (l0_0 : List (S62)) (l0_1 : List (S81)) (l1_0 : List (S62)) (l1_1 : List (S81)) : Option (Bool) := if (l0_0.length : Int) = (l1_0.length : Int) then (cottonpadref06_Same.j0 k ((l0_1.length : Int) != (l1_1.length : Int)) l0_0 l0_1 l1_0 l1_1) else (cottonpadref06_Same.j0 k true l0_0 l0_1 l1_0 l1_1)
theorem cottonpadref06_Same.mono_l : ∀ k, (∀ y0 y1 y2 y3 y4, LeO (cottonpadref06_Same.j0 k y0 y1 y2 y3 y4) (cottonpadref06_Same.j0 (k + 1) y0 y1 y2 y3 y4)) ∧ (∀ y0 y1 y2 y3 y4, LeO (cottonpadref06_Same.l0 k y0 y1 y2 y3 y4) (cottonpadref06_Same.l0 (k + 1) y0 y1 y2 y3 y4)) ∧ (∀ y0 y1 y2 y3 y4, LeO (cottonpadref06_Same.l1 k y0 y1 y2 y3 y4) (cottonpadref06_Same.l1 (k + 1) y0 y1 y2 y3 y4))
 | 0 => ⟨fun _ _ _ _ _ r h => by simp [cottonpadref06_Same.j0] at h, fun _ _ _ _ _ r h => by simp [cottonpadref06_Same.l0] at h, fun _ _ _ _ _ r h => by simp [cottonpadref06_Same.l1] at h⟩
 | k + 1 => by
  obtain ⟨ih0, ih1, ih2⟩ := cottonpadref06_Same.mono_l k
  refine ⟨?_, ?_, ?_⟩
  ·intro y0 y1 y2 y3 y4
   unfold cottonpadref06_Same.j0
   repeat' (with_reducible first | exact ih0 .. | exact ih1 .. | exact ih2 .. | exact LeO.refl .. | exact LeO.none .. | refine LeO.ite ?_ ?_ | refine LeO.bind ?_ (fun _ => ?_))
  ·intro y0 y1 y2 y3 y4
   unfold cottonpadref06_Same.l0
   repeat' (with_reducible first | exact ih0 .. | exact ih1 .. | exact ih2 .. | exact LeO.refl .. | exact LeO.none .. | refine LeO.ite ?_ ?_ | refine LeO.bind ?_ (fun _ => ?_))
  ·intro y0 y1 y2 y3 y4
   unfold cottonpadref06_Same.l1
   repeat' (with_reducible first | exact ih0 .. | exact ih1 .. | exact ih2 .. | exact LeO.refl .. | exact LeO.none .. | refine LeO.ite ?_ ?_ | refine LeO.bind ?_ (fun _ => ?_))
theorem cottonpadref06_Same.mono : ∀ a0 a1 a2 a3 k, LeO (cottonpadref06_Same.f k a0 a1 a2 a3) (cottonpadref06_Same.f (k + 1) a0 a1 a2 a3) := by
 intro a0 a1 a2 a3 k
 obtain ⟨ih0, ih1, ih2⟩ := cottonpadref06_Same.mono_l k
 unfold cottonpadref06_Same.f
 repeat' (with_reducible first | exact ih0 .. | exact ih1 .. | exact ih2 .. | exact LeO.refl .. | exact LeO.none .. | refine LeO.ite ?_ ?_ | refine LeO.bind ?_ (fun _ => ?_))
set_option maxHeartbeats 8000000 in
set_option maxRecDepth 100000 in
theorem cottonpadref06_Same.calls (k : Nat) (A0_0 : Option Addr) (c0_0 : Nat) (l0_0 : List (S62)) (A0_1 : Option Addr) (c0_1 : Nat) (l0_1 : List (S81)) (A1_0 : Option Addr) (c1_0 : Nat) (l1_0 : List (S62)) (A1_1 : Option Addr) (c1_1 : Nat) (l1_1 : List (S81)) (r : Bool) (w : World) (hr0_0 : Kd.C k62 w A0_0 l0_0.length l0_0) (hc0_0 : l0_0.length ≤ c0_0) (hr0_1 : Kd.C k81 w A0_1 l0_1.length l0_1) (hc0_1 : l0_1.length ≤ c0_1) (hr1_0 : Kd.C k62 w A1_0 l1_0.length l1_0) (hc1_0 : l1_0.length ≤ c1_0) (hr1_1 : Kd.C k81 w A1_1 l1_1.length l1_1) (hc1_1 : l1_1.length ≤ c1_1) (h : cottonpadref06_Same.f k l0_0 l0_1 l1_0 l1_1 = some r) :
  Calls Tryd.prog 24 #[.agg #[.slice A0_0 l0_0.length c0_0, .slice A0_1 l0_1.length c0_1], .agg #[.slice A1_0 l1_0.length c1_0, .slice A1_1 l1_1.length c1_1]] w fun e w' => e = .returned (.bool r) ∧ Below w.heap.size w w' := by
 have hu25 := Tryd.underlying25
 have hu62 := Tryd.underlying62
 have hu81 := Tryd.underlying81
 have HR0_0 := Aside0.mk hr0_0
 have HC0_0 := Aside0.mk hc0_0
 clear hr0_0 hc0_0
 have HR0_1 := Aside0.mk hr0_1
 have HC0_1 := Aside0.mk hc0_1
 clear hr0_1 hc0_1
 have HR1_0 := Aside0.mk hr1_0
 have HC1_0 := Aside0.mk hc1_0
 clear hr1_0 hc1_0
 have HR1_1 := Aside0.mk hr1_1
 have HC1_1 := Aside0.mk hc1_1
 clear hr1_1 hc1_1
 have HB := Aside0.mk (Below.refl w.heap.size w)
 have H : (if (l0_0.length : Int) = (l1_0.length : Int) then (cottonpadref06_Same.j0 k ((l0_1.length : Int) != (l1_1.length : Int)) l0_0 l0_1 l1_0 l1_1) else (cottonpadref06_Same.j0 k true l0_0 l0_1 l1_0 l1_1)) = some r := h
 clear h
 have HC3 := Aside0.mk H
 clear H
 go_enter Tryd.func24, Tryd.ntmps24
 go_upto_region 1 with (first | ((with_reducible refine gate_dst (N := 2) rfl ?_); (try (refine gate_guard (by rfl) ?_; dsimp only)); refine box_event ?hg (N := 2) ?hd (cs := #[.slice A0_0 l0_0.length c0_0, .slice A0_1 l0_1.length c0_1]) (t := 25) ?hr ?_; (case hd => rfl); (case hg => rfl); (case hr => exact gs_); intro gb257 hg w4 hbox hb; have BK257 := Aside0.mk (hbox); have GW257 := hl_ hg (be_ HB); have GE257 := hl_ hg (be_ HB); replace HB := bs_ HB hb; clear hb hbox hg) | ((with_reducible refine gate_dst (N := 3) rfl ?_); (try (refine gate_guard (by rfl) ?_; dsimp only)); refine box_event ?hg (N := 3) ?hd (cs := #[.slice A1_0 l1_0.length c1_0, .slice A1_1 l1_1.length c1_1]) (t := 25) ?hr ?_; (case hd => rfl); (case hg => rfl); (case hr => exact gs_); intro gb258 hg w5 hbox hb; have BK258 := Aside0.mk (hbox); have GW258 := hl_ hg (be1_ HB GE257); have GE258 := hl_ hg (be1_ HB GE257); replace HB := bs1_ HB GE257 hb; have NB257_258 := Aside0.mk ((by rw [hg]; exact Nat.ne_of_lt (blk_lt (bk_ BK257)) : gb257 ≠ gb258)); have NB258_257 := Aside0.mk ((by rw [hg]; exact Nat.ne_of_gt (blk_lt (bk_ BK257)) : gb258 ≠ gb257)); replace BK257 := bb_ BK257 hb; clear hb hbox hg))
 repeat (go_quiet (first | ((with_reducible refine gate_dst (N := 2) rfl ?_); (try (refine gate_guard (by rfl) ?_; dsimp only)); refine box_event ?hg (N := 2) ?hd (cs := #[.slice A0_0 l0_0.length c0_0, .slice A0_1 l0_1.length c0_1]) (t := 25) ?hr ?_; (case hd => rfl); (case hg => rfl); (case hr => exact gs_); intro gb257 hg w4 hbox hb; have BK257 := Aside0.mk (hbox); have GW257 := hl_ hg (be_ HB); have GE257 := hl_ hg (be_ HB); replace HB := bs_ HB hb; clear hb hbox hg) | ((with_reducible refine gate_dst (N := 3) rfl ?_); (try (refine gate_guard (by rfl) ?_; dsimp only)); refine box_event ?hg (N := 3) ?hd (cs := #[.slice A1_0 l1_0.length c1_0, .slice A1_1 l1_1.length c1_1]) (t := 25) ?hr ?_; (case hd => rfl); (case hg => rfl); (case hr => exact gs_); intro gb258 hg w5 hbox hb; have BK258 := Aside0.mk (hbox); have GW258 := hl_ hg (be1_ HB GE257); have GE258 := hl_ hg (be1_ HB GE257); replace HB := bs1_ HB GE257 hb; have NB257_258 := Aside0.mk ((by rw [hg]; exact Nat.ne_of_lt (blk_lt (bk_ BK257)) : gb257 ≠ gb258)); have NB258_257 := Aside0.mk ((by rw [hg]; exact Nat.ne_of_gt (blk_lt (bk_ BK257)) : gb258 ≠ gb257)); replace BK257 := bb_ BK257 hb; clear hb hbox hg)); go_upto_region 1 with (first | ((with_reducible refine gate_dst (N := 2) rfl ?_); (try (refine gate_guard (by rfl) ?_; dsimp only)); refine box_event ?hg (N := 2) ?hd (cs := #[.slice A0_0 l0_0.length c0_0, .slice A0_1 l0_1.length c0_1]) (t := 25) ?hr ?_; (case hd => rfl); (case hg => rfl); (case hr => exact gs_); intro gb257 hg w4 hbox hb; have BK257 := Aside0.mk (hbox); have GW257 := hl_ hg (be_ HB); have GE257 := hl_ hg (be_ HB); replace HB := bs_ HB hb; clear hb hbox hg) | ((with_reducible refine gate_dst (N := 3) rfl ?_); (try (refine gate_guard (by rfl) ?_; dsimp only)); refine box_event ?hg (N := 3) ?hd (cs := #[.slice A1_0 l1_0.length c1_0, .slice A1_1 l1_1.length c1_1]) (t := 25) ?hr ?_; (case hd => rfl); (case hg => rfl); (case hr => exact gs_); intro gb258 hg w5 hbox hb; have BK258 := Aside0.mk (hbox); have GW258 := hl_ hg (be1_ HB GE257); have GE258 := hl_ hg (be1_ HB GE257); replace HB := bs1_ HB GE257 hb; have NB257_258 := Aside0.mk ((by rw [hg]; exact Nat.ne_of_lt (blk_lt (bk_ BK257)) : gb257 ≠ gb258)); have NB258_257 := Aside0.mk ((by rw [hg]; exact Nat.ne_of_gt (blk_lt (bk_ BK257)) : gb258 ≠ gb257)); replace BK257 := bb_ BK257 hb; clear hb hbox hg)))
 (try simp only [Act.put, List.setIfInBounds_toArray, List.set_cons_zero, List.set_cons_succ])
 go_cut [22] (fun v22 wc => ∃ (kq : Nat) (x22_2 : Bool), v22 = .bool x22_2 ∧ Aside0 (cottonpadref06_Same.j0 kq x22_2 l0_0 l0_1 l1_0 l1_1 = some r) ∧ Aside0 (kq ≤ k) ∧ Aside0 (wc.heap[gb257]? = some (.cells #[(.slice A0_0 l0_0.length c0_0), (.slice A0_1 l0_1.length c0_1)] 25 (0, 0))) ∧ Aside0 (wc.heap[gb258]? = some (.cells #[(.slice A1_0 l1_0.length c1_0), (.slice A1_1 l1_1.length c1_1)] 25 (0, 0))) ∧ Aside0 (Below w.heap.size w wc))
 case first =>
  have H := HC3.out
  clear HC3
  by_cases c6 : (l0_0.length : Int) = (l1_0.length : Int)
  ·rw [if_pos c6] at H
   have c6b0 : ((l0_0.length : Int) == (l1_0.length : Int)) = true := beq_iff_eq.mpr c6
   have c6b1 : ((l0_0.length : Int) != (l1_0.length : Int)) = false := bne_eq_false_iff_eq.mpr c6
   have c6b2 : (l0_0.length == l1_0.length) = true := by first | simpa using c6 | (simp at c6 ⊢; omega)
   clear c6
   (first | rw [c6b0] | (simp only [i64_w, i32_w]; rw [c6b0]) | skip)
   have H' := Aside0.mk H
   clear H
   have hnb7 := NB257_258.out
   have hnc7 := NB258_257.out
   have hcz8_0 : w5.cell? ⟨gb257, 0, none⟩ = some (.slice A0_0 l0_0.length c0_0) := bc_ BK257 0
   have hcz8_1 : w5.cell? ⟨gb257, 1, none⟩ = some (.slice A0_1 l0_1.length c0_1) := bc_ BK257 1
   have hfz8_0 := blk_frozen BK257.out 0
   have hfz8_1 := blk_frozen BK257.out 1
   have hcz9_0 : w5.cell? ⟨gb258, 0, none⟩ = some (.slice A1_0 l1_0.length c1_0) := bc_ BK258 0
   have hcz9_1 : w5.cell? ⟨gb258, 1, none⟩ = some (.slice A1_1 l1_1.length c1_1) := bc_ BK258 1
   have hfz9_0 := blk_frozen BK258.out 0
   have hfz9_1 := blk_frozen BK258.out 1
   go_wp2
   repeat (go_quiet (fail); try go_wp2)
   go_meet
   case rel => exact ⟨_, (((l0_1.length : Int) != (l1_1.length : Int))), (by first | rfl | (simp; done) | (simp [*]; done)), H', ⟨by first | omega | exact Nat.le_refl _⟩, ⟨by refine bx_ ?_; exact BK257.out⟩, ⟨by refine bx_ ?_; exact BK258.out⟩, ⟨be2_ HB GE257 GE258⟩⟩
  ·rw [if_neg c6] at H
   have c6b0 : ((l0_0.length : Int) == (l1_0.length : Int)) = false := beq_eq_false_iff_ne.mpr c6
   have c6b1 : ((l0_0.length : Int) != (l1_0.length : Int)) = true := bne_iff_ne.mpr c6
   have c6b2 : (l0_0.length == l1_0.length) = false := by first | simpa using c6 | (simp at c6 ⊢; omega)
   (first | rw [c6b0] | (simp only [i64_w, i32_w]; rw [c6b0]) | skip)
   have H' := Aside0.mk H
   clear H
   have hnb10 := NB257_258.out
   have hnc10 := NB258_257.out
   have hcz11_0 : w5.cell? ⟨gb257, 0, none⟩ = some (.slice A0_0 l0_0.length c0_0) := bc_ BK257 0
   have hcz11_1 : w5.cell? ⟨gb257, 1, none⟩ = some (.slice A0_1 l0_1.length c0_1) := bc_ BK257 1
   have hfz11_0 := blk_frozen BK257.out 0
   have hfz11_1 := blk_frozen BK257.out 1
   have hcz12_0 : w5.cell? ⟨gb258, 0, none⟩ = some (.slice A1_0 l1_0.length c1_0) := bc_ BK258 0
   have hcz12_1 : w5.cell? ⟨gb258, 1, none⟩ = some (.slice A1_1 l1_1.length c1_1) := bc_ BK258 1
   have hfz12_0 := blk_frozen BK258.out 0
   have hfz12_1 := blk_frozen BK258.out 1
   go_wp2
   repeat (go_quiet (fail); try go_wp2)
   go_meet
   case rel => exact ⟨_, (true), (by first | rfl | (simp; done) | (simp [*]; done)), H', ⟨by first | omega | exact Nat.le_refl _⟩, ⟨by refine bx_ ?_; exact BK257.out⟩, ⟨by refine bx_ ?_; exact BK258.out⟩, ⟨be2_ HB GE257 GE258⟩⟩
 case rest =>
  clear HC3
  try clear c1
  try clear c2
  try clear p2
  try clear c6
  try clear c6b0
  try clear c6b1
  try clear c6b2
  try clear c7
  try clear c10
  try clear hcz11_0
  try clear hcz11_1
  try clear hcz12_0
  try clear hcz12_1
  try clear hcz8_0
  try clear hcz8_1
  try clear hcz9_0
  try clear hcz9_1
  try clear hfz11_0
  try clear hfz11_1
  try clear hfz12_0
  try clear hfz12_1
  try clear hfz8_0
  try clear hfz8_1
  try clear hfz9_0
  try clear hfz9_1
  obtain ⟨kq, x22_2, rfl, HA, HJ2, BK257, BK258, HB⟩ := hcut
  cases kq with
  | zero => exact absurd HA.out (by simp [cottonpadref06_Same.j0])
  | succ kj2 =>
   have H := HA.out
   clear HA
   simp only [cottonpadref06_Same.j0] at H
   by_cases c13 : x22_2 = true
   ·subst c13
    have H1 : (some false) = some r := by rw [if_pos rfl] at H; exact H
    clear H
    have H := H1
    clear H1
    obtain rfl := Option.some.inj H
    go_wp2
    repeat (go_quiet (fail); try go_wp2)
    go_ret
    exact ⟨rf_, be2_ HB GE257 GE258⟩
   ·replace c13 := Bool.eq_false_iff.mpr c13
    subst c13
    have H1 : (cottonpadref06_Same.l0 kj2 0 l0_0 l0_1 l1_0 l1_1) = some r := by rw [if_neg (show ¬ (false = true) by decide)] at H; exact H
    clear H
    have H := H1
    clear H1
    have H' := Aside0.mk H
    clear H
    go_wp2
    repeat (go_quiet (fail); try go_wp2)
    go_loopg [5] kj2 (fun kq v5 w' => ∃ (x5_2 : Int), v5 = .int .i64 x5_2 ∧ Aside0 (cottonpadref06_Same.l0 kq x5_2 l0_0 l0_1 l1_0 l1_1 = some r) ∧ Aside0 (kq ≤ kj2) ∧ Aside0 (w'.heap[gb257]? = some (.cells #[(.slice A0_0 l0_0.length c0_0), (.slice A0_1 l0_1.length c0_1)] 25 (0, 0))) ∧ Aside0 (w'.heap[gb258]? = some (.cells #[(.slice A1_0 l1_0.length c1_0), (.slice A1_1 l1_1.length c1_1)] 25 (0, 0))) ∧ Aside0 (Below w.heap.size w w'))
    case atStart => exact ⟨(0), (by first | rfl | (simp; done) | (simp [*]; done)), H', ⟨Nat.le_refl _⟩, ⟨by refine bx_ ?_; exact BK257.out⟩, ⟨by refine bx_ ?_; exact BK258.out⟩, ⟨be2_ HB GE257 GE258⟩⟩
    case round =>
     clear H'
     try clear c1
     try clear c2
     try clear p2
     try clear c6
     try clear c6b0
     try clear c6b1
     try clear c6b2
     try clear c7
     try clear c10
     try clear c13
     try clear hcz11_0
     try clear hcz11_1
     try clear hcz12_0
     try clear hcz12_1
     try clear hcz8_0
     try clear hcz8_1
     try clear hcz9_0
     try clear hcz9_1
     try clear hfz11_0
     try clear hfz11_1
     try clear hfz12_0
     try clear hfz12_1
     try clear hfz8_0
     try clear hfz8_1
     try clear hfz9_0
     try clear hfz9_1
     try clear p2
     obtain ⟨x5_2, rfl, HA, HK2, BK257, BK258, HB⟩ := hrel
     cases gk with
     | zero => exact absurd HA.out (by simp [cottonpadref06_Same.l0])
     | succ k2 =>
      have H := HA.out
      clear HA
      simp only [cottonpadref06_Same.l0] at H
      by_cases c14 : x5_2 < (l0_0.length : Int)
      ·rw [if_pos c14] at H
       have c14b0 : decide (x5_2 < (l0_0.length : Int)) = true := decide_eq_true c14
       clear c14
       by_cases c15 : 0 ≤ x5_2
       ·rw [if_pos c15] at H
        have c15b0 : decide (0 ≤ x5_2) = true := decide_eq_true c15
        clear c15
        by_cases c16 : x5_2 < (l1_0.length : Int)
        ·rw [if_pos c16] at H
         have c16b0 : decide (x5_2 < (l1_0.length : Int)) = true := decide_eq_true c16
         clear c16
         by_cases c17 : (!(((rd_T62 l0_0 x5_2).f0) == ((rd_T62 l1_0 x5_2).f0)) || (!(((rd_T62 l0_0 x5_2).f1) == ((rd_T62 l1_0 x5_2).f1)) || ((!(((rd_T62 l0_0 x5_2).f2.f0) == ((rd_T62 l1_0 x5_2).f2.f0)) || (!(((rd_T62 l0_0 x5_2).f2.f1) == ((rd_T62 l1_0 x5_2).f2.f1)))) || ((!(((rd_T62 l0_0 x5_2).f3.f0) == ((rd_T62 l1_0 x5_2).f3.f0)) || (!(((rd_T62 l0_0 x5_2).f3.f1) == ((rd_T62 l1_0 x5_2).f3.f1)))))))) = true
         ·rw [if_pos c17] at H
          have c17b0 : (!(((rd_T62 l0_0 x5_2).f0) == ((rd_T62 l1_0 x5_2).f0)) || (!(((rd_T62 l0_0 x5_2).f1) == ((rd_T62 l1_0 x5_2).f1)) || ((!(((rd_T62 l0_0 x5_2).f2.f0) == ((rd_T62 l1_0 x5_2).f2.f0)) || (!(((rd_T62 l0_0 x5_2).f2.f1) == ((rd_T62 l1_0 x5_2).f2.f1)))) || ((!(((rd_T62 l0_0 x5_2).f3.f0) == ((rd_T62 l1_0 x5_2).f3.f0)) || (!(((rd_T62 l0_0 x5_2).f3.f1) == ((rd_T62 l1_0 x5_2).f3.f1)))))))) = true := c17
          clear c17
          obtain rfl := Option.some.inj H
          have hnb18 := NB257_258.out
          have hnc18 := NB258_257.out
          have hcz19_0 : wr.cell? ⟨gb257, 0, none⟩ = some (.slice A0_0 l0_0.length c0_0) := bc_ BK257 0
          have hcz19_1 : wr.cell? ⟨gb257, 1, none⟩ = some (.slice A0_1 l0_1.length c0_1) := bc_ BK257 1
          have hfz19_0 := blk_frozen BK257.out 0
          have hfz19_1 := blk_frozen BK257.out 1
          have p259 : 0 ≤ (x5_2 : Int) := of_decide_eq_true as_
          have q259 : x5_2 < (l0_0.length : Int) := of_decide_eq_true as_
          obtain ⟨ad259, e259, hx259_0, hx259_1, hx259_2, hx259_3, hx259_4, hx259_5⟩ := at_T62 HR0_0.out x5_2 p259 q259
          cases e259
          try replace hx259_0 := ce_ HB hx259_0
          try replace hx259_1 := ce_ HB hx259_1
          try replace hx259_2 := ce_ HB hx259_2
          try replace hx259_3 := ce_ HB hx259_3
          try replace hx259_4 := ce_ HB hx259_4
          try replace hx259_5 := ce_ HB hx259_5
          replace p259 := eq_true p259
          replace q259 := eq_true q259
          have hcz20_0 : wr.cell? ⟨gb258, 0, none⟩ = some (.slice A1_0 l1_0.length c1_0) := bc_ BK258 0
          have hcz20_1 : wr.cell? ⟨gb258, 1, none⟩ = some (.slice A1_1 l1_1.length c1_1) := bc_ BK258 1
          have hfz20_0 := blk_frozen BK258.out 0
          have hfz20_1 := blk_frozen BK258.out 1
          have p260 : 0 ≤ (x5_2 : Int) := of_decide_eq_true as_
          have q260 : x5_2 < (l1_0.length : Int) := of_decide_eq_true as_
          obtain ⟨ad260, e260, hx260_0, hx260_1, hx260_2, hx260_3, hx260_4, hx260_5⟩ := at_T62 HR1_0.out x5_2 p260 q260
          cases e260
          try replace hx260_0 := ce_ HB hx260_0
          try replace hx260_1 := ce_ HB hx260_1
          try replace hx260_2 := ce_ HB hx260_2
          try replace hx260_3 := ce_ HB hx260_3
          try replace hx260_4 := ce_ HB hx260_4
          try replace hx260_5 := ce_ HB hx260_5
          replace p260 := eq_true p260
          replace q260 := eq_true q260
          go_wp2
          repeat (go_quiet (fail); try go_wp2)
          go_ret
          exact ⟨rf_, be2_ HB GE257 GE258⟩
         ·rw [if_neg c17] at H
          have c17b0 : (!(((rd_T62 l0_0 x5_2).f0) == ((rd_T62 l1_0 x5_2).f0)) || (!(((rd_T62 l0_0 x5_2).f1) == ((rd_T62 l1_0 x5_2).f1)) || ((!(((rd_T62 l0_0 x5_2).f2.f0) == ((rd_T62 l1_0 x5_2).f2.f0)) || (!(((rd_T62 l0_0 x5_2).f2.f1) == ((rd_T62 l1_0 x5_2).f2.f1)))) || ((!(((rd_T62 l0_0 x5_2).f3.f0) == ((rd_T62 l1_0 x5_2).f3.f0)) || (!(((rd_T62 l0_0 x5_2).f3.f1) == ((rd_T62 l1_0 x5_2).f3.f1)))))))) = false := by simpa using c17
          clear c17
          have H' := Aside0.mk H
          clear H
          have hnb21 := NB257_258.out
          have hnc21 := NB258_257.out
          have hcz22_0 : wr.cell? ⟨gb257, 0, none⟩ = some (.slice A0_0 l0_0.length c0_0) := bc_ BK257 0
          have hcz22_1 : wr.cell? ⟨gb257, 1, none⟩ = some (.slice A0_1 l0_1.length c0_1) := bc_ BK257 1
          have hfz22_0 := blk_frozen BK257.out 0
          have hfz22_1 := blk_frozen BK257.out 1
          have p259 : 0 ≤ (x5_2 : Int) := of_decide_eq_true as_
          have q259 : x5_2 < (l0_0.length : Int) := of_decide_eq_true as_
          obtain ⟨ad259, e259, hx259_0, hx259_1, hx259_2, hx259_3, hx259_4, hx259_5⟩ := at_T62 HR0_0.out x5_2 p259 q259
          cases e259
          try replace hx259_0 := ce_ HB hx259_0
          try replace hx259_1 := ce_ HB hx259_1
          try replace hx259_2 := ce_ HB hx259_2
          try replace hx259_3 := ce_ HB hx259_3
          try replace hx259_4 := ce_ HB hx259_4
          try replace hx259_5 := ce_ HB hx259_5
          replace p259 := eq_true p259
          replace q259 := eq_true q259
          have hcz23_0 : wr.cell? ⟨gb258, 0, none⟩ = some (.slice A1_0 l1_0.length c1_0) := bc_ BK258 0
          have hcz23_1 : wr.cell? ⟨gb258, 1, none⟩ = some (.slice A1_1 l1_1.length c1_1) := bc_ BK258 1
          have hfz23_0 := blk_frozen BK258.out 0
          have hfz23_1 := blk_frozen BK258.out 1
          have p260 : 0 ≤ (x5_2 : Int) := of_decide_eq_true as_
          have q260 : x5_2 < (l1_0.length : Int) := of_decide_eq_true as_
          obtain ⟨ad260, e260, hx260_0, hx260_1, hx260_2, hx260_3, hx260_4, hx260_5⟩ := at_T62 HR1_0.out x5_2 p260 q260
          cases e260
          try replace hx260_0 := ce_ HB hx260_0
          try replace hx260_1 := ce_ HB hx260_1
          try replace hx260_2 := ce_ HB hx260_2
          try replace hx260_3 := ce_ HB hx260_3
          try replace hx260_4 := ce_ HB hx260_4
          try replace hx260_5 := ce_ HB hx260_5
          replace p260 := eq_true p260
          replace q260 := eq_true q260
          go_wp2
          repeat (go_quiet (fail); try go_wp2)
          go_roundg k2
          case measure => have := HJ2.out; have := HK2.out; omega
          case rel => exact ⟨(wrap64 (x5_2 + 1)), (by first | rfl | (simp; done) | (simp [*]; done)), H', ⟨by have := HJ2.out; have := HK2.out; omega⟩, ⟨by refine bx_ ?_; exact BK257.out⟩, ⟨by refine bx_ ?_; exact BK258.out⟩, ⟨be2_ HB GE257 GE258⟩⟩
        ·rw [if_neg c16] at H
         exact absurd H (by simp)
       ·rw [if_neg c15] at H
        exact absurd H (by simp)
      ·rw [if_neg c14] at H
       have c14b0 : decide (x5_2 < (l0_0.length : Int)) = false := decide_eq_false c14
       clear c14
       have H' := Aside0.mk H
       clear H
       have hnb24 := NB257_258.out
       have hnc24 := NB258_257.out
       have hcz25_0 : wr.cell? ⟨gb257, 0, none⟩ = some (.slice A0_0 l0_0.length c0_0) := bc_ BK257 0
       have hcz25_1 : wr.cell? ⟨gb257, 1, none⟩ = some (.slice A0_1 l0_1.length c0_1) := bc_ BK257 1
       have hfz25_0 := blk_frozen BK257.out 0
       have hfz25_1 := blk_frozen BK257.out 1
       go_wp2
       repeat (go_quiet (fail); try go_wp2)
       go_loopg [6] k2 (fun kq v6 w' => ∃ (x6_3 : Int), v6 = .int .i64 x6_3 ∧ Aside0 (cottonpadref06_Same.l1 kq x6_3 l0_0 l0_1 l1_0 l1_1 = some r) ∧ Aside0 (kq ≤ k2) ∧ Aside0 (w'.heap[gb257]? = some (.cells #[(.slice A0_0 l0_0.length c0_0), (.slice A0_1 l0_1.length c0_1)] 25 (0, 0))) ∧ Aside0 (w'.heap[gb258]? = some (.cells #[(.slice A1_0 l1_0.length c1_0), (.slice A1_1 l1_1.length c1_1)] 25 (0, 0))) ∧ Aside0 (Below w.heap.size w w'))
       case atStart => exact ⟨(0), (by first | rfl | (simp; done) | (simp [*]; done)), H', ⟨Nat.le_refl _⟩, ⟨by refine bx_ ?_; exact BK257.out⟩, ⟨by refine bx_ ?_; exact BK258.out⟩, ⟨be2_ HB GE257 GE258⟩⟩
       case round =>
        clear H'
        try clear c1
        try clear c2
        try clear p2
        try clear q2
        try clear hx2
        try clear c6
        try clear c6b0
        try clear c6b1
        try clear c6b2
        try clear p6
        try clear c7
        try clear c10
        try clear c13
        try clear c14
        try clear c14b0
        try clear c15
        try clear c15b0
        try clear c16
        try clear c16b0
        try clear c17
        try clear c17b0
        try clear c18
        try clear c21
        try clear c24
        try clear p25
        try clear q25
        try clear hx25
        try clear hcz11_0
        try clear hcz11_1
        try clear hcz12_0
        try clear hcz12_1
        try clear hcz19_0
        try clear hcz19_1
        try clear hcz20_0
        try clear hcz20_1
        try clear hcz22_0
        try clear hcz22_1
        try clear hcz23_0
        try clear hcz23_1
        try clear hcz25_0
        try clear hcz25_1
        try clear hcz8_0
        try clear hcz8_1
        try clear hcz9_0
        try clear hcz9_1
        try clear hfz11_0
        try clear hfz11_1
        try clear hfz12_0
        try clear hfz12_1
        try clear hfz19_0
        try clear hfz19_1
        try clear hfz20_0
        try clear hfz20_1
        try clear hfz22_0
        try clear hfz22_1
        try clear hfz23_0
        try clear hfz23_1
        try clear hfz25_0
        try clear hfz25_1
        try clear hfz8_0
        try clear hfz8_1
        try clear hfz9_0
        try clear hfz9_1
        try clear hx259_0
        try clear hx259_1
        try clear hx259_2
        try clear hx259_3
        try clear hx259_4
        try clear hx259_5
        try clear hx260_0
        try clear hx260_1
        try clear hx260_2
        try clear hx260_3
        try clear hx260_4
        try clear hx260_5
        try clear p2
        try clear p259
        try clear p260
        try clear q259
        try clear q260
        obtain ⟨x6_3, rfl, HA, HK3, BK257, BK258, HB⟩ := hrel
        cases gk with
        | zero => exact absurd HA.out (by simp [cottonpadref06_Same.l1])
        | succ k3 =>
         have H := HA.out
         clear HA
         simp only [cottonpadref06_Same.l1] at H
         by_cases c26 : x6_3 < (l0_1.length : Int)
         ·rw [if_pos c26] at H
          have c26b0 : decide (x6_3 < (l0_1.length : Int)) = true := decide_eq_true c26
          clear c26
          by_cases c27 : 0 ≤ x6_3
          ·rw [if_pos c27] at H
           have c27b0 : decide (0 ≤ x6_3) = true := decide_eq_true c27
           clear c27
           by_cases c28 : x6_3 < (l1_1.length : Int)
           ·rw [if_pos c28] at H
            have c28b0 : decide (x6_3 < (l1_1.length : Int)) = true := decide_eq_true c28
            clear c28
            by_cases c29 : (!(((rd_T81 l0_1 x6_3).f0) == ((rd_T81 l1_1 x6_3).f0)) || (!(((rd_T81 l0_1 x6_3).f1) == ((rd_T81 l1_1 x6_3).f1)) || ((!(((rd_T81 l0_1 x6_3).f2.f0) == ((rd_T81 l1_1 x6_3).f2.f0)) || (!(((rd_T81 l0_1 x6_3).f2.f1) == ((rd_T81 l1_1 x6_3).f2.f1))))))) = true
            ·rw [if_pos c29] at H
             have c29b0 : (!(((rd_T81 l0_1 x6_3).f0) == ((rd_T81 l1_1 x6_3).f0)) || (!(((rd_T81 l0_1 x6_3).f1) == ((rd_T81 l1_1 x6_3).f1)) || ((!(((rd_T81 l0_1 x6_3).f2.f0) == ((rd_T81 l1_1 x6_3).f2.f0)) || (!(((rd_T81 l0_1 x6_3).f2.f1) == ((rd_T81 l1_1 x6_3).f2.f1))))))) = true := c29
             clear c29
             obtain rfl := Option.some.inj H
             have hnb30 := NB257_258.out
             have hnc30 := NB258_257.out
             have hcz31_0 : wr.cell? ⟨gb257, 0, none⟩ = some (.slice A0_0 l0_0.length c0_0) := bc_ BK257 0
             have hcz31_1 : wr.cell? ⟨gb257, 1, none⟩ = some (.slice A0_1 l0_1.length c0_1) := bc_ BK257 1
             have hfz31_0 := blk_frozen BK257.out 0
             have hfz31_1 := blk_frozen BK257.out 1
             have p261 : 0 ≤ (x6_3 : Int) := of_decide_eq_true as_
             have q261 : x6_3 < (l0_1.length : Int) := of_decide_eq_true as_
             obtain ⟨ad261, e261, hx261_0, hx261_1, hx261_2, hx261_3⟩ := at_T81 HR0_1.out x6_3 p261 q261
             cases e261
             try replace hx261_0 := ce_ HB hx261_0
             try replace hx261_1 := ce_ HB hx261_1
             try replace hx261_2 := ce_ HB hx261_2
             try replace hx261_3 := ce_ HB hx261_3
             replace p261 := eq_true p261
             replace q261 := eq_true q261
             have hcz32_0 : wr.cell? ⟨gb258, 0, none⟩ = some (.slice A1_0 l1_0.length c1_0) := bc_ BK258 0
             have hcz32_1 : wr.cell? ⟨gb258, 1, none⟩ = some (.slice A1_1 l1_1.length c1_1) := bc_ BK258 1
             have hfz32_0 := blk_frozen BK258.out 0
             have hfz32_1 := blk_frozen BK258.out 1
             have p262 : 0 ≤ (x6_3 : Int) := of_decide_eq_true as_
             have q262 : x6_3 < (l1_1.length : Int) := of_decide_eq_true as_
             obtain ⟨ad262, e262, hx262_0, hx262_1, hx262_2, hx262_3⟩ := at_T81 HR1_1.out x6_3 p262 q262
             cases e262
             try replace hx262_0 := ce_ HB hx262_0
             try replace hx262_1 := ce_ HB hx262_1
             try replace hx262_2 := ce_ HB hx262_2
             try replace hx262_3 := ce_ HB hx262_3
             replace p262 := eq_true p262
             replace q262 := eq_true q262
             go_wp2
             repeat (go_quiet (fail); try go_wp2)
             go_ret
             exact ⟨rf_, be2_ HB GE257 GE258⟩
            ·rw [if_neg c29] at H
             have c29b0 : (!(((rd_T81 l0_1 x6_3).f0) == ((rd_T81 l1_1 x6_3).f0)) || (!(((rd_T81 l0_1 x6_3).f1) == ((rd_T81 l1_1 x6_3).f1)) || ((!(((rd_T81 l0_1 x6_3).f2.f0) == ((rd_T81 l1_1 x6_3).f2.f0)) || (!(((rd_T81 l0_1 x6_3).f2.f1) == ((rd_T81 l1_1 x6_3).f2.f1))))))) = false := by simpa using c29
             clear c29
             have H' := Aside0.mk H
             clear H
             have hnb33 := NB257_258.out
             have hnc33 := NB258_257.out
             have hcz34_0 : wr.cell? ⟨gb257, 0, none⟩ = some (.slice A0_0 l0_0.length c0_0) := bc_ BK257 0
             have hcz34_1 : wr.cell? ⟨gb257, 1, none⟩ = some (.slice A0_1 l0_1.length c0_1) := bc_ BK257 1
             have hfz34_0 := blk_frozen BK257.out 0
             have hfz34_1 := blk_frozen BK257.out 1
             have p261 : 0 ≤ (x6_3 : Int) := of_decide_eq_true as_
             have q261 : x6_3 < (l0_1.length : Int) := of_decide_eq_true as_
             obtain ⟨ad261, e261, hx261_0, hx261_1, hx261_2, hx261_3⟩ := at_T81 HR0_1.out x6_3 p261 q261
             cases e261
             try replace hx261_0 := ce_ HB hx261_0
             try replace hx261_1 := ce_ HB hx261_1
             try replace hx261_2 := ce_ HB hx261_2
             try replace hx261_3 := ce_ HB hx261_3
             replace p261 := eq_true p261
             replace q261 := eq_true q261
             have hcz35_0 : wr.cell? ⟨gb258, 0, none⟩ = some (.slice A1_0 l1_0.length c1_0) := bc_ BK258 0
             have hcz35_1 : wr.cell? ⟨gb258, 1, none⟩ = some (.slice A1_1 l1_1.length c1_1) := bc_ BK258 1
             have hfz35_0 := blk_frozen BK258.out 0
             have hfz35_1 := blk_frozen BK258.out 1
             have p262 : 0 ≤ (x6_3 : Int) := of_decide_eq_true as_
             have q262 : x6_3 < (l1_1.length : Int) := of_decide_eq_true as_
             obtain ⟨ad262, e262, hx262_0, hx262_1, hx262_2, hx262_3⟩ := at_T81 HR1_1.out x6_3 p262 q262
             cases e262
             try replace hx262_0 := ce_ HB hx262_0
             try replace hx262_1 := ce_ HB hx262_1
             try replace hx262_2 := ce_ HB hx262_2
             try replace hx262_3 := ce_ HB hx262_3
             replace p262 := eq_true p262
             replace q262 := eq_true q262
             go_wp2
             repeat (go_quiet (fail); try go_wp2)
             go_roundg k3
             case measure => have := HJ2.out; have := HK2.out; have := HK3.out; omega
             case rel => exact ⟨(wrap64 (x6_3 + 1)), (by first | rfl | (simp; done) | (simp [*]; done)), H', ⟨by have := HJ2.out; have := HK2.out; have := HK3.out; omega⟩, ⟨by refine bx_ ?_; exact BK257.out⟩, ⟨by refine bx_ ?_; exact BK258.out⟩, ⟨be2_ HB GE257 GE258⟩⟩
           ·rw [if_neg c28] at H
            exact absurd H (by simp)
          ·rw [if_neg c27] at H
           exact absurd H (by simp)
         ·rw [if_neg c26] at H
          have c26b0 : decide (x6_3 < (l0_1.length : Int)) = false := decide_eq_false c26
          clear c26
          obtain rfl := Option.some.inj H
          have hnb36 := NB257_258.out
          have hnc36 := NB258_257.out
          have hcz37_0 : wr.cell? ⟨gb257, 0, none⟩ = some (.slice A0_0 l0_0.length c0_0) := bc_ BK257 0
          have hcz37_1 : wr.cell? ⟨gb257, 1, none⟩ = some (.slice A0_1 l0_1.length c0_1) := bc_ BK257 1
          have hfz37_0 := blk_frozen BK257.out 0
          have hfz37_1 := blk_frozen BK257.out 1
          go_wp2
          repeat (go_quiet (fail); try go_wp2)
          go_ret
          exact ⟨rf_, be2_ HB GE257 GE258⟩

end Go.Proofs.YtdeaccbolnlgpaaDoor.X
