import Derived.Test.YtdeaccbolnlgpaaDoorXG
import Derived.Test.YtdeaccbolnlgpaaDoorXC8
namespace Go.Proofs.YtdeaccbolnlgpaaDoor.X
open Go.RowKit Go.Shelf Go.Proofs.YtdeaccbolnlgpaaDoorW.PrintWords Go.Proofs.YtdeaccbolnlgpaaDoorW.PrintLast Go.Proofs.YtdeaccbolnlgpaaDoorW.PrintMore
set_option linter.unusedVariables false
set_option linter.unusedSimpArgs false

theorem S9_keep {A B : World} {a1 a2 a3 a4 a5 a6 a7 a8 a9 : Addr} {v1 v2 v3 v4 v5 v6 v7 v8 v9 : Value} (hb : Below A.heap.size A B) (h : A.cell? a1 = some v1 ∧ A.cell? a2 = some v2 ∧ A.cell? a3 = some v3 ∧ A.cell? a4 = some v4 ∧ A.cell? a5 = some v5 ∧ A.cell? a6 = some v6 ∧ A.cell? a7 = some v7 ∧ A.cell? a8 = some v8 ∧ A.cell? a9 = some v9) :
    B.cell? a1 = some v1 ∧ B.cell? a2 = some v2 ∧ B.cell? a3 = some v3 ∧ B.cell? a4 = some v4 ∧ B.cell? a5 = some v5 ∧ B.cell? a6 = some v6 ∧ B.cell? a7 = some v7 ∧ B.cell? a8 = some v8 ∧ B.cell? a9 = some v9 := by
  obtain ⟨h1, h2, h3, h4, h5, h6, h7, h8, h9⟩ := h
  exact ⟨pw_cell_below hb h1, pw_cell_below hb h2, pw_cell_below hb h3, pw_cell_below hb h4, pw_cell_below hb h5, pw_cell_below hb h6, pw_cell_below hb h7, pw_cell_below hb h8, pw_cell_below hb h9⟩
theorem S9_set {A : World} {p a1 a2 a3 a4 a5 a6 a7 a8 a9 : Addr} {v v1 v2 v3 v4 v5 v6 v7 v8 v9 : Value} (hp : p.block ≠ a1.block ∧ p.block ≠ a2.block ∧ p.block ≠ a3.block ∧ p.block ≠ a4.block ∧ p.block ≠ a5.block ∧ p.block ≠ a6.block ∧ p.block ≠ a7.block ∧ p.block ≠ a8.block ∧ p.block ≠ a9.block) (h : A.cell? a1 = some v1 ∧ A.cell? a2 = some v2 ∧ A.cell? a3 = some v3 ∧ A.cell? a4 = some v4 ∧ A.cell? a5 = some v5 ∧ A.cell? a6 = some v6 ∧ A.cell? a7 = some v7 ∧ A.cell? a8 = some v8 ∧ A.cell? a9 = some v9) :
    (A.setCell p v).cell? a1 = some v1 ∧ (A.setCell p v).cell? a2 = some v2 ∧ (A.setCell p v).cell? a3 = some v3 ∧ (A.setCell p v).cell? a4 = some v4 ∧ (A.setCell p v).cell? a5 = some v5 ∧ (A.setCell p v).cell? a6 = some v6 ∧ (A.setCell p v).cell? a7 = some v7 ∧ (A.setCell p v).cell? a8 = some v8 ∧ (A.setCell p v).cell? a9 = some v9 := by
  obtain ⟨h1, h2, h3, h4, h5, h6, h7, h8, h9⟩ := h
  obtain ⟨q1, q2, q3, q4, q5, q6, q7, q8, q9⟩ := hp
  exact ⟨(World.cell?_setCell_far A p _ v q1).trans h1, (World.cell?_setCell_far A p _ v q2).trans h2, (World.cell?_setCell_far A p _ v q3).trans h3, (World.cell?_setCell_far A p _ v q4).trans h4, (World.cell?_setCell_far A p _ v q5).trans h5, (World.cell?_setCell_far A p _ v q6).trans h6, (World.cell?_setCell_far A p _ v q7).trans h7, (World.cell?_setCell_far A p _ v q8).trans h8, (World.cell?_setCell_far A p _ v q9).trans h9⟩

theorem endV_best : endV false = .agg #[.func (.func 149) #[] #[], .func (.func 150) #[] #[], .func (.func 149) #[] #[]] := rfl
theorem endV_worst : endV true = .agg #[.func (.func 150) #[] #[], .func (.func 149) #[] #[], .func (.func 150) #[] #[]] := rfl
/-- The results of exits.Out: lo, hi, the error. -/
def outF (st : List S62) (ch : List S81) (pe : List S48) : Int × Int × Int :=
  if checkF st ch pe = 0 then (lastT false st ch pe st.length, lastT true st ch pe st.length, 0) else (0, 0, checkF st ch pe)

set_option maxRecDepth 100000 in
set_option maxHeartbeats 4000000 in
theorem out_any (A0 A1 A2 : Option Addr) (c0 c1 c2 : Nat) (st : List S62) (ch : List S81) (pe : List S48) (w : World) (hG : GlobsE w)
    (hr0 : Kd.C k62 w A0 st.length st) (hc0 : st.length ≤ c0) (hr1 : Kd.C k81 w A1 ch.length ch) (hc1 : ch.length ≤ c1) (hr2 : Kd.C k48 w A2 pe.length pe) (hl0 : st.length ≤ 1000) (hl1 : ch.length ≤ 1000) (hl2 : pe.length ≤ 1000) :
    Calls Tryd.prog 19 #[.agg #[.slice A0 st.length c0, .slice A1 ch.length c1], .slice A2 pe.length c2] w fun e w' => e = .returned (.tuple #[.agg #[.int .i64 (outF st ch pe).1, .int .i64 (outF st ch pe).2.1], .int .i64 (outF st ch pe).2.2]) ∧ Below w.heap.size w w' := by
  have hu25 := Tryd.underlying25
  have hu26 := Tryd.underlying26
  have hu30 := Tryd.underlying30
  have hu36 := Tryd.underlying36
  have hu103 := Tryd.underlying103
  have hu112 := Tryd.underlying112
  have HO := Lib.hid (fun (W : World) (hW : Below w.heap.size w W) => open_any A0 A1 A2 c0 c1 c2 st ch pe W (Kd.C_below hr0 hW) hc0 (Kd.C_below hr1 hW) hc1 (Kd.C_below hr2 hW) hl0 hl1 hl2)
  have HL := Lib.hid (fun (hF : checkF st ch pe = 0) (W : World) (hW : Below w.heap.size w W) => last_any false A0 A1 A2 c0 c1 c2 st ch pe W ((checkF_zero hF).flow false) (Kd.C_below hr0 hW) (Kd.C_below hr1 hW) (Kd.C_below hr2 hW))
  have HH := Lib.hid (fun (hF : checkF st ch pe = 0) (W : World) (hW : Below w.heap.size w W) => last_any true A0 A1 A2 c0 c1 c2 st ch pe W ((checkF_zero hF).flow true) (Kd.C_below hr0 hW) (Kd.C_below hr1 hW) (Kd.C_below hr2 hW))
  rw [endV_best] at HL
  rw [endV_worst] at HH
  obtain ⟨lo, hlo⟩ : ∃ x, x = lastT false st ch pe st.length := ⟨_, rfl⟩
  obtain ⟨hi, hhi⟩ : ∃ x, x = lastT true st ch pe st.length := ⟨_, rfl⟩
  obtain ⟨r, hr⟩ : ∃ r, r = checkF st ch pe := ⟨_, rfl⟩
  unfold outF
  rw [← hr] at HO HL HH ⊢
  rw [← hlo] at HL ⊢
  rw [← hhi] at HH ⊢
  clear hr hlo hhi hr0 hr1 hr2 hl0 hl1 hl2
  obtain ⟨⟨ga0, ga1, ga2⟩, ⟨gb0, gb1, gb2⟩⟩ := hG
  have lg := World.block_lt_of_cell? w _ gb2
  dsimp only at lg
  go_enter Tryd.func19, Tryd.ntmps19
  go_wp2_with fail
  obtain ⟨W0, hW0⟩ : ∃ W0, (w.alloc (.cells #[.slice A0 st.length c0, .slice A1 ch.length c1] 25)).alloc (.cells #[.int .i64 0, .int .i64 0] 36) = W0 := ⟨_, rfl⟩
  have hz0 : W0.heap.size = w.heap.size + 2 := by rw [← hW0]; simp
  have hB0 : Below w.heap.size w W0 := by rw [← hW0]; exact ((Below.refl _ w).alloc (Nat.le_refl _) _).alloc (by simp) _
  have hbk : W0.heap[w.heap.size + 1]? = some (.cells #[.int .i64 0, .int .i64 0] 36) := by rw [← hW0]; have := World.alloc_heap_new (w.alloc (.cells #[.slice A0 st.length c0, .slice A1 ch.length c1] 25)) (.cells #[.int .i64 0, .int .i64 0] 36); simpa using this
  rw [hW0]
  clear hW0
  refine (HO.out W0 hB0).mono ?_
  rintro e w1 ⟨rfl, hb1⟩
  have hw1 := hb1.size
  have HB1 := Lib.hid (hB0.trans (hb1.mono hB0.size))
  have hbk1 := (hb1.block (w.heap.size + 1) (by omega)).trans hbk
  have ga := pw_cell_below HB1.out ga0
  have gb := pw_cell_below HB1.out ga1
  have gc := pw_cell_below HB1.out ga2
  have gd := pw_cell_below HB1.out gb0
  have ge := pw_cell_below HB1.out gb1
  have gf := pw_cell_below HB1.out gb2
  clear hB0 hbk hb1 ga0 ga1 ga2 gb0 gb1 gb2
  by_cases hr0 : r = 0
  · subst hr0
    have HL0 := Lib.hid (HL.out rfl)
    have HH0 := Lib.hid (HH.out rfl)
    clear HL HH HO
    go_wp2_with fail
    obtain ⟨W2, hW2⟩ : ∃ W2, w1.alloc (.cells #[.slice A0 st.length c0, .slice A1 ch.length c1, .slice A2 pe.length c2] 103) = W2 := ⟨_, rfl⟩
    have hB2 : Below w1.heap.size w1 W2 := by rw [← hW2]; exact (Below.refl _ _).alloc (Nat.le_refl _) _
    have b0 : W2.cell? ⟨w1.heap.size, 0, none⟩ = some (.slice A0 st.length c0) := by rw [← hW2]; clear hW2; go_simp
    have b1 : W2.cell? ⟨w1.heap.size, 1, none⟩ = some (.slice A1 ch.length c1) := by rw [← hW2]; clear hW2; go_simp
    have b2 : W2.cell? ⟨w1.heap.size, 2, none⟩ = some (.slice A2 pe.length c2) := by rw [← hW2]; clear hW2; go_simp
    have hbk2 := (hB2.block (w.heap.size + 1) (by omega)).trans hbk1
    have hSS : W2.cell? ⟨w1.heap.size, 0, none⟩ = some (.slice A0 st.length c0) ∧ W2.cell? ⟨w1.heap.size, 1, none⟩ = some (.slice A1 ch.length c1) ∧ W2.cell? ⟨w1.heap.size, 2, none⟩ = some (.slice A2 pe.length c2) ∧ W2.cell? ⟨0, 0, none⟩ = some (.func (.func 149) #[] #[]) ∧ W2.cell? ⟨0, 1, none⟩ = some (.func (.func 150) #[] #[]) ∧ W2.cell? ⟨0, 2, none⟩ = some (.func (.func 149) #[] #[]) ∧ W2.cell? ⟨1, 0, none⟩ = some (.func (.func 150) #[] #[]) ∧ W2.cell? ⟨1, 1, none⟩ = some (.func (.func 149) #[] #[]) ∧ W2.cell? ⟨1, 2, none⟩ = some (.func (.func 150) #[] #[]) := ⟨b0, b1, b2, pw_cell_below hB2 ga, pw_cell_below hB2 gb, pw_cell_below hB2 gc, pw_cell_below hB2 gd, pw_cell_below hB2 ge, pw_cell_below hB2 gf⟩
    have hz2 := hB2.size
    have HBW := Lib.hid (HB1.out.trans (hB2.mono (by omega)))
    rw [hW2]
    clear hW2 hB2 b0 b1 b2 ga gb gc gd ge gf hbk1
    have HD := Lib.hid (below_drew (Below.refl W2.heap.size W2))
    have hS2 : W2.drew.cell? ⟨w1.heap.size, 0, none⟩ = some (.slice A0 st.length c0) ∧ W2.drew.cell? ⟨w1.heap.size, 1, none⟩ = some (.slice A1 ch.length c1) ∧ W2.drew.cell? ⟨w1.heap.size, 2, none⟩ = some (.slice A2 pe.length c2) ∧ W2.drew.cell? ⟨0, 0, none⟩ = some (.func (.func 149) #[] #[]) ∧ W2.drew.cell? ⟨0, 1, none⟩ = some (.func (.func 150) #[] #[]) ∧ W2.drew.cell? ⟨0, 2, none⟩ = some (.func (.func 149) #[] #[]) ∧ W2.drew.cell? ⟨1, 0, none⟩ = some (.func (.func 150) #[] #[]) ∧ W2.drew.cell? ⟨1, 1, none⟩ = some (.func (.func 149) #[] #[]) ∧ W2.drew.cell? ⟨1, 2, none⟩ = some (.func (.func 150) #[] #[]) := S9_keep HD.out hSS
    have HBD := Lib.hid (HBW.out.trans (HD.out.mono HBW.out.size))
    have HBK := Lib.hid ((HD.out.block (w.heap.size + 1) (by omega)).trans hbk2)
    have hzd : w.heap.size + 1 < W2.drew.heap.size := by have := HD.out.size; omega
    clear hSS hbk2
    have n1 : w.heap.size + 1 ≠ w1.heap.size := by omega
    have n2 : w.heap.size + 1 ≠ 0 := by omega
    have n3 : w.heap.size + 1 ≠ 1 := by omega
    go_region_held3 (fun w' => w'.cell? ⟨w1.heap.size, 0, none⟩ = some (.slice A0 st.length c0) ∧ w'.cell? ⟨w1.heap.size, 1, none⟩ = some (.slice A1 ch.length c1) ∧ w'.cell? ⟨w1.heap.size, 2, none⟩ = some (.slice A2 pe.length c2) ∧ w'.cell? ⟨0, 0, none⟩ = some (.func (.func 149) #[] #[]) ∧ w'.cell? ⟨0, 1, none⟩ = some (.func (.func 150) #[] #[]) ∧ w'.cell? ⟨0, 2, none⟩ = some (.func (.func 149) #[] #[]) ∧ w'.cell? ⟨1, 0, none⟩ = some (.func (.func 150) #[] #[]) ∧ w'.cell? ⟨1, 1, none⟩ = some (.func (.func 149) #[] #[]) ∧ w'.cell? ⟨1, 2, none⟩ = some (.func (.func 150) #[] #[]))
      (assumption)
      (first
        | (have h3 := HB3.out; clear h3; go_at_call 57; refine (HH0.out _ HB3.out).mono ?_; rintro e w3 ⟨rfl, hb3⟩; have hbk4 := (hb3.block (w.heap.size + 1) (by omega)).trans hbk3; obtain ⟨v0, v1, f0, f1, vl⟩ := two_cells hbk4; have HB4 := Lib.hid (HB3.out.trans (hb3.mono HB3.out.size)); have hS4 := S9_keep hb3 hS3; have hS5 : ((w3.setCell ⟨w.heap.size + 1, 0, none⟩ (.int .i64 lo)).setCell ⟨w.heap.size + 1, 1, none⟩ (.int .i64 hi)).cell? ⟨w1.heap.size, 0, none⟩ = some (.slice A0 st.length c0) ∧ ((w3.setCell ⟨w.heap.size + 1, 0, none⟩ (.int .i64 lo)).setCell ⟨w.heap.size + 1, 1, none⟩ (.int .i64 hi)).cell? ⟨w1.heap.size, 1, none⟩ = some (.slice A1 ch.length c1) ∧ ((w3.setCell ⟨w.heap.size + 1, 0, none⟩ (.int .i64 lo)).setCell ⟨w.heap.size + 1, 1, none⟩ (.int .i64 hi)).cell? ⟨w1.heap.size, 2, none⟩ = some (.slice A2 pe.length c2) ∧ ((w3.setCell ⟨w.heap.size + 1, 0, none⟩ (.int .i64 lo)).setCell ⟨w.heap.size + 1, 1, none⟩ (.int .i64 hi)).cell? ⟨0, 0, none⟩ = some (.func (.func 149) #[] #[]) ∧ ((w3.setCell ⟨w.heap.size + 1, 0, none⟩ (.int .i64 lo)).setCell ⟨w.heap.size + 1, 1, none⟩ (.int .i64 hi)).cell? ⟨0, 1, none⟩ = some (.func (.func 150) #[] #[]) ∧ ((w3.setCell ⟨w.heap.size + 1, 0, none⟩ (.int .i64 lo)).setCell ⟨w.heap.size + 1, 1, none⟩ (.int .i64 hi)).cell? ⟨0, 2, none⟩ = some (.func (.func 149) #[] #[]) ∧ ((w3.setCell ⟨w.heap.size + 1, 0, none⟩ (.int .i64 lo)).setCell ⟨w.heap.size + 1, 1, none⟩ (.int .i64 hi)).cell? ⟨1, 0, none⟩ = some (.func (.func 150) #[] #[]) ∧ ((w3.setCell ⟨w.heap.size + 1, 0, none⟩ (.int .i64 lo)).setCell ⟨w.heap.size + 1, 1, none⟩ (.int .i64 hi)).cell? ⟨1, 1, none⟩ = some (.func (.func 149) #[] #[]) ∧ ((w3.setCell ⟨w.heap.size + 1, 0, none⟩ (.int .i64 lo)).setCell ⟨w.heap.size + 1, 1, none⟩ (.int .i64 hi)).cell? ⟨1, 2, none⟩ = some (.func (.func 150) #[] #[]) := S9_set ⟨n1, n1, n1, n2, n2, n2, n3, n3, n3⟩ (S9_set ⟨n1, n1, n1, n2, n2, n2, n3, n3, n3⟩ hS4))
        | (go_at_call 57; refine (HL0.out _ HBD.out).mono ?_; rintro e w2 ⟨rfl, hb2⟩; have hS3 := S9_keep hb2 hS2; have hz3 := hb2.size; have HB3 := Lib.hid (HBD.out.trans (hb2.mono HBD.out.size)); have hbk3 := (hb2.block (w.heap.size + 1) hzd).trans HBK.out))
    all_goals
      have hst := two_set1 (two_set0 hbk4 (.int .i64 lo)) (.int .i64 hi)
      have hfb := (HB4.out.setCell (p := ⟨w.heap.size + 1, 0, none⟩) (by simp) (.int .i64 lo)).setCell (p := ⟨w.heap.size + 1, 1, none⟩) (by simp) (.int .i64 hi)
      obtain ⟨Wf, hWf⟩ : ∃ Wf, (w3.setCell ⟨w.heap.size + 1, 0, none⟩ (.int .i64 lo)).setCell ⟨w.heap.size + 1, 1, none⟩ (.int .i64 hi) = Wf := ⟨_, rfl⟩
      rw [hWf] at hst hfb ⊢
      clear hWf
      have HST := Lib.hid hst
      have HFB := Lib.hid hfb
      clear hst hfb
      go_wp2_with fail
      refine bodyPost_ret (results_list (rs := [.cell 4 36, .tmp 5]) rfl (by simp) (.cell (w.heap.size + 1) 36 _ (0, 0) _ rfl HST.out hu36 rfl (by kernel_rfl) (.tmp .nil))) rfl ?_
      exact ⟨by simp, HFB.out⟩
  · obtain ⟨v0, v1, f0, f1, vl⟩ := two_cells hbk1
    have HBK1 := Lib.hid hbk1
    clear HL HH HO hbk1
    go_wp2_with fail
    have hst := blk_alloc (two_set1 (two_set0 HBK1.out (.int .i64 0)) (.int .i64 0)) (.cells #[.slice A0 st.length c0, .slice A1 ch.length c1, .slice A2 pe.length c2] 103)
    refine bodyPost_ret (results_list (rs := [.cell 4 36, .tmp 5]) rfl (by simp) (.cell (w.heap.size + 1) 36 _ (0, 0) _ rfl hst hu36 rfl (by kernel_rfl) (.tmp .nil))) rfl ?_
    refine ⟨by simp [hr0], ((HB1.out.setCell (by simp) _).setCell (by simp) _).alloc (by simp [World.setCell]; omega) _⟩
end Go.Proofs.YtdeaccbolnlgpaaDoor.X
