import Derived.Test.YtdeaccbolnlgpaaDoorXP1
namespace Go.Proofs.YtdeaccbolnlgpaaDoor.X
open Go.RowKit Go.Shelf Go.Proofs.YtdeaccbolnlgpaaDoorW.PrintWords Go.Proofs.YtdeaccbolnlgpaaDoorW.PrintLast Go.Proofs.YtdeaccbolnlgpaaDoorW.PrintMore
set_option linter.unusedVariables false
set_option linter.unusedSimpArgs false

theorem three_cells {W : World} {k : Nat} {a b c : Value} {t : TypeId} (h : W.heap[k]? = some (.cells #[a, b, c] t (0, 0))) : W.cell? ⟨k, 0, none⟩ = some a ∧ W.cell? ⟨k, 1, none⟩ = some b ∧ W.cell? ⟨k, 2, none⟩ = some c ∧ W.frozen? ⟨k, 0, none⟩ = false ∧ W.frozen? ⟨k, 1, none⟩ = false ∧ W.frozen? ⟨k, 2, none⟩ = false ∧ k < W.heap.size := by
  have hk := (Array.getElem?_eq_some_iff.1 h).1
  refine ⟨by simp [World.cell?, h], by simp [World.cell?, h], by simp [World.cell?, h], by simp [World.frozen?, h], by simp [World.frozen?, h], by simp [World.frozen?, h], hk⟩
theorem three_set {W : World} {k : Nat} {a b c : Value} {t : TypeId} (h : W.heap[k]? = some (.cells #[a, b, c] t (0, 0))) (x y z : Value) : (((W.setCell ⟨k, 0, none⟩ x).setCell ⟨k, 1, none⟩ y).setCell ⟨k, 2, none⟩ z).heap[k]? = some (.cells #[x, y, z] t (0, 0)) := by
  have hk := (Array.getElem?_eq_some_iff.1 h).1
  simp [World.setCell, Array.getElem?_modify, h]

set_option maxRecDepth 100000 in
set_option maxHeartbeats 4000000 in
theorem open_any (A0 A1 A2 : Option Addr) (c0 c1 c2 : Nat) (st : List S62) (ch : List S81) (pe : List S48) (w : World)
    (hr0 : Kd.C k62 w A0 st.length st) (hc0 : st.length ≤ c0) (hr1 : Kd.C k81 w A1 ch.length ch) (hc1 : ch.length ≤ c1) (hr2 : Kd.C k48 w A2 pe.length pe) (hl0 : st.length ≤ 1000) (hl1 : ch.length ≤ 1000) (hl2 : pe.length ≤ 1000) :
    Calls Tryd.prog 52 #[.agg #[.slice A0 st.length c0, .slice A1 ch.length c1], .slice A2 pe.length c2] w fun e w' => e = .returned (.tuple #[.agg #[.slice A0 st.length c0, .slice A1 ch.length c1, .slice A2 pe.length c2], .int .i64 (checkF st ch pe)]) ∧ Below w.heap.size w w' := by
  have hu25 := Tryd.underlying25
  have hu26 := Tryd.underlying26
  have hu103 := Tryd.underlying103
  have HC := Lib.hid (fun (W : World) (hW : Below w.heap.size w W) => check_any A0 A1 A2 c0 c1 c2 st ch pe W (Kd.C_below hr0 hW) hc0 (Kd.C_below hr1 hW) hc1 (Kd.C_below hr2 hW) (by omega) (by omega) (by omega))
  obtain ⟨r, hr⟩ : ∃ r, r = checkF st ch pe := ⟨_, rfl⟩
  rw [← hr] at HC ⊢
  clear hr hr0 hr1 hr2 hl0 hl1 hl2
  go_enter Tryd.func52, Tryd.ntmps52
  go_wp2
  obtain ⟨W0, hW0⟩ : ∃ W0, (w.alloc (.cells #[.slice A0 st.length c0, .slice A1 ch.length c1] 25)).alloc (.cells #[.slice none 0 0, .slice none 0 0, .slice none 0 0] 103) = W0 := ⟨_, rfl⟩
  have hz0 : W0.heap.size = w.heap.size + 2 := by rw [← hW0]; simp
  have hB0 : Below w.heap.size w W0 := by rw [← hW0]; exact ((Below.refl _ w).alloc (Nat.le_refl _) _).alloc (by simp) _
  have a0 : W0.cell? ⟨w.heap.size, 0, none⟩ = some (.slice A0 st.length c0) := by rw [← hW0]; clear hW0; go_simp
  have a1 : W0.cell? ⟨w.heap.size, 1, none⟩ = some (.slice A1 ch.length c1) := by rw [← hW0]; clear hW0; go_simp
  have hbk : W0.heap[w.heap.size + 1]? = some (.cells #[.slice none 0 0, .slice none 0 0, .slice none 0 0] 103) := by rw [← hW0]; have := World.alloc_heap_new (w.alloc (.cells #[.slice A0 st.length c0, .slice A1 ch.length c1] 25)) (.cells #[.slice none 0 0, .slice none 0 0, .slice none 0 0] 103); simpa using this
  rw [hW0]
  clear hW0
  have HD := Lib.hid (below_drew (Below.refl W0.heap.size W0))
  have HBD := Lib.hid (hB0.trans (HD.out.mono hB0.size))
  have a0d := pw_cell_below HD.out a0
  have a1d := pw_cell_below HD.out a1
  have hbd := (HD.out.block (w.heap.size + 1) (by omega)).trans hbk
  have HBK := Lib.hid hbd
  have hlt : w.heap.size + 1 < W0.drew.heap.size := by have := HD.out.size; omega
  clear hbd hbk hB0
  go_region_held3 (fun w' => w'.cell? ⟨w.heap.size, 0, none⟩ = some (.slice A0 st.length c0) ∧ w'.cell? ⟨w.heap.size, 1, none⟩ = some (.slice A1 ch.length c1))
    (first | exact ⟨a0d, a1d⟩ | exact ⟨b0, b1⟩ | go_keep)
    ((go_at_call 21; refine (HC.out _ HBD.out).mono ?_; rintro e w1 ⟨rfl, hb1⟩; have b0 := pw_cell_below hb1 a0d; have b1 := pw_cell_below hb1 a1d; have hb3 := (hb1.block (w.heap.size + 1) hlt).trans HBK.out; obtain ⟨v0, v1, v2, f0, f1, f2, vl⟩ := three_cells hb3; have HB3 := Lib.hid hb3; have HB1 := Lib.hid (HBD.out.trans (hb1.mono HBD.out.size)); clear hb3))
  all_goals
    have hf := three_set HB3.out (.slice A0 st.length c0) (.slice A1 ch.length c1) (.slice A2 pe.length c2)
    have hfb := ((HB1.out.setCell (p := ⟨w.heap.size + 1, 0, none⟩) (by simp) (.slice A0 st.length c0)).setCell (p := ⟨w.heap.size + 1, 1, none⟩) (by simp) (.slice A1 ch.length c1)).setCell (p := ⟨w.heap.size + 1, 2, none⟩) (by simp) (.slice A2 pe.length c2)
    obtain ⟨Wf, hWf⟩ : ∃ Wf, ((w1.setCell ⟨w.heap.size + 1, 0, none⟩ (.slice A0 st.length c0)).setCell ⟨w.heap.size + 1, 1, none⟩ (.slice A1 ch.length c1)).setCell ⟨w.heap.size + 1, 2, none⟩ (.slice A2 pe.length c2) = Wf := ⟨_, rfl⟩
    rw [hWf] at hf hfb ⊢
    clear hWf
    have HF := Lib.hid hf
    have HFB := Lib.hid hfb
    clear hf hfb
    go_wp2
    refine bodyPost_ret (results_list (rs := [.cell 4 103, .tmp 5]) rfl (by simp) (.cell (w.heap.size + 1) 103 _ (0, 0) _ rfl HF.out hu103 rfl (by kernel_rfl) (.tmp .nil))) rfl ?_
    exact ⟨rfl, HFB.out⟩
end Go.Proofs.YtdeaccbolnlgpaaDoor.X
