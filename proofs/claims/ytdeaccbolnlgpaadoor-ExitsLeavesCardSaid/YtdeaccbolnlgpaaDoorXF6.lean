import Derived.Test.YtdeaccbolnlgpaaDoorXF5
namespace Go.Proofs.YtdeaccbolnlgpaaDoor.X
open Go.RowKit Go.Shelf Go.Proofs.YtdeaccbolnlgpaaDoorW.PrintWords Go.Proofs.YtdeaccbolnlgpaaDoorW.PrintLast Go.Proofs.YtdeaccbolnlgpaaDoorW.PrintMore
set_option linter.unusedVariables false
set_option linter.unusedSimpArgs false

theorem Fam.right {w : World} {base : Nat} {vs us : List Value} {ls ms : List (List Int)} (h : Fam w base (vs ++ us) (ls ++ ms)) (hl : vs.length = ls.length) : Fam w base us ms where
  len := by have := h.len; simp at this; omega
  own := fun i hi hj => by
    have := h.own (vs.length + i) (by simp; omega) (by simp; omega)
    rw [List.getElem_append_right (by omega), List.getElem_append_right (by omega)] at this
    simpa [hl] using this
  apart := fun i j hi hj hne => by
    have := h.apart (vs.length + i) (vs.length + j) (by simp; omega) (by simp; omega) (by omega)
    rw [List.getElem_append_right (by omega), List.getElem_append_right (by omega)] at this
    simpa using this

theorem Rel2.done {w : World} {V : Array Value} {st : List S62} {ch : List S81} {ps : List S48} {ts wk : List Int} {L : Nat} {vr : Value} {W : World} (h : Rel2 w V st ch ps ts wk L st.length vr W) (hL : w.heap.size + 2 ≤ L) (hn : st.length ≤ 6) :
    Kd.R (Kd.int .i64) 3 W w.heap.size (fun _ => True) vr ts ∧
    Kd.S (Kd.slice 3 (Kd.int .i64)) 67 W w.heap.size (fun k => some k ≠ vr.ownBlock) (.slice (some ⟨L, 0, none⟩) st.length st.length) ((List.range st.length).map fun k => leftG st ch ps ts wk k) ∧ Below w.heap.size w W := by
  obtain ⟨vsC, vsL, lsC, lsL, h1, h2, h3, h4, h5, h6, h7, h8, h9, h10, h11, h12⟩ := h
  have ho := h9.own 0 (by simp) (by simp)
  simp only [List.getElem_cons_zero] at ho
  have e : lsL = (List.range st.length).map fun k => leftG st ch ps ts wk k := by
    apply List.ext_getElem
    · simp [h4]
    · intro i hi hi2
      rw [h6 i hi, if_pos (by omega)]
      simp
  have hf : Fam W w.heap.size vsL lsL := by
    have := h9.tail.right (by omega)
    exact ⟨this.len, fun i hi hl => own_low (this.own i hi hl) (by omega), this.apart⟩
  refine ⟨R_of_own (own_low ho (by omega)) fun _ _ => trivial, ?_, h10⟩
  have hs := S_of_fam (ok := fun k => some k ≠ vr.ownBlock) hf (bl := L) (by omega) (by omega) h8 (fun i hi k hk => ?_) (own_ne_other ho h8 rfl)
  · rw [e] at hs
    simpa [h2] using hs
  · intro e2
    have := h9.apart 0 (st.length + i + 1) (by simp) (by simp; omega) (by omega)
    simp only [List.getElem_cons_zero, List.getElem_cons_succ] at this
    rw [List.getElem_append_right (by omega)] at this
    simp only [h1, Nat.add_sub_cancel_left] at this
    rcases this with h | h
    · rw [h] at e2; cases e2
    · exact h (by rw [hk, e2])
end Go.Proofs.YtdeaccbolnlgpaaDoor.X
