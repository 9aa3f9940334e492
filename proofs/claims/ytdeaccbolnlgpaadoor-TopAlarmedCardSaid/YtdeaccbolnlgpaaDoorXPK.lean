import Derived.Test.YtdeaccbolnlgpaaDoorXPX
import Derived.Test.YtdeaccbolnlgpaaDoorXP3
import Derived.Test.YtdeaccbolnlgpaaDoorXPB1
namespace Go.Proofs.YtdeaccbolnlgpaaDoor.X
open Go.RowKit
set_option linter.unusedVariables false
set_option linter.unusedSimpArgs false

/-! # The order of the people does not matter -/
theorem comeAt_perm (b : Bool) (st : List S62) (ch : List S81) {ps ps' : List S48} (h : ps.Perm ps') : ∀ (k : Nat) (i : Int), (comeAt b st ch ps k i).Perm (comeAt b st ch ps' k i)
  | 0, i => (h.filter _).map _
  | k + 1, i => by
    have ih := comeAt_perm b st ch h k
    have e : leftOf b (rd_T62 st k) (comeAt b st ch ps k k) = leftOf b (rd_T62 st k) (comeAt b st ch ps' k k) := by
      unfold leftOf; rw [sortL_perm (ih k)]
    simp only [comeAt, comeN]
    rw [e]
    have hp : ∀ j, (putM (k : Int) [] (comeAt b st ch ps k) j).Perm (putM (k : Int) [] (comeAt b st ch ps' k) j) := fun j => by
      unfold putM; split
      · exact .nil
      · exact ih j
    by_cases e2 : i = (rd_T62 st k).f0
    · rw [putG_eq _ _ _ _ e2, putG_eq _ _ _ _ e2]; exact (hp _).append_right _
    · rw [putG_ne _ _ _ _ e2, putG_ne _ _ _ _ e2]; exact hp i
theorem leftAt_perm (b : Bool) (st : List S62) (ch : List S81) {ps ps' : List S48} (h : ps.Perm ps') (k : Nat) : leftAt b st ch ps k = leftAt b st ch ps' k := by
  unfold leftAt leftOf; rw [sortL_perm (comeAt_perm b st ch h k k)]
theorem lastT_perm (b : Bool) (st : List S62) (ch : List S81) {ps ps' : List S48} (h : ps.Perm ps') : ∀ k, lastT b st ch ps k = lastT b st ch ps' k
  | 0 => rfl
  | k + 1 => by rw [lastT, lastT, lastT_perm b st ch h k, leftAt_perm b st ch h k]
theorem any_perm {α : Type} {p : α → Bool} {l m : List α} (h : l.Perm m) : l.any p = m.any p := by
  rw [Bool.eq_iff_iff, List.any_eq_true, List.any_eq_true]
  exact ⟨fun ⟨x, hx, hp⟩ => ⟨x, h.mem_iff.1 hx, hp⟩, fun ⟨x, hx, hp⟩ => ⟨x, h.mem_iff.2 hx, hp⟩⟩
theorem all_perm {α : Type} {p : α → Bool} {l m : List α} (h : l.Perm m) : l.all p = m.all p := by
  rw [Bool.eq_iff_iff, List.all_eq_true, List.all_eq_true]
  exact ⟨fun hp x hx => hp x (h.mem_iff.2 hx), fun hp x hx => hp x (h.mem_iff.1 hx)⟩
theorem lateC_perm (b : Bool) (ch : List S81) {ps ps' : List S48} (h : ps.Perm ps') : ∀ k, lateC b ch ps k = lateC b ch ps' k
  | 0 => rfl
  | k + 1 => by rw [lateC, lateC, lateC_perm b ch h k, any_perm h]
theorem lateS_perm (b : Bool) (st : List S62) (ch : List S81) {ps ps' : List S48} (h : ps.Perm ps') : ∀ n k, lateS b st ch ps k n = lateS b st ch ps' k n
  | 0, _ => rfl
  | n + 1, k => by rw [lateS, lateS, lateS_perm b st ch h n (k + 1)]; unfold lateB; rw [leftAt_perm b st ch h k]
theorem lateF_perm (b : Bool) (st : List S62) (ch : List S81) {ps ps' : List S48} (h : ps.Perm ps') : lateF b st ch ps = lateF b st ch ps' := by
  unfold lateF; rw [lateC_perm b ch h, lateS_perm b st ch h]
theorem checkF_perm (st : List S62) (ch : List S81) {ps ps' : List S48} (h : ps.Perm ps') : checkF st ch ps = checkF st ch ps' := by
  unfold checkF; rw [h.length_eq, all_perm h]
theorem outF_perm (st : List S62) (ch : List S81) {ps ps' : List S48} (h : ps.Perm ps') : outF st ch ps = outF st ch ps' := by
  unfold outF; rw [checkF_perm st ch h, lastT_perm false st ch h, lastT_perm true st ch h]
theorem safeF_perm (st : List S62) (ch : List S81) {ps ps' : List S48} (h : ps.Perm ps') : safeF st ch ps = safeF st ch ps' := by
  unfold safeF; rw [checkF_perm st ch h, lateF_perm false st ch h, lateF_perm true st ch h]
theorem leavesF_perm (st : List S62) (ch : List S81) {ps ps' : List S48} (h : ps.Perm ps') (i : Int) : leavesF st ch ps i = leavesF st ch ps' i := by
  unfold leavesF; rw [checkF_perm st ch h, leftAt_perm false st ch h, leftAt_perm true st ch h]

/-! # Each one behind the one before -/
def GapOk (g : Int) (l : List Int) : Prop := ∀ (i : Nat) (h : i + 1 < l.length), l[i] + g ≤ l[i + 1]
theorem GapOk.snoc {g : Int} {l : List Int} {v : Int} (h : GapOk g l) (hv : ∀ e, l.getLast? = some e → e + g ≤ v) : GapOk g (l ++ [v]) := fun i hi => by
  by_cases h1 : i + 1 < l.length
  · rw [List.getElem_append_left (by omega), List.getElem_append_left h1]; exact h i h1
  · have h2 : i + 1 = l.length := by simp at hi; omega
    rw [List.getElem_append_left (by omega), List.getElem_append_right (by omega)]
    simp only [List.getElem_singleton]
    refine hv _ ?_
    rw [List.getLast?_eq_getElem?, show l.length - 1 = i by omega, List.getElem?_eq_getElem (by omega)]
theorem ent_gap (g : Int) : ∀ (ts acc : List Int), GapOk g acc → GapOk g (ts.foldl (entG g) acc)
  | [], _, h => h
  | t :: ts, acc, h => by
    rw [List.foldl_cons]
    refine ent_gap g ts _ ?_
    unfold entG
    refine h.snoc fun e he => ?_
    rw [he]; simp only; omega
theorem flowL_gap (wk g : Int) (ts : List Int) : GapOk g (flowL wk g ts) := fun i hi => by
  have h := ent_gap g ts [] (fun i hi => by simp at hi)
  have hl : (flowL wk g ts).length = (entL g ts).length := by rw [flowL_ent, List.length_map]
  have h2 := h i (by rw [hl] at hi; exact hi)
  simp only [flowL_ent, List.getElem_map]
  have h3 : (entL g ts)[i]'(by omega) + g ≤ (entL g ts)[i + 1]'(by omega) := h2
  omega

/-! # As many leave as come -/
theorem comeAt_gone {b : Bool} {st : List S62} {ch : List S81} {ps : List S48} (hv : Valid st ch ps) : ∀ k, k ≤ st.length → ∀ i : Int, 0 ≤ i → i < k → comeAt b st ch ps k i = []
  | 0, _, i, h0, h1 => by omega
  | k + 1, hk, i, h0, h1 => by
    have hs := stairB_iff.1 (hv.built.stair k (by omega))
    simp only [comeAt, comeN]
    rw [rdT62_get (by omega), putG_ne _ _ _ _ (by omega)]
    by_cases e : i = (k : Int)
    · rw [putG_eq _ _ _ _ e]
    · rw [putG_ne _ _ _ _ e]; exact comeAt_gone hv k (by omega) i h0 (by omega)
theorem comeAt_next {b : Bool} {st : List S62} {ch : List S81} {ps : List S48} (hv : Valid st ch ps) {k : Nat} (hk : k < st.length) (i : Int) (hi : i ≠ (k : Int)) :
    (comeAt b st ch ps (k + 1) i).length = (comeAt b st ch ps k i).length + (if i = (rd_T62 st k).f0 then (leftAt b st ch ps k).length else 0) := by
  have hs := stairB_iff.1 (hv.built.stair k (by omega))
  simp only [comeAt, comeN]
  by_cases e : i = (rd_T62 st k).f0
  · rw [if_pos e, putG_eq _ _ _ _ e, ← e, putG_ne _ _ _ _ hi, List.length_append]; rfl
  · rw [if_neg e, putG_ne _ _ _ _ e, putG_ne _ _ _ _ hi]; rfl
theorem leftAt_come (b : Bool) (st : List S62) (ch : List S81) (ps : List S48) (k : Nat) : (leftAt b st ch ps k).length = (comeAt b st ch ps k k).length := by
  unfold leftAt leftOf; rw [flowL_length, sortL_length]
theorem sum_one : ∀ (l : List Nat) (a : Nat), (∀ x ∈ l, x = 0) → (a :: l).sum = a
  | [], a, _ => by simp
  | x :: l, a, h => by
    have := sum_one l a fun y hy => h y (by simp [hy])
    rw [List.sum_cons] at this ⊢
    rw [List.sum_cons, h x (by simp)]; omega
theorem comeAt_out {b : Bool} {st : List S62} {ch : List S81} {ps : List S48} (hv : Valid st ch ps) : (comeAt b st ch ps st.length (-1)).length = ps.length := by
  have h1 := hv.mass (b := b) st.length
  unfold massL keysN at h1
  rw [List.map_cons, sum_one] at h1
  · exact h1
  · intro x hx
    obtain ⟨i, hi, rfl⟩ := List.mem_map.1 hx
    obtain ⟨j, hj, rfl⟩ := List.mem_map.1 hi
    rw [comeAt_gone hv _ (Nat.le_refl _) _ (by omega) (by have := List.mem_range.1 hj; omega)]; rfl
end Go.Proofs.YtdeaccbolnlgpaaDoor.X
