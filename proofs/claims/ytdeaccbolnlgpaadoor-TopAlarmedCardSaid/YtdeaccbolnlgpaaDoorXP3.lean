import Derived.Test.YtdeaccbolnlgpaaDoorXN93
import Derived.Test.YtdeaccbolnlgpaaDoorXP1
namespace Go.Proofs.YtdeaccbolnlgpaaDoor.X
open Go.RowKit Go.Shelf Go.Proofs.YtdeaccbolnlgpaaDoorW.PrintWords Go.Proofs.YtdeaccbolnlgpaaDoorW.PrintLast Go.Proofs.YtdeaccbolnlgpaaDoorW.PrintMore
set_option linter.unusedVariables false
set_option linter.unusedSimpArgs false

/-! # ref06.sorted sorts -/
theorem wrap_in {x : Int} (h : -9223372036854775808 ≤ x ∧ x ≤ 9223372036854775807) : wrap64 x = x := by rw [← i64_w]; exact IntWalk.i64_in _ (by omega)

/-- The first i + 1 are in order but for place j, which is not above those behind it. -/
structure Ins (xs : List Int) (i j : Nat) : Prop where
  ji : j ≤ i
  il : i < xs.length
  ord : ∀ (a b : Nat) (ha : a < xs.length) (hb : b < xs.length), a < b → b ≤ i → a ≠ j → b ≠ j → xs[a] ≤ xs[b]
  least : ∀ (b : Nat) (hj : j < xs.length) (hb : b < xs.length), j < b → b ≤ i → xs[j] ≤ xs[b]
def OrdTo (xs : List Int) (i : Nat) : Prop := ∀ (a b : Nat) (ha : a < xs.length) (hb : b < xs.length), a < b → b < i → xs[a] ≤ xs[b]

theorem rd_get {xs : List Int} {j : Nat} (h : j < xs.length) : rd xs (j : Int) = xs[j] := by
  simp [rd, List.getD_eq_getElem?_getD, h]

theorem swap_perm (xs : List Int) (j : Nat) (hj : j + 1 < xs.length) : ((xs.set (j + 1) (xs[j]'(by omega))).set j xs[j + 1]).Perm xs := by
  have e : xs = xs.take j ++ xs[j]'(by omega) :: xs[j + 1] :: xs.drop (j + 2) := by
    have h1 : xs.drop j = xs[j]'(by omega) :: xs.drop (j + 1) := List.drop_eq_getElem_cons (by omega)
    have h2 : xs.drop (j + 1) = xs[j + 1] :: xs.drop (j + 2) := List.drop_eq_getElem_cons hj
    rw [← h2, ← h1, List.take_append_drop]
  have hl : (xs.take j).length = j := by simp; omega
  generalize xs[j]'(by omega) = p at *
  generalize xs[j + 1] = q at *
  generalize xs.take j = A at *
  generalize xs.drop (j + 2) = B at *
  subst e
  rw [List.set_append_right _ _ (by omega), List.set_append_right _ _ (by omega), hl]
  simp only [show j + 1 - j = 1 by omega, Nat.sub_self]
  exact (List.Perm.swap p q B).append_left A

theorem Ins.step {xs : List Int} {i j : Nat} (h : Ins xs i (j + 1)) (hj : j + 1 < xs.length) (hlt : xs[j + 1] < xs[j]'(by omega)) : Ins ((xs.set (j + 1) (xs[j]'(by omega))).set j xs[j + 1]) i j := by
  have hji := h.ji
  have get : ∀ (a : Nat) (ha : a < xs.length), ((xs.set (j + 1) (xs[j]'(by omega))).set j xs[j + 1])[a]'(by simpa using ha) = if a = j then xs[j + 1] else if a = j + 1 then xs[j]'(by omega) else xs[a] := fun a ha => by
    rw [List.getElem_set]
    by_cases e : j = a
    · subst e; simp
    · rw [if_neg e, if_neg (fun e2 => e e2.symm), List.getElem_set]
      by_cases e3 : j + 1 = a
      · subst e3; simp
      · rw [if_neg e3, if_neg (fun e2 => e3 e2.symm)]
  refine ⟨by omega, by simpa using h.il, fun a b ha hb hab hbi haj hbj => ?_, fun b hj' hb hjb hbi => ?_⟩
  · simp only [List.length_set] at ha hb
    rw [get a ha, get b hb, if_neg haj, if_neg hbj]
    by_cases e1 : a = j + 1
    · rw [if_pos e1, if_neg (by omega)]
      exact h.ord j b (by omega) hb (by omega) hbi (by omega) (by omega)
    · rw [if_neg e1]
      by_cases e2 : b = j + 1
      · rw [if_pos e2]
        exact h.ord a j ha (by omega) (by omega) (by omega) e1 (by omega)
      · rw [if_neg e2]
        exact h.ord a b ha hb hab hbi e1 e2
  · simp only [List.length_set] at hb
    rw [get j (by omega), get b hb, if_pos rfl, if_neg (by omega)]
    by_cases e2 : b = j + 1
    · rw [if_pos e2]; omega
    · rw [if_neg e2]
      exact h.least b hj hb (by omega) hbi

theorem Ins.done {xs : List Int} {i j : Nat} (h : Ins xs i j) (hd : j = 0 ∨ ∃ k, ∃ hk : k + 1 < xs.length, j = k + 1 ∧ xs[k]'(by omega) ≤ xs[k + 1]) : OrdTo xs (i + 1) := fun a b ha hb hab hbi => by
  by_cases e1 : a = j
  · subst e1; exact h.least b ha hb hab (by omega)
  · by_cases e2 : b = j
    · subst e2
      rcases hd with rfl | ⟨k, hk, rfl, hle⟩
      · omega
      · by_cases e3 : a = k
        · subst e3; exact hle
        · exact Int.le_trans (h.ord a k ha (by omega) (by omega) (by have := h.ji; omega) e1 (by omega)) hle
    · exact h.ord a b ha hb hab (by omega) e1 e2

theorem OrdTo.ins {xs : List Int} {i : Nat} (h : OrdTo xs i) (hi : i < xs.length) : Ins xs i i :=
  ⟨Nat.le_refl _, hi, fun a b ha hb hab hbi h1 h2 => h a b ha hb hab (by omega), fun b _ _ h1 h2 => by omega⟩

theorem sortL_perm {a b : List Int} (h : a.Perm b) : sortL a = sortL b := by
  have h1 : (sortL a).Perm (sortL b) := ((List.mergeSort_perm a _).trans h).trans (List.mergeSort_perm b _).symm
  have pw : ∀ l : List Int, (sortL l).Pairwise (fun x y => decide (x ≤ y) = true) := fun l => List.pairwise_mergeSort (fun x y z h1 h2 => by simp at *; omega) (fun x y => by simp; omega) l
  exact List.Perm.eq_of_pairwise (fun x y _ _ h1 h2 => by simp at h1 h2; omega) (pw a) (pw b) h1
theorem sortL_of_ord {xs : List Int} (h : OrdTo xs xs.length) : sortL xs = xs := by
  refine List.mergeSort_of_pairwise (List.pairwise_iff_getElem.2 fun a b ha hb hab => ?_)
  simpa using h a b ha hb hab hb

theorem sorted_inner {n i : Nat} (hn : n ≤ 1000) (hP : ∀ ys, ys.length = n → OrdTo ys (i + 1) → ∃ K, cottonpadref06_sorted.l0 K ys ((i + 1 : Nat) : Int) = some (sortL ys)) :
    ∀ (j : Nat) (xs : List Int), xs.length = n → Ins xs i j → ∃ K, cottonpadref06_sorted.l1 K xs (i : Int) (j : Int) = some (sortL xs)
  | 0, xs, hl, h => by
    obtain ⟨K, hK⟩ := hP xs hl (h.done (.inl rfl))
    have hw : wrap64 ((i : Int) + 1) = ((i + 1 : Nat) : Int) := by have := h.il; rw [wrap_in (by omega)]; omega
    refine ⟨K + 1, ?_⟩
    rw [cottonpadref06_sorted.l1]
    simpa [hw] using hK
  | j + 1, xs, hl, h => by
    have hi := h.il
    have hji := h.ji
    have hw1 : wrap64 (((j + 1 : Nat) : Int) - 1) = (j : Int) := by rw [wrap_in (by omega)]; omega
    have hw : wrap64 ((i : Int) + 1) = ((i + 1 : Nat) : Int) := by rw [wrap_in (by omega)]; omega
    have hj1 : j + 1 < xs.length := by omega
    by_cases hlt : xs[j + 1] < xs[j]'(by omega)
    · obtain ⟨K, hK⟩ := sorted_inner hn hP j _ (by simpa using hl) (h.step hj1 hlt)
      refine ⟨K + 1, ?_⟩
      rw [cottonpadref06_sorted.l1, if_pos (by omega), if_pos (by omega), if_pos (by omega), hw1, if_pos (by omega), if_pos (by omega), rd_get hj1, rd_get (by omega : j < xs.length), if_pos hlt]
      simp only [Int.toNat_natCast]
      rw [hK, sortL_perm (swap_perm xs j hj1)]
    · obtain ⟨K, hK⟩ := hP xs hl (h.done (.inr ⟨j, hj1, rfl, by omega⟩))
      refine ⟨K + 1, ?_⟩
      rw [cottonpadref06_sorted.l1, if_pos (by omega), if_pos (by omega), if_pos (by omega), hw1, if_pos (by omega), if_pos (by omega), rd_get hj1, rd_get (by omega : j < xs.length), if_neg hlt, hw]
      exact hK

theorem sorted_outer {n : Nat} (hn : n ≤ 1000) : ∀ (d i : Nat), i + d = n → ∀ ys, ys.length = n → OrdTo ys i → ∃ K, cottonpadref06_sorted.l0 K ys (i : Int) = some (sortL ys)
  | 0, i, hd, ys, hl, h => ⟨1, by
      rw [cottonpadref06_sorted.l0, if_neg (by omega), sortL_of_ord (by rw [hl, ← hd]; exact h)]⟩
  | d + 1, i, hd, ys, hl, h => by
    obtain ⟨K, hK⟩ := sorted_inner hn (fun ys hl h => sorted_outer hn d (i + 1) (by omega) ys hl h) i ys hl (h.ins (by omega))
    exact ⟨K + 1, by rw [cottonpadref06_sorted.l0, if_pos (by omega)]; exact hK⟩

theorem sorted_f (l : List Int) (hl : l.length ≤ 1000) : ∃ K, cottonpadref06_sorted.f K l = some (sortL l) := by
  unfold cottonpadref06_sorted.f
  simp only [Option.bind_some, List.nil_append, List.length_nil]
  have e : 0 + l.length < 17592186044416 := by omega
  simp only [e, if_true]
  by_cases h0 : l.length = 0
  · refine ⟨1, ?_⟩
    have : l = [] := List.eq_nil_of_length_eq_zero h0
    subst this
    rw [cottonpadref06_sorted.l0, if_neg (by simp)]
    simp [sortL]
  · exact sorted_outer hl (l.length - 1) 1 (by omega) l rfl (fun a b _ _ h1 h2 => by omega)
end Go.Proofs.YtdeaccbolnlgpaaDoor.X
