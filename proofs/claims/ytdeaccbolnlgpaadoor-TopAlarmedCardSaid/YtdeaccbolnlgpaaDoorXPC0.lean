import Derived.Test.YtdeaccbolnlgpaaDoorXPA
import Derived.Test.YtdeaccbolnlgpaaDoorXHS
import Derived.Test.YtdeaccbolnlgpaaDoorXHL
namespace Go.Proofs.YtdeaccbolnlgpaaDoor.X
open Go.RowKit
set_option linter.unusedVariables false
set_option linter.unusedSimpArgs false

/-! # The last, and who is late -/
/-- The last is the greatest. -/
def TopLast (l : List Int) : Prop := ∀ z ∈ l, ∃ e, l.getLast? = some e ∧ z ≤ e
theorem TopLast.map {l : List Int} (h : TopLast l) (w : Int) : TopLast (l.map (· + w)) := fun z hz => by
  obtain ⟨y, hy, rfl⟩ := List.mem_map.1 hz
  obtain ⟨e, h1, h2⟩ := h y hy
  exact ⟨e + w, by rw [List.getLast?_map, h1]; rfl, by omega⟩
theorem ent_top {g : Int} (hg : 0 ≤ g) : ∀ (ts acc : List Int), TopLast acc → TopLast (ts.foldl (entG g) acc)
  | [], _, h => h
  | t :: ts, acc, h => by
    rw [List.foldl_cons]
    refine ent_top hg ts _ fun z hz => ?_
    unfold entG at hz ⊢
    rw [List.getLast?_append, List.getLast?_singleton]
    refine ⟨_, rfl, ?_⟩
    rcases List.mem_append.1 hz with hz | hz
    · obtain ⟨e, h1, h2⟩ := h z hz
      rw [h1]; simp only; omega
    · rw [List.mem_singleton.1 hz]; exact Int.le_refl _
theorem flowL_top (wk : Int) {g : Int} (hg : 0 ≤ g) (ts : List Int) : TopLast (flowL wk g ts) := by
  rw [flowL_ent]
  exact (ent_top hg ts [] fun z hz => by cases hz).map wk

theorem last_get {l : List Int} (h : 0 < l.length) : l.getLast? = some (l[l.length - 1]?.getD 0) := by
  rw [List.getLast?_eq_getElem?, List.getElem?_eq_getElem (by omega)]; rfl

theorem lateC_none {b : Bool} {ch : List S81} {ps : List S48} : ∀ k, lateC b ch ps k = -1 → ∀ c, c < k → ps.any (slowB b ch c (rd_T81 ch c).f2) = false
  | 0, _, c, hc => by omega
  | k + 1, h, c, hc => by
    rw [lateC] at h
    by_cases h1 : lateC b ch ps k < 0 ∧ ps.any (slowB b ch k (rd_T81 ch k).f2) = true
    · rw [if_pos h1] at h; omega
    · rw [if_neg h1] at h
      by_cases e : c = k
      · subst e
        cases h2 : ps.any (slowB b ch c (rd_T81 ch c).f2)
        · rfl
        · exact absurd ⟨by omega, h2⟩ h1
      · exact lateC_none k h c (by omega)
theorem lateC_some {b : Bool} {ch : List S81} {ps : List S48} : ∀ k, lateC b ch ps k ≠ -1 → ∃ c, c < k ∧ ps.any (slowB b ch c (rd_T81 ch c).f2) = true
  | 0, h => absurd rfl h
  | k + 1, h => by
    rw [lateC] at h
    by_cases h1 : lateC b ch ps k < 0 ∧ ps.any (slowB b ch k (rd_T81 ch k).f2) = true
    · exact ⟨k, by omega, h1.2⟩
    · rw [if_neg h1] at h
      obtain ⟨c, hc, h2⟩ := lateC_some k h
      exact ⟨c, by omega, h2⟩
theorem lateS_all {b : Bool} {st : List S62} {ch : List S81} {ps : List S48} : ∀ n k, lateS b st ch ps k n = -1 → ∀ j, k ≤ j → j < k + n → lateB b st ch ps j = false
  | 0, k, _, j, h1, h2 => by omega
  | n + 1, k, h, j, h1, h2 => by
    rw [lateS] at h
    cases h3 : lateB b st ch ps k
    · rw [h3, if_neg (by simp)] at h
      by_cases e : j = k
      · rw [e]; exact h3
      · exact lateS_all n (k + 1) h j (by omega) (by omega)
    · rw [h3, if_pos rfl] at h; omega
theorem lateS_some {b : Bool} {st : List S62} {ch : List S81} {ps : List S48} : ∀ n k, lateS b st ch ps k n ≠ -1 → ∃ j, k ≤ j ∧ j < k + n ∧ lateB b st ch ps j = true
  | 0, k, h => absurd rfl h
  | n + 1, k, h => by
    rw [lateS] at h
    cases h3 : lateB b st ch ps k
    · rw [h3, if_neg (by simp)] at h
      obtain ⟨j, h4, h5, h6⟩ := lateS_some n (k + 1) h
      exact ⟨j, by omega, by omega, h6⟩
    · exact ⟨k, by omega, by omega, h3⟩

theorem leftAt_le24 (b : Bool) {st : List S62} {ch : List S81} {ps : List S48} (h : Valid st ch ps) (k : Nat) : (leftAt b st ch ps k).length ≤ 24 := by
  have h1 := h.len (b := b) k k
  have := h.nps
  rw [leftAt, leftOf, flowL_length, sortL_length]
  omega
theorem leavesF_at {st : List S62} {ch : List S81} {ps : List S48} (hc : checkF st ch ps = 0) {s : Nat} (hs : s < st.length) : leavesF st ch ps (s : Int) = (List.zipWith S36.mk (leftAt false st ch ps s) (leftAt true st ch ps s), 0) := by
  unfold leavesF
  rw [if_pos hc, if_pos (by simp only [inB_one]; omega), Int.toNat_natCast]
end Go.Proofs.YtdeaccbolnlgpaaDoor.X
