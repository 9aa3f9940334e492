import Derived.Test.YtdeaccbolnlgpaaDoorXPX
namespace Go.Proofs.YtdeaccbolnlgpaaDoor.X
open Go.RowKit
set_option linter.unusedVariables false
set_option linter.unusedSimpArgs false

/-! ## Nobody takes ten hours -/
theorem GoIn.valB {st : List S62} {ch : List S81} {ps : List S48} {ts wk : List Int} (h : GoIn st ch ps ts wk) {B : Int} (hB : ∀ t ∈ ts, t ≤ B) (h0 : 0 ≤ B) : ∀ (k : Nat), k ≤ st.length → ∀ i, ∀ t ∈ comeG st ch ps ts wk k i, 0 ≤ t ∧ t ≤ B + 2040 * (k : Int)
  | 0, _, i, t, ht => by
    obtain ⟨x, hx, _, h2⟩ := comeG0_mem ht
    have := h.tsb t h2
    have := hB t h2
    omega
  | k + 1, hk, i, t, ht => by
    have ih := h.valB hB h0 k (by omega)
    have hs := h.valid.stairOk (List.getElem_mem (h := (by omega : k < st.length)))
    simp only [comeG] at ht
    rw [rdT62_get (by omega)] at ht
    have hlf := leftG_bound hs (h.wk_get (by omega : k < st.length)) (l := comeG st ch ps ts wk k k) (B := B + 2040 * (k : Int)) (fun t ht => ih k t ht) (by have := h.len (k := k) (by omega) (i := k) (mem_keysN.2 (by omega)); have := h.valid.nps; omega) (by omega)
    have hput : ∀ j, ∀ t ∈ putM (k : Int) [] (comeG st ch ps ts wk k) j, 0 ≤ t ∧ t ≤ B + 2040 * (k : Int) := fun j t ht => by
      unfold putM at ht
      split at ht
      · simp at ht
      · exact ih j t ht
    by_cases e : i = st[k].f0
    · subst e
      rw [putM, if_pos rfl] at ht
      rcases List.mem_append.1 ht with ht | ht
      · have := hput _ t ht; omega
      · have := hlf t ht; omega
    · rw [putM, if_neg e] at ht
      have := hput _ t ht; omega
theorem GoIn.leftB {st : List S62} {ch : List S81} {ps : List S48} {ts wk : List Int} (h : GoIn st ch ps ts wk) {B : Int} (hB : ∀ t ∈ ts, t ≤ B) (h0 : 0 ≤ B) {k : Nat} (hk : k < st.length) : ∀ t ∈ leftG st ch ps ts wk k, 0 ≤ t ∧ t ≤ B + 12240 := fun t ht => by
  have hs := h.valid.stairOk (List.getElem_mem (h := hk))
  unfold leftG at ht
  rw [rdT62_get hk] at ht
  have := leftG_bound hs (h.wk_get hk) (l := comeG st ch ps ts wk k k) (B := B + 2040 * (k : Int)) (fun t ht => h.valB hB h0 k (by omega) k t ht) (by have := h.len (k := k) (by omega) (i := k) (mem_keysN.2 (by omega)); have := h.valid.nps; omega) (by omega) t ht
  have := h.valid.built.nst
  omega
theorem leaveT_le {b : Bool} {st : List S62} {ch : List S81} {ps : List S48} (hv : Valid st ch ps) {x : S48} (hx : x ∈ ps) : leaveT b ch x ≤ 4600 := by
  have h1 := livesB_iff.1 (hv.lives x hx)
  have h2 := chamberB_iff.1 (hv.built.chamber _ (rdT81_get h1.1.1 h1.1.2))
  have hp : 100 ≤ paceS b x.f1 := by unfold paceS; split <;> omega
  have ht : timeS b x.f2 ≤ 3600 := by unfold timeS; split <;> omega
  have h3 := ceil_anti (a := (rd_T81 ch x.f0).f1) h2.2.1.1 (by omega : (1 : Int) ≤ 100) hp
  have h4 : ((rd_T81 ch x.f0).f1 + 100 - 1) / 100 ≤ 1000 := by omega
  unfold leaveT
  omega
theorem ends_go {st : List S62} {ch : List S81} {ps : List S48} (b : Bool) (hv : Valid st ch ps) : GoIn st ch ps (ps.map (leaveT b ch)) (st.map fun s => timeS b s.f2) where
  valid := hv
  nts := by simp
  nwk := by simp
  tsb := fun t ht => by
    obtain ⟨x, hx, rfl⟩ := List.mem_map.1 ht
    exact leaveT_bounds (hv.walkOk hx)
  wkb := fun t ht => by
    obtain ⟨s, hs, rfl⟩ := List.mem_map.1 ht
    have := hv.stairOk hs
    unfold StairOk at this
    unfold timeS; split <;> omega
theorem leftAt_bound {st : List S62} {ch : List S81} {ps : List S48} (b : Bool) (hv : Valid st ch ps) {k : Nat} (hk : k < st.length) : ∀ t ∈ leftAt b st ch ps k, 0 ≤ t ∧ t ≤ 16840 := by
  rw [← leftG_eq b st ch ps hk]
  intro t ht
  have := (ends_go b hv).leftB (B := 4600) (fun t ht => by obtain ⟨x, hx, rfl⟩ := List.mem_map.1 ht; exact leaveT_le hv hx) (by omega) hk t ht
  omega

end Go.Proofs.YtdeaccbolnlgpaaDoor.X
