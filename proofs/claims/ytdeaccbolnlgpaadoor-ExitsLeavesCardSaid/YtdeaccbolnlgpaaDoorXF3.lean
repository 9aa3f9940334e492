import Derived.Test.YtdeaccbolnlgpaaDoorXF2
namespace Go.Proofs.YtdeaccbolnlgpaaDoor.X
open Go.RowKit Go.Shelf Go.Proofs.YtdeaccbolnlgpaaDoorW.PrintWords Go.Proofs.YtdeaccbolnlgpaaDoorW.PrintLast Go.Proofs.YtdeaccbolnlgpaaDoorW.PrintMore
set_option linter.unusedVariables false
set_option linter.unusedSimpArgs false

/-! # An append onto a row of a family, and its store into the block that holds the rows -/

theorem row_cell {W : World} {k s : Nat} {vs : List Value} {t : TypeId} (h : W.heap[k]? = some (.cells vs.toArray t (0, 0))) (hs : s < vs.length) : W.cell? ⟨k, s, none⟩ = some vs[s] := by simp [World.cell?, h, hs]
theorem row_frozen {W : World} {k : Nat} {vs : List Value} {t : TypeId} (h : W.heap[k]? = some (.cells vs.toArray t (0, 0))) (s : Nat) : W.frozen? ⟨k, s, none⟩ = false := by simp [World.frozen?, h]
theorem row_set {W : World} {k s : Nat} {vs : List Value} {t : TypeId} (h : W.heap[k]? = some (.cells vs.toArray t (0, 0))) (u : Value) : (W.setCell ⟨k, s, none⟩ u).heap[k]? = some (.cells (vs.set s u).toArray t (0, 0)) := by
  have hk := (Array.getElem?_eq_some_iff.1 h).1
  simp [World.setCell, Array.getElem?_modify, h]
theorem size_setCell (W : World) (p : Addr) (u : Value) : (W.setCell p u).heap.size = W.heap.size := by simp [World.setCell]

theorem Fam.app {W wa w7 : World} {base i : Nat} {vs : List Value} {ls : List (List Int)} (h : Fam W base vs ls) (hi : i < vs.length) (hD : Below W.heap.size W wa) (hg : wa.grownBy w7 vs[i].ownBlock) :
    W.heap.size ≤ w7.heap.size ∧ (∀ (k : Nat) (o : Obj), W.heap[k]? = some o → keepO o = true → w7.heap[k]? = some o) ∧ (∀ (n0 : Nat) (w : World), Below n0 w W → n0 ≤ base → base ≤ W.heap.size → Below n0 w w7) := by
  have ho := h.own i hi (by have := h.len; omega)
  refine ⟨Nat.le_trans hD.size hg.size, fun k o hk hc => ?_, fun n0 w hb h0 h1 => ?_⟩
  · have hkl := (Array.getElem?_eq_some_iff.1 hk).1
    have hne : some k ≠ vs[i].ownBlock := own_ne_other ho hk hc
    rw [hg.block k (Nat.lt_of_lt_of_le hkl hD.size) hne, hD.block k hkl, hk]
  · exact (hb.trans (hD.mono (by omega))).grown hg (by have := hD.size; omega) (fun k hk => by have := (ho.1.lt k hk).1; omega)

theorem Fam.put {W wa w7 : World} {base i : Nat} {vs : List Value} {ls : List (List Int)} {v7 : Value} {zs' : List Int} (h : Fam W base vs ls) (hi : i < vs.length) (hD : Below W.heap.size W wa) (hg : wa.grownBy w7 vs[i].ownBlock)
    (ho : w7.ownsInts base 3 .i64 v7 zs') (hl : v7.ownBlock = vs[i].ownBlock ∨ v7.ownBlock = some wa.heap.size) {bR : Nat} (s : Nat) {rows : List Value} (hR : W.heap[bR]? = some (.cells rows.toArray 67 (0, 0))) :
    Fam (w7.setCell ⟨bR, s, none⟩ v7) base (vs.set i v7) (ls.set i zs') ∧ (w7.setCell ⟨bR, s, none⟩ v7).heap[bR]? = some (.cells (rows.set s v7).toArray 67 (0, 0)) ∧
    (∀ (k : Nat) (o : Obj), k ≠ bR → W.heap[k]? = some o → keepO o = true → (w7.setCell ⟨bR, s, none⟩ v7).heap[k]? = some o) ∧
    (∀ (n0 : Nat) (w : World), Below n0 w W → n0 ≤ base → n0 ≤ bR → base ≤ W.heap.size → Below n0 w (w7.setCell ⟨bR, s, none⟩ v7)) ∧ W.heap.size ≤ (w7.setCell ⟨bR, s, none⟩ v7).heap.size := by
  obtain ⟨h1, h2, h3⟩ := h.app hi hD hg
  have hR7 := h2 bR _ hR rfl
  refine ⟨(h.appended hi hD hg ho hl).kept fun k hk hkl ⟨cells, hc⟩ => Below.heap_setCell _ _ _ _ (fun e => ?_), row_set hR7 _, fun k o hk ho hc => (Below.heap_setCell _ _ _ _ hk).trans (h2 k o ho hc), fun n0 w hb hn0 hnR hbase => (h3 n0 w hb hn0 hbase).setCell hnR _, by rw [size_setCell]; exact h1⟩
  have e' : k = bR := e
  rw [e', hR7] at hc
  cases hc

theorem Fam.alloc {W : World} {base : Nat} {vs : List Value} {ls : List (List Int)} (h : Fam W base vs ls) (o : Obj) : Fam (W.alloc o) base vs ls := h.below ((Below.refl _ _).alloc (Nat.le_refl _) _)
theorem Fam.drew {W : World} {base : Nat} {vs : List Value} {ls : List (List Int)} (h : Fam W base vs ls) : Fam W.drew base vs ls := h.below (below_drew (Below.refl _ _))
theorem Fam.more {W : World} {base : Nat} {vs us : List Value} {ls ms : List (List Int)} (h : Fam W base vs ls) (hlen : us.length = ms.length) (hu : ∀ u ∈ us, u = .slice none 0 0) (hm : ∀ m ∈ ms, m = []) : Fam W base (vs ++ us) (ls ++ ms) where
  len := by simp [h.len, hlen]
  own := fun i hi hl => by
    have hlen2 := h.len
    by_cases e : i < vs.length
    · rw [List.getElem_append_left e, List.getElem_append_left (by omega)]
      exact h.own i e (by omega)
    · rw [List.getElem_append_right (by omega), List.getElem_append_right (by omega), hu _ (List.getElem_mem _), hm _ (List.getElem_mem _)]
      exact World.ownsInts_nil _ _ _ _
  apart := fun i j hi hj hne => by
    have none_of : ∀ (m : Nat) (hm' : m < (vs ++ us).length), ¬ m < vs.length → (vs ++ us)[m].ownBlock = none := fun m hm' e => by
      rw [List.getElem_append_right (by omega), hu _ (List.getElem_mem _)]; rfl
    by_cases ei : i < vs.length
    · by_cases ej : j < vs.length
      · rw [List.getElem_append_left ei, List.getElem_append_left ej]
        exact h.apart i j ei ej hne
      · rw [none_of j hj ej]
        cases hv : (vs ++ us)[i].ownBlock with
        | none => exact .inl rfl
        | some g => exact .inr (by simp)
    · exact .inl (none_of i hi ei)
end Go.Proofs.YtdeaccbolnlgpaaDoor.X
