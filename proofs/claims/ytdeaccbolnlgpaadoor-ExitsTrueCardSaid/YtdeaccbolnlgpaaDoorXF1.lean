import Derived.Test.YtdeaccbolnlgpaaDoorXC5
namespace Go.Proofs.YtdeaccbolnlgpaaDoor.X
open Go.RowKit Go.Shelf Go.Proofs.YtdeaccbolnlgpaaDoorW.PrintWords Go.Proofs.YtdeaccbolnlgpaaDoorW.PrintLast Go.Proofs.YtdeaccbolnlgpaaDoorW.PrintMore
set_option linter.unusedVariables false
set_option linter.unusedSimpArgs false

/-! # A family of rows of int, all of the call's own and apart from each other -/

structure Fam (w : World) (base : Nat) (vs : List Value) (ls : List (List Int)) : Prop where
  len : vs.length = ls.length
  own : ∀ (i : Nat) (hi : i < vs.length) (hl : i < ls.length), w.ownsInts base 3 .i64 vs[i] ls[i]
  apart : ∀ (i j : Nat) (hi : i < vs.length) (hj : j < vs.length), i ≠ j → vs[i].ownBlock = none ∨ vs[i].ownBlock ≠ vs[j].ownBlock

theorem Fam.nils (w : World) (base n : Nat) : Fam w base (List.replicate n (.slice none 0 0)) (List.replicate n []) where
  len := by simp
  own := fun i hi hl => by simp only [List.getElem_replicate]; exact World.ownsInts_nil _ _ _ _
  apart := fun i j hi hj _ => .inl (by simp [Value.ownBlock])

theorem Fam.kept {w w' : World} {base : Nat} {vs : List Value} {ls : List (List Int)} (h : Fam w base vs ls) (hk : ∀ k, base ≤ k → k < w.heap.size → (∃ cells, w.heap[k]? = some (.cells cells 3 (0, 0))) → w'.heap[k]? = w.heap[k]?) : Fam w' base vs ls where
  len := h.len
  own := fun i hi hl => by
    obtain ⟨h1, h2⟩ := h.own i hi hl
    exact ⟨own_move h1 fun k hk' => hk k (h1.lt k hk').1 (h1.lt k hk').2 (own_typed h1 k hk'), h2⟩
  apart := h.apart

theorem Fam.below {w w' : World} {base : Nat} {vs : List Value} {ls : List (List Int)} (h : Fam w base vs ls) (hb : Below w.heap.size w w') : Fam w' base vs ls := h.kept fun k _ hk _ => hb.block k hk

/-- BEHIND AN append ONTO ROW i. -/
theorem Fam.appended {w wa w2 : World} {base i : Nat} {vs : List Value} {ls : List (List Int)} {v' : Value} {zs' : List Int} (h : Fam w base vs ls) (hi : i < vs.length) (hD : Below w.heap.size w wa)
    (hg : wa.grownBy w2 vs[i].ownBlock) (ho : w2.ownsInts base 3 .i64 v' zs') (hl : v'.ownBlock = vs[i].ownBlock ∨ v'.ownBlock = some wa.heap.size) : Fam w2 base (vs.set i v') (ls.set i zs') where
  len := by simpa using h.len
  own := fun j hj hl' => by
    simp only [List.length_set] at hj hl'
    by_cases e : i = j
    · subst e; simpa using ho
    · rw [List.getElem_set_ne e, List.getElem_set_ne e]
      obtain ⟨h1, h2⟩ := h.own j hj hl'
      refine ⟨own_move h1 fun k hk => ?_, h2⟩
      have hk2 := (h1.lt k hk).2
      rw [hg.block k (Nat.lt_of_lt_of_le hk2 hD.size) (fun e2 => ?_), hD.block k hk2]
      rcases h.apart j i hj hi (fun e3 => e e3.symm) with h3 | h3
      · rw [hk] at h3; cases h3
      · exact h3 (by rw [hk, e2])
  apart := fun j k hj hk hne => by
    simp only [List.length_set] at hj hk
    have fresh : ∀ m (hm : m < vs.length), m ≠ i → vs[m].ownBlock = none ∨ vs[m].ownBlock ≠ v'.ownBlock := fun m hm hmi => by
      rcases hl with hl | hl
      · rw [hl]; exact h.apart m i hm hi hmi
      · cases hv : vs[m].ownBlock with
        | none => exact .inl rfl
        | some g =>
          refine .inr (fun e => ?_)
          have := (h.own m hm (by have := h.len; omega)).1.lt g hv
          rw [hl] at e
          cases e
          have := hD.size
          omega
    by_cases e1 : i = j <;> by_cases e2 : i = k
    · exact absurd (e1.symm.trans e2) hne
    · subst e1
      rw [List.getElem_set_self, List.getElem_set_ne e2]
      rcases fresh k hk (fun e => e2 e.symm) with h3 | h3
      · cases hv : v'.ownBlock with
        | none => exact .inl rfl
        | some g => exact .inr (by rw [h3]; simp)
      · exact .inr (fun e => h3 e.symm)
    · subst e2
      rw [List.getElem_set_self, List.getElem_set_ne e1]
      exact fresh j hj (fun e => e1 e.symm)
    · rw [List.getElem_set_ne e1, List.getElem_set_ne e2]
      exact h.apart j k hj hk hne
end Go.Proofs.YtdeaccbolnlgpaaDoor.X

namespace Go.Proofs.YtdeaccbolnlgpaaDoor.X
open Go.RowKit Go.Shelf Go.Proofs.YtdeaccbolnlgpaaDoorW.PrintWords Go.Proofs.YtdeaccbolnlgpaaDoorW.PrintLast Go.Proofs.YtdeaccbolnlgpaaDoorW.PrintMore
set_option linter.unusedVariables false

theorem reps_int (w : World) (base : Nat) (ok : Nat → Prop) (xs : List Int) : Reps ((Kd.int .i64).M w base ok) 1 xs (xs.map (Value.int .i64)) := by
  refine ⟨by simp, fun j p hj => ?_⟩
  show _ = [Value.int .i64 p]
  obtain ⟨hj', rfl⟩ := List.getElem?_eq_some_iff.1 hj
  rw [Nat.mul_one, List.take_one, List.head?_drop]
  simp [hj']

theorem R_of_own {w : World} {base : Nat} {ok : Nat → Prop} {v : Value} {zs : List Int} (h : w.ownsInts base 3 .i64 v zs) (hok : ∀ k, v.ownBlock = some k → ok k) : Kd.R (Kd.int .i64) 3 w base ok v zs :=
  ⟨hok, _, h.1, reps_int _ _ _ _⟩

open Classical in
/-- Which row lies in block k. -/
noncomputable def famIdx (vs : List Value) (k : Nat) : Nat := if h : ∃ i, ∃ hi : i < vs.length, vs[i].ownBlock = some k then Classical.choose h else 0
theorem famIdx_at {w : World} {base : Nat} {vs : List Value} {ls : List (List Int)} (h : Fam w base vs ls) {i k : Nat} (hi : i < vs.length) (hk : vs[i].ownBlock = some k) : famIdx vs k = i := by
  have hex : ∃ i, ∃ hi : i < vs.length, vs[i].ownBlock = some k := ⟨i, hi, hk⟩
  unfold famIdx
  rw [dif_pos hex]
  obtain ⟨hj, hjk⟩ := Classical.choose_spec hex
  by_cases e : Classical.choose hex = i
  · exact e
  · rcases h.apart _ i hj hi e with h1 | h1
    · rw [hjk] at h1; cases h1
    · rw [hjk, hk] at h1; exact absurd rfl h1

theorem S_of_fam {w : World} {base bl : Nat} {ok : Nat → Prop} {vs : List Value} {ls : List (List Int)} (h : Fam w base vs ls) (hb : base ≤ bl) (hn : vs.length ≤ 1000)
    (ho : w.heap[bl]? = some (.cells vs.toArray 67 (0, 0))) (hok : ∀ i (hi : i < vs.length) k, vs[i].ownBlock = some k → ok k) (hokb : ok bl) :
    Kd.S (Kd.slice 3 (Kd.int .i64)) 67 w base ok (.slice (some ⟨bl, 0, none⟩) ls.length vs.length) ls := by
  have hlen := h.len
  refine ⟨famIdx vs, fun k hk => ?_, vs, ?_, ?_⟩
  · simp only [Value.ownBlock, Option.some.injEq] at hk; subst hk; exact hokb
  · rw [List.length_zipIdx]
    exact ⟨by show vs.length = ls.length * 1; omega, .inr ⟨bl, vs.length, vs.toArray, rfl, hb, ho, by omega, by unfold maxLen; omega, by show vs.toArray.size = vs.length * 1; simp, by show vs.toArray.toList.take (ls.length * 1) = vs; simp [← hlen]⟩⟩
  · refine ⟨by rw [List.length_zipIdx]; show vs.length = ls.length * 1; omega, fun j p hj => ?_⟩
    rw [List.getElem?_zipIdx] at hj
    cases hlj : ls[j]? with
    | none => rw [hlj] at hj; cases hj
    | some l =>
      rw [hlj] at hj
      simp only [Option.map_some, Nat.zero_add, Option.some.injEq] at hj
      subst hj
      obtain ⟨hj', rfl⟩ := List.getElem?_eq_some_iff.1 hlj
      have hjv : j < vs.length := by omega
      have e : (vs.drop (j * 1)).take 1 = [vs[j]] := by
        rw [Nat.mul_one, List.take_one, List.head?_drop]; simp [hjv]
      refine ⟨vs[j], e, R_of_own (h.own j hjv hj') (fun k hk => ⟨⟨hok j hjv k hk, fun e2 => ?_⟩, famIdx_at h hjv hk⟩)⟩
      obtain ⟨cells, hc⟩ := own_typed (h.own j hjv hj').1 k hk
      simp only [Value.ownBlock, Option.some.injEq] at e2
      rw [e2, ho] at hc
      cases hc
end Go.Proofs.YtdeaccbolnlgpaaDoor.X
