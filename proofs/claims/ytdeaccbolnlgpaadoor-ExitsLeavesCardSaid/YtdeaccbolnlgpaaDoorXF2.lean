import Derived.Test.YtdeaccbolnlgpaaDoorXF1
namespace Go.Proofs.YtdeaccbolnlgpaaDoor.X
open Go.RowKit Go.Shelf Go.Proofs.YtdeaccbolnlgpaaDoorW.PrintWords Go.Proofs.YtdeaccbolnlgpaaDoorW.PrintLast Go.Proofs.YtdeaccbolnlgpaaDoorW.PrintMore
set_option linter.unusedVariables false

theorem reps_int (w : World) (base : Nat) (ok : Nat → Prop) (xs : List Int) : Reps ((Kd.int .i64).M w base ok) 1 xs (xs.map (Value.int .i64)) := by
  refine ⟨by simp, fun j p hj => ?_⟩
  show _ = [Value.int .i64 p]
  obtain ⟨hj', rfl⟩ := List.getElem?_eq_some_iff.1 hj
  rw [Nat.mul_one, List.take_one, List.head?_drop]
  simp [hj']

theorem R_of_own {w : World} {base : Nat} {ok : Nat → Prop} {v : Value} {zs : List Int} (h : w.ownsInts base 3 .i64 v zs) (hok : ∀ k, v.ownBlock = some k → ok k) : Kd.R (Kd.int .i64) 3 w base ok v zs :=
  ⟨hok, _, h.1, reps_int _ _ _ _⟩

open Classical in
/-- Which row lies in block k. -/
noncomputable def famIdx (vs : List Value) (k : Nat) : Nat := if h : ∃ i, ∃ hi : i < vs.length, vs[i].ownBlock = some k then Classical.choose h else 0
theorem famIdx_at {w : World} {base : Nat} {vs : List Value} {ls : List (List Int)} (h : Fam w base vs ls) {i k : Nat} (hi : i < vs.length) (hk : vs[i].ownBlock = some k) : famIdx vs k = i := by
  have hex : ∃ i, ∃ hi : i < vs.length, vs[i].ownBlock = some k := ⟨i, hi, hk⟩
  unfold famIdx
  rw [dif_pos hex]
  obtain ⟨hj, hjk⟩ := Classical.choose_spec hex
  by_cases e : Classical.choose hex = i
  · exact e
  · rcases h.apart _ i hj hi e with h1 | h1
    · rw [hjk] at h1; cases h1
    · rw [hjk, hk] at h1; exact absurd rfl h1

theorem S_of_fam {w : World} {base bl : Nat} {ok : Nat → Prop} {vs : List Value} {ls : List (List Int)} (h : Fam w base vs ls) (hb : base ≤ bl) (hn : vs.length ≤ 1000)
    (ho : w.heap[bl]? = some (.cells vs.toArray 67 (0, 0))) (hok : ∀ i (hi : i < vs.length) k, vs[i].ownBlock = some k → ok k) (hokb : ok bl) :
    Kd.S (Kd.slice 3 (Kd.int .i64)) 67 w base ok (.slice (some ⟨bl, 0, none⟩) ls.length vs.length) ls := by
  have hlen := h.len
  refine ⟨famIdx vs, fun k hk => ?_, vs, ?_, ?_⟩
  · simp only [Value.ownBlock, Option.some.injEq] at hk; subst hk; exact hokb
  · rw [List.length_zipIdx]
    exact ⟨by show vs.length = ls.length * 1; omega, .inr ⟨bl, vs.length, vs.toArray, rfl, hb, ho, by omega, by unfold maxLen; omega, by show vs.toArray.size = vs.length * 1; simp, by show vs.toArray.toList.take (ls.length * 1) = vs; simp [← hlen]⟩⟩
  · refine ⟨by rw [List.length_zipIdx]; show vs.length = ls.length * 1; omega, fun j p hj => ?_⟩
    rw [List.getElem?_zipIdx] at hj
    cases hlj : ls[j]? with
    | none => rw [hlj] at hj; cases hj
    | some l =>
      rw [hlj] at hj
      simp only [Option.map_some, Nat.zero_add, Option.some.injEq] at hj
      subst hj
      obtain ⟨hj', rfl⟩ := List.getElem?_eq_some_iff.1 hlj
      have hjv : j < vs.length := by omega
      have e : (vs.drop (j * 1)).take 1 = [vs[j]] := by
        rw [Nat.mul_one, List.take_one, List.head?_drop]; simp [hjv]
      refine ⟨vs[j], e, R_of_own (h.own j hjv hj') (fun k hk => ⟨⟨hok j hjv k hk, fun e2 => ?_⟩, famIdx_at h hjv hk⟩)⟩
      obtain ⟨cells, hc⟩ := own_typed (h.own j hjv hj').1 k hk
      simp only [Value.ownBlock, Option.some.injEq] at e2
      rw [e2, ho] at hc
      cases hc
end Go.Proofs.YtdeaccbolnlgpaaDoor.X
