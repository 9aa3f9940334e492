import Derived.Maps.OwnRows
import Derived.Maps.OwnIn
import Derived.Maps.Range
import Derived.Maps.GroupsBeside
import Derived.Maps.Views
import Derived.Test.YtdeaccbolnlgpaaDoorXH5
namespace Go.Proofs.YtdeaccbolnlgpaaDoor.X
open Go.RowKit Go.Shelf Go.Maps Go.ChangeMaps Go.MapKept Go.ChangeShapes
open Go.WideElems (Fit rd rg pl rd_val elemAt)
set_option linter.unusedVariables false
set_option linter.unusedSimpArgs false

/-! # The map 'come': a map of slices of the call's own, told as a function from keys to lists. -/

def litOf : DataW Unit → List Int
  | .lit (.int _ z) => [z]
  | _ => []
def itemsOf : DataW Unit → List Int
  | .slice l _ => l.flatMap litOf
  | _ => []
theorem itemsOf_lits (zs : List Int) : itemsOf (.slice (lits .i64 zs) []) = zs := by
  simp only [itemsOf, lits, List.flatMap_map]
  induction zs with
  | nil => rfl
  | cons z l ih => simp [litOf, ih]

def Key (i : Int) : Prop := (Lit.int .i64 i).wf = true
theorem Key.of {i : Int} (h0 : -9223372036854775808 ≤ i) (h1 : i ≤ 9223372036854775807) : Key i := by
  have e1 : IntKind.i64.min = -9223372036854775808 := by decide
  have e2 : IntKind.i64.max = 9223372036854775807 := by decide
  simp [Key, Lit.wf, e1, e2] <;> omega

def putM (i : Int) (l : List Int) (m : Int → List Int) : Int → List Int := fun j => if j = i then l else m j

def Come (w : World) (b n : Nat) (m : Int → List Int) : Prop :=
  ∃ D : DataW Unit, w.ownsGroups Tryd.prog 3 (b + 1) 3 .i64 b n D ∧ ∀ i, Key i → itemsOf (D.atKey (.int .i64 i) .nil) = m i

/-- What a slice value of the call's own owns. -/
def OwnI (w : World) (base : Nat) (v : Value) (zs : List Int) : Prop := w.ownsInts base 3 .i64 v zs

theorem rowDatum_items {w : World} {base : Nat} {v : Value} {zs : List Int} (h : w.ownsInts base 3 .i64 v zs) : itemsOf (rowDatum .i64 v zs) = zs := by
  rcases h.datum (H := Unit) with ⟨h1, rfl⟩ | h1
  · rw [h1]; rfl
  · rw [h1]; exact itemsOf_lits zs

theorem Come.made (w : World) : Come (w.alloc (.map #[] 0)) w.heap.size 0 (fun _ => []) :=
  ⟨_, World.ownsGroups_made w Tryd.prog 3 3 .i64, fun _ _ => rfl⟩

theorem Come.mono {w : World} {b n n' : Nat} {m : Int → List Int} (h : Come w b n m) (hn : n ≤ n') : Come w b n' m := by
  obtain ⟨D, ⟨es, clock, h1, h2, h3, h4, h5, h6, h7⟩, hD⟩ := h
  exact ⟨D, ⟨es, clock, h1, h2, Nat.le_trans h3 hn, h4, h5, fun x hx zs ho => Nat.le_trans (h6 x hx zs ho) hn, h7⟩, hD⟩

theorem Come.isMap {w : World} {k : TypeId} {base : Nat} {e : TypeId} {q : IntKind} {b n : Nat} {D : DataW Unit} (h : w.ownsGroups Tryd.prog k base e q b n D) : IsMap D := by
  obtain ⟨es, clock, h1, h2, h3, h4, _⟩ := h
  exact ⟨_, h4⟩

theorem zero67 (w : World) : (zeroValue 67).run Tryd.prog w = .ok (.slice none 0 0) w := by
  simp [zeroValue, go_sem]
  rfl

theorem litInt_ne {i j : Int} (h : i ≠ j) : Lit.int .i64 i ≠ Lit.int .i64 j := fun e => h (by cases e; rfl)

/-- The way back. -/
def Back (w : World) (b n : Nat) (m : Int → List Int) (i : Int) (v : Value) : Prop :=
  ∀ (w1 : World) (v' : Value) (zs' : List Int), w.grownBy w1 v.ownBlock → w1.ownsInts (b + 1) 3 .i64 v' zs' → zs'.length ≤ n + 1 → (v'.ownBlock = v.ownBlock ∨ ∃ g, v'.ownBlock = some g ∧ w.heap.size ≤ g) →
    ∃ w2, (Instr.mapUpdate 138 (.map (some b)) (.int .i64 i) v').run Tryd.prog w1 = .ok () w2 ∧ Come w2 b (n + 1) (putM i zs' m) ∧ w1.grownBy w2 (some b)

theorem Come.at {w : World} {b n : Nat} {m : Int → List Int} (h : Come w b n m) (hn : n < maxLen) {i : Int} (hi : Key i) :
    ∃ v, (Instr.lookup 138 (.map (some b)) (.int .i64 i) false).run Tryd.prog w = .ok v w ∧ w.ownsInts (b + 1) 3 .i64 v (m i) ∧ (m i).length ≤ n ∧ Back w b n m i v ∧ ∀ No : Nat → Prop, w.Shuns b No → ∀ g, v.ownBlock = some g → ¬ No g := by
  obtain ⟨D, ho, hD⟩ := h
  obtain ⟨v, zs, hrun, hat, hoi, hl, hback⟩ := ho.at (int_keyed Tryd.underlying3) Tryd.underlying138 (zero67 w) hn (keyOf_int_mk Tryd.underlying3 hi)
  have hz : zs = m i := by rw [← hD i hi, hat]; exact (rowDatum_items hoi).symm
  subst hz
  have hsh : ∀ No : Nat → Prop, w.Shuns b No → ∀ g, v.ownBlock = some g → ¬ No g := by
    obtain ⟨es, clock, hb, F, _⟩ := ho
    rcases Maps.fit_look false (int_keyed Tryd.underlying3) Tryd.underlying138 (zero67 w) hb F (keyOf_int_mk Tryd.underlying3 hi) with ⟨hrun', _, _⟩ | ⟨e0, y, hm0, _, hrun', _, _, _⟩
    · rw [hrun] at hrun'
      obtain rfl : v = .slice none 0 0 := by simpa using hrun'
      intro _ _ g hg'
      cases hg'
    · rw [hrun] at hrun'
      obtain rfl : v = e0.val := by simpa using hrun'
      exact fun No hs g hg' => hs es clock hb e0 hm0 g hg'
  refine ⟨v, hrun, hoi, hl, fun w1 v' zs' hg ho' hl' hloc => ?_, hsh⟩
  obtain ⟨w2, hr, ho2, hg2⟩ := hback w1 v' zs' hg ho' hl' hloc
  refine ⟨w2, hr, ⟨_, ho2, fun j hj => ?_⟩, hg2⟩
  unfold putM
  by_cases e : j = i
  · subst e
    rw [if_pos rfl, atKey_put_same (Come.isMap ho) (show WideAt.IsKeyLit (.int .i64 j) from True.intro)]
    exact rowDatum_items ho'
  · rw [if_neg e, atKey_put_other (litInt_ne e)]
    exact hD j hj

theorem ownsInts_blocks {w w' : World} {base : Nat} {v : Value} {zs : List Int} (h : w.ownsInts base 3 .i64 v zs) (hk : ∀ k, base ≤ k → k < w.heap.size → w'.heap[k]? = w.heap[k]?) : w'.ownsInts base 3 .i64 v zs := by
  obtain ⟨⟨h1, h2⟩, h3⟩ := h
  refine ⟨⟨h1, ?_⟩, h3⟩
  rcases h2 with h2 | ⟨g, cap, cur, hv, hg, hh, r⟩
  · exact .inl h2
  · exact .inr ⟨g, cap, cur, hv, hg, (hk g hg (Array.getElem?_eq_some_iff.1 hh).1).trans hh, r⟩

theorem Come.kept {w w' : World} {b n : Nat} {m : Int → List Int} (h : Come w b n m) (hk : ∀ k, b ≤ k → k < w.heap.size → w'.heap[k]? = w.heap[k]?) : Come w' b n m := by
  obtain ⟨D, ⟨es, clock, hb, F, hs, rfl, hbb, hlen, hap⟩, hD⟩ := h
  have hblt : b < w.heap.size := (Array.getElem?_eq_some_iff.1 hb).1
  have hst : ∀ x ∈ es.toList, ∀ z, rowElem (H := Unit) w (b + 1) 3 .i64 x.val = some z → rowElem w' (b + 1) 3 .i64 x.val = some z := fun x hx z hz => by
    obtain ⟨zs, ho, rfl⟩ := rowElem_inv hz
    exact rowElem_mk (ownsInts_blocks ho fun k h1 h2 => hk k (by omega) h2)
  obtain ⟨F1, hmap, _⟩ := F.stay hst
  refine ⟨_, ⟨es, clock, (hk b (Nat.le_refl _) hblt).trans hb, F1, hs, rfl, hbb, fun x hx zs ho => ?_, hap⟩, fun i hi => ?_⟩
  · obtain ⟨y, hy⟩ := F.reads x hx
    obtain ⟨z, hz, _⟩ := rd_val hy
    obtain ⟨zs0, ho0, _⟩ := rowElem_inv hz
    rw [ho.unique (ownsInts_blocks ho0 fun k h1 h2 => hk k (by omega) h2)]
    exact hlen x hx zs0 ho0
  · rw [hmap]; exact hD i hi

theorem Come.drop {w : World} {b n : Nat} {m : Int → List Int} (h : Come w b n m) {i : Int} (hi : Key i) (ty : TypeId) :
    ∃ w', (Builtin.delete_ #[138, 3] ty #[.map (some b), .int .i64 i]).run Tryd.prog w = .ok (.tuple #[]) w' ∧ Come w' b n (putM i [] m) ∧ w.grownBy w' (some b) ∧ ∀ No : Nat → Prop, w.Shuns b No → w'.Shuns b No := by
  obtain ⟨D, ⟨es, clock, hb, F, hs, rfl, hbb, hlen, hap⟩, hD⟩ := h
  obtain ⟨es', hrun, F', hle, hdel, _, hwho⟩ := fit_drop_who (ty := ty) (int_keyed Tryd.underlying3) Tryd.underlying138 hb F (keyOf_int_mk Tryd.underlying3 hi)
  have hg2 : w.grownBy (setBlock w b (.map es' clock)) (some b) := ⟨rfl, rfl, rfl, by simp [setBlock], fun i _ hi => heap_setBlock_other hb _ (fun e1 => hi (by rw [e1]))⟩
  have own_ne : ∀ {u : Value} {ys : List Int}, w.ownsInts (b + 1) 3 .i64 u ys → u.ownBlock = none ∨ u.ownBlock ≠ some b := fun {u ys} ho => by
    cases hu : u.ownBlock with
    | none => exact Or.inl rfl
    | some g =>
      refine Or.inr (fun e1 => ?_)
      have := (ho.1.lt g hu).1
      cases e1
      omega
  have hs2 : ∀ x ∈ es'.toList, ∀ z, rowElem (H := Unit) w (b + 1) 3 .i64 x.val = some z → rowElem (setBlock w b (.map es' clock)) (b + 1) 3 .i64 x.val = some z := by
    intro x _ z hz
    obtain ⟨ys, ho, rfl⟩ := rowElem_inv hz
    exact rowElem_mk (ho.kept hg2 (own_ne ho))
  obtain ⟨F2, hmap2, _⟩ := F'.stay hs2
  refine ⟨_, hrun, ⟨_, ⟨es', clock, heap_setBlock_same hb _, F2, Nat.le_trans hle hs, rfl, hbb, fun x hx zs ho => ?_, fun x hx y hy => hap x ((hwho x).1 hx).1 y ((hwho y).1 hy).1⟩, fun j hj => ?_⟩, hg2, fun No hs es2 clock2 hb2 x hx => ?_⟩
  · have hx0 := ((hwho x).1 hx).1
    obtain ⟨y, hy⟩ := F.reads x hx0
    obtain ⟨z, hz, _⟩ := rd_val hy
    obtain ⟨ys0, ho0, _⟩ := rowElem_inv hz
    rw [ho.unique (ho0.kept hg2 (own_ne ho0))]
    exact hlen x hx0 ys0 ho0
  · rw [hmap2, hdel, ← DataW.del_eq]
    unfold putM
    by_cases e : j = i
    · subst e
      rw [if_pos rfl, atKey_del_same]; rfl
    · rw [if_neg e, atKey_del_other (litInt_ne e)]; exact hD j hj
  · rw [heap_setBlock_same hb] at hb2
    obtain ⟨rfl, rfl⟩ : es' = es2 ∧ clock = clock2 := by simpa using hb2
    exact hs es clock hb x ((hwho x).1 hx).1

theorem Come.shuns {w : World} {b n : Nat} {m : Int → List Int} (h : Come w b n m) : w.Shuns b (fun g => w.heap.size ≤ g) := fun es clock hb x hx g hg hN => by
  obtain ⟨D, ⟨es', clock', hb', F, _⟩, _⟩ := h
  obtain ⟨rfl, rfl⟩ : es' = es ∧ clock' = clock := by rw [hb'] at hb; simpa using hb
  obtain ⟨y, hy⟩ := F.reads x hx
  obtain ⟨z, hz, _⟩ := rd_val hy
  obtain ⟨zs, hoi, _⟩ := rowElem_inv hz
  have := (hoi.1.lt g hg).2
  omega
theorem Shuns_same {w w' : World} {b : Nat} {No : Nat → Prop} (h : w.Shuns b No) (hb : w'.heap[b]? = w.heap[b]?) : w'.Shuns b No := fun es clock h' => h es clock (hb ▸ h')
theorem Come.lt {w : World} {b n : Nat} {m : Int → List Int} (h : Come w b n m) : b < w.heap.size := by
  obtain ⟨D, ⟨es, clock, hb, _⟩, _⟩ := h
  exact (Array.getElem?_eq_some_iff.1 hb).1
theorem Come.isObj {w : World} {b n : Nat} {m : Int → List Int} (h : Come w b n m) : ∃ es clock, w.heap[b]? = some (.map es clock) := by
  obtain ⟨D, ⟨es, clock, hb, _⟩, _⟩ := h
  exact ⟨_, _, hb⟩
end Go.Proofs.YtdeaccbolnlgpaaDoor.X
