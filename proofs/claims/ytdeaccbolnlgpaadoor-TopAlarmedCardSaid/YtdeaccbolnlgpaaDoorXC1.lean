import Derived.Maps.OwnRows
import Derived.Maps.OwnIn
import Derived.Maps.Range
import Derived.Maps.GroupsBeside
import Derived.Maps.Views
import Derived.Test.YtdeaccbolnlgpaaDoorXH4
import Derived.Laws.AppendOwnNone
namespace Go.Proofs.YtdeaccbolnlgpaaDoor.X
open Go.RowKit Go.Shelf Go.Maps Go.ChangeMaps Go.MapKept Go.ChangeShapes
open Go.WideElems (Fit rd rg pl rd_val elemAt)
set_option linter.unusedVariables false
set_option linter.unusedSimpArgs false

/-! # The map 'come': a map of slices of the call's own, told as a function from keys to lists. -/

def litOf : DataW Unit → List Int
  | .lit (.int _ z) => [z]
  | _ => []
def itemsOf : DataW Unit → List Int
  | .slice l _ => l.flatMap litOf
  | _ => []
theorem itemsOf_lits (zs : List Int) : itemsOf (.slice (lits .i64 zs) []) = zs := by
  simp only [itemsOf, lits, List.flatMap_map]
  induction zs with
  | nil => rfl
  | cons z l ih => simp [litOf, ih]

def Key (i : Int) : Prop := (Lit.int .i64 i).wf = true
theorem Key.of {i : Int} (h0 : -9223372036854775808 ≤ i) (h1 : i ≤ 9223372036854775807) : Key i := by
  have e1 : IntKind.i64.min = -9223372036854775808 := by decide
  have e2 : IntKind.i64.max = 9223372036854775807 := by decide
  simp [Key, Lit.wf, e1, e2] <;> omega

def putM (i : Int) (l : List Int) (m : Int → List Int) : Int → List Int := fun j => if j = i then l else m j

def Come (w : World) (b n : Nat) (m : Int → List Int) : Prop :=
  ∃ D : DataW Unit, w.ownsGroups Tryd.prog 3 (b + 1) 3 .i64 b n D ∧ ∀ i, Key i → itemsOf (D.atKey (.int .i64 i) .nil) = m i

/-- What a slice value of the call's own owns. -/
def OwnI (w : World) (base : Nat) (v : Value) (zs : List Int) : Prop := w.ownsInts base 3 .i64 v zs

theorem rowDatum_items {w : World} {base : Nat} {v : Value} {zs : List Int} (h : w.ownsInts base 3 .i64 v zs) : itemsOf (rowDatum .i64 v zs) = zs := by
  rcases h.datum (H := Unit) with ⟨h1, rfl⟩ | h1
  · rw [h1]; rfl
  · rw [h1]; exact itemsOf_lits zs

theorem Come.made (w : World) : Come (w.alloc (.map #[] 0)) w.heap.size 0 (fun _ => []) :=
  ⟨_, World.ownsGroups_made w Tryd.prog 3 3 .i64, fun _ _ => rfl⟩

theorem Come.mono {w : World} {b n n' : Nat} {m : Int → List Int} (h : Come w b n m) (hn : n ≤ n') : Come w b n' m := by
  obtain ⟨D, ⟨es, clock, h1, h2, h3, h4, h5, h6, h7⟩, hD⟩ := h
  exact ⟨D, ⟨es, clock, h1, h2, Nat.le_trans h3 hn, h4, h5, fun x hx zs ho => Nat.le_trans (h6 x hx zs ho) hn, h7⟩, hD⟩

theorem Come.isMap {w : World} {k : TypeId} {base : Nat} {e : TypeId} {q : IntKind} {b n : Nat} {D : DataW Unit} (h : w.ownsGroups Tryd.prog k base e q b n D) : IsMap D := by
  obtain ⟨es, clock, h1, h2, h3, h4, _⟩ := h
  exact ⟨_, h4⟩

theorem zero67 (w : World) : (zeroValue 67).run Tryd.prog w = .ok (.slice none 0 0) w := by
  simp [zeroValue, go_sem]
  rfl

theorem litInt_ne {i j : Int} (h : i ≠ j) : Lit.int .i64 i ≠ Lit.int .i64 j := fun e => h (by cases e; rfl)

/-- The way back. -/
def Back (w : World) (b n : Nat) (m : Int → List Int) (i : Int) (v : Value) : Prop :=
  ∀ (w1 : World) (v' : Value) (zs' : List Int), w.grownBy w1 v.ownBlock → w1.ownsInts (b + 1) 3 .i64 v' zs' → zs'.length ≤ n + 1 → (v'.ownBlock = v.ownBlock ∨ ∃ g, v'.ownBlock = some g ∧ w.heap.size ≤ g) →
    ∃ w2, (Instr.mapUpdate 138 (.map (some b)) (.int .i64 i) v').run Tryd.prog w1 = .ok () w2 ∧ Come w2 b (n + 1) (putM i zs' m) ∧ w1.grownBy w2 (some b)

theorem Come.at {w : World} {b n : Nat} {m : Int → List Int} (h : Come w b n m) (hn : n < maxLen) {i : Int} (hi : Key i) :
    ∃ v, (Instr.lookup 138 (.map (some b)) (.int .i64 i) false).run Tryd.prog w = .ok v w ∧ w.ownsInts (b + 1) 3 .i64 v (m i) ∧ (m i).length ≤ n ∧ Back w b n m i v ∧ ∀ No : Nat → Prop, w.Shuns b No → ∀ g, v.ownBlock = some g → ¬ No g := by
  obtain ⟨D, ho, hD⟩ := h
  obtain ⟨v, zs, hrun, hat, hoi, hl, hback⟩ := ho.at (int_keyed Tryd.underlying3) Tryd.underlying138 (zero67 w) hn (keyOf_int_mk Tryd.underlying3 hi)
  have hz : zs = m i := by rw [← hD i hi, hat]; exact (rowDatum_items hoi).symm
  subst hz
  have hsh : ∀ No : Nat → Prop, w.Shuns b No → ∀ g, v.ownBlock = some g → ¬ No g := by
    obtain ⟨es, clock, hb, F, _⟩ := ho
    rcases Maps.fit_look false (int_keyed Tryd.underlying3) Tryd.underlying138 (zero67 w) hb F (keyOf_int_mk Tryd.underlying3 hi) with ⟨hrun', _, _⟩ | ⟨e0, y, hm0, _, hrun', _, _, _⟩
    · rw [hrun] at hrun'
      obtain rfl : v = .slice none 0 0 := by simpa using hrun'
      intro _ _ g hg'
      cases hg'
    · rw [hrun] at hrun'
      obtain rfl : v = e0.val := by simpa using hrun'
      exact fun No hs g hg' => hs es clock hb e0 hm0 g hg'
  refine ⟨v, hrun, hoi, hl, fun w1 v' zs' hg ho' hl' hloc => ?_, hsh⟩
  obtain ⟨w2, hr, ho2, hg2⟩ := hback w1 v' zs' hg ho' hl' hloc
  refine ⟨w2, hr, ⟨_, ho2, fun j hj => ?_⟩, hg2⟩
  unfold putM
  by_cases e : j = i
  · subst e
    rw [if_pos rfl, atKey_put_same (Come.isMap ho) (show WideAt.IsKeyLit (.int .i64 j) from True.intro)]
    exact rowDatum_items ho'
  · rw [if_neg e, atKey_put_other (litInt_ne e)]
    exact hD j hj

theorem ownsInts_blocks {w w' : World} {base : Nat} {v : Value} {zs : List Int} (h : w.ownsInts base 3 .i64 v zs) (hk : ∀ k, base ≤ k → k < w.heap.size → w'.heap[k]? = w.heap[k]?) : w'.ownsInts base 3 .i64 v zs := by
  obtain ⟨⟨h1, h2⟩, h3⟩ := h
  refine ⟨⟨h1, ?_⟩, h3⟩
  rcases h2 with h2 | ⟨g, cap, cur, hv, hg, hh, r⟩
  · exact .inl h2
  · exact .inr ⟨g, cap, cur, hv, hg, (hk g hg (Array.getElem?_eq_some_iff.1 hh).1).trans hh, r⟩

theorem Come.kept {w w' : World} {b n : Nat} {m : Int → List Int} (h : Come w b n m) (hk : ∀ k, b ≤ k → k < w.heap.size → w'.heap[k]? = w.heap[k]?) : Come w' b n m := by
  obtain ⟨D, ⟨es, clock, hb, F, hs, rfl, hbb, hlen, hap⟩, hD⟩ := h
  have hblt : b < w.heap.size := (Array.getElem?_eq_some_iff.1 hb).1
  have hst : ∀ x ∈ es.toList, ∀ z, rowElem (H := Unit) w (b + 1) 3 .i64 x.val = some z → rowElem w' (b + 1) 3 .i64 x.val = some z := fun x hx z hz => by
    obtain ⟨zs, ho, rfl⟩ := rowElem_inv hz
    exact rowElem_mk (ownsInts_blocks ho fun k h1 h2 => hk k (by omega) h2)
  obtain ⟨F1, hmap, _⟩ := F.stay hst
  refine ⟨_, ⟨es, clock, (hk b (Nat.le_refl _) hblt).trans hb, F1, hs, rfl, hbb, fun x hx zs ho => ?_, hap⟩, fun i hi => ?_⟩
  · obtain ⟨y, hy⟩ := F.reads x hx
    obtain ⟨z, hz, _⟩ := rd_val hy
    obtain ⟨zs0, ho0, _⟩ := rowElem_inv hz
    rw [ho.unique (ownsInts_blocks ho0 fun k h1 h2 => hk k (by omega) h2)]
    exact hlen x hx zs0 ho0
  · rw [hmap]; exact hD i hi

theorem Come.drop {w : World} {b n : Nat} {m : Int → List Int} (h : Come w b n m) {i : Int} (hi : Key i) (ty : TypeId) :
    ∃ w', (Builtin.delete_ #[138, 3] ty #[.map (some b), .int .i64 i]).run Tryd.prog w = .ok (.tuple #[]) w' ∧ Come w' b n (putM i [] m) ∧ w.grownBy w' (some b) ∧ ∀ No : Nat → Prop, w.Shuns b No → w'.Shuns b No := by
  obtain ⟨D, ⟨es, clock, hb, F, hs, rfl, hbb, hlen, hap⟩, hD⟩ := h
  obtain ⟨es', hrun, F', hle, hdel, _, hwho⟩ := fit_drop_who (ty := ty) (int_keyed Tryd.underlying3) Tryd.underlying138 hb F (keyOf_int_mk Tryd.underlying3 hi)
  have hg2 : w.grownBy (setBlock w b (.map es' clock)) (some b) := ⟨rfl, rfl, rfl, by simp [setBlock], fun i _ hi => heap_setBlock_other hb _ (fun e1 => hi (by rw [e1]))⟩
  have own_ne : ∀ {u : Value} {ys : List Int}, w.ownsInts (b + 1) 3 .i64 u ys → u.ownBlock = none ∨ u.ownBlock ≠ some b := fun {u ys} ho => by
    cases hu : u.ownBlock with
    | none => exact Or.inl rfl
    | some g =>
      refine Or.inr (fun e1 => ?_)
      have := (ho.1.lt g hu).1
      cases e1
      omega
  have hs2 : ∀ x ∈ es'.toList, ∀ z, rowElem (H := Unit) w (b + 1) 3 .i64 x.val = some z → rowElem (setBlock w b (.map es' clock)) (b + 1) 3 .i64 x.val = some z := by
    intro x _ z hz
    obtain ⟨ys, ho, rfl⟩ := rowElem_inv hz
    exact rowElem_mk (ho.kept hg2 (own_ne ho))
  obtain ⟨F2, hmap2, _⟩ := F'.stay hs2
  refine ⟨_, hrun, ⟨_, ⟨es', clock, heap_setBlock_same hb _, F2, Nat.le_trans hle hs, rfl, hbb, fun x hx zs ho => ?_, fun x hx y hy => hap x ((hwho x).1 hx).1 y ((hwho y).1 hy).1⟩, fun j hj => ?_⟩, hg2, fun No hs es2 clock2 hb2 x hx => ?_⟩
  · have hx0 := ((hwho x).1 hx).1
    obtain ⟨y, hy⟩ := F.reads x hx0
    obtain ⟨z, hz, _⟩ := rd_val hy
    obtain ⟨ys0, ho0, _⟩ := rowElem_inv hz
    rw [ho.unique (ho0.kept hg2 (own_ne ho0))]
    exact hlen x hx0 ys0 ho0
  · rw [hmap2, hdel, ← DataW.del_eq]
    unfold putM
    by_cases e : j = i
    · subst e
      rw [if_pos rfl, atKey_del_same]; rfl
    · rw [if_neg e, atKey_del_other (litInt_ne e)]; exact hD j hj
  · rw [heap_setBlock_same hb] at hb2
    obtain ⟨rfl, rfl⟩ : es' = es2 ∧ clock = clock2 := by simpa using hb2
    exact hs es clock hb x ((hwho x).1 hx).1

theorem Come.shuns {w : World} {b n : Nat} {m : Int → List Int} (h : Come w b n m) : w.Shuns b (fun g => w.heap.size ≤ g) := fun es clock hb x hx g hg hN => by
  obtain ⟨D, ⟨es', clock', hb', F, _⟩, _⟩ := h
  obtain ⟨rfl, rfl⟩ : es' = es ∧ clock' = clock := by rw [hb'] at hb; simpa using hb
  obtain ⟨y, hy⟩ := F.reads x hx
  obtain ⟨z, hz, _⟩ := rd_val hy
  obtain ⟨zs, hoi, _⟩ := rowElem_inv hz
  have := (hoi.1.lt g hg).2
  omega
theorem Shuns_same {w w' : World} {b : Nat} {No : Nat → Prop} (h : w.Shuns b No) (hb : w'.heap[b]? = w.heap[b]?) : w'.Shuns b No := fun es clock h' => h es clock (hb ▸ h')
theorem Come.lt {w : World} {b n : Nat} {m : Int → List Int} (h : Come w b n m) : b < w.heap.size := by
  obtain ⟨D, ⟨es, clock, hb, _⟩, _⟩ := h
  exact (Array.getElem?_eq_some_iff.1 hb).1
theorem Come.isObj {w : World} {b n : Nat} {m : Int → List Int} (h : Come w b n m) : ∃ es clock, w.heap[b]? = some (.map es clock) := by
  obtain ⟨D, ⟨es, clock, hb, _⟩, _⟩ := h
  exact ⟨_, _, hb⟩
end Go.Proofs.YtdeaccbolnlgpaaDoor.X

namespace Go.Proofs.YtdeaccbolnlgpaaDoor.X
open Go.RowKit Go.Shelf
set_option linter.unusedVariables false
set_option linter.unusedSimpArgs false

/-! # What an iterator may turn, and what the body of a loop may turn -/

/-- The iterator exits.stairs$1 turns maps and rows of int alone. -/
def keepO : Obj → Bool
  | .map .. => false
  | .cells _ t _ => t != 3
  | _ => true

structure Mv (B : Nat) (W W' : World) : Prop where
  below : Below B W W'
  other : ∀ k o, B ≤ k → W.heap[k]? = some o → keepO o = true → W'.heap[k]? = some o

theorem Mv.refl (B : Nat) (W : World) : Mv B W W := ⟨Below.refl _ _, fun _ _ _ h _ => h⟩
theorem Mv.trans {B : Nat} {a b c : World} (h : Mv B a b) (h' : Mv B b c) : Mv B a c :=
  ⟨h.below.trans h'.below, fun k o hk ho hc => h'.other k o hk (h.other k o hk ho hc) hc⟩
theorem Mv.of_below {B : Nat} {a b : World} (h : Below a.heap.size a b) (hB : B ≤ a.heap.size) : Mv B a b :=
  ⟨h.mono hB, fun k o _ ho _ => (h.block k (Array.getElem?_eq_some_iff.1 ho).1).trans ho⟩
theorem Mv.of_grown {B : Nat} {a b : World} {row : Option Nat} (h : a.grownBy b row) (hB : B ≤ a.heap.size) (hr : ∀ r, row = some r → B ≤ r ∧ ∃ o, a.heap[r]? = some o ∧ keepO o = false) : Mv B a b := by
  refine ⟨(Below.refl _ _).grown h hB (fun j hj => (hr j hj).1), fun k o hk ho hc => ?_⟩
  refine (h.block k (Array.getElem?_eq_some_iff.1 ho).1 (fun e => ?_)).trans ho
  obtain ⟨_, o', ho', hc'⟩ := hr k e.symm
  rw [ho] at ho'; cases ho'; rw [hc] at hc'; cases hc'

/-- What the body of a loop over the iterator keeps: whatever lay below n₀; the blocks bh and be; and all from B on. -/
structure Rd (n₀ bh be B : Nat) (W W' : World) : Prop where
  below : Below n₀ W W'
  other : ∀ k, (k = bh ∨ k = be ∨ B ≤ k) → k < W.heap.size → W'.heap[k]? = W.heap[k]?

theorem Rd.of_below {n₀ bh be B : Nat} {a b : World} (h : Below a.heap.size a b) (hn : n₀ ≤ a.heap.size) : Rd n₀ bh be B a b :=
  ⟨h.mono hn, fun k _ hk => h.block k hk⟩
theorem Rd.trans {n₀ bh be B : Nat} {a b c : World} (h : Rd n₀ bh be B a b) (h' : Rd n₀ bh be B b c) : Rd n₀ bh be B a c :=
  ⟨h.below.trans h'.below, fun k hk hl => (h'.other k hk (Nat.lt_of_lt_of_le hl h.below.size)).trans (h.other k hk hl)⟩

theorem cell_of_block {W W' : World} {k o : Nat} (h : W'.heap[k]? = W.heap[k]?) : W'.cell? ⟨k, o, none⟩ = W.cell? ⟨k, o, none⟩ := by
  simp [World.cell?, h]
theorem Rd.cell {n₀ bh be B : Nat} {a b : World} (h : Rd n₀ bh be B a b) {k o : Nat} (hk : k = bh ∨ k = be) {v : Value} (hc : a.cell? ⟨k, o, none⟩ = some v) : b.cell? ⟨k, o, none⟩ = some v :=
  (cell_of_block (h.other k (by omega) (World.block_lt_of_cell? a _ hc))).trans hc

theorem one_key {es : Array MapEntry} (hp : es.toList.Pairwise (fun x y => x.key ≠ y.key)) {x y : MapEntry} (hx : x ∈ es.toList) (hy : y ∈ es.toList) (h : x.key = y.key) : x = y := by
  obtain ⟨i, hi, rfl⟩ := List.getElem_of_mem hx
  obtain ⟨j, hj, rfl⟩ := List.getElem_of_mem hy
  rw [List.pairwise_iff_getElem] at hp
  rcases Nat.lt_trichotomy i j with hlt | rfl | hlt
  · exact absurd h (hp i j hi hj hlt)
  · rfl
  · exact absurd h.symm (hp j i hj hi hlt)

open Go.Maps Go.WideElems in
/-- The look-up yields the same in every world in which the map and its rows lie as they lay. -/
theorem Come.look {w w' : World} {b n : Nat} {m : Int → List Int} (h : Come w b n m) (hk : w'.heap[b]? = w.heap[b]?) {i : Int} (hi : Key i) {v : Value}
    (hl : (Instr.lookup 138 (.map (some b)) (.int .i64 i) false).run Tryd.prog w = .ok v w) : (Instr.lookup 138 (.map (some b)) (.int .i64 i) false).run Tryd.prog w' = .ok v w' := by
  obtain ⟨D, ⟨es, clock, hb, F, hs, rfl, hbb, hlen, hap⟩, hD⟩ := h
  have hkey := keyOf_int_mk Tryd.underlying3 hi
  have F0 : Fit Tryd.prog 3 (fun _ => some ((.nil : DataW Unit), ([] : List MemPlace))) es clock := ⟨F.size, F.stamped, fun x hx => by
    obtain ⟨y, hy⟩ := F.reads x hx
    exact ⟨(y.1, .nil), by simp [rd, rd_key hy]⟩⟩
  have hp : es.toList.Pairwise (fun x y => x.key ≠ y.key) := ((MapKept.stamped_iff es clock).1 F.stamped).2.2
  rcases Maps.fit_look false (int_keyed Tryd.underlying3) Tryd.underlying138 (zero67 w) hb F0 hkey with ⟨hrun, h1, _⟩ | ⟨e0, y, hm0, hk0, hrun, _⟩ <;>
  rcases Maps.fit_look false (int_keyed Tryd.underlying3) Tryd.underlying138 (zero67 w') (hk.trans hb) F0 hkey with ⟨hrun', h1', _⟩ | ⟨e0', y', hm0', hk0', hrun', _⟩
  · rw [hl] at hrun; cases hrun; exact hrun'
  · exact absurd hk0' (h1 e0' hm0')
  · exact absurd hk0 (h1' e0 hm0)
  · rw [hl] at hrun
    obtain rfl : v = e0.val := by simpa using hrun
    rw [one_key hp hm0 hm0' (hk0.trans hk0'.symm)]
    exact hrun'

/-- append onto a row of the call's own, as one step of a region that draws. -/
theorem step_app {P : Program} {ops : Array Oper} {o : Oper} {a : Act} {w : World} {K : Act → World → Prop} {Q : Exit → Act → World → Prop} {E : Prop}
    (hg : o.guard = none) (s x : Operand) (hop : o.op = Op.call { callee := Callee.builtin Builtin.append, args := #[s, x], argTypes := #[67, 67] })
    (i : TypeInfo) (hu : P.underlying 67 = some (.slice 3)) (hi : P.info? 3 = some i) (hz0 : i.zero = some (.int .i64 0)) (hz1 : i.size = 1) (hz2 : i.bytes = 8)
    (base : Nat) (v : Value) (zs : List Int) (hs : a.eval s = v) (hown : w.ownsInts base 3 .i64 v zs)
    (ad : Option Addr) (c : Nat) (ys : List Int) (hx : a.eval x = .slice ad ys.length c)
    (hnews : w.ownsInts 0 3 .i64 (.slice ad ys.length c) ys)
    (hlen : zs.length + ys.length ≤ 100000) (hbase : base ≤ w.heap.size)
    (h : ∀ v' w', w'.ownsInts base 3 .i64 v' (zs ++ ys) → w.grownBy w' v.ownBlock → (v'.ownBlock = v.ownBlock ∨ v'.ownBlock = some w.heap.size) → K (a.put o.dst v') w') :
    if Region.wanted o (yielded ops a.tmps) = true then Oper.wp P o a w K Q else E := by
  have hw : Region.wanted o (yielded ops a.tmps) = true := by simp [Region.wanted, hg]
  rw [if_pos hw]
  have hwf : ∀ z ∈ zs ++ ys, (Lit.int .i64 z).wf = true := fun z hz => (List.mem_append.1 hz).elim (hown.2 z) (hnews.2 z)
  have hmx : (100000 : Nat) ≤ maxLen := by unfold maxLen; omega
  rcases hnews.1.2 with ⟨hv, h0⟩ | ⟨g, cap, cur, hv, hbg, hgb, hnc, hcm, hcs, htake⟩
  · have hy : ys = [] := List.eq_nil_of_length_eq_zero h0
    subst hy
    cases hv
    rw [List.append_nil] at h
    have hrun : (Builtin.append_ #[67, 67] o.type #[v, .slice none 0 0]).run P w = .ok v w :=
      run_append_owned_none (P := P) (w := w) base 67 o.type 3 i 1 hu hi v zs.length _ hown.1
    unfold Oper.wp
    simp only [List.length_nil] at hx
    simp [execOp, hop, resolve, invoke, builtin, hs, hx, hrun, Result.andThen]
    exact h _ _ hown (World.grownBy.refl _ _) (.inl rfl)
  · simp only [Value.slice.injEq] at hv
    obtain ⟨rfl, _, rfl⟩ := hv
    have hcell : ∀ j u, (ys.map (Value.int .i64))[j]? = some u → w.cell? ((⟨g, 0, none⟩ : Addr).add j) = some u := hnews.1.cells (g := g) rfl
    obtain ⟨v', w', hr, h2, h3, h4, h5⟩ := run_append_own_at (P := P) w base 67 o.type 3 i (.int .i64 0) 1 8 hu hi hz0 hz1 hz2 rfl (by decide) v zs.length _ hown.1 ⟨g, 0, none⟩ ys.length c (ys.map (Value.int .i64)) (by simp) hcell (by simp [Value.oneCell']) (by omega) (by omega) hbase
    unfold Oper.wp
    simp [execOp, hop, resolve, invoke, builtin, hs, hx, hr, Result.andThen]
    exact h _ _ ⟨by simpa using h2, hwf⟩ h3 h5

theorem grown_of_below {a b : World} (h : Below a.heap.size a b) (row : Option Nat) : a.grownBy b row := ⟨h.os, h.tape, h.output, h.size, fun i hi _ => h.block i hi⟩
theorem own_keepO {w : World} {base : Nat} {v : Value} {zs : List Int} (h : w.ownsInts base 3 .i64 v zs) : ∀ r, v.ownBlock = some r → base ≤ r ∧ ∃ o, w.heap[r]? = some o ∧ keepO o = false := fun r hr => by
  rcases h.1.2 with ⟨rfl, _⟩ | ⟨g, cap, cur, rfl, hb, hgb, _⟩
  · cases hr
  · simp only [Value.ownBlock, Option.some.injEq] at hr; subst hr; exact ⟨hb, _, hgb, rfl⟩
theorem own_ne_other {w : World} {base : Nat} {v : Value} {zs : List Int} (h : w.ownsInts base 3 .i64 v zs) {k : Nat} {o : Obj} (hk : w.heap[k]? = some o) (ho : keepO o = true) : some k ≠ v.ownBlock := fun e => by
  obtain ⟨_, o', ho', hf⟩ := own_keepO h k e.symm
  rw [hk] at ho'; cases ho'; rw [ho] at hf; cases hf

/-- BEHIND AN append ONTO A GROUP AND ITS STORE: what has moved. -/
theorem put_moves {W0 Wa w2 w3 : World} {B n : Nat} {m : Int → List Int} {v : Value} {zs : List Int} (hC : Come W0 B n m) (how : W0.ownsInts (B + 1) 3 .i64 v zs) (hD : Below W0.heap.size W0 Wa)
    (hg2 : Wa.grownBy w2 v.ownBlock) (hg3 : w2.grownBy w3 (some B)) :
    Mv B W0 w3 ∧ ∀ k, k < W0.heap.size → k ≠ B → some k ≠ v.ownBlock → w3.heap[k]? = W0.heap[k]? := by
  have hlt := hC.lt
  obtain ⟨es, clock, hb⟩ := hC.isObj
  have hnb : some B ≠ v.ownBlock := fun e => by have := (how.1.lt B e.symm).1; omega
  have hba : Wa.heap[B]? = some (.map es clock) := (hD.block B hlt).trans hb
  have hlta : B < Wa.heap.size := Nat.lt_of_lt_of_le hlt hD.size
  have hb2 : w2.heap[B]? = some (.map es clock) := (hg2.block B hlta hnb).trans hba
  have howa : Wa.ownsInts (B + 1) 3 .i64 v zs := ownsInts_blocks how fun k _ hk => hD.block k hk
  refine ⟨(Mv.of_below hD (by omega)).trans ((Mv.of_grown hg2 (by omega) fun r hr => ?_).trans (Mv.of_grown hg3 (by have := hg2.size; omega) fun r hr => ?_)), fun k hk hkB hkv => ?_⟩
  · obtain ⟨h1, h2⟩ := own_keepO howa r hr
    exact ⟨by omega, h2⟩
  · cases hr
    exact ⟨Nat.le_refl _, _, hb2, rfl⟩
  · rw [hg3.block k (by have := hD.size; have := hg2.size; omega) (fun e => hkB (by cases e; rfl)), hg2.block k (by have := hD.size; omega) hkv, hD.block k hk]

theorem S11_keep {A B : World} {x y z : Nat} {v1 v2 v3 v4 v5 v6 v7 v8 v9 v10 v11 : Value} (hR : ∀ k, (k = x ∨ k = y ∨ k = z) → k < A.heap.size → B.heap[k]? = A.heap[k]?)
    (h : A.cell? ⟨x, 0, none⟩ = some v1 ∧ A.cell? ⟨x, 1, none⟩ = some v2 ∧ A.cell? ⟨x, 2, none⟩ = some v3 ∧ A.cell? ⟨y, 0, none⟩ = some v4 ∧ A.cell? ⟨y, 1, none⟩ = some v5 ∧ A.cell? ⟨y, 2, none⟩ = some v6 ∧
      A.cell? ⟨z, 0, none⟩ = some v7 ∧ A.cell? ⟨z, 1, none⟩ = some v8 ∧ A.cell? ⟨z, 2, none⟩ = some v9 ∧ A.cell? ⟨z, 3, none⟩ = some v10 ∧ A.cell? ⟨z, 4, none⟩ = some v11) :
    B.cell? ⟨x, 0, none⟩ = some v1 ∧ B.cell? ⟨x, 1, none⟩ = some v2 ∧ B.cell? ⟨x, 2, none⟩ = some v3 ∧ B.cell? ⟨y, 0, none⟩ = some v4 ∧ B.cell? ⟨y, 1, none⟩ = some v5 ∧ B.cell? ⟨y, 2, none⟩ = some v6 ∧
      B.cell? ⟨z, 0, none⟩ = some v7 ∧ B.cell? ⟨z, 1, none⟩ = some v8 ∧ B.cell? ⟨z, 2, none⟩ = some v9 ∧ B.cell? ⟨z, 3, none⟩ = some v10 ∧ B.cell? ⟨z, 4, none⟩ = some v11 := by
  have key : ∀ k o v, (k = x ∨ k = y ∨ k = z) → A.cell? ⟨k, o, none⟩ = some v → B.cell? ⟨k, o, none⟩ = some v := fun k o v hk hc => (cell_of_block (hR k hk (World.block_lt_of_cell? A _ hc))).trans hc
  obtain ⟨h1, h2, h3, h4, h5, h6, h7, h8, h9, h10, h11⟩ := h
  exact ⟨key _ _ _ (.inl rfl) h1, key _ _ _ (.inl rfl) h2, key _ _ _ (.inl rfl) h3, key _ _ _ (.inr (.inl rfl)) h4, key _ _ _ (.inr (.inl rfl)) h5, key _ _ _ (.inr (.inl rfl)) h6,
    key _ _ _ (.inr (.inr rfl)) h7, key _ _ _ (.inr (.inr rfl)) h8, key _ _ _ (.inr (.inr rfl)) h9, key _ _ _ (.inr (.inr rfl)) h10, key _ _ _ (.inr (.inr rfl)) h11⟩
theorem S5_keep {A B : World} {a1 a2 a3 a4 a5 : Addr} {v1 v2 v3 v4 v5 : Value} (hR : ∀ k, k < A.heap.size → B.heap[k]? = A.heap[k]?)
    (h : A.cell? a1 = some v1 ∧ A.cell? a2 = some v2 ∧ A.cell? a3 = some v3 ∧ A.cell? a4 = some v4 ∧ A.cell? a5 = some v5) :
    B.cell? a1 = some v1 ∧ B.cell? a2 = some v2 ∧ B.cell? a3 = some v3 ∧ B.cell? a4 = some v4 ∧ B.cell? a5 = some v5 := by
  have key : ∀ (a : Addr) v, A.cell? a = some v → B.cell? a = some v := fun a v hc => by
    have := hR a.block (World.block_lt_of_cell? A _ hc)
    unfold World.cell? at hc ⊢
    rw [this]; exact hc
  obtain ⟨h1, h2, h3, h4, h5⟩ := h
  exact ⟨key _ _ h1, key _ _ h2, key _ _ h3, key _ _ h4, key _ _ h5⟩
theorem one_own {W : World} {t : Int} (hk : Key t) : (W.alloc (.cells #[.int .i64 t] 3)).ownsInts 0 3 .i64 (.slice (some ⟨W.heap.size, 0, none⟩) 1 1) [t] :=
  ⟨⟨rfl, .inr ⟨W.heap.size, 1, #[.int .i64 t], rfl, Nat.zero_le _, World.alloc_heap_new _ _, Nat.le_refl _, by unfold maxLen; omega, rfl, rfl⟩⟩, fun z hz => by rw [List.mem_singleton] at hz; subst hz; exact hk⟩

theorem own_slice {w : World} {base : Nat} {v : Value} {zs : List Int} (h : w.ownsInts base 3 .i64 v zs) : ∃ a cap, v = .slice a zs.length cap := by
  rcases h.1.2 with ⟨rfl, h0⟩ | ⟨g, cap, cur, rfl, _⟩
  · exact ⟨none, 0, by rw [h0]⟩
  · exact ⟨_, _, rfl⟩
theorem add0 (g j : Nat) : (⟨g, 0, none⟩ : Addr).add j = ⟨g, j, none⟩ := by
  unfold Addr.add
  split
  · rename_i h; simp_all
  · simp
theorem own_vals {w : World} {base : Nat} {v : Value} {zs : List Int} (h : w.ownsInts base 3 .i64 v zs) : vals_Ints w.heap.size w v zs := by
  rcases h.1.2 with ⟨rfl, h0⟩ | ⟨g, cap, cur, rfl, hb, hgb, _⟩
  · exact .inl ⟨rfl, List.eq_nil_of_length_eq_zero h0⟩
  · refine .inr ⟨g, 0, cap, rfl, (Array.getElem?_eq_some_iff.1 hgb).1, fun j hj => ?_⟩
    have := h.1.cells (g := g) rfl j (.int .i64 (zs[j]?.getD 0)) (by simp [hj])
    rw [add0] at this
    simpa using this
theorem own_low {w : World} {base base' : Nat} {v : Value} {zs : List Int} (h : w.ownsInts base 3 .i64 v zs) (hb : base' ≤ base) : w.ownsInts base' 3 .i64 v zs := by
  obtain ⟨⟨h1, h2⟩, h3⟩ := h
  exact ⟨⟨h1, h2.imp id fun ⟨g, cap, cur, hv, hg, r⟩ => ⟨g, cap, cur, hv, Nat.le_trans hb hg, r⟩⟩, h3⟩
theorem own_cell {w : World} {base : Nat} {a : Option Addr} {n cap : Nat} {zs : List Int} (h : w.ownsInts base 3 .i64 (.slice a n cap) zs) {k : Nat} (hk : k < zs.length) :
    ∃ g, a = some ⟨g, 0, none⟩ ∧ n = zs.length ∧ n ≤ cap ∧ base ≤ g ∧ g < w.heap.size ∧ w.cell? ⟨g, k, none⟩ = some (.int .i64 zs[k]) := by
  rcases h.1.2 with ⟨hv, h0⟩ | ⟨g, cap', cur, hv, hb, hgb, hnc, _⟩
  · omega
  · simp only [Value.slice.injEq] at hv
    obtain ⟨rfl, rfl, rfl⟩ := hv
    refine ⟨g, rfl, rfl, hnc, hb, (Array.getElem?_eq_some_iff.1 hgb).1, ?_⟩
    have := h.1.cells (g := g) rfl k (.int .i64 zs[k]) (by simp [hk])
    rw [add0] at this
    exact this

/-- .. in a region that does not draw. -/
theorem wpl_app {P : Program} {ops : Array Oper} {rest : List Oper} {o : Oper} {a : Act} {w : World} {Q : Exit → Act → World → Prop}
    (hg : o.guard = none) (s x : Operand) (hop : o.op = Op.call { callee := Callee.builtin Builtin.append, args := #[s, x], argTypes := #[67, 67] })
    (i : TypeInfo) (hu : P.underlying 67 = some (.slice 3)) (hi : P.info? 3 = some i) (hz0 : i.zero = some (.int .i64 0)) (hz1 : i.size = 1) (hz2 : i.bytes = 8)
    (base : Nat) (v : Value) (zs : List Int) (hs : a.eval s = v) (hown : w.ownsInts base 3 .i64 v zs)
    (ad : Option Addr) (c : Nat) (ys : List Int) (hx : a.eval x = .slice ad ys.length c)
    (hnews : w.ownsInts 0 3 .i64 (.slice ad ys.length c) ys)
    (hlen : zs.length + ys.length ≤ 100000) (hbase : base ≤ w.heap.size)
    (h : ∀ v' w', w'.ownsInts base 3 .i64 v' (zs ++ ys) → w.grownBy w' v.ownBlock → (v'.ownBlock = v.ownBlock ∨ v'.ownBlock = some w.heap.size) → wpList P ops Q rest (a.put o.dst v') w') :
    wpList P ops Q (o :: rest) a w := by
  refine wpList_plain hg fun K hK => ?_
  have := step_app (ops := ops) (w := w) (K := K) (Q := Q) (E := True) hg s x hop i hu hi hz0 hz1 hz2 base v zs hs hown ad c ys hx hnews hlen hbase (fun v' w' h1 h2 h3 => hK _ _ (h v' w' h1 h2 h3))
  rwa [if_pos (by simp [Region.wanted, hg])] at this
/-- delete(come, i). -/
theorem wpl_del {ops : Array Oper} {rest : List Oper} {o : Oper} {a : Act} {w : World} {Q : Exit → Act → World → Prop}
    (hg : o.guard = none) (m x : Operand) (hop : o.op = Op.call { callee := Callee.builtin Builtin.delete, args := #[m, x], argTypes := #[138, 3] })
    {b n : Nat} {f : Int → List Int} {i : Int} (hC : Come w b n f) (hi : Key i) (hm : a.eval m = .map (some b)) (hx : a.eval x = .int .i64 i)
    (h : ∀ w', Come w' b n (putM i [] f) → w.grownBy w' (some b) → (∀ No : Nat → Prop, w.Shuns b No → w'.Shuns b No) → wpList Tryd.prog ops Q rest (a.put o.dst (.tuple #[])) w') :
    wpList Tryd.prog ops Q (o :: rest) a w := by
  refine wpList_plain hg fun K hK => ?_
  obtain ⟨w', hrun, h1, h2, h3⟩ := hC.drop hi o.type
  unfold Oper.wp
  simp [execOp, hop, resolve, invoke, builtin, hm, hx, hrun, Result.andThen]
  exact hK _ _ (h w' h1 h2 h3)

/-! # The model of the flow -/

/-- One more at a stair: who leaves after whom. -/
def flowStep (wk gap : Int) (acc : List Int) (t : Int) : List Int :=
  acc ++ [(match acc.getLast? with | none => t | some p => max t (p - wk + gap)) + wk]
def flowL (wk gap : Int) (ts : List Int) : List Int := ts.foldl (flowStep wk gap) []
theorem flowFold_length (wk gap : Int) : ∀ (ts acc : List Int), (ts.foldl (flowStep wk gap) acc).length = acc.length + ts.length
  | [], acc => by simp
  | t :: ts, acc => by rw [List.foldl_cons, flowFold_length wk gap ts]; simp [flowStep]; omega
theorem flowL_length (wk gap : Int) (ts : List Int) : (flowL wk gap ts).length = ts.length := by simp [flowL, flowFold_length]
theorem flowL_succ (wk gap : Int) (ts : List Int) (k : Nat) (hk : k < ts.length) : flowL wk gap (ts.take (k + 1)) = flowStep wk gap (flowL wk gap (ts.take k)) ts[k] := by
  unfold flowL
  rw [List.take_succ_eq_append_getElem hk, List.foldl_append]; rfl
theorem flowFold_prefix (wk gap : Int) : ∀ (ts acc : List Int), acc <+: ts.foldl (flowStep wk gap) acc
  | [], acc => List.prefix_refl _
  | t :: ts, acc => (List.prefix_append acc _).trans (flowFold_prefix wk gap ts (flowStep wk gap acc t))
theorem flowL_prefix (wk gap : Int) (ts : List Int) (k : Nat) : flowL wk gap (ts.take k) <+: flowL wk gap ts := by
  have : ts = ts.take k ++ ts.drop k := (List.take_append_drop k ts).symm
  conv => rhs; rw [this]
  unfold flowL
  rw [List.foldl_append]
  exact flowFold_prefix wk gap _ _

theorem flow_mem {wk gap : Int} {ts : List Int} {k : Nat} {z : Int} (h : z ∈ flowL wk gap (ts.take k)) : z ∈ flowL wk gap ts := (flowL_prefix wk gap ts k).subset h

theorem time_any (b : Bool) (s : S36) (w : World) : Calls Tryd.prog (timeN b) #[.agg #[.int .i64 s.f0, .int .i64 s.f1]] w fun e w' => e = .returned (.int .i64 (timeS b s)) ∧ Below w.heap.size w w' := by
  cases b
  · exact (lo_any s.f0 s.f1 w).mono fun e w' ⟨h1, h2⟩ => ⟨h1, below_of_alloc h2⟩
  · exact (hi_any s.f0 s.f1 w).mono fun e w' ⟨h1, h2⟩ => ⟨h1, below_of_alloc h2⟩
theorem smoke_any (b : Bool) (s : S36) (w : World) : Calls Tryd.prog (smokeN b) #[.agg #[.int .i64 s.f0, .int .i64 s.f1]] w fun e w' => e = .returned (.int .i64 (smokeS b s)) ∧ Below w.heap.size w w' := by
  cases b
  · exact (hi_any s.f0 s.f1 w).mono fun e w' ⟨h1, h2⟩ => ⟨h1, below_of_alloc h2⟩
  · exact (lo_any s.f0 s.f1 w).mono fun e w' ⟨h1, h2⟩ => ⟨h1, below_of_alloc h2⟩
theorem time_enters (b : Bool) (args : Array Value) (w : World) : (callFunc (timeN b) args).run Tryd.prog w = .ok (.enter (timeN b) args) w := by
  cases b
  · exact enters_of Tryd.func150 (by kernel_rfl) rfl args w
  · exact enters_of Tryd.func149 (by kernel_rfl) rfl args w
theorem smoke_enters (b : Bool) (args : Array Value) (w : World) : (callFunc (smokeN b) args).run Tryd.prog w = .ok (.enter (smokeN b) args) w := by
  cases b
  · exact enters_of Tryd.func149 (by kernel_rfl) rfl args w
  · exact enters_of Tryd.func150 (by kernel_rfl) rfl args w

/-- What has come to the stairs at first. -/
def comeO (b : Bool) (ch : List S81) (ps : List S48) (i : Int) : List Int := (ps.filter fun x => (rd_T81 ch x.f0).f0 == i).map (leaveT b ch)
/-- When people leave stair k, and what has come behind it. -/
def leftOf (b : Bool) (s : S62) (l : List Int) : List Int := flowL (timeS b s.f2) s.f1 (sortL l)
def comeN (b : Bool) (st : List S62) (m : Int → List Int) (k : Nat) : Int → List Int :=
  putM (rd_T62 st k).f0 (putM k [] m (rd_T62 st k).f0 ++ leftOf b (rd_T62 st k) (m k)) (putM k [] m)
def comeAt (b : Bool) (st : List S62) (ch : List S81) (ps : List S48) : Nat → Int → List Int
  | 0 => comeO b ch ps
  | k + 1 => comeN b st (comeAt b st ch ps k) k
def leftAt (b : Bool) (st : List S62) (ch : List S81) (ps : List S48) (k : Nat) : List Int := leftOf b (rd_T62 st k) (comeAt b st ch ps k k)

theorem comeO_succ (b : Bool) (ch : List S81) (ps : List S48) (k : Nat) (hk : k < ps.length) :
    comeO b ch (ps.take (k + 1)) = putM (rd_T81 ch ps[k].f0).f0 (comeO b ch (ps.take k) (rd_T81 ch ps[k].f0).f0 ++ [leaveT b ch ps[k]]) (comeO b ch (ps.take k)) := by
  funext i
  unfold comeO putM
  rw [List.take_succ_eq_append_getElem hk, List.filter_append, List.map_append]
  by_cases e : i = (rd_T81 ch ps[k].f0).f0
  · subst e; simp
  · have : ((rd_T81 ch ps[k].f0).f0 == i) = false := by simp; exact fun h => e h.symm
    simp [e, this]
end Go.Proofs.YtdeaccbolnlgpaaDoor.X
