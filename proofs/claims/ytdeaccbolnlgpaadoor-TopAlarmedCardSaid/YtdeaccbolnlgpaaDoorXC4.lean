import Derived.RangeFuncIn
import Derived.RangeFuncRecord
import Derived.RangeFuncFrom
import Derived.Test.YtdeaccbolnlgpaaDoorXC3
namespace Go.Proofs.YtdeaccbolnlgpaaDoor.X
open Go.RowKit Go.Shelf Go.Proofs.YtdeaccbolnlgpaaDoorW.PrintWords Go.Proofs.YtdeaccbolnlgpaaDoorW.PrintLast Go.Proofs.YtdeaccbolnlgpaaDoorW.PrintMore
set_option linter.unusedVariables false
set_option linter.unusedSimpArgs false

/-! # 'for i, l := range h.stairs(e)' : the law -/

/-- What a caller's relation may rest on: what lay below B; cells that are not of int. -/
def keepC : Obj → Bool
  | .cells _ t _ => t != 3
  | _ => false
structure Mw (B : Nat) (W W' : World) : Prop where
  below : Below B W W'
  other : ∀ k o, B ≤ k → W.heap[k]? = some o → keepC o = true → W'.heap[k]? = some o
theorem keepO_of_keepC {o : Obj} (h : keepC o = true) : keepO o = true := by
  cases o <;> simp_all [keepC, keepO]
theorem Mv.mw {B B' : Nat} {W W' : World} (h : Mv B' W W') (hB : B ≤ B') : Mw B W W' :=
  ⟨h.below.mono hB, fun k o hk ho hc => by
    by_cases hk' : k < B'
    · exact (h.below.block k hk').trans ho
    · exact h.other k o (by omega) ho (keepO_of_keepC hc)⟩
theorem Mw.of_below {B : Nat} {a b : World} (h : Below a.heap.size a b) (hB : B ≤ a.heap.size) : Mw B a b :=
  ⟨h.mono hB, fun k o _ ho _ => (h.block k (Array.getElem?_eq_some_iff.1 ho).1).trans ho⟩
theorem Mw.put {B : Nat} {W : World} {l : Nat} {o : Obj} (o' : Obj) (hl : W.heap[l]? = some o) (hB : B ≤ l) (hc : keepC o = false) : Mw B W (W.putObj l o') :=
  ⟨(Below.refl B W).grown (grownBy_putObj' W l o') (by have := (Array.getElem?_eq_some_iff.1 hl).1; omega) (fun k e => by cases e; exact hB),
   fun k x hk hx hxc => by
    have hne : k ≠ l := fun e => by subst e; rw [hl] at hx; cases hx; rw [hc] at hxc; cases hxc
    exact (World.putObj_heap_other hne).trans hx⟩

/-- How the body may be left. -/
def postS (n₀ bh be B : Nat) (I : Nat → World → Prop) (Ix : Code → Nat → World → Prop) (k : Nat) (W : World) : Exit → Act → World → Prop
  | .normal, _, W' => Rd n₀ bh be B W W' ∧ I (k + 1) W'
  | .ret, _, W' => Rd n₀ bh be B W W' ∧ Ix .ret (k + 1) W'
  | .exit id, _, W' => Rd n₀ bh be B W W' ∧ Ix (.exit id) (k + 1) W'
  | .goto t, _, W' => Rd n₀ bh be B W W' ∧ Ix (.goto t) (k + 1) W'
  | .panic _, _, _ => False
  | .outgrown, _, _ => False

theorem wpIn_range_stairs {g : Operand} {ps : Array Tmp} {assign body : Code} {Q : Exit → Act → World → Prop} {a : Act} {w : World}
    (b : Bool) (bh be : Nat) (A0 A1 A2 : Option Addr) (c0 c1 c2 : Nat) (st : List S62) (ch : List S81) (pl : List S48) (w0 : World)
    (hr0 : Kd.C k62 w0 A0 st.length st) (hr1 : Kd.C k81 w0 A1 ch.length ch) (hr2 : Kd.C k48 w0 A2 pl.length pl)
    (hB0 : Below w0.heap.size w0 w) (hbh : w0.heap.size ≤ bh) (hbe : w0.heap.size ≤ be) (hbh2 : bh < w.heap.size) (hbe2 : be < w.heap.size)
    (h0a : w.cell? ⟨bh, 0, none⟩ = some (.slice A0 st.length c0)) (h0b : w.cell? ⟨bh, 1, none⟩ = some (.slice A1 ch.length c1)) (h0c : w.cell? ⟨bh, 2, none⟩ = some (.slice A2 pl.length c2))
    (h1a : w.cell? ⟨be, 0, none⟩ = some (fnV (paceN b))) (h1b : w.cell? ⟨be, 1, none⟩ = some (fnV (timeN b))) (h1c : w.cell? ⟨be, 2, none⟩ = some (fnV (smokeN b)))
    (hst : st.length ≤ 1000) (hch : ch.length ≤ 1000) (hpl : pl.length ≤ 1000)
    (hok : ∀ x ∈ pl, WalkOk ch x) (hstair : ∀ s ∈ st, StairOk s)
    (hlen : ∀ k i, (comeAt b st ch pl k i).length ≤ 1000) (hval : ∀ k i, ∀ t ∈ comeAt b st ch pl k i, 0 ≤ t ∧ t ≤ 1000000000)
    (hg : a.eval g = .func (.func 83) #[] #[.pointer (some ⟨bh, 0, none⟩), .pointer (some ⟨be, 0, none⟩)]) (hps : ps.size = 2)
    (I : Nat → World → Prop) (Ix : Code → Nat → World → Prop)
    (hI : ∀ k W W', I k W → Mw w.heap.size W W' → I k W') (hIx : ∀ c k W W', Ix c k W → Mw w.heap.size W W' → Ix c k W')
    (h0 : I 0 w) (a₁ : Nat → Value → Act)
    (hassign : ∀ (l k : Nat) (v : Value) (W : World) (K : Act → World → Prop), K (a₁ k v) W →
      assign.wpIn (Fence.wide.inRound l) 0 Tryd.prog (Exit.then K (fun _ _ _ => False)) { tmps := (ps.zip #[.int .i64 k, v]).foldl (fun t (p, v) => t.setIfInBounds p v) a.tmps, defers := [] } W)
    (hbody : ∀ (l k : Nat) (v : Value) (W : World), k < st.length → I k W → w.heap.size < W.heap.size → (∀ k, k < w.heap.size → k = bh ∨ k = be ∨ k < w0.heap.size → W.heap[k]? = w.heap[k]?) → W.ownsInts w.heap.size 3 .i64 v (leftAt b st ch pl k) →
      body.wpIn (Fence.wide.inRound l) 0 Tryd.prog (postS w0.heap.size bh be w.heap.size I Ix k W) (a₁ k v) W)
    (hdone : ∀ (D : Nat) (W : World), w.heap.size ≤ D → I st.length W → W.heap[D]? = some (.deferred (some [])) → Q .normal { a with defers := { target := .collected D, args := #[] } :: a.defers } W)
    (hstop : ∀ (D : Nat) (c : Code) (k : Nat) (W : World), k < st.length → w.heap.size ≤ D → Ix c (k + 1) W → W.heap[D]? = some (.deferred (some [])) → c.wpIn Fence.wide 2 Tryd.prog Q { a with defers := { target := .collected D, args := #[] } :: a.defers } W) :
    (Code.rangeFunc g ps assign body).wpIn Fence.wide 2 Tryd.prog Q a w := by
  refine wpIn_rangeFunc ?_
  intro fn hfn
  obtain ⟨rec, hrec⟩ : ∃ rec : LoopState → Option Code → Loop, rec = fun st pe => { state := st, pending := pe, fn, tmps := a.tmps, params := ps, assign, body, defers := w.heap.size } := ⟨_, rfl⟩
  obtain ⟨W1, hW1⟩ : ∃ W1, (w.alloc (.deferred (some []))).alloc (.loop (rec .ready none)) = W1 := ⟨_, rfl⟩
  have hL1 : W1.heap[w.heap.size + 1]? = some (.loop (rec .ready none)) := by
    rw [← hW1]; have := World.alloc_heap_new (w.alloc (.deferred (some []))) (.loop (rec .ready none)); rwa [World.size_alloc] at this
  have hK1 : W1.heap[w.heap.size]? = some (.deferred (some [])) := by
    rw [← hW1]; exact (Below.heap_alloc _ _ _ (by simp)).trans (World.alloc_heap_new w _)
  have hBl : Below w.heap.size w W1 := by rw [← hW1]; exact ((Below.refl _ w).alloc (Nat.le_refl _) _).alloc (by simp) _
  have hz1 : W1.heap.size = w.heap.size + 2 := by rw [← hW1]; simp
  have hI1 : I 0 W1 := hI 0 _ _ h0 (Mw.of_below hBl (Nat.le_refl _))
  refine ⟨w.heap.size + 1, [{ target := .collected w.heap.size, args := #[] }], W1, { target := .fn (.func 83) #[.pointer (some ⟨bh, 0, none⟩), .pointer (some ⟨be, 0, none⟩)], args := #[.func (.yield (w.heap.size + 1)) #[] #[]] }, W1, 83,
    #[.func (.yield (w.heap.size + 1)) #[] #[]] ++ #[.pointer (some ⟨bh, 0, none⟩), .pointer (some ⟨be, 0, none⟩)], W1, ?_, ?_, ?_, ?_, fun _ => by omega, ?_⟩
  · rw [← hW1, hrec]; exact run_enterLoop_outer _ _ _ _ _
  · simp only [resolve, hg]
    simp [go_sem]
  · intro f' hf'; trivial
  · simp [invoke, go_sem, enters_of Tryd.func83 (by kernel_rfl) rfl]
  · refine callsIn_wide.2 ((stairs_it b (w.heap.size + 1) bh be A0 A1 A2 c0 c1 c2 st ch pl w0 W1 hr0 hr1 hr2 (hB0.trans (hBl.mono hB0.size)) hbh hbe (by omega) (by omega)
      ((hBl.cell (p := ⟨bh, 0, none⟩) hbh2).trans h0a) ((hBl.cell (p := ⟨bh, 1, none⟩) hbh2).trans h0b) ((hBl.cell (p := ⟨bh, 2, none⟩) hbh2).trans h0c)
      ((hBl.cell (p := ⟨be, 0, none⟩) hbe2).trans h1a) ((hBl.cell (p := ⟨be, 1, none⟩) hbe2).trans h1b) ((hBl.cell (p := ⟨be, 2, none⟩) hbe2).trans h1c)
      hst hch hpl hok hstair hlen hval
      (fun k W => I k W ∧ W.heap[w.heap.size + 1]? = some (.loop (rec .ready none)) ∧ W.heap[w.heap.size]? = some (.deferred (some [])) ∧ W1.heap.size ≤ W.heap.size ∧ (∀ k, k < w.heap.size → k = bh ∨ k = be ∨ k < w0.heap.size → W.heap[k]? = w.heap[k]?))
      (fun k W => ∃ c, Ix c k W ∧ W.heap[w.heap.size + 1]? = some (.loop (rec .done (some c))) ∧ W.heap[w.heap.size]? = some (.deferred (some [])))
      (fun k A B hs hm => ⟨hI k _ _ hs.1 (hm.mw (by omega)), (hm.below.block _ (by omega)).trans hs.2.1, (hm.below.block _ (by omega)).trans hs.2.2.1, Nat.le_trans hs.2.2.2.1 hm.below.size, fun j hj hj' => (hm.below.block j (by omega)).trans (hs.2.2.2.2 j hj hj')⟩)
      (fun k A B hs hm => by
        obtain ⟨c, hc, hl, hk⟩ := hs
        exact ⟨c, hIx c k _ _ hc (hm.mw (by omega)), (hm.below.block _ (by omega)).trans hl, (hm.below.block _ (by omega)).trans hk⟩)
      ?_ ⟨hI1, hL1, hK1, Nat.le_refl _, fun j hj _ => hBl.block j hj⟩).mono ?_)
    · -- ONE ROUND
      rintro k W v hkl ⟨hi, hl, hk, hsz, hsame⟩ hown
      have hlt : w.heap.size + 1 < W.heap.size := (Array.getElem?_eq_some_iff.1 hl).1
      have hy := run_yield (P := Tryd.prog) (args := #[.int .i64 k, v]) hl (by rw [hrec]; exact hps.symm)
      rw [hrec] at hy
      refine ⟨fn, _, assign, body, hy, roundIn_of_wpIn hfn (hassign _ k v W _ ⟨_, run_beginRound hl (by rw [hrec]), ?_⟩)⟩
      obtain ⟨W2, hW2⟩ : ∃ W2, W.putObj (w.heap.size + 1) (.loop { rec .ready none with state := .busy }) = W2 := ⟨_, rfl⟩
      have hl2 : W2.heap[w.heap.size + 1]? = some (.loop { rec .ready none with state := .busy }) := by rw [← hW2]; exact World.putObj_heap_same hlt
      have hoth : ∀ j, j ≠ w.heap.size + 1 → W2.heap[j]? = W.heap[j]? := fun j hj => by rw [← hW2]; exact World.putObj_heap_other hj
      have hk2 : W2.heap[w.heap.size]? = some (.deferred (some [])) := (hoth _ (by omega)).trans hk
      have hm2 : Mw w.heap.size W W2 := by rw [← hW2]; exact Mw.put _ hl (by omega) rfl
      have hz2 : W2.heap.size = W.heap.size := by rw [← hW2]; simp [World.putObj]
      have hI2 : I k W2 := hI k _ _ hi hm2
      have hr2' : Rd w0.heap.size bh be W1.heap.size W W2 := ⟨hm2.below.mono (by have := hB0.size; omega), fun j hj hjl => hoth j (by omega)⟩
      rw [hW2]
      refine wpIn_mono (hbody _ k v W2 hkl hI2 (by omega) (fun j hj hj' => (hoth j (by omega)).trans (hsame j hj hj')) (own_low (ownsInts_blocks hown fun j hj _ => hoth j (by omega)) (by omega))) ?_
      have fin : ∀ (jump : Option Code) (W3 : World), Rd w0.heap.size bh be w.heap.size W2 W3 →
          (Instr.endRound (w.heap.size + 1) jump).run Tryd.prog W3 = .ok (.bool jump.isNone) (W3.putObj (w.heap.size + 1) (.loop (rec (if jump.isNone then .ready else .done) jump))) ∧
          W3.heap[w.heap.size + 1]? = some (.loop { rec .ready none with state := .busy }) ∧
          (W3.putObj (w.heap.size + 1) (.loop (rec (if jump.isNone then .ready else .done) jump))).heap[w.heap.size + 1]? = some (.loop (rec (if jump.isNone then .ready else .done) jump)) ∧
          (W3.putObj (w.heap.size + 1) (.loop (rec (if jump.isNone then .ready else .done) jump))).heap[w.heap.size]? = some (.deferred (some [])) := fun jump W3 hk3 => by
        have hl3 := (hk3.other (w.heap.size + 1) (by omega) (by omega)).trans hl2
        have := run_endRound (P := Tryd.prog) jump hl3
        rw [hrec] at this ⊢
        exact ⟨this, by rw [hrec] at hl3; exact hl3, World.putObj_heap_same (Array.getElem?_eq_some_iff.1 hl3).1, (World.putObj_heap_other (by omega)).trans ((hk3.other _ (by omega) (by omega)).trans hk2)⟩
      rintro e a3 W3 hp
      cases e with
      | normal =>
        obtain ⟨hk3, hi3⟩ := hp
        obtain ⟨hr, hl3, hl4, hk4⟩ := fin none W3 hk3
        have hm4 : Mw w.heap.size W3 (W3.putObj (w.heap.size + 1) (.loop (rec (if (none : Option Code).isNone then .ready else .done) none))) := Mw.put _ hl3 (by omega) rfl
        have hz4 := hm4.below.size
        have hz3 := hk3.below.size
        have ho4 : ∀ j, j ≠ w.heap.size + 1 → (W3.putObj (w.heap.size + 1) (.loop (rec (if (none : Option Code).isNone then .ready else .done) none))).heap[j]? = W3.heap[j]? := fun j hj => World.putObj_heap_other hj
        refine ⟨_, _, hr, .inl ⟨rfl, ⟨hI _ _ _ hi3 hm4, hl4, hk4, by omega, fun j hj hj' => ?_⟩, ?_⟩⟩
        · rw [ho4 j (by omega)]
          rcases hj' with rfl | rfl | hj'
          · rw [hk3.other _ (.inl rfl) (by omega), hoth _ (by omega), hsame _ hj (.inl rfl)]
          · rw [hk3.other _ (.inr (.inl rfl)) (by omega), hoth _ (by omega), hsame _ hj (.inr (.inl rfl))]
          · rw [hk3.below.block j hj', hoth _ (by omega), hsame _ hj (.inr (.inr hj'))]
        · refine ⟨(hr2'.below.trans hk3.below).trans (hm4.below.mono (by have := hB0.size; omega)), fun j hj hjl => ?_⟩
          rw [ho4 j (by omega), hk3.other j (by omega) (by omega), hoth j (by omega)]
      | ret =>
        obtain ⟨hk3, hi3⟩ := hp
        obtain ⟨hr, hl3, hl4, hk4⟩ := fin (some .ret) W3 hk3
        exact ⟨_, _, hr, .inr ⟨rfl, .ret, hIx _ _ _ _ hi3 (Mw.put _ hl3 (by omega) rfl), hl4, hk4⟩⟩
      | exit id =>
        obtain ⟨hk3, hi3⟩ := hp
        obtain ⟨hr, hl3, hl4, hk4⟩ := fin (some (.exit id)) W3 hk3
        exact ⟨_, _, hr, .inr ⟨rfl, .exit id, hIx _ _ _ _ hi3 (Mw.put _ hl3 (by omega) rfl), hl4, hk4⟩⟩
      | goto t =>
        obtain ⟨hk3, hi3⟩ := hp
        obtain ⟨hr, hl3, hl4, hk4⟩ := fin (some (.goto t)) W3 hk3
        exact ⟨_, _, hr, .inr ⟨rfl, .goto t, hIx _ _ _ _ hi3 (Mw.put _ hl3 (by omega) rfl), hl4, hk4⟩⟩
      | panic c => exact hp.elim
      | outgrown => exact hp.elim
    · -- BEHIND THE ITERATOR
      rintro e W2 ⟨⟨v, rfl⟩, (⟨hi, hl, hk, _⟩ | ⟨k, hkl, c, hi, hl, hk⟩)⟩
      · exact ⟨none, _, by have := run_endLoop (P := Tryd.prog) hl (by rw [hrec]; simp); rw [hrec] at this; exact this, hdone _ _ (Nat.le_refl _) (hI _ _ _ hi (Mw.put _ hl (by omega) rfl)) ((World.putObj_heap_other (by omega)).trans hk)⟩
      · exact ⟨some c, _, by have := run_endLoop (P := Tryd.prog) hl (by rw [hrec]; simp); rw [hrec] at this; exact this, hstop _ c k _ hkl (Nat.le_refl _) (hIx _ _ _ _ hi (Mw.put _ hl (by omega) rfl)) ((World.putObj_heap_other (by omega)).trans hk)⟩
theorem two_cells {W : World} {k : Nat} {a b : Value} {t : TypeId} (h : W.heap[k]? = some (.cells #[a, b] t (0, 0))) : W.cell? ⟨k, 0, none⟩ = some a ∧ W.cell? ⟨k, 1, none⟩ = some b ∧ W.frozen? ⟨k, 0, none⟩ = false ∧ W.frozen? ⟨k, 1, none⟩ = false ∧ k < W.heap.size := by
  have hk := (Array.getElem?_eq_some_iff.1 h).1
  refine ⟨by simp [World.cell?, h], by simp [World.cell?, h], by simp [World.frozen?, h], by simp [World.frozen?, h], hk⟩
theorem two_set0 {W : World} {k : Nat} {a b : Value} {t : TypeId} (h : W.heap[k]? = some (.cells #[a, b] t (0, 0))) (v : Value) : (W.setCell ⟨k, 0, none⟩ v).heap[k]? = some (.cells #[v, b] t (0, 0)) := by
  have hk := (Array.getElem?_eq_some_iff.1 h).1
  simp [World.setCell, Array.getElem?_modify, h]
theorem two_set1 {W : World} {k : Nat} {a b : Value} {t : TypeId} (h : W.heap[k]? = some (.cells #[a, b] t (0, 0))) (v : Value) : (W.setCell ⟨k, 1, none⟩ v).heap[k]? = some (.cells #[a, v] t (0, 0)) := by
  have hk := (Array.getElem?_eq_some_iff.1 h).1
  simp [World.setCell, Array.getElem?_modify, h]
end Go.Proofs.YtdeaccbolnlgpaaDoor.X
