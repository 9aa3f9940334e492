import Derived.Test.YtdeaccbolnlgpaaDoorXF1
import Derived.Test.YtdeaccbolnlgpaaDoorXC12
namespace Go.Proofs.YtdeaccbolnlgpaaDoor.X
open Go.RowKit Go.Shelf Go.Proofs.YtdeaccbolnlgpaaDoorW.PrintWords Go.Proofs.YtdeaccbolnlgpaaDoorW.PrintLast Go.Proofs.YtdeaccbolnlgpaaDoorW.PrintMore
set_option linter.unusedVariables false
set_option linter.unusedSimpArgs false

/-! # An append onto a row of a family, and its store into the block that holds the rows -/

theorem row_cell {W : World} {k s : Nat} {vs : List Value} {t : TypeId} (h : W.heap[k]? = some (.cells vs.toArray t (0, 0))) (hs : s < vs.length) : W.cell? ⟨k, s, none⟩ = some vs[s] := by simp [World.cell?, h, hs]
theorem row_frozen {W : World} {k : Nat} {vs : List Value} {t : TypeId} (h : W.heap[k]? = some (.cells vs.toArray t (0, 0))) (s : Nat) : W.frozen? ⟨k, s, none⟩ = false := by simp [World.frozen?, h]
theorem row_set {W : World} {k s : Nat} {vs : List Value} {t : TypeId} (h : W.heap[k]? = some (.cells vs.toArray t (0, 0))) (u : Value) : (W.setCell ⟨k, s, none⟩ u).heap[k]? = some (.cells (vs.set s u).toArray t (0, 0)) := by
  have hk := (Array.getElem?_eq_some_iff.1 h).1
  simp [World.setCell, Array.getElem?_modify, h]
theorem size_setCell (W : World) (p : Addr) (u : Value) : (W.setCell p u).heap.size = W.heap.size := by simp [World.setCell]

theorem Fam.app {W wa w7 : World} {base i : Nat} {vs : List Value} {ls : List (List Int)} (h : Fam W base vs ls) (hi : i < vs.length) (hD : Below W.heap.size W wa) (hg : wa.grownBy w7 vs[i].ownBlock) :
    W.heap.size ≤ w7.heap.size ∧ (∀ (k : Nat) (o : Obj), W.heap[k]? = some o → keepO o = true → w7.heap[k]? = some o) ∧ (∀ (n0 : Nat) (w : World), Below n0 w W → n0 ≤ base → base ≤ W.heap.size → Below n0 w w7) := by
  have ho := h.own i hi (by have := h.len; omega)
  refine ⟨Nat.le_trans hD.size hg.size, fun k o hk hc => ?_, fun n0 w hb h0 h1 => ?_⟩
  · have hkl := (Array.getElem?_eq_some_iff.1 hk).1
    have hne : some k ≠ vs[i].ownBlock := own_ne_other ho hk hc
    rw [hg.block k (Nat.lt_of_lt_of_le hkl hD.size) hne, hD.block k hkl, hk]
  · exact (hb.trans (hD.mono (by omega))).grown hg (by have := hD.size; omega) (fun k hk => by have := (ho.1.lt k hk).1; omega)

theorem Fam.put {W wa w7 : World} {base i : Nat} {vs : List Value} {ls : List (List Int)} {v7 : Value} {zs' : List Int} (h : Fam W base vs ls) (hi : i < vs.length) (hD : Below W.heap.size W wa) (hg : wa.grownBy w7 vs[i].ownBlock)
    (ho : w7.ownsInts base 3 .i64 v7 zs') (hl : v7.ownBlock = vs[i].ownBlock ∨ v7.ownBlock = some wa.heap.size) {bR : Nat} (s : Nat) {rows : List Value} (hR : W.heap[bR]? = some (.cells rows.toArray 67 (0, 0))) :
    Fam (w7.setCell ⟨bR, s, none⟩ v7) base (vs.set i v7) (ls.set i zs') ∧ (w7.setCell ⟨bR, s, none⟩ v7).heap[bR]? = some (.cells (rows.set s v7).toArray 67 (0, 0)) ∧
    (∀ (k : Nat) (o : Obj), k ≠ bR → W.heap[k]? = some o → keepO o = true → (w7.setCell ⟨bR, s, none⟩ v7).heap[k]? = some o) ∧
    (∀ (n0 : Nat) (w : World), Below n0 w W → n0 ≤ base → n0 ≤ bR → base ≤ W.heap.size → Below n0 w (w7.setCell ⟨bR, s, none⟩ v7)) ∧ W.heap.size ≤ (w7.setCell ⟨bR, s, none⟩ v7).heap.size := by
  obtain ⟨h1, h2, h3⟩ := h.app hi hD hg
  have hR7 := h2 bR _ hR rfl
  refine ⟨(h.appended hi hD hg ho hl).kept fun k hk hkl ⟨cells, hc⟩ => Below.heap_setCell _ _ _ _ (fun e => ?_), row_set hR7 _, fun k o hk ho hc => (Below.heap_setCell _ _ _ _ hk).trans (h2 k o ho hc), fun n0 w hb hn0 hnR hbase => (h3 n0 w hb hn0 hbase).setCell hnR _, by rw [size_setCell]; exact h1⟩
  have e' : k = bR := e
  rw [e', hR7] at hc
  cases hc

theorem Fam.alloc {W : World} {base : Nat} {vs : List Value} {ls : List (List Int)} (h : Fam W base vs ls) (o : Obj) : Fam (W.alloc o) base vs ls := h.below ((Below.refl _ _).alloc (Nat.le_refl _) _)
theorem Fam.drew {W : World} {base : Nat} {vs : List Value} {ls : List (List Int)} (h : Fam W base vs ls) : Fam W.drew base vs ls := h.below (below_drew (Below.refl _ _))
theorem Fam.more {W : World} {base : Nat} {vs us : List Value} {ls ms : List (List Int)} (h : Fam W base vs ls) (hlen : us.length = ms.length) (hu : ∀ u ∈ us, u = .slice none 0 0) (hm : ∀ m ∈ ms, m = []) : Fam W base (vs ++ us) (ls ++ ms) where
  len := by simp [h.len, hlen]
  own := fun i hi hl => by
    have hlen2 := h.len
    by_cases e : i < vs.length
    · rw [List.getElem_append_left e, List.getElem_append_left (by omega)]
      exact h.own i e (by omega)
    · rw [List.getElem_append_right (by omega), List.getElem_append_right (by omega), hu _ (List.getElem_mem _), hm _ (List.getElem_mem _)]
      exact World.ownsInts_nil _ _ _ _
  apart := fun i j hi hj hne => by
    have none_of : ∀ (m : Nat) (hm' : m < (vs ++ us).length), ¬ m < vs.length → (vs ++ us)[m].ownBlock = none := fun m hm' e => by
      rw [List.getElem_append_right (by omega), hu _ (List.getElem_mem _)]; rfl
    by_cases ei : i < vs.length
    · by_cases ej : j < vs.length
      · rw [List.getElem_append_left ei, List.getElem_append_left ej]
        exact h.apart i j ei ej hne
      · rw [none_of j hj ej]
        cases hv : (vs ++ us)[i].ownBlock with
        | none => exact .inl rfl
        | some g => exact .inr (by simp)
    · exact .inl (none_of i hi ei)
end Go.Proofs.YtdeaccbolnlgpaaDoor.X

namespace Go.Proofs.YtdeaccbolnlgpaaDoor.X
open Go.RowKit Go.Shelf Go.Proofs.YtdeaccbolnlgpaaDoorW.PrintWords Go.Proofs.YtdeaccbolnlgpaaDoorW.PrintLast Go.Proofs.YtdeaccbolnlgpaaDoorW.PrintMore
set_option linter.unusedVariables false
set_option linter.unusedSimpArgs false

theorem comeG0_len (ch : List S81) (ps : List S48) (ts : List Int) (i : Int) : (comeG0 ch ps ts i).length ≤ ps.length := by
  unfold comeG0
  rw [List.length_map]
  exact Nat.le_trans (List.length_filter_le _ _) (by rw [List.length_zip]; omega)

/-- Behind k of the people. -/
def Rel1 (w : World) (V : Array Value) (n : Nat) (ch : List S81) (ps : List S48) (ts : List Int) (k : Nat) (u : Value) (wr : World) : Prop :=
  ∃ (vsC : List Value) (lsC : List (List Int)), vsC.length = n ∧ (∀ (j : Nat) (hj : j < lsC.length), lsC[j] = comeG0 ch (ps.take k) (ts.take k) j) ∧ wr.heap[w.heap.size + 1]? = some (.cells vsC.toArray 67 (0, 0)) ∧
    Fam wr (w.heap.size + 2) (u :: vsC) (ts.take k :: lsC) ∧ Below w.heap.size w wr ∧ wr.heap[w.heap.size]? = some (.cells V 25 (0, 0)) ∧ w.heap.size + 2 ≤ wr.heap.size

theorem Rel1.start {w W0 : World} {V : Array Value} {n : Nat} (ch : List S81) (ps : List S48) (ts : List Int) (hb : W0.heap[w.heap.size + 1]? = some (.cells (List.replicate n (.slice none 0 0)).toArray 67 (0, 0))) (hB : Below w.heap.size w W0) (hV : W0.heap[w.heap.size]? = some (.cells V 25 (0, 0))) (hz : w.heap.size + 2 ≤ W0.heap.size) :
    Rel1 w V n ch ps ts 0 (.slice none 0 0) W0 :=
  ⟨List.replicate n (.slice none 0 0), List.replicate n [], by simp, fun j hj => by simp [comeG0], hb, Fam.nils W0 (w.heap.size + 2) (n + 1), hB, hV, hz⟩

theorem Rel1.step {w w6 wa w7 : World} {V : Array Value} {n : Nat} {ch : List S81} {ps : List S48} {ts : List Int} {k sn : Nat} {t : Int} {v6 v7 : Value} {vsC : List Value} {lsC : List (List Int)} {ca : Option Addr} {cc : Nat} {zs : List Int}
    (hvl : vsC.length = n) (hls : ∀ (j : Nat) (hj : j < lsC.length), lsC[j] = comeG0 ch (ps.take k) (ts.take k) j) (hF6 : Fam w6 (w.heap.size + 2) (v6 :: vsC) ((ts.take k ++ [t]) :: lsC))
    (h61 : w6.heap[w.heap.size + 1]? = some (.cells vsC.toArray 67 (0, 0))) (h60 : w6.heap[w.heap.size]? = some (.cells V 25 (0, 0))) (hB6 : Below w.heap.size w w6) (h6s : w.heap.size + 2 ≤ w6.heap.size)
    (hsn : sn < vsC.length) (hvs : vsC[sn] = .slice ca zs.length cc) (hz : zs = comeG0 ch (ps.take k) (ts.take k) sn)
    (hTK : comeG0 ch (ps.take (k + 1)) (ts.take (k + 1)) = putM sn (comeG0 ch (ps.take k) (ts.take k) sn ++ [t]) (comeG0 ch (ps.take k) (ts.take k))) (hTT : ts.take (k + 1) = ts.take k ++ [t])
    (hD : Below w6.heap.size w6 wa) (ho7 : w7.ownsInts (w.heap.size + 2) 3 .i64 v7 (zs ++ [t])) (hg7 : wa.grownBy w7 (Value.slice ca zs.length cc).ownBlock) (hl7 : v7.ownBlock = (Value.slice ca zs.length cc).ownBlock ∨ v7.ownBlock = some wa.heap.size) :
    Rel1 w V n ch ps ts (k + 1) v6 (w7.setCell ⟨w.heap.size + 1, sn, none⟩ v7) := by
  have hi : sn + 1 < (v6 :: vsC).length := by simp; omega
  have hv : (v6 :: vsC)[sn + 1] = .slice ca zs.length cc := by simpa using hvs
  have hlen : lsC.length = vsC.length := by have := hF6.len; simp at this; omega
  obtain ⟨a1, a2, a3, a4, a5⟩ := hF6.put hi hD (by rw [hv]; exact hg7) ho7 (by rw [hv]; exact hl7) sn h61
  refine ⟨vsC.set sn v7, lsC.set sn (zs ++ [t]), by simpa using hvl, fun j hj => ?_, a2, ?_, a4 _ _ hB6 (by omega) (by omega) h6s, a3 _ _ (by omega) h60 rfl, by omega⟩
  · simp only [List.length_set] at hj
    rw [hTK, List.getElem_set]
    unfold putM
    by_cases e : sn = j
    · subst e; rw [if_pos rfl, if_pos rfl, hz]
    · rw [if_neg e, if_neg (by omega), hls j hj]
  · rw [hTT]; simpa using a1
end Go.Proofs.YtdeaccbolnlgpaaDoor.X

namespace Go.Proofs.YtdeaccbolnlgpaaDoor.X
open Go.RowKit Go.Shelf Go.Proofs.YtdeaccbolnlgpaaDoorW.PrintWords Go.Proofs.YtdeaccbolnlgpaaDoorW.PrintLast Go.Proofs.YtdeaccbolnlgpaaDoorW.PrintMore
set_option linter.unusedVariables false
set_option linter.unusedSimpArgs false

/-! # The second loop of ref06.Go: the stairs -/

def lastV (wk : Int) (acc : List Int) : Int := match acc.getLast? with | none => -60 | some p => p - wk
theorem lastV_nil (wk : Int) : lastV wk [] = -60 := rfl
theorem lastV_snoc (wk e : Int) (acc : List Int) : lastV wk (acc ++ [e + wk]) = e := by simp [lastV]
theorem flow_next {wk gap t : Int} (acc : List Int) (ht : 0 ≤ t) (hg : gap ≤ 60) : flowStep wk gap acc t = acc ++ [max t (lastV wk acc + gap) + wk] := by
  unfold flowStep lastV
  cases acc.getLast? with
  | none => simp only; rw [Int.max_eq_left (by omega)]
  | some p => rfl
theorem lastV_bound {wk B : Int} {acc : List Int} (hw : 0 ≤ wk ∧ wk ≤ 600) (h : ∀ z ∈ acc, 0 ≤ z ∧ z ≤ B) (hB : 0 ≤ B) : -600 ≤ lastV wk acc ∧ lastV wk acc ≤ B := by
  unfold lastV
  cases hl : acc.getLast? with
  | none => simp only; omega
  | some p => have := h p (List.mem_of_getLast? hl); simp only; omega

theorem reps_int_cells {R : Int → List Value → Prop} (hR : ∀ x c, R x c → c = [Value.int .i64 x]) {xs : List Int} {cs : List Value} (h : Reps R 1 xs cs) : cs = xs.map (Value.int .i64) := by
  obtain ⟨hl, h⟩ := h
  apply List.ext_getElem
  · simp; omega
  · intro i h1 h2
    have hi : i < xs.length := by simpa using h2
    have := hR _ _ (h i xs[i] (List.getElem?_eq_getElem hi))
    rw [Nat.mul_one, List.take_one, List.head?_drop, List.getElem?_eq_getElem h1] at this
    simp only [Option.toList_some, List.cons.injEq, and_true] at this
    simp [this]

theorem own_of_R {w : World} {base : Nat} {ok : Nat → Prop} {v : Value} {zs : List Int} (h : Kd.R (Kd.int .i64) 3 w base ok v zs) (hk : ∀ z ∈ zs, Key z) : w.ownsInts base 3 .i64 v zs := by
  obtain ⟨_, cs, h1, h2⟩ := h
  have e := reps_int_cells (fun x c hc => hc) h2
  subst e
  exact ⟨h1, hk⟩

theorem C_of_own {w : World} {base : Nat} {A : Option Addr} {n c : Nat} {zs : List Int} (h : w.ownsInts base 3 .i64 (.slice A n c) zs) : Kd.C (Kd.int .i64) w A zs.length zs ∧ zs.length ≤ c := by
  obtain ⟨A', c', hv, hc, hr⟩ := Kd.R_reads (R_of_own (ok := fun _ => True) h fun _ _ => trivial)
  simp only [Value.slice.injEq] at hv
  obtain ⟨rfl, rfl, rfl⟩ := hv
  exact ⟨hr, hc⟩

theorem sorted_own (A : Option Addr) (c : Nat) (zs : List Int) (w : World) (base : Nat) (h : w.ownsInts base 3 .i64 (.slice A zs.length c) zs) (hl : zs.length ≤ 1000) :
    Calls Tryd.prog 93 #[.slice A zs.length c] w fun e w' => ∃ v, e = .returned v ∧ w'.ownsInts w.heap.size 3 .i64 v (sortL zs) ∧ Below w.heap.size w w' := by
  obtain ⟨K, hK⟩ := sorted_f zs hl
  obtain ⟨hr, hc⟩ := C_of_own h
  refine (cottonpadref06_sorted.calls K A c zs _ w hr hc hK).mono ?_
  rintro e w' ⟨v, rfl, hv, hb⟩
  exact ⟨v, rfl, own_of_R hv (fun z hz => h.2 z (List.mem_mergeSort.1 hz)), hb⟩

theorem Fam.cons {w w' : World} {base : Nat} {vs : List Value} {ls : List (List Int)} {v : Value} {zs : List Int} (h : Fam w base vs ls) (hb : Below w.heap.size w w') (hbase : base ≤ w.heap.size) (ho : w'.ownsInts w.heap.size 3 .i64 v zs) : Fam w' base (v :: vs) (zs :: ls) := by
  have h' := h.below hb
  have hlen := h.len
  have low : ∀ (i : Nat) (hi : i < vs.length), vs[i].ownBlock = none ∨ vs[i].ownBlock ≠ v.ownBlock := fun i hi => by
    cases hv : vs[i].ownBlock with
    | none => exact .inl rfl
    | some g =>
      refine .inr fun e => ?_
      have h1 := ((h.own i hi (by omega)).1.lt g hv).2
      have h2 := (ho.1.lt g e.symm).1
      omega
  refine ⟨by simp [hlen], fun i hi hl => ?_, fun i j hi hj hne => ?_⟩
  · cases i with
    | zero => exact own_low ho hbase
    | succ i => exact h'.own i (by simpa using hi) (by simpa using hl)
  · cases i with
    | zero =>
      cases j with
      | zero => exact absurd rfl hne
      | succ j =>
        simp only [List.getElem_cons_zero, List.getElem_cons_succ]
        cases hv : v.ownBlock with
        | none => exact .inl rfl
        | some g =>
          refine .inr fun e => ?_
          rcases low j (by simpa using hj) with h1 | h1
          · rw [h1] at e; cases e
          · exact h1 (e.symm.trans hv.symm)
    | succ i =>
      cases j with
      | zero => simpa using low i (by simpa using hi)
      | succ j => simpa using h'.apart i j (by simpa using hi) (by simpa using hj) (by omega)
theorem Fam.tail {w : World} {base : Nat} {vs : List Value} {ls : List (List Int)} {v : Value} {zs : List Int} (h : Fam w base (v :: vs) (zs :: ls)) : Fam w base vs ls where
  len := by simpa using h.len
  own := fun i hi hl => h.own (i + 1) (by simpa using hi) (by simpa using hl)
  apart := fun i j hi hj hne => h.apart (i + 1) (j + 1) (by simpa using hi) (by simpa using hj) (by omega)

section
variable (w : World) (V : Array Value) (st : List S62) (ch : List S81) (ps : List S48) (ts wk : List Int) (L : Nat)

/-- Behind s of the stairs. -/
def Rel2 (s : Nat) (vr : Value) (wr : World) : Prop :=
  ∃ (vsC vsL : List Value) (lsC lsL : List (List Int)), vsC.length = st.length ∧ vsL.length = st.length ∧ lsC.length = st.length ∧ lsL.length = st.length ∧
    (∀ (i : Nat) (hi : i < lsC.length), s ≤ i → lsC[i] = comeG st ch ps ts wk s i) ∧ (∀ (i : Nat) (hi : i < lsL.length), lsL[i] = if i < s then leftG st ch ps ts wk i else []) ∧
    wr.heap[w.heap.size + 1]? = some (.cells vsC.toArray 67 (0, 0)) ∧ wr.heap[L]? = some (.cells vsL.toArray 67 (0, 0)) ∧
    Fam wr (w.heap.size + 2) (vr :: (vsC ++ vsL)) (ts :: (lsC ++ lsL)) ∧ Below w.heap.size w wr ∧ wr.heap[w.heap.size]? = some (.cells V 25 (0, 0)) ∧ w.heap.size + 2 ≤ wr.heap.size

/-- .. of the stair s, behind jL of those who leave it, of which jC have come to the next one. -/
def Rel3 (s : Nat) (nx gp : Int) (l : List Int) (vl vr : Value) (jC jL : Nat) (wr : World) : Prop :=
  ∃ (vsC vsL : List Value) (lsC lsL : List (List Int)), vsC.length = st.length ∧ vsL.length = st.length ∧ lsC.length = st.length ∧ lsL.length = st.length ∧
    (∀ (i : Nat) (hi : i < lsC.length), s < i → lsC[i] = putM nx (comeG st ch ps ts wk s nx ++ flowL (wk.getD s 0) gp (l.take jC)) (comeG st ch ps ts wk s) i) ∧
    (∀ (i : Nat) (hi : i < lsL.length), lsL[i] = if i < s then leftG st ch ps ts wk i else if i = s then flowL (wk.getD s 0) gp (l.take jL) else []) ∧
    wr.heap[w.heap.size + 1]? = some (.cells vsC.toArray 67 (0, 0)) ∧ wr.heap[L]? = some (.cells vsL.toArray 67 (0, 0)) ∧
    Fam wr (w.heap.size + 2) (vl :: vr :: (vsC ++ vsL)) (l :: ts :: (lsC ++ lsL)) ∧ Below w.heap.size w wr ∧ wr.heap[w.heap.size]? = some (.cells V 25 (0, 0)) ∧ w.heap.size + 2 ≤ wr.heap.size
end

section
variable {w : World} {V : Array Value} {st : List S62} {ch : List S81} {ps : List S48} {ts wk : List Int} {L : Nat}

theorem Rel1.next {vr : Value} {W : World} (h : Rel1 w V st.length ch ps ts ps.length vr W) (hts : ts.length = ps.length) :
    Rel2 w V st ch ps ts wk W.heap.size 0 vr (W.alloc (.cells (List.replicate st.length (.slice none 0 0)).toArray 67)) := by
  obtain ⟨vsC, lsC, h1, h2, h3, h4, h5, h6, h7⟩ := h
  rw [List.take_of_length_le (by omega)] at h4
  have hlen := h4.len
  simp only [List.length_cons] at hlen
  have hb := (Below.refl W.heap.size W).alloc (Nat.le_refl _) (.cells (List.replicate st.length (.slice none 0 0)).toArray 67)
  refine ⟨vsC, List.replicate st.length (.slice none 0 0), lsC, List.replicate st.length [], h1, by simp, by omega, by simp, fun i hi _ => ?_, fun i hi => by simp, ?_, World.alloc_heap_new _ _, ?_, h5.trans (hb.mono (by omega)), ?_, by simp; omega⟩
  · rw [h2 i hi, List.take_of_length_le (Nat.le_refl _), List.take_of_length_le (by omega)]; rfl
  · exact (hb.block _ (Array.getElem?_eq_some_iff.1 h3).1).trans h3
  · exact (h4.alloc _).more (by simp) (fun u hu => List.eq_of_mem_replicate hu) (fun m hm => List.eq_of_mem_replicate hm)
  · exact (hb.block _ (Array.getElem?_eq_some_iff.1 h6).1).trans h6

/-- Who comes to a stair, in order. -/
theorem Rel2.come {s : Nat} {vr : Value} {W : World} (h : Rel2 w V st ch ps ts wk L s vr W) (hs : s < st.length) :
    ∃ A c, W.cell? ⟨w.heap.size + 1, s, none⟩ = some (.slice A (comeG st ch ps ts wk s s).length c) ∧ W.ownsInts (w.heap.size + 2) 3 .i64 (.slice A (comeG st ch ps ts wk s s).length c) (comeG st ch ps ts wk s s) := by
  obtain ⟨vsC, vsL, lsC, lsL, h1, h2, h3, h4, h5, h6, h7, h8, h9, h10, h11, h12⟩ := h
  have ho := h9.own (s + 1) (by simp; omega) (by simp; omega)
  simp only [List.getElem_cons_succ] at ho
  rw [List.getElem_append_left (by omega), List.getElem_append_left (by omega), h5 s (by omega) (Nat.le_refl _)] at ho
  obtain ⟨A, c, hv⟩ := own_slice ho
  rw [hv] at ho
  exact ⟨A, c, by rw [row_cell h7 (by omega), hv], ho⟩
theorem Rel2.below {s : Nat} {vr : Value} {W W' : World} (h : Rel2 w V st ch ps ts wk L s vr W) (hb : Below W.heap.size W W') : Rel2 w V st ch ps ts wk L s vr W' := by
  obtain ⟨vsC, vsL, lsC, lsL, h1, h2, h3, h4, h5, h6, h7, h8, h9, h10, h11, h12⟩ := h
  exact ⟨vsC, vsL, lsC, lsL, h1, h2, h3, h4, h5, h6, (hb.block _ (Array.getElem?_eq_some_iff.1 h7).1).trans h7, (hb.block _ (Array.getElem?_eq_some_iff.1 h8).1).trans h8, h9.below hb, h10.trans (hb.mono (by omega)), (hb.block _ (Array.getElem?_eq_some_iff.1 h11).1).trans h11, by have := hb.size; omega⟩
theorem Rel3.below {s jC jL : Nat} {nx gp : Int} {l : List Int} {vl vr : Value} {W W' : World} (h : Rel3 w V st ch ps ts wk L s nx gp l vl vr jC jL W) (hb : Below W.heap.size W W') : Rel3 w V st ch ps ts wk L s nx gp l vl vr jC jL W' := by
  obtain ⟨vsC, vsL, lsC, lsL, h1, h2, h3, h4, h5, h6, h7, h8, h9, h10, h11, h12⟩ := h
  exact ⟨vsC, vsL, lsC, lsL, h1, h2, h3, h4, h5, h6, (hb.block _ (Array.getElem?_eq_some_iff.1 h7).1).trans h7, (hb.block _ (Array.getElem?_eq_some_iff.1 h8).1).trans h8, h9.below hb, h10.trans (hb.mono (by omega)), (hb.block _ (Array.getElem?_eq_some_iff.1 h11).1).trans h11, by have := hb.size; omega⟩

theorem Rel2.inner {s : Nat} {nx gp : Int} {l : List Int} {vl vr : Value} {W W' : World} (h : Rel2 w V st ch ps ts wk L s vr W) (hb : Below W.heap.size W W') (ho : W'.ownsInts W.heap.size 3 .i64 vl l) :
    Rel3 w V st ch ps ts wk L s nx gp l vl vr 0 0 W' := by
  have hbase : w.heap.size + 2 ≤ W.heap.size := by obtain ⟨_, _, _, _, _, _, _, _, _, _, _, _, _, _, _, h⟩ := h; exact h
  obtain ⟨vsC, vsL, lsC, lsL, h1, h2, h3, h4, h5, h6, h7, h8, h9, h10, h11, h12⟩ := h
  have hf := h9.cons hb hbase ho
  refine ⟨vsC, vsL, lsC, lsL, h1, h2, h3, h4, fun i hi hsi => ?_, fun i hi => ?_, (hb.block _ (Array.getElem?_eq_some_iff.1 h7).1).trans h7, (hb.block _ (Array.getElem?_eq_some_iff.1 h8).1).trans h8, hf, h10.trans (hb.mono (by omega)), (hb.block _ (Array.getElem?_eq_some_iff.1 h11).1).trans h11, by have := hb.size; omega⟩
  · rw [h5 i hi (by omega), List.take_zero]
    unfold putM
    split
    · rename_i e; rw [e]; simp [flowL]
    · rfl
  · rw [h6 i hi, List.take_zero]
    split
    · rfl
    · split <;> simp [flowL]

theorem Rel3.outer {s : Nat} {nx gp : Int} {l : List Int} {vl vr : Value} {W : World} (h : Rel3 w V st ch ps ts wk L s nx gp l vl vr l.length l.length W) (hs : s < st.length) (hl : l = sortL (comeG st ch ps ts wk s s)) (hnx : nx = (rd_T62 st s).f0) (hgp : gp = (rd_T62 st s).f1) (hn : nx = -1 ∨ (s : Int) < nx) :
    Rel2 w V st ch ps ts wk L (s + 1) vr W := by
  obtain ⟨vsC, vsL, lsC, lsL, h1, h2, h3, h4, h5, h6, h7, h8, h9, h10, h11, h12⟩ := h
  rw [List.take_of_length_le (Nat.le_refl _)] at h5 h6
  have hleft : flowL (wk.getD s 0) gp l = leftG st ch ps ts wk s := by rw [hl, hgp]; rfl
  rw [hleft] at h5 h6
  refine ⟨vsC, vsL, lsC, lsL, h1, h2, h3, h4, fun i hi hsi => ?_, fun i hi => ?_, h7, h8, h9.tail, h10, h11, h12⟩
  · rw [h5 i hi (by omega)]
    have e : comeG st ch ps ts wk (s + 1) = putM nx (putM s [] (comeG st ch ps ts wk s) nx ++ leftG st ch ps ts wk s) (putM s [] (comeG st ch ps ts wk s)) := by rw [hnx]; rfl
    rw [e]
    have hns : nx ≠ (s : Int) := by omega
    unfold putM
    rw [if_neg hns]
    split
    · rfl
    · rw [if_neg (by omega)]
  · rw [h6 i hi]
    by_cases e1 : i < s
    · rw [if_pos e1, if_pos (by omega)]
    · rw [if_neg e1]
      by_cases e2 : i = s
      · rw [if_pos e2, if_pos (by omega), e2]
      · rw [if_neg e2, if_neg (by omega)]

/-- One more leaves the stair. -/
theorem Rel3.left {s jC jL : Nat} {nx gp : Int} {l : List Int} {vl vr : Value} {W : World} (h : Rel3 w V st ch ps ts wk L s nx gp l vl vr jC jL W) (hs : s < st.length) (hL : w.heap.size + 2 ≤ L) {o : Int} (ho : flowL (wk.getD s 0) gp (l.take (jL + 1)) = flowL (wk.getD s 0) gp (l.take jL) ++ [o]) :
    ∃ A c, W.cell? ⟨L, s, none⟩ = some (.slice A (flowL (wk.getD s 0) gp (l.take jL)).length c) ∧ W.ownsInts (w.heap.size + 2) 3 .i64 (.slice A (flowL (wk.getD s 0) gp (l.take jL)).length c) (flowL (wk.getD s 0) gp (l.take jL)) ∧
      ∀ (wa w7 : World) (v7 : Value), Below W.heap.size W wa → wa.grownBy w7 (Value.slice A (flowL (wk.getD s 0) gp (l.take jL)).length c).ownBlock → w7.ownsInts (w.heap.size + 2) 3 .i64 v7 (flowL (wk.getD s 0) gp (l.take jL) ++ [o]) → (v7.ownBlock = (Value.slice A (flowL (wk.getD s 0) gp (l.take jL)).length c).ownBlock ∨ v7.ownBlock = some wa.heap.size) →
        Rel3 w V st ch ps ts wk L s nx gp l vl vr jC (jL + 1) (w7.setCell ⟨L, s, none⟩ v7) ∧ w7.frozen? ⟨L, s, none⟩ = false ∧ w7.cell? ⟨L, s, none⟩ = some (.slice A (flowL (wk.getD s 0) gp (l.take jL)).length c) := by
  obtain ⟨vsC, vsL, lsC, lsL, h1, h2, h3, h4, h5, h6, h7, h8, h9, h10, h11, h12⟩ := h
  have hi : st.length + s + 2 < (vl :: vr :: (vsC ++ vsL)).length := by simp; omega
  have hv0 : (vl :: vr :: (vsC ++ vsL))[st.length + s + 2] = vsL[s] := by
    simp only [List.getElem_cons_succ]
    rw [List.getElem_append_right (by omega)]
    congr 1
    omega
  have hl0 : (l :: ts :: (lsC ++ lsL))[st.length + s + 2]'(by simp; omega) = lsL[s] := by
    simp only [List.getElem_cons_succ]
    rw [List.getElem_append_right (by omega)]
    congr 1
    omega
  have how := h9.own (st.length + s + 2) hi (by simp; omega)
  have hz : lsL[s]'(by omega) = flowL (wk.getD s 0) gp (l.take jL) := by rw [h6 s (by omega), if_neg (Nat.lt_irrefl _), if_pos rfl]
  rw [hv0, hl0, hz] at how
  obtain ⟨A, c, hv⟩ := own_slice how
  rw [hv] at how
  refine ⟨A, c, by rw [row_cell h8 (by omega), hv], how, fun wa w7 v7 hD hg7 ho7 hl7 => ?_⟩
  rw [hv] at hv0
  obtain ⟨a1, a2, a3, a4, a5⟩ := h9.put hi hD (by rw [hv0]; exact hg7) ho7 (by rw [hv0]; exact hl7) s h8
  have hCL : w.heap.size + 1 ≠ L := by omega
  have hR7 := (h9.app hi hD (by rw [hv0]; exact hg7)).2.1 L _ h8 rfl
  refine ⟨⟨vsC, vsL.set s v7, lsC, lsL.set s (flowL (wk.getD s 0) gp (l.take jL) ++ [o]), h1, by simpa using h2, h3, by simpa using h4, h5, fun i hi => ?_, a3 _ _ hCL h7 rfl, a2, ?_, a4 _ _ h10 (by omega) (by omega) h12, a3 _ _ (by omega) h11 rfl, by omega⟩, row_frozen hR7 s, by rw [row_cell hR7 (by omega), hv]⟩
  · simp only [List.length_set] at hi
    rw [List.getElem_set]
    by_cases e : s = i
    · subst e; rw [if_pos rfl, if_neg (Nat.lt_irrefl _), if_pos rfl, ho]
    · rw [if_neg e, h6 i hi]
      split
      · rfl
      · rw [if_neg (by omega), if_neg (by omega)]
  · have e1 : (vl :: vr :: (vsC ++ vsL)).set (st.length + s + 2) v7 = vl :: vr :: (vsC ++ vsL.set s v7) := by
      simp only [List.set_cons_succ]
      rw [List.set_append_right _ _ (by omega)]
      congr 3
      congr 1
      omega
    have e2 : (l :: ts :: (lsC ++ lsL)).set (st.length + s + 2) (flowL (wk.getD s 0) gp (l.take jL) ++ [o]) = l :: ts :: (lsC ++ lsL.set s (flowL (wk.getD s 0) gp (l.take jL) ++ [o])) := by
      simp only [List.set_cons_succ]
      rw [List.set_append_right _ _ (by omega)]
      congr 3
      congr 1
      omega
    rw [e1, e2] at a1
    exact a1

/-- .. and comes to the next one. -/
theorem Rel3.come {s jC jL m : Nat} {nx gp : Int} {l : List Int} {vl vr : Value} {W : World} (h : Rel3 w V st ch ps ts wk L s nx gp l vl vr jC jL W) (hm : nx = (m : Int)) (hms : s < m) (hmn : m < st.length) (hL : w.heap.size + 2 ≤ L) {o : Int} (ho : flowL (wk.getD s 0) gp (l.take (jC + 1)) = flowL (wk.getD s 0) gp (l.take jC) ++ [o]) :
    ∃ A c, W.cell? ⟨w.heap.size + 1, m, none⟩ = some (.slice A (comeG st ch ps ts wk s m ++ flowL (wk.getD s 0) gp (l.take jC)).length c) ∧ W.ownsInts (w.heap.size + 2) 3 .i64 (.slice A (comeG st ch ps ts wk s m ++ flowL (wk.getD s 0) gp (l.take jC)).length c) (comeG st ch ps ts wk s m ++ flowL (wk.getD s 0) gp (l.take jC)) ∧
      ∀ (wa w7 : World) (v7 : Value), Below W.heap.size W wa → wa.grownBy w7 (Value.slice A (comeG st ch ps ts wk s m ++ flowL (wk.getD s 0) gp (l.take jC)).length c).ownBlock → w7.ownsInts (w.heap.size + 2) 3 .i64 v7 (comeG st ch ps ts wk s m ++ flowL (wk.getD s 0) gp (l.take jC) ++ [o]) → (v7.ownBlock = (Value.slice A (comeG st ch ps ts wk s m ++ flowL (wk.getD s 0) gp (l.take jC)).length c).ownBlock ∨ v7.ownBlock = some wa.heap.size) →
        Rel3 w V st ch ps ts wk L s nx gp l vl vr (jC + 1) jL (w7.setCell ⟨w.heap.size + 1, m, none⟩ v7) ∧ w7.frozen? ⟨w.heap.size + 1, m, none⟩ = false ∧ w7.cell? ⟨w.heap.size + 1, m, none⟩ = some (.slice A (comeG st ch ps ts wk s m ++ flowL (wk.getD s 0) gp (l.take jC)).length c) := by
  subst hm
  obtain ⟨vsC, vsL, lsC, lsL, h1, h2, h3, h4, h5, h6, h7, h8, h9, h10, h11, h12⟩ := h
  have hi : m + 2 < (vl :: vr :: (vsC ++ vsL)).length := by simp; omega
  have hv0 : (vl :: vr :: (vsC ++ vsL))[m + 2] = vsC[m] := by
    simp only [List.getElem_cons_succ]
    rw [List.getElem_append_left (by omega)]
  have hl0 : (l :: ts :: (lsC ++ lsL))[m + 2]'(by simp; omega) = lsC[m] := by
    simp only [List.getElem_cons_succ]
    rw [List.getElem_append_left (by omega)]
  have how := h9.own (m + 2) hi (by simp; omega)
  have hz : lsC[m]'(by omega) = comeG st ch ps ts wk s m ++ flowL (wk.getD s 0) gp (l.take jC) := by rw [h5 m (by omega) hms, putM, if_pos rfl]
  rw [hv0, hl0, hz] at how
  obtain ⟨A, c, hv⟩ := own_slice how
  rw [hv] at how
  refine ⟨A, c, by rw [row_cell h7 (by omega), hv], how, fun wa w7 v7 hD hg7 ho7 hl7 => ?_⟩
  rw [hv] at hv0
  obtain ⟨a1, a2, a3, a4, a5⟩ := h9.put hi hD (by rw [hv0]; exact hg7) ho7 (by rw [hv0]; exact hl7) m h7
  have hCL : L ≠ w.heap.size + 1 := by omega
  have hR7 := (h9.app hi hD (by rw [hv0]; exact hg7)).2.1 _ _ h7 rfl
  refine ⟨⟨vsC.set m v7, vsL, lsC.set m (comeG st ch ps ts wk s m ++ flowL (wk.getD s 0) gp (l.take jC) ++ [o]), lsL, by simpa using h1, h2, by simpa using h3, h4, fun i hi hsi => ?_, h6, a2, a3 _ _ hCL h8 rfl, ?_, a4 _ _ h10 (by omega) (by omega) h12, a3 _ _ (by omega) h11 rfl, by omega⟩, row_frozen hR7 m, by rw [row_cell hR7 (by omega), hv]⟩
  · simp only [List.length_set] at hi
    rw [List.getElem_set]
    by_cases e : m = i
    · subst e; rw [if_pos rfl, putM, if_pos rfl, ho, List.append_assoc]
    · rw [if_neg e, h5 i hi hsi]
      unfold putM
      rw [if_neg (by omega), if_neg (by omega)]
  · have e1 : (vl :: vr :: (vsC ++ vsL)).set (m + 2) v7 = vl :: vr :: (vsC.set m v7 ++ vsL) := by
      simp only [List.set_cons_succ]
      rw [List.set_append_left _ _ (by omega)]
    have e2 : (l :: ts :: (lsC ++ lsL)).set (m + 2) (comeG st ch ps ts wk s m ++ flowL (wk.getD s 0) gp (l.take jC) ++ [o]) = l :: ts :: (lsC.set m (comeG st ch ps ts wk s m ++ flowL (wk.getD s 0) gp (l.take jC) ++ [o]) ++ lsL) := by
      simp only [List.set_cons_succ]
      rw [List.set_append_left _ _ (by omega)]
    rw [e1, e2] at a1
    exact a1
/-- .. or is out. -/
theorem Rel3.out {s jC jL : Nat} {gp : Int} {l : List Int} {vl vr : Value} {W : World} (h : Rel3 w V st ch ps ts wk L s (-1) gp l vl vr jC jL W) : Rel3 w V st ch ps ts wk L s (-1) gp l vl vr (jC + 1) jL W := by
  obtain ⟨vsC, vsL, lsC, lsL, h1, h2, h3, h4, h5, h6, h7, h8, h9, h10, h11, h12⟩ := h
  refine ⟨vsC, vsL, lsC, lsL, h1, h2, h3, h4, fun i hi hsi => ?_, h6, h7, h8, h9, h10, h11, h12⟩
  rw [h5 i hi hsi]
  unfold putM
  rw [if_neg (by omega), if_neg (by omega)]
end
end Go.Proofs.YtdeaccbolnlgpaaDoor.X

namespace Go.Proofs.YtdeaccbolnlgpaaDoor.X
open Go.RowKit Go.Shelf Go.Proofs.YtdeaccbolnlgpaaDoorW.PrintWords Go.Proofs.YtdeaccbolnlgpaaDoorW.PrintLast Go.Proofs.YtdeaccbolnlgpaaDoorW.PrintMore
set_option linter.unusedVariables false
set_option linter.unusedSimpArgs false

theorem Fam.right {w : World} {base : Nat} {vs us : List Value} {ls ms : List (List Int)} (h : Fam w base (vs ++ us) (ls ++ ms)) (hl : vs.length = ls.length) : Fam w base us ms where
  len := by have := h.len; simp at this; omega
  own := fun i hi hj => by
    have := h.own (vs.length + i) (by simp; omega) (by simp; omega)
    rw [List.getElem_append_right (by omega), List.getElem_append_right (by omega)] at this
    simpa [hl] using this
  apart := fun i j hi hj hne => by
    have := h.apart (vs.length + i) (vs.length + j) (by simp; omega) (by simp; omega) (by omega)
    rw [List.getElem_append_right (by omega), List.getElem_append_right (by omega)] at this
    simpa using this

theorem Rel2.done {w : World} {V : Array Value} {st : List S62} {ch : List S81} {ps : List S48} {ts wk : List Int} {L : Nat} {vr : Value} {W : World} (h : Rel2 w V st ch ps ts wk L st.length vr W) (hL : w.heap.size + 2 ≤ L) (hn : st.length ≤ 6) :
    Kd.R (Kd.int .i64) 3 W w.heap.size (fun _ => True) vr ts ∧
    Kd.S (Kd.slice 3 (Kd.int .i64)) 67 W w.heap.size (fun k => some k ≠ vr.ownBlock) (.slice (some ⟨L, 0, none⟩) st.length st.length) ((List.range st.length).map fun k => leftG st ch ps ts wk k) ∧ Below w.heap.size w W := by
  obtain ⟨vsC, vsL, lsC, lsL, h1, h2, h3, h4, h5, h6, h7, h8, h9, h10, h11, h12⟩ := h
  have ho := h9.own 0 (by simp) (by simp)
  simp only [List.getElem_cons_zero] at ho
  have e : lsL = (List.range st.length).map fun k => leftG st ch ps ts wk k := by
    apply List.ext_getElem
    · simp [h4]
    · intro i hi hi2
      rw [h6 i hi, if_pos (by omega)]
      simp
  have hf : Fam W w.heap.size vsL lsL := by
    have := h9.tail.right (by omega)
    exact ⟨this.len, fun i hi hl => own_low (this.own i hi hl) (by omega), this.apart⟩
  refine ⟨R_of_own (own_low ho (by omega)) fun _ _ => trivial, ?_, h10⟩
  have hs := S_of_fam (ok := fun k => some k ≠ vr.ownBlock) hf (bl := L) (by omega) (by omega) h8 (fun i hi k hk => ?_) (own_ne_other ho h8 rfl)
  · rw [e] at hs
    simpa [h2] using hs
  · intro e2
    have := h9.apart 0 (st.length + i + 1) (by simp) (by simp; omega) (by omega)
    simp only [List.getElem_cons_zero, List.getElem_cons_succ] at this
    rw [List.getElem_append_right (by omega)] at this
    simp only [h1, Nat.add_sub_cancel_left] at this
    rcases this with h | h
    · rw [h] at e2; cases e2
    · exact h (by rw [hk, e2])
end Go.Proofs.YtdeaccbolnlgpaaDoor.X
