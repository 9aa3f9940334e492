import Derived.Test.YtdeaccbolnlgpaaDoorXP1
namespace Go.Proofs.YtdeaccbolnlgpaaDoor.X
set_option linter.unusedVariables false
set_option linter.unusedSimpArgs false

/-! # The flow, at whatever times and walks -/

def comeG0 (ch : List S81) (ps : List S48) (ts : List Int) (i : Int) : List Int := ((ps.zip ts).filter fun p => (rd_T81 ch p.1.f0).f0 == i).map (·.2)
def leftOfG (wk : Int) (s : S62) (l : List Int) : List Int := flowL wk s.f1 (sortL l)
def comeG (st : List S62) (ch : List S81) (ps : List S48) (ts wk : List Int) : Nat → Int → List Int
  | 0 => comeG0 ch ps ts
  | k + 1 => putM (rd_T62 st k).f0 (putM k [] (comeG st ch ps ts wk k) (rd_T62 st k).f0 ++ leftOfG (wk.getD k 0) (rd_T62 st k) (comeG st ch ps ts wk k k)) (putM k [] (comeG st ch ps ts wk k))
def leftG (st : List S62) (ch : List S81) (ps : List S48) (ts wk : List Int) (k : Nat) : List Int := leftOfG (wk.getD k 0) (rd_T62 st k) (comeG st ch ps ts wk k k)

theorem comeG0_eq (b : Bool) (ch : List S81) (ps : List S48) : comeG0 ch ps (ps.map (leaveT b ch)) = comeO b ch ps := by
  funext i
  unfold comeG0 comeO
  induction ps with
  | nil => rfl
  | cons x l ih =>
    simp only [List.map_cons, List.zip_cons_cons, List.filter_cons]
    split
    · simp only [List.map_cons, ih]
    · exact ih

theorem comeG_eq (b : Bool) (st : List S62) (ch : List S81) (ps : List S48) : ∀ k, k ≤ st.length → comeG st ch ps (ps.map (leaveT b ch)) (st.map fun s => timeS b s.f2) k = comeAt b st ch ps k
  | 0, _ => comeG0_eq b ch ps
  | k + 1, hk => by
    have ih := comeG_eq b st ch ps k (by omega)
    have e : (st.map fun s => timeS b s.f2).getD k 0 = timeS b (rd_T62 st k).f2 := by
      rw [rdT62_get (by omega)]
      simp [List.getD_eq_getElem?_getD, (by omega : k < st.length)]
    simp only [comeG, comeAt, comeN, ih, leftOfG, leftOf, e]
theorem leftG_eq (b : Bool) (st : List S62) (ch : List S81) (ps : List S48) {k : Nat} (hk : k < st.length) : leftG st ch ps (ps.map (leaveT b ch)) (st.map fun s => timeS b s.f2) k = leftAt b st ch ps k := by
  have e : (st.map fun s => timeS b s.f2).getD k 0 = timeS b (rd_T62 st k).f2 := by
    rw [rdT62_get hk]
    simp [List.getD_eq_getElem?_getD, hk]
  simp only [leftG, leftAt, leftOfG, leftOf, comeG_eq b st ch ps k (by omega), e]

theorem comeG0_succ (ch : List S81) (ps : List S48) (ts : List Int) (h : ts.length = ps.length) (k : Nat) (hk : k < ps.length) :
    comeG0 ch (ps.take (k + 1)) (ts.take (k + 1)) = putM (rd_T81 ch ps[k].f0).f0 (comeG0 ch (ps.take k) (ts.take k) (rd_T81 ch ps[k].f0).f0 ++ [ts[k]]) (comeG0 ch (ps.take k) (ts.take k)) := by
  funext i
  have hz : (ps.take (k + 1)).zip (ts.take (k + 1)) = (ps.take k).zip (ts.take k) ++ [(ps[k], ts[k])] := by
    rw [List.take_succ_eq_append_getElem hk, List.take_succ_eq_append_getElem (by omega : k < ts.length), List.zip_append (by simp; omega)]
    rfl
  unfold comeG0 putM
  rw [hz, List.filter_append, List.map_append]
  by_cases e : i = (rd_T81 ch ps[k].f0).f0
  · subst e; simp
  · have : ((rd_T81 ch ps[k].f0).f0 == i) = false := by simp; exact fun h => e h.symm
    simp [e, this]

variable {st : List S62} {ch : List S81} {ps : List S48} {ts wk : List Int}

theorem comeG0_mem {i t : Int} (h : t ∈ comeG0 ch ps ts i) : ∃ x ∈ ps, (rd_T81 ch x.f0).f0 = i ∧ t ∈ ts := by
  obtain ⟨p, hp, rfl⟩ := List.mem_map.1 h
  obtain ⟨h1, h2⟩ := List.mem_filter.1 hp
  have := List.of_mem_zip (a := p.1) (b := p.2) h1
  exact ⟨p.1, this.1, by simpa using h2, this.2⟩

theorem mass_comeG0 {n : Nat} (h : ts.length = ps.length) (hs : ∀ x ∈ ps, (rd_T81 ch x.f0).f0 ∈ keysN n) : ∀ k, k ≤ ps.length → massL (keysN n) (comeG0 ch (ps.take k) (ts.take k)) = k
  | 0, _ => by
    have : ∀ l : List Int, (l.map fun _ => (0 : Nat)).sum = 0 := fun l => by induction l <;> simp [*]
    unfold massL comeG0
    simpa using this _
  | k + 1, hk => by
    have ih := mass_comeG0 h hs k (by omega)
    rw [comeG0_succ ch ps ts h k hk]
    have := mass_put (comeG0 ch (ps.take k) (ts.take k) (rd_T81 ch ps[k].f0).f0 ++ [ts[k]]) (comeG0 ch (ps.take k) (ts.take k)) (keysN_nodup n) (hs ps[k] (List.getElem_mem _))
    simp at this
    omega

/-- What comes in. -/
structure GoIn (st : List S62) (ch : List S81) (ps : List S48) (ts wk : List Int) : Prop where
  valid : Valid st ch ps
  nts : ts.length = ps.length
  nwk : wk.length = st.length
  tsb : ∀ t ∈ ts, 0 ≤ t ∧ t ≤ 106600
  wkb : ∀ t ∈ wk, 0 ≤ t ∧ t ≤ 600
theorem GoIn.wk_get (h : GoIn st ch ps ts wk) {k : Nat} (hk : k < st.length) : 0 ≤ wk.getD k 0 ∧ wk.getD k 0 ≤ 600 := by
  have := h.nwk
  rw [List.getD_eq_getElem?_getD, List.getElem?_eq_getElem (by omega)]
  exact h.wkb _ (List.getElem_mem _)

theorem leftOfG_length (w : Int) (s : S62) (l : List Int) : (leftOfG w s l).length = l.length := by rw [leftOfG, flowL_length, sortL_length]

theorem GoIn.mass (h : GoIn st ch ps ts wk) : ∀ k, k ≤ st.length → massL (keysN st.length) (comeG st ch ps ts wk k) = ps.length
  | 0, _ => by
    have := mass_comeG0 (ch := ch) (n := st.length) h.nts (fun x hx => mem_keysN.2 (by have := h.valid.stairOf hx; omega)) ps.length (Nat.le_refl _)
    rw [List.take_length, ← h.nts, List.take_length] at this
    rw [← h.nts]
    exact this
  | k + 1, hk => by
    have ih := h.mass k (by omega)
    have h1 := stairB_iff.1 (h.valid.built.stair k (by omega))
    simp only [comeG]
    rw [rdT62_get (by omega)]
    have e1 := mass_put [] (comeG st ch ps ts wk k) (keysN_nodup st.length) (i := (k : Int)) (mem_keysN.2 (by omega))
    have e2 := mass_put (putM k [] (comeG st ch ps ts wk k) st[k].f0 ++ leftOfG (wk.getD k 0) st[k] (comeG st ch ps ts wk k k)) (putM k [] (comeG st ch ps ts wk k)) (keysN_nodup st.length) (i := st[k].f0) (mem_keysN.2 (by omega))
    have e3 := leftOfG_length (wk.getD k 0) st[k] (comeG st ch ps ts wk k k)
    simp at e1 e2
    simp only [List.getD_eq_getElem?_getD] at e3 ⊢
    omega

theorem GoIn.len (h : GoIn st ch ps ts wk) {k : Nat} (hk : k ≤ st.length) {i : Int} (hi : i ∈ keysN st.length) : (comeG st ch ps ts wk k i).length ≤ ps.length := by
  rw [← h.mass k hk]; exact mass_le hi

theorem leftG_bound {s : S62} (hs : StairOk s) {w : Int} (hw : 0 ≤ w ∧ w ≤ 600) {l : List Int} {B : Int} (hl : ∀ t ∈ l, 0 ≤ t ∧ t ≤ B) (hn : l.length ≤ 24) (hB : 0 ≤ B) : ∀ t ∈ leftOfG w s l, 0 ≤ t ∧ t ≤ B + 2040 := fun t ht => by
  unfold StairOk at hs
  have := flow_bound hw (⟨hs.2.2.1, hs.2.2.2.1⟩ : 0 ≤ s.f1 ∧ s.f1 ≤ 60) (sortL l) [] (B + 600) (fun z hz => hl z (List.mem_mergeSort.1 hz)) (by simp) (by omega) t ht
  rw [sortL_length] at this
  omega

theorem GoIn.val (h : GoIn st ch ps ts wk) : ∀ (k : Nat), k ≤ st.length → ∀ i, ∀ t ∈ comeG st ch ps ts wk k i, 0 ≤ t ∧ t ≤ 106600 + 2040 * (k : Int)
  | 0, _, i, t, ht => by
    obtain ⟨x, hx, _, h2⟩ := comeG0_mem ht
    have := h.tsb t h2
    omega
  | k + 1, hk, i, t, ht => by
    have ih := h.val k (by omega)
    have hs := h.valid.stairOk (List.getElem_mem (h := (by omega : k < st.length)))
    simp only [comeG] at ht
    rw [rdT62_get (by omega)] at ht
    have hlf := leftG_bound hs (h.wk_get (by omega : k < st.length)) (l := comeG st ch ps ts wk k k) (B := 106600 + 2040 * (k : Int)) (fun t ht => ih k t ht) (by have := h.len (k := k) (by omega) (i := k) (mem_keysN.2 (by omega)); have := h.valid.nps; omega) (by omega)
    have hput : ∀ j, ∀ t ∈ putM (k : Int) [] (comeG st ch ps ts wk k) j, 0 ≤ t ∧ t ≤ 106600 + 2040 * (k : Int) := fun j t ht => by
      unfold putM at ht
      split at ht
      · simp at ht
      · exact ih j t ht
    by_cases e : i = st[k].f0
    · subst e
      rw [putM, if_pos rfl] at ht
      rcases List.mem_append.1 ht with ht | ht
      · have := hput _ t ht; omega
      · have := hlf t ht; omega
    · rw [putM, if_neg e] at ht
      have := hput _ t ht; omega
theorem GoIn.leftVal (h : GoIn st ch ps ts wk) {k : Nat} (hk : k < st.length) : ∀ t ∈ leftG st ch ps ts wk k, 0 ≤ t ∧ t ≤ 200000 := fun t ht => by
  have hs := h.valid.stairOk (List.getElem_mem (h := hk))
  unfold leftG at ht
  rw [rdT62_get hk] at ht
  have := leftG_bound hs (h.wk_get hk) (l := comeG st ch ps ts wk k k) (B := 106600 + 2040 * (k : Int)) (fun t ht => h.val k (by omega) k t ht) (by have := h.len (k := k) (by omega) (i := k) (mem_keysN.2 (by omega)); have := h.valid.nps; omega) (by omega) t ht
  have := h.valid.built.nst
  omega
end Go.Proofs.YtdeaccbolnlgpaaDoor.X
