import Derived.Test.YtdeaccbolnlgpaaDoorXC5
namespace Go.Proofs.YtdeaccbolnlgpaaDoor.X
set_option linter.unusedVariables false
set_option linter.unusedSimpArgs false

/-! # A valid building, valid people: the flow stays within its bounds -/

theorem inB_one {lo hi x : Int} : inB lo hi [x] = true ↔ lo ≤ x ∧ x ≤ hi := by
  simp [inB, outB]
theorem ordB_iff {lo hi : Int} {s : S36} : ordB lo hi s = true ↔ lo ≤ s.f0 ∧ s.f0 ≤ s.f1 ∧ s.f1 ≤ hi := by
  simp [ordB, inB, outB]
  omega
theorem livesB_iff {m : Nat} {x : S48} : livesB m x = true ↔ (0 ≤ x.f0 ∧ x.f0 < m) ∧ (100 ≤ x.f1.f0 ∧ x.f1.f0 ≤ x.f1.f1 ∧ x.f1.f1 ≤ 3000) ∧ (0 ≤ x.f2.f0 ∧ x.f2.f0 ≤ x.f2.f1 ∧ x.f2.f1 ≤ 3600) := by
  simp only [livesB, Bool.and_eq_true, inB_one, ordB_iff]
  omega
theorem chamberB_iff {n : Nat} {c : S81} : chamberB n c = true ↔ (0 ≤ c.f0 ∧ c.f0 < n) ∧ (0 ≤ c.f1 ∧ c.f1 ≤ 100000) ∧ (0 ≤ c.f2.f0 ∧ c.f2.f0 ≤ c.f2.f1 ∧ c.f2.f1 ≤ 36000) := by
  simp only [chamberB, Bool.and_eq_true, inB_one, ordB_iff]
  omega
theorem stairB_iff {n : Nat} {i : Int} {s : S62} : stairB n i s = true ↔ (s.f0 = -1 ∨ (i < s.f0 ∧ s.f0 < n)) ∧ (0 ≤ s.f1 ∧ s.f1 ≤ 60) ∧ (0 ≤ s.f2.f0 ∧ s.f2.f0 ≤ s.f2.f1 ∧ s.f2.f1 ≤ 600) ∧ (0 ≤ s.f3.f0 ∧ s.f3.f0 ≤ s.f3.f1 ∧ s.f3.f1 ≤ 36000) := by
  simp only [stairB, Bool.and_eq_true, Bool.or_eq_true, inB_one, ordB_iff, beq_iff_eq]
  omega
theorem stairsB_get {n : Nat} : ∀ {l : List S62} {i : Int}, stairsB n i l = true → ∀ (k : Nat) (hk : k < l.length), stairB n (i + k) l[k] = true
  | [], _, _, k, hk => by simp at hk
  | s :: l, i, h, k, hk => by
    simp only [stairsB, Bool.and_eq_true] at h
    cases k with
    | zero => simpa using h.1
    | succ k =>
      have := stairsB_get h.2 k (by simpa using hk)
      rw [show i + 1 + (k : Int) = i + ((k + 1 : Nat) : Int) by omega] at this
      simpa using this

structure Built (st : List S62) (ch : List S81) : Prop where
  nst : st.length ≤ 6
  nst0 : 1 ≤ st.length
  nch : ch.length ≤ 8
  nch0 : 1 ≤ ch.length
  stair : ∀ (k : Nat) (hk : k < st.length), stairB st.length k st[k] = true
  chamber : ∀ c ∈ ch, chamberB st.length c = true
theorem builtB_iff {st : List S62} {ch : List S81} (h : builtB st ch = true) : Built st ch := by
  simp only [builtB, Bool.and_eq_true, inB_one, List.all_eq_true] at h
  obtain ⟨⟨⟨h1, h2⟩, h3⟩, h4⟩ := h
  exact ⟨by omega, by omega, by omega, by omega, fun k hk => by simpa using stairsB_get h1 k hk, h4⟩

/-! ## How many there are -/
def massL (ks : List Int) (m : Int → List Int) : Nat := (ks.map fun i => (m i).length).sum
theorem mass_put_out {ks : List Int} {i : Int} (l : List Int) (m : Int → List Int) (h : i ∉ ks) : massL ks (putM i l m) = massL ks m := by
  unfold massL
  congr 1
  refine List.map_congr_left fun j hj => ?_
  have : j ≠ i := fun e => h (e ▸ hj)
  simp [putM, this]
theorem mass_put {i : Int} (l : List Int) (m : Int → List Int) : ∀ {ks : List Int}, ks.Nodup → i ∈ ks → massL ks (putM i l m) + (m i).length = massL ks m + l.length
  | [], _, h => by simp at h
  | k :: ks, hn, h => by
    rw [List.nodup_cons] at hn
    by_cases e : k = i
    · subst e
      have := mass_put_out l m hn.1
      unfold massL at this ⊢
      simp only [List.map_cons, List.sum_cons, this]
      simp [putM]
      omega
    · have hi : i ∈ ks := by
        rcases List.mem_cons.1 h with h | h
        · exact absurd h.symm e
        · exact h
      have := mass_put l m hn.2 hi
      unfold massL at this ⊢
      simp only [List.map_cons, List.sum_cons]
      have e2 : putM i l m k = m k := by simp [putM, e]
      rw [e2]
      omega
theorem le_sum_mem {a : Nat} : ∀ {l : List Nat}, a ∈ l → a ≤ l.sum
  | b :: l, h => by
    rw [List.sum_cons]
    rcases List.mem_cons.1 h with rfl | h
    · omega
    · have := le_sum_mem h; omega
theorem mass_le {ks : List Int} {m : Int → List Int} {i : Int} (h : i ∈ ks) : (m i).length ≤ massL ks m := by
  unfold massL
  exact le_sum_mem (List.mem_map.2 ⟨i, h, rfl⟩)

def keysN (n : Nat) : List Int := -1 :: (List.range n).map fun (j : Nat) => (j : Int)
theorem keysN_nodup (n : Nat) : (keysN n).Nodup := by
  unfold keysN
  rw [List.nodup_cons]
  refine ⟨fun h => ?_, ?_⟩
  · obtain ⟨j, _, hj⟩ := List.mem_map.1 h; omega
  · exact List.pairwise_map.2 (List.nodup_range.imp fun h e => h (by omega))
theorem mem_keysN {n : Nat} {i : Int} : i ∈ keysN n ↔ -1 ≤ i ∧ i < n := by
  unfold keysN
  rw [List.mem_cons, List.mem_map]
  constructor
  · rintro (rfl | ⟨j, hj, rfl⟩)
    · omega
    · rw [List.mem_range] at hj; omega
  · rintro ⟨h1, h2⟩
    by_cases e : i = -1
    · exact .inl e
    · exact .inr ⟨i.toNat, by rw [List.mem_range]; omega, by omega⟩

theorem rdT62_get {st : List S62} {k : Nat} (h : k < st.length) : rd_T62 st (k : Int) = st[k] := by simp [rd_T62, List.getD_eq_getElem?_getD, h]
theorem rdT81_get {ch : List S81} {c : Int} (h0 : 0 ≤ c) (h : c < ch.length) : rd_T81 ch c ∈ ch := by
  have : c.toNat < ch.length := by omega
  simp [rd_T81, List.getD_eq_getElem?_getD, this]

theorem comeO_mem {b : Bool} {ch : List S81} {ps : List S48} {i t : Int} (h : t ∈ comeO b ch ps i) : ∃ x ∈ ps, (rd_T81 ch x.f0).f0 = i ∧ t = leaveT b ch x := by
  obtain ⟨x, hx, rfl⟩ := List.mem_map.1 h
  obtain ⟨h1, h2⟩ := List.mem_filter.1 hx
  exact ⟨x, h1, by simpa using h2, rfl⟩

theorem mass_comeO {n : Nat} (b : Bool) (ch : List S81) (ps : List S48) (hs : ∀ x ∈ ps, (rd_T81 ch x.f0).f0 ∈ keysN n) : ∀ k, k ≤ ps.length → massL (keysN n) (comeO b ch (ps.take k)) = k
  | 0, _ => by
    have : ∀ l : List Int, (l.map fun _ => (0 : Nat)).sum = 0 := fun l => by induction l <;> simp [*]
    unfold massL comeO
    simpa using this _
  | k + 1, hk => by
    have ih := mass_comeO b ch ps hs k (by omega)
    rw [comeO_succ b ch ps k hk]
    have := mass_put (comeO b ch (ps.take k) (rd_T81 ch ps[k].f0).f0 ++ [leaveT b ch ps[k]]) (comeO b ch (ps.take k)) (keysN_nodup n) (hs ps[k] (List.getElem_mem _))
    simp at this
    omega

structure Valid (st : List S62) (ch : List S81) (ps : List S48) : Prop where
  built : Built st ch
  nps : ps.length ≤ 24
  lives : ∀ x ∈ ps, livesB ch.length x = true
theorem checkF_zero {st : List S62} {ch : List S81} {ps : List S48} : checkF st ch ps = 0 → Valid st ch ps := by
  intro h
  unfold checkF at h
  split at h
  · rename_i hb
    split at h
    · omega
    · split at h
      · rename_i h2 h3
        exact ⟨builtB_iff hb, by omega, fun x hx => List.all_eq_true.1 h3 x hx⟩
      · omega
  · omega

variable {b : Bool} {st : List S62} {ch : List S81} {ps : List S48}

theorem Valid.stairOf (h : Valid st ch ps) {x : S48} (hx : x ∈ ps) : 0 ≤ (rd_T81 ch x.f0).f0 ∧ (rd_T81 ch x.f0).f0 < st.length := by
  have := livesB_iff.1 (h.lives x hx)
  have := chamberB_iff.1 (h.built.chamber _ (rdT81_get this.1.1 this.1.2))
  omega
theorem Valid.walkOk (h : Valid st ch ps) {x : S48} (hx : x ∈ ps) : WalkOk ch x := by
  have h1 := livesB_iff.1 (h.lives x hx)
  have h2 := chamberB_iff.1 (h.built.chamber _ (rdT81_get h1.1.1 h1.1.2))
  have := h.built.nst
  unfold WalkOk
  omega
theorem Valid.stairOk (h : Valid st ch ps) {s : S62} (hs : s ∈ st) : StairOk s := by
  obtain ⟨k, hk, rfl⟩ := List.getElem_of_mem hs
  have h1 := stairB_iff.1 (h.built.stair k hk)
  have := h.built.nst
  unfold StairOk
  omega
theorem leaveT_bounds {x : S48} (hx : WalkOk ch x) : 0 ≤ leaveT b ch x ∧ leaveT b ch x ≤ 106600 := by
  unfold WalkOk at hx
  have hp : 1 ≤ paceS b x.f1 ∧ paceS b x.f1 ≤ 3000 := by unfold paceS; split <;> omega
  have ht : 0 ≤ timeS b x.f2 ∧ timeS b x.f2 ≤ 3600 := by unfold timeS; split <;> omega
  have h1 : 0 ≤ ((rd_T81 ch x.f0).f1 + paceS b x.f1 - 1) / paceS b x.f1 := Int.ediv_nonneg (by omega) (by omega)
  have h2 : ((rd_T81 ch x.f0).f1 + paceS b x.f1 - 1) / paceS b x.f1 ≤ (rd_T81 ch x.f0).f1 + paceS b x.f1 - 1 := Int.ediv_le_self _ (by omega)
  unfold leaveT
  omega

/-- Keys that nobody comes to. -/
theorem Valid.out (h : Valid st ch ps) : ∀ (k : Nat) (i : Int), i ∉ keysN st.length → comeAt b st ch ps k i = []
  | 0, i, hi => by
    simp only [comeAt]
    refine List.eq_nil_iff_forall_not_mem.2 fun t ht => ?_
    obtain ⟨x, hx, rfl, _⟩ := comeO_mem ht
    have := h.stairOf hx
    exact hi (mem_keysN.2 (by omega))
  | k + 1, i, hi => by
    have ih := h.out k
    simp only [comeAt, comeN]
    by_cases hk : k < st.length
    · have h1 := stairB_iff.1 (h.built.stair k hk)
      rw [rdT62_get hk]
      have hne : i ≠ st[k].f0 := fun e => hi (mem_keysN.2 (by omega))
      have hnk : i ≠ (k : Int) := fun e => hi (mem_keysN.2 (by omega))
      simp [putM, hne, hnk, ih i hi]
    · have h0 : comeAt b st ch ps k k = [] := ih k (fun hm => by have := mem_keysN.1 hm; omega)
      have hd : (rd_T62 st (k : Int)).f0 = 0 := by
        simp [rd_T62, List.getD_eq_getElem?_getD, List.getElem?_eq_none (Nat.not_lt.1 hk)]
        rfl
      have hne : i ≠ 0 := fun e => hi (mem_keysN.2 (by have := h.built.nst0; omega))
      rw [hd, h0]
      have e1 := ih i hi
      rw [putM, if_neg hne, putM]
      split
      · rfl
      · exact e1

theorem leftOf_nil (b : Bool) (s : S62) : leftOf b s [] = [] := by simp [leftOf, sortL, flowL]
/-- Behind the last stair nothing changes. -/
theorem Valid.past (h : Valid st ch ps) {k : Nat} (hk : st.length ≤ k) : comeAt b st ch ps (k + 1) = comeAt b st ch ps k := by
  have h0 : comeAt b st ch ps k k = [] := h.out k k (fun hm => by have := mem_keysN.1 hm; omega)
  simp only [comeAt, comeN]
  rw [h0, leftOf_nil]
  have e1 : putM (k : Int) [] (comeAt b st ch ps k) = comeAt b st ch ps k := by
    funext i
    unfold putM
    split
    · rename_i e; rw [e, h0]
    · rfl
  rw [e1]
  funext i
  unfold putM
  split
  · rename_i e; rw [e, List.append_nil]
  · rfl

theorem Valid.mass (h : Valid st ch ps) : ∀ k, massL (keysN st.length) (comeAt b st ch ps k) = ps.length
  | 0 => by
    have := mass_comeO (n := st.length) b ch ps (fun x hx => mem_keysN.2 (by have := h.stairOf hx; omega)) ps.length (Nat.le_refl _)
    rwa [List.take_length] at this
  | k + 1 => by
    have ih := h.mass k
    by_cases hk : k < st.length
    · have h1 := stairB_iff.1 (h.built.stair k hk)
      simp only [comeAt, comeN]
      rw [rdT62_get hk]
      have e1 := mass_put [] (comeAt b st ch ps k) (keysN_nodup st.length) (i := (k : Int)) (mem_keysN.2 (by omega))
      have e2 := mass_put (putM k [] (comeAt b st ch ps k) st[k].f0 ++ leftOf b st[k] (comeAt b st ch ps k k)) (putM k [] (comeAt b st ch ps k)) (keysN_nodup st.length) (i := st[k].f0) (mem_keysN.2 (by omega))
      have e3 : (leftOf b st[k] (comeAt b st ch ps k k)).length = (comeAt b st ch ps k k).length := by rw [leftOf, flowL_length, sortL_length]
      simp at e1 e2
      omega
    · rw [h.past (by omega)]; exact ih

theorem Valid.len (h : Valid st ch ps) (k : Nat) (i : Int) : (comeAt b st ch ps k i).length ≤ ps.length := by
  by_cases hi : i ∈ keysN st.length
  · rw [← h.mass (b := b) k]; exact mass_le hi
  · rw [h.out k i hi]; simp

/-! ## How late it is -/
theorem flow_bound {wk gp B : Int} (hw : 0 ≤ wk ∧ wk ≤ 600) (hg : 0 ≤ gp ∧ gp ≤ 60) : ∀ (ts acc : List Int) (M : Int), (∀ t ∈ ts, 0 ≤ t ∧ t ≤ B) → (∀ t ∈ acc, 0 ≤ t ∧ t ≤ M) → B + 600 ≤ M → ∀ t ∈ ts.foldl (flowStep wk gp) acc, 0 ≤ t ∧ t ≤ M + 60 * ts.length
  | [], acc, M, _, ha, _ => fun t ht => by have := ha t ht; simp; omega
  | u :: ts, acc, M, ht, ha, hM => fun t h => by
    have hu := ht u (by simp)
    have := flow_bound hw hg ts (flowStep wk gp acc u) (M + 60) (fun t h => ht t (by simp [h])) (fun z hz => by
      rcases List.mem_append.1 hz with hz | hz
      · have := ha z hz; omega
      · rw [List.mem_singleton] at hz
        subst hz
        cases hl : acc.getLast? with
        | none => simp only; omega
        | some p =>
          have hp := ha p (List.mem_of_getLast? hl)
          simp only
          rcases Int.le_total u (p - wk + gp) with h1 | h1
          · rw [Int.max_eq_right h1]; omega
          · rw [Int.max_eq_left h1]; omega) (by omega) t h
    simp only [List.length_cons]
    omega
theorem left_bound {s : S62} (hs : StairOk s) {l : List Int} {B : Int} (hl : ∀ t ∈ l, 0 ≤ t ∧ t ≤ B) (hn : l.length ≤ 24) (hB : 0 ≤ B) : ∀ t ∈ leftOf b s l, 0 ≤ t ∧ t ≤ B + 2040 := fun t ht => by
  unfold StairOk at hs
  have hw : 0 ≤ timeS b s.f2 ∧ timeS b s.f2 ≤ 600 := by unfold timeS; split <;> omega
  have := flow_bound hw (⟨hs.2.2.1, hs.2.2.2.1⟩ : 0 ≤ s.f1 ∧ s.f1 ≤ 60) (sortL l) [] (B + 600) (fun z hz => hl z (List.mem_mergeSort.1 hz)) (by simp) (by omega) t ht
  rw [sortL_length] at this
  omega

theorem Valid.val (h : Valid st ch ps) : ∀ (k : Nat), k ≤ st.length → ∀ i, ∀ t ∈ comeAt b st ch ps k i, 0 ≤ t ∧ t ≤ 106600 + 2040 * (k : Int)
  | 0, _, i, t, ht => by
    obtain ⟨x, hx, _, rfl⟩ := comeO_mem ht
    have := leaveT_bounds (b := b) (h.walkOk hx)
    omega
  | k + 1, hk, i, t, ht => by
    have ih := h.val k (by omega)
    have hs := h.stairOk (List.getElem_mem (h := (by omega : k < st.length)))
    simp only [comeAt, comeN] at ht
    rw [rdT62_get (by omega)] at ht
    have hlf := left_bound (b := b) hs (l := comeAt b st ch ps k k) (B := 106600 + 2040 * (k : Int)) (fun t ht => ih k t ht) (by have := h.len (b := b) k k; have := h.nps; omega) (by omega)
    have hput : ∀ j, ∀ t ∈ putM (k : Int) [] (comeAt b st ch ps k) j, 0 ≤ t ∧ t ≤ 106600 + 2040 * (k : Int) := fun j t ht => by
      unfold putM at ht
      split at ht
      · simp at ht
      · exact ih j t ht
    by_cases e : i = st[k].f0
    · subst e
      rw [putM, if_pos rfl] at ht
      rcases List.mem_append.1 ht with ht | ht
      · have := hput _ t ht; omega
      · have := hlf t ht; omega
    · rw [putM, if_neg e] at ht
      have := hput _ t ht; omega
theorem Valid.val' (h : Valid st ch ps) : ∀ (k : Nat) (i : Int), ∀ t ∈ comeAt b st ch ps k i, 0 ≤ t ∧ t ≤ 1000000000
  | k, i, t, ht => by
    by_cases hk : k ≤ st.length
    · have := h.val k hk i t ht
      have := h.built.nst
      omega
    · obtain ⟨j, rfl⟩ : ∃ j, k = j + 1 := ⟨k - 1, by omega⟩
      rw [h.past (by omega)] at ht
      exact h.val' j i t ht

theorem Valid.flow (h : Valid st ch ps) (b : Bool) : Flow b st ch ps where
  nst := by have := h.built.nst; omega
  nch := by have := h.built.nch; omega
  nps := by have := h.nps; omega
  ok := fun x hx => h.walkOk hx
  stair := fun s hs => h.stairOk hs
  len := fun k i => by have := h.len (b := b) k i; have := h.nps; omega
  val := h.val'
end Go.Proofs.YtdeaccbolnlgpaaDoor.X

namespace Go.Proofs.YtdeaccbolnlgpaaDoor.X
set_option linter.unusedVariables false
set_option linter.unusedSimpArgs false

/-! # The flow, at whatever times and walks -/

def comeG0 (ch : List S81) (ps : List S48) (ts : List Int) (i : Int) : List Int := ((ps.zip ts).filter fun p => (rd_T81 ch p.1.f0).f0 == i).map (·.2)
def leftOfG (wk : Int) (s : S62) (l : List Int) : List Int := flowL wk s.f1 (sortL l)
def comeG (st : List S62) (ch : List S81) (ps : List S48) (ts wk : List Int) : Nat → Int → List Int
  | 0 => comeG0 ch ps ts
  | k + 1 => putM (rd_T62 st k).f0 (putM k [] (comeG st ch ps ts wk k) (rd_T62 st k).f0 ++ leftOfG (wk.getD k 0) (rd_T62 st k) (comeG st ch ps ts wk k k)) (putM k [] (comeG st ch ps ts wk k))
def leftG (st : List S62) (ch : List S81) (ps : List S48) (ts wk : List Int) (k : Nat) : List Int := leftOfG (wk.getD k 0) (rd_T62 st k) (comeG st ch ps ts wk k k)

theorem comeG0_eq (b : Bool) (ch : List S81) (ps : List S48) : comeG0 ch ps (ps.map (leaveT b ch)) = comeO b ch ps := by
  funext i
  unfold comeG0 comeO
  induction ps with
  | nil => rfl
  | cons x l ih =>
    simp only [List.map_cons, List.zip_cons_cons, List.filter_cons]
    split
    · simp only [List.map_cons, ih]
    · exact ih

theorem comeG_eq (b : Bool) (st : List S62) (ch : List S81) (ps : List S48) : ∀ k, k ≤ st.length → comeG st ch ps (ps.map (leaveT b ch)) (st.map fun s => timeS b s.f2) k = comeAt b st ch ps k
  | 0, _ => comeG0_eq b ch ps
  | k + 1, hk => by
    have ih := comeG_eq b st ch ps k (by omega)
    have e : (st.map fun s => timeS b s.f2).getD k 0 = timeS b (rd_T62 st k).f2 := by
      rw [rdT62_get (by omega)]
      simp [List.getD_eq_getElem?_getD, (by omega : k < st.length)]
    simp only [comeG, comeAt, comeN, ih, leftOfG, leftOf, e]
theorem leftG_eq (b : Bool) (st : List S62) (ch : List S81) (ps : List S48) {k : Nat} (hk : k < st.length) : leftG st ch ps (ps.map (leaveT b ch)) (st.map fun s => timeS b s.f2) k = leftAt b st ch ps k := by
  have e : (st.map fun s => timeS b s.f2).getD k 0 = timeS b (rd_T62 st k).f2 := by
    rw [rdT62_get hk]
    simp [List.getD_eq_getElem?_getD, hk]
  simp only [leftG, leftAt, leftOfG, leftOf, comeG_eq b st ch ps k (by omega), e]

theorem comeG0_succ (ch : List S81) (ps : List S48) (ts : List Int) (h : ts.length = ps.length) (k : Nat) (hk : k < ps.length) :
    comeG0 ch (ps.take (k + 1)) (ts.take (k + 1)) = putM (rd_T81 ch ps[k].f0).f0 (comeG0 ch (ps.take k) (ts.take k) (rd_T81 ch ps[k].f0).f0 ++ [ts[k]]) (comeG0 ch (ps.take k) (ts.take k)) := by
  funext i
  have hz : (ps.take (k + 1)).zip (ts.take (k + 1)) = (ps.take k).zip (ts.take k) ++ [(ps[k], ts[k])] := by
    rw [List.take_succ_eq_append_getElem hk, List.take_succ_eq_append_getElem (by omega : k < ts.length), List.zip_append (by simp; omega)]
    rfl
  unfold comeG0 putM
  rw [hz, List.filter_append, List.map_append]
  by_cases e : i = (rd_T81 ch ps[k].f0).f0
  · subst e; simp
  · have : ((rd_T81 ch ps[k].f0).f0 == i) = false := by simp; exact fun h => e h.symm
    simp [e, this]

variable {st : List S62} {ch : List S81} {ps : List S48} {ts wk : List Int}

theorem comeG0_mem {i t : Int} (h : t ∈ comeG0 ch ps ts i) : ∃ x ∈ ps, (rd_T81 ch x.f0).f0 = i ∧ t ∈ ts := by
  obtain ⟨p, hp, rfl⟩ := List.mem_map.1 h
  obtain ⟨h1, h2⟩ := List.mem_filter.1 hp
  have := List.of_mem_zip (a := p.1) (b := p.2) h1
  exact ⟨p.1, this.1, by simpa using h2, this.2⟩

theorem mass_comeG0 {n : Nat} (h : ts.length = ps.length) (hs : ∀ x ∈ ps, (rd_T81 ch x.f0).f0 ∈ keysN n) : ∀ k, k ≤ ps.length → massL (keysN n) (comeG0 ch (ps.take k) (ts.take k)) = k
  | 0, _ => by
    have : ∀ l : List Int, (l.map fun _ => (0 : Nat)).sum = 0 := fun l => by induction l <;> simp [*]
    unfold massL comeG0
    simpa using this _
  | k + 1, hk => by
    have ih := mass_comeG0 h hs k (by omega)
    rw [comeG0_succ ch ps ts h k hk]
    have := mass_put (comeG0 ch (ps.take k) (ts.take k) (rd_T81 ch ps[k].f0).f0 ++ [ts[k]]) (comeG0 ch (ps.take k) (ts.take k)) (keysN_nodup n) (hs ps[k] (List.getElem_mem _))
    simp at this
    omega

/-- What comes in. -/
structure GoIn (st : List S62) (ch : List S81) (ps : List S48) (ts wk : List Int) : Prop where
  valid : Valid st ch ps
  nts : ts.length = ps.length
  nwk : wk.length = st.length
  tsb : ∀ t ∈ ts, 0 ≤ t ∧ t ≤ 106600
  wkb : ∀ t ∈ wk, 0 ≤ t ∧ t ≤ 600
theorem GoIn.wk_get (h : GoIn st ch ps ts wk) {k : Nat} (hk : k < st.length) : 0 ≤ wk.getD k 0 ∧ wk.getD k 0 ≤ 600 := by
  have := h.nwk
  rw [List.getD_eq_getElem?_getD, List.getElem?_eq_getElem (by omega)]
  exact h.wkb _ (List.getElem_mem _)

theorem leftOfG_length (w : Int) (s : S62) (l : List Int) : (leftOfG w s l).length = l.length := by rw [leftOfG, flowL_length, sortL_length]

theorem GoIn.mass (h : GoIn st ch ps ts wk) : ∀ k, k ≤ st.length → massL (keysN st.length) (comeG st ch ps ts wk k) = ps.length
  | 0, _ => by
    have := mass_comeG0 (ch := ch) (n := st.length) h.nts (fun x hx => mem_keysN.2 (by have := h.valid.stairOf hx; omega)) ps.length (Nat.le_refl _)
    rw [List.take_length, ← h.nts, List.take_length] at this
    rw [← h.nts]
    exact this
  | k + 1, hk => by
    have ih := h.mass k (by omega)
    have h1 := stairB_iff.1 (h.valid.built.stair k (by omega))
    simp only [comeG]
    rw [rdT62_get (by omega)]
    have e1 := mass_put [] (comeG st ch ps ts wk k) (keysN_nodup st.length) (i := (k : Int)) (mem_keysN.2 (by omega))
    have e2 := mass_put (putM k [] (comeG st ch ps ts wk k) st[k].f0 ++ leftOfG (wk.getD k 0) st[k] (comeG st ch ps ts wk k k)) (putM k [] (comeG st ch ps ts wk k)) (keysN_nodup st.length) (i := st[k].f0) (mem_keysN.2 (by omega))
    have e3 := leftOfG_length (wk.getD k 0) st[k] (comeG st ch ps ts wk k k)
    simp at e1 e2
    simp only [List.getD_eq_getElem?_getD] at e3 ⊢
    omega

theorem GoIn.len (h : GoIn st ch ps ts wk) {k : Nat} (hk : k ≤ st.length) {i : Int} (hi : i ∈ keysN st.length) : (comeG st ch ps ts wk k i).length ≤ ps.length := by
  rw [← h.mass k hk]; exact mass_le hi

theorem leftG_bound {s : S62} (hs : StairOk s) {w : Int} (hw : 0 ≤ w ∧ w ≤ 600) {l : List Int} {B : Int} (hl : ∀ t ∈ l, 0 ≤ t ∧ t ≤ B) (hn : l.length ≤ 24) (hB : 0 ≤ B) : ∀ t ∈ leftOfG w s l, 0 ≤ t ∧ t ≤ B + 2040 := fun t ht => by
  unfold StairOk at hs
  have := flow_bound hw (⟨hs.2.2.1, hs.2.2.2.1⟩ : 0 ≤ s.f1 ∧ s.f1 ≤ 60) (sortL l) [] (B + 600) (fun z hz => hl z (List.mem_mergeSort.1 hz)) (by simp) (by omega) t ht
  rw [sortL_length] at this
  omega

theorem GoIn.val (h : GoIn st ch ps ts wk) : ∀ (k : Nat), k ≤ st.length → ∀ i, ∀ t ∈ comeG st ch ps ts wk k i, 0 ≤ t ∧ t ≤ 106600 + 2040 * (k : Int)
  | 0, _, i, t, ht => by
    obtain ⟨x, hx, _, h2⟩ := comeG0_mem ht
    have := h.tsb t h2
    omega
  | k + 1, hk, i, t, ht => by
    have ih := h.val k (by omega)
    have hs := h.valid.stairOk (List.getElem_mem (h := (by omega : k < st.length)))
    simp only [comeG] at ht
    rw [rdT62_get (by omega)] at ht
    have hlf := leftG_bound hs (h.wk_get (by omega : k < st.length)) (l := comeG st ch ps ts wk k k) (B := 106600 + 2040 * (k : Int)) (fun t ht => ih k t ht) (by have := h.len (k := k) (by omega) (i := k) (mem_keysN.2 (by omega)); have := h.valid.nps; omega) (by omega)
    have hput : ∀ j, ∀ t ∈ putM (k : Int) [] (comeG st ch ps ts wk k) j, 0 ≤ t ∧ t ≤ 106600 + 2040 * (k : Int) := fun j t ht => by
      unfold putM at ht
      split at ht
      · simp at ht
      · exact ih j t ht
    by_cases e : i = st[k].f0
    · subst e
      rw [putM, if_pos rfl] at ht
      rcases List.mem_append.1 ht with ht | ht
      · have := hput _ t ht; omega
      · have := hlf t ht; omega
    · rw [putM, if_neg e] at ht
      have := hput _ t ht; omega
theorem GoIn.leftVal (h : GoIn st ch ps ts wk) {k : Nat} (hk : k < st.length) : ∀ t ∈ leftG st ch ps ts wk k, 0 ≤ t ∧ t ≤ 200000 := fun t ht => by
  have hs := h.valid.stairOk (List.getElem_mem (h := hk))
  unfold leftG at ht
  rw [rdT62_get hk] at ht
  have := leftG_bound hs (h.wk_get hk) (l := comeG st ch ps ts wk k k) (B := 106600 + 2040 * (k : Int)) (fun t ht => h.val k (by omega) k t ht) (by have := h.len (k := k) (by omega) (i := k) (mem_keysN.2 (by omega)); have := h.valid.nps; omega) (by omega) t ht
  have := h.valid.built.nst
  omega
end Go.Proofs.YtdeaccbolnlgpaaDoor.X
