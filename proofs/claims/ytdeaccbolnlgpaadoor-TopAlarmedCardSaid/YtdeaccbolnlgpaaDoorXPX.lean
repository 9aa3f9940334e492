import Derived.Test.YtdeaccbolnlgpaaDoorXPC0
namespace Go.Proofs.YtdeaccbolnlgpaaDoor.X
open Go.RowKit
set_option linter.unusedVariables false
set_option linter.unusedSimpArgs false

/-! # Others besides, and none sooner -/
inductive DomL : List Int → List Int → Prop
  | nil : DomL [] []
  | cons {a b : Int} {l m : List Int} : a ≤ b → DomL l m → DomL (a :: l) (b :: m)
  | skip {b : Int} {l m : List Int} : DomL l m → DomL l (b :: m)
theorem LeL.dom {l m : List Int} (h : LeL l m) : DomL l m := by
  induction h with
  | nil => exact .nil
  | cons hab _ ih => exact .cons hab ih
theorem DomL.append {a b c d : List Int} (h : DomL a b) (k : DomL c d) : DomL (a ++ c) (b ++ d) := by
  induction h with
  | nil => exact k
  | cons hab _ ih => exact .cons hab ih
  | skip _ ih => exact .skip ih
theorem DomL.mem {l m : List Int} (h : DomL l m) : ∀ a ∈ l, ∃ b ∈ m, a ≤ b := by
  induction h with
  | nil => intro a ha; cases ha
  | cons hab _ ih =>
    intro a ha
    rcases List.mem_cons.1 ha with rfl | ha
    · exact ⟨_, List.mem_cons_self .., hab⟩
    · obtain ⟨b, hb, h1⟩ := ih a ha
      exact ⟨b, List.mem_cons_of_mem _ hb, h1⟩
  | skip _ ih =>
    intro a ha
    obtain ⟨b, hb, h1⟩ := ih a ha
    exact ⟨b, List.mem_cons_of_mem _ hb, h1⟩
theorem insI_skip (y : Int) {l m : List Int} (h : DomL l m) : DomL l (insI y m) := by
  induction h with
  | nil => exact .skip .nil
  | @cons a b l m hab hlm ih =>
    rw [insI]; split
    · exact .skip (.cons hab hlm)
    · exact .cons hab ih
  | @skip b l m hlm ih =>
    rw [insI]; split
    · exact .skip (.skip hlm)
    · exact .skip ih
theorem insI_dom {l m : List Int} (h : DomL l m) : l.Pairwise (fun a b => a ≤ b) → m.Pairwise (fun a b => a ≤ b) → ∀ x y : Int, x ≤ y → DomL (insI x l) (insI y m) := by
  induction h with
  | nil => intro _ _ x y hxy; exact .cons hxy .nil
  | @cons a b l m hab hlm ih =>
    intro hl hm x y hxy
    rw [List.pairwise_cons] at hl hm
    rw [insI, insI]
    by_cases h1 : x ≤ a
    · rw [if_pos h1]
      by_cases h2 : y ≤ b
      · rw [if_pos h2]; exact .cons hxy (.cons hab hlm)
      · rw [if_neg h2]
        refine .cons (by omega) ?_
        have := ih hl.2 hm.2 a y (by omega)
        rwa [insI_of_le hl.1] at this
    · rw [if_neg h1]
      by_cases h2 : y ≤ b
      · rw [if_pos h2]
        refine .cons (by omega) ?_
        have := ih hl.2 hm.2 x b (by omega)
        rwa [insI_of_le hm.1] at this
      · rw [if_neg h2]; exact .cons hab (ih hl.2 hm.2 x y hxy)
  | @skip b l m hlm ih =>
    intro hl hm x y hxy
    rw [List.pairwise_cons] at hm
    rw [insI.eq_def y (b :: m)]
    simp only
    split
    · have := ih hl hm.2 x b (by omega)
      rw [insI_of_le hm.1] at this
      exact .skip this
    · exact .skip (ih hl hm.2 x y hxy)
theorem sortL_dom {l m : List Int} (h : DomL l m) : DomL (sortL l) (sortL m) := by
  rw [sortL_I, sortL_I]
  induction h with
  | nil => exact .nil
  | cons hab hlm ih => exact insI_dom ih (sortI_ord _) (sortI_ord _) _ _ hab
  | skip _ ih => exact insI_skip _ ih

def LastLe (l m : List Int) : Prop := ∀ e, l.getLast? = some e → ∃ e', m.getLast? = some e' ∧ e ≤ e'
theorem ent_dom {g g' : Int} (hg : g ≤ g') (h0 : 0 ≤ g') {ts ts' : List Int} (h : DomL ts ts') : ∀ {acc acc' : List Int}, DomL acc acc' → LastLe acc acc' → DomL (ts.foldl (entG g) acc) (ts'.foldl (entG g') acc') := by
  induction h with
  | nil => intro acc acc' ha _; exact ha
  | @cons t t' ts ts' htt _ ih =>
    intro acc acc' ha hl
    rw [List.foldl_cons, List.foldl_cons]
    have hv : (match acc.getLast? with | none => t | some e => max t (e + g)) ≤ (match acc'.getLast? with | none => t' | some e => max t' (e + g')) := by
      cases e1 : acc.getLast? with
      | none =>
        cases acc'.getLast? with
        | none => exact htt
        | some e' => simp only; omega
      | some e =>
        obtain ⟨e', e2, he⟩ := hl e e1
        rw [e2]; simp only; omega
    refine ih (ha.append (.cons hv .nil)) fun e he => ?_
    unfold entG at he ⊢
    rw [List.getLast?_append, List.getLast?_singleton] at he ⊢
    exact ⟨_, rfl, by rw [← Option.some.inj he]; exact hv⟩
  | @skip t' ts ts' _ ih =>
    intro acc acc' ha hl
    rw [List.foldl_cons]
    have h1 := ha.append (.skip .nil : DomL [] [match acc'.getLast? with | none => t' | some e => max t' (e + g')])
    rw [List.append_nil] at h1
    refine ih h1 fun e he => ?_
    obtain ⟨e', e2, h2⟩ := hl e he
    unfold entG
    rw [List.getLast?_append, List.getLast?_singleton, e2]
    exact ⟨_, rfl, by simp only; omega⟩
theorem DomL.map {l m : List Int} {f g : Int → Int} (h : DomL l m) (hfg : ∀ a b, a ≤ b → f a ≤ g b) : DomL (l.map f) (m.map g) := by
  induction h with
  | nil => exact .nil
  | cons hab _ ih => exact .cons (hfg _ _ hab) ih
  | skip _ ih => exact .skip ih
theorem flowL_dom {wk wk' g g' : Int} (hw : wk ≤ wk') (hg : g ≤ g') (h0 : 0 ≤ g') {ts ts' : List Int} (h : DomL ts ts') : DomL (flowL wk g ts) (flowL wk' g' ts') := by
  rw [flowL_ent, flowL_ent]
  exact (ent_dom hg h0 h .nil fun e he => by cases he).map fun a b hab => by omega
theorem DomL.refl : ∀ l : List Int, DomL l l := fun l => (LeL.refl l).dom
theorem comeG_dom {st st' : List S62} (hst : GapLe st st') (h0 : ∀ k : Nat, 0 ≤ (rd_T62 st' k).f1) {ch ch' : List S81} {ps ps' : List S48} {ts ts' wk wk' : List Int} (ht : ∀ i, DomL (comeG0 ch ps ts i) (comeG0 ch' ps' ts' i)) (hw : LeL wk wk') : ∀ (k : Nat) (i : Int), DomL (comeG st ch ps ts wk k i) (comeG st' ch' ps' ts' wk' k i)
  | 0, i => ht i
  | k + 1, i => by
    have ih := comeG_dom hst h0 ht hw k
    have hl : DomL (leftOfG (wk.getD k 0) (rd_T62 st k) (comeG st ch ps ts wk k k)) (leftOfG (wk'.getD k 0) (rd_T62 st' k) (comeG st' ch' ps' ts' wk' k k)) :=
      flowL_dom (hw.getD k) (hst k).2 (h0 k) (sortL_dom (ih k))
    have hp : ∀ j, DomL (putM (k : Int) [] (comeG st ch ps ts wk k) j) (putM (k : Int) [] (comeG st' ch' ps' ts' wk' k) j) := fun j => by
      unfold putM; split
      · exact .nil
      · exact ih j
    simp only [comeG]
    rw [← (hst k).1]
    by_cases e : i = (rd_T62 st k).f0
    · rw [putG_eq _ _ _ _ e, putG_eq _ _ _ _ e]; exact (hp _).append hl
    · rw [putG_ne _ _ _ _ e, putG_ne _ _ _ _ e]; exact hp i
theorem leftG_dom {st st' : List S62} (hst : GapLe st st') (h0 : ∀ k : Nat, 0 ≤ (rd_T62 st' k).f1) {ch ch' : List S81} {ps ps' : List S48} {ts ts' wk wk' : List Int} (ht : ∀ i, DomL (comeG0 ch ps ts i) (comeG0 ch' ps' ts' i)) (hw : LeL wk wk') (k : Nat) : DomL (leftG st ch ps ts wk k) (leftG st' ch' ps' ts' wk' k) :=
  flowL_dom (hw.getD k) (hst k).2 (h0 k) (sortL_dom (comeG_dom hst h0 ht hw k k))

/-! # The same flow -/
theorem comeG_congr {st st' : List S62} (hst : ∀ k : Nat, (rd_T62 st k).f0 = (rd_T62 st' k).f0 ∧ (rd_T62 st k).f1 = (rd_T62 st' k).f1) {ch ch' : List S81} {ps ps' : List S48} {ts ts' : List Int} (wk : List Int) (ht : ∀ i, comeG0 ch ps ts i = comeG0 ch' ps' ts' i) : ∀ k : Nat, comeG st ch ps ts wk k = comeG st' ch' ps' ts' wk k
  | 0 => funext ht
  | k + 1 => by
    simp only [comeG]
    unfold leftOfG
    rw [comeG_congr hst wk ht k, (hst k).1, (hst k).2]
theorem leftG_congr {st st' : List S62} (hst : ∀ k : Nat, (rd_T62 st k).f0 = (rd_T62 st' k).f0 ∧ (rd_T62 st k).f1 = (rd_T62 st' k).f1) {ch ch' : List S81} {ps ps' : List S48} {ts ts' : List Int} (wk : List Int) (ht : ∀ i, comeG0 ch ps ts i = comeG0 ch' ps' ts' i) (k : Nat) : leftG st ch ps ts wk k = leftG st' ch' ps' ts' wk k := by
  unfold leftG leftOfG
  rw [comeG_congr hst wk ht k, (hst k).2]

/-! # All later by d -/
theorem insI_shift (d x : Int) : ∀ l : List Int, insI (x + d) (l.map (· + d)) = (insI x l).map (· + d)
  | [] => rfl
  | a :: l => by
    rw [List.map_cons, insI, insI]
    by_cases h : x ≤ a
    · rw [if_pos h, if_pos (by omega)]; rfl
    · rw [if_neg h, if_neg (by omega), insI_shift d x l]; rfl
theorem sortL_shift (d : Int) (l : List Int) : sortL (l.map (· + d)) = (sortL l).map (· + d) := by
  rw [sortL_I, sortL_I]
  induction l with
  | nil => rfl
  | cons x l ih =>
    show insI (x + d) (sortI (l.map (· + d))) = _
    rw [ih, insI_shift]; rfl
theorem ent_shift (d g : Int) : ∀ (ts acc : List Int), (ts.map (· + d)).foldl (entG g) (acc.map (· + d)) = (ts.foldl (entG g) acc).map (· + d)
  | [], _ => rfl
  | t :: ts, acc => by
    rw [List.map_cons, List.foldl_cons, List.foldl_cons, ← ent_shift d g ts]
    congr 1
    unfold entG
    rw [List.map_append, List.getLast?_map]
    cases acc.getLast? with
    | none => rfl
    | some e =>
      simp only [Option.map_some, List.map_cons, List.map_nil, List.append_cancel_left_eq, List.cons.injEq, and_true]
      omega
theorem flowL_shift (d wk g : Int) (ts : List Int) : flowL wk g (ts.map (· + d)) = (flowL wk g ts).map (· + d) := by
  rw [flowL_ent, flowL_ent, List.map_map]
  have := ent_shift d g ts []
  unfold entL
  rw [show ([] : List Int).map (· + d) = [] from rfl] at this
  rw [this, List.map_map]
  refine List.map_congr_left fun a _ => ?_
  simp only [Function.comp]; omega
theorem comeG_shift (d : Int) {st st' : List S62} (hst : ∀ k : Nat, (rd_T62 st k).f0 = (rd_T62 st' k).f0 ∧ (rd_T62 st k).f1 = (rd_T62 st' k).f1) {ch ch' : List S81} {ps ps' : List S48} {ts ts' : List Int} (wk : List Int) (ht : ∀ i, comeG0 ch' ps' ts' i = (comeG0 ch ps ts i).map (· + d)) : ∀ (k : Nat) (i : Int), comeG st' ch' ps' ts' wk k i = (comeG st ch ps ts wk k i).map (· + d)
  | 0, i => ht i
  | k + 1, i => by
    have ih := comeG_shift d hst wk ht k
    have hl : leftOfG (wk.getD k 0) (rd_T62 st' k) (comeG st' ch' ps' ts' wk k k) = (leftOfG (wk.getD k 0) (rd_T62 st k) (comeG st ch ps ts wk k k)).map (· + d) := by
      unfold leftOfG
      rw [ih, sortL_shift, flowL_shift, (hst k).2]
    have hp : ∀ j, putM (k : Int) [] (comeG st' ch' ps' ts' wk k) j = (putM (k : Int) [] (comeG st ch ps ts wk k) j).map (· + d) := fun j => by
      unfold putM; split
      · rfl
      · exact ih j
    simp only [comeG]
    rw [← (hst k).1, hl]
    by_cases e : i = (rd_T62 st k).f0
    · rw [putG_eq _ _ _ _ e, putG_eq _ _ _ _ e, List.map_append, hp]
    · rw [putG_ne _ _ _ _ e, putG_ne _ _ _ _ e]; exact hp i
theorem leftG_shift (d : Int) {st st' : List S62} (hst : ∀ k : Nat, (rd_T62 st k).f0 = (rd_T62 st' k).f0 ∧ (rd_T62 st k).f1 = (rd_T62 st' k).f1) {ch ch' : List S81} {ps ps' : List S48} {ts ts' : List Int} (wk : List Int) (ht : ∀ i, comeG0 ch' ps' ts' i = (comeG0 ch ps ts i).map (· + d)) (k : Nat) : leftG st' ch' ps' ts' wk k = (leftG st ch ps ts wk k).map (· + d) := by
  unfold leftG leftOfG
  rw [comeG_shift d hst wk ht, sortL_shift, flowL_shift, (hst k).2]

/-! # Valid, so checked -/
theorem stairsB_of {n : Nat} : ∀ {l : List S62} {i : Int}, (∀ (k : Nat) (hk : k < l.length), stairB n (i + k) l[k] = true) → stairsB n i l = true
  | [], _, _ => rfl
  | s :: l, i, h => by
    simp only [stairsB, Bool.and_eq_true]
    have h1 := h 0 (by simp)
    rw [show i + ((0 : Nat) : Int) = i by omega] at h1
    refine ⟨h1, stairsB_of fun k hk => ?_⟩
    have := h (k + 1) (by simpa using hk)
    rw [show i + ((k + 1 : Nat) : Int) = i + 1 + (k : Int) by omega] at this
    exact this
theorem builtB_of {st : List S62} {ch : List S81} (h : Built st ch) : builtB st ch = true := by
  obtain ⟨h1, h2, h3, h4, h5, h6⟩ := h
  simp only [builtB, Bool.and_eq_true, inB_one, List.all_eq_true]
  exact ⟨⟨⟨stairsB_of fun k hk => by simpa using h5 k hk, by omega⟩, by omega⟩, h6⟩
theorem checkF_of {st : List S62} {ch : List S81} {ps : List S48} (h : Valid st ch ps) : checkF st ch ps = 0 := by
  have := h.nps
  unfold checkF
  rw [if_pos (builtB_of h.built), if_neg (by omega), if_pos (List.all_eq_true.2 h.lives)]
end Go.Proofs.YtdeaccbolnlgpaaDoor.X
