import Derived.Test.YtdeaccbolnlgpaaDoorXPE
import Derived.Test.YtdeaccbolnlgpaaDoorXP1
namespace Go.Proofs.YtdeaccbolnlgpaaDoor.X
set_option linter.unusedVariables false
set_option linter.unusedSimpArgs false

/-! # The flow is monotone: who comes later leaves no earlier -/

/-- Place by place no greater. -/
inductive LeL : List Int → List Int → Prop
  | nil : LeL [] []
  | cons {a b : Int} {l m : List Int} : a ≤ b → LeL l m → LeL (a :: l) (b :: m)
theorem LeL.refl : ∀ l : List Int, LeL l l
  | [] => LeL.nil
  | a :: l => LeL.cons (Int.le_refl a) (LeL.refl l)
theorem LeL.length {l m : List Int} (h : LeL l m) : l.length = m.length := by
  induction h with
  | nil => rfl
  | cons _ _ ih => simp [ih]
theorem LeL.get {l m : List Int} (h : LeL l m) : ∀ (i : Nat) (h1 : i < l.length) (h2 : i < m.length), l[i] ≤ m[i] := by
  induction h with
  | nil => intro i h1; simp at h1
  | cons hab _ ih =>
    intro i h1 h2
    cases i with
    | zero => exact hab
    | succ i => simpa using ih i (by simpa using h1) (by simpa using h2)
theorem LeL.of_get : ∀ {l m : List Int}, l.length = m.length → (∀ (i : Nat) (h1 : i < l.length) (h2 : i < m.length), l[i] ≤ m[i]) → LeL l m
  | [], [], _, _ => LeL.nil
  | a :: l, b :: m, hl, h => LeL.cons (h 0 (by simp) (by simp)) (LeL.of_get (by simpa using hl) fun i h1 h2 => h (i + 1) (by simpa using h1) (by simpa using h2))
  | [], _ :: _, hl, _ => by simp at hl
  | _ :: _, [], hl, _ => by simp at hl
theorem LeL.append {a b c d : List Int} (h : LeL a b) (k : LeL c d) : LeL (a ++ c) (b ++ d) := by
  induction h with
  | nil => exact k
  | cons hab _ ih => exact LeL.cons hab ih
theorem LeL.map {l m : List Int} {f g : Int → Int} (h : LeL l m) (hfg : ∀ a b, a ≤ b → f a ≤ g b) : LeL (l.map f) (m.map g) := by
  induction h with
  | nil => exact LeL.nil
  | cons hab _ ih => exact LeL.cons (hfg _ _ hab) ih
theorem LeL.map_same {α : Type} {f g : α → Int} : ∀ (l : List α), (∀ a ∈ l, f a ≤ g a) → LeL (l.map f) (l.map g)
  | [], _ => LeL.nil
  | a :: l, h => LeL.cons (h a (by simp)) (LeL.map_same l fun b hb => h b (by simp [hb]))

/-! ## In order -/
theorem insI_of_le {a : Int} {l : List Int} (h : ∀ z ∈ l, a ≤ z) : insI a l = a :: l := by
  cases l with
  | nil => rfl
  | cons b l => rw [insI, if_pos (h b (by simp))]
theorem insI_mono : ∀ (l m : List Int) (x y : Int), LeL l m → l.Pairwise (fun a b => a ≤ b) → m.Pairwise (fun a b => a ≤ b) → x ≤ y → LeL (insI x l) (insI y m)
  | [], [], x, y, _, _, _, hxy => LeL.cons hxy LeL.nil
  | a :: l, b :: m, x, y, h, hl, hm, hxy => by
    cases h with
    | cons hab hlm =>
      rw [List.pairwise_cons] at hl hm
      rw [insI, insI]
      by_cases h1 : x ≤ a
      · rw [if_pos h1]
        by_cases h2 : y ≤ b
        · rw [if_pos h2]; exact LeL.cons hxy (LeL.cons hab hlm)
        · rw [if_neg h2]
          refine LeL.cons (by omega) ?_
          have := insI_mono l m a y hlm hl.2 hm.2 (by omega)
          rwa [insI_of_le hl.1] at this
      · rw [if_neg h1]
        by_cases h2 : y ≤ b
        · rw [if_pos h2]
          refine LeL.cons (by omega) ?_
          have := insI_mono l m x b hlm hl.2 hm.2 (by omega)
          rwa [insI_of_le hm.1] at this
        · rw [if_neg h2]
          exact LeL.cons hab (insI_mono l m x y hlm hl.2 hm.2 hxy)
  | [], _ :: _, _, _, h, _, _, _ => by cases h
  | _ :: _, [], _, _, h, _, _, _ => by cases h
theorem sortL_mono {l m : List Int} (h : LeL l m) : LeL (sortL l) (sortL m) := by
  rw [sortL_I, sortL_I]
  induction h with
  | nil => exact LeL.nil
  | cons hab hlm ih => exact insI_mono _ _ _ _ ih (sortI_ord _) (sortI_ord _) hab

/-! ## Who goes in when -/
def entG (gap : Int) (acc : List Int) (t : Int) : List Int := acc ++ [match acc.getLast? with | none => t | some e => max t (e + gap)]
def entL (gap : Int) (ts : List Int) : List Int := ts.foldl (entG gap) []
theorem flow_ent (wk gap : Int) : ∀ (ts acc : List Int), ts.foldl (flowStep wk gap) (acc.map (· + wk)) = (ts.foldl (entG gap) acc).map (· + wk)
  | [], _ => rfl
  | t :: ts, acc => by
    rw [List.foldl_cons, List.foldl_cons, ← flow_ent wk gap ts]
    congr 1
    unfold flowStep entG
    rw [List.map_append, List.getLast?_map]
    cases acc.getLast? with
    | none => rfl
    | some e =>
      simp only [Option.map_some, List.map_cons, List.map_nil, List.append_cancel_left_eq, List.cons.injEq, and_true]
      rw [show e + wk - wk = e by omega]
theorem flowL_ent (wk gap : Int) (ts : List Int) : flowL wk gap ts = (entL gap ts).map (· + wk) := flow_ent wk gap ts []
theorem LeL.getLast {l m : List Int} (h : LeL l m) : (l.getLast? = none ∧ m.getLast? = none) ∨ ∃ a b, l.getLast? = some a ∧ m.getLast? = some b ∧ a ≤ b := by
  have hl := h.length
  by_cases h0 : l.length = 0
  · left
    have e1 : l = [] := List.eq_nil_of_length_eq_zero h0
    have e2 : m = [] := List.eq_nil_of_length_eq_zero (by omega)
    subst e1 e2
    exact ⟨rfl, rfl⟩
  · right
    refine ⟨l[l.length - 1]'(by omega), m[m.length - 1]'(by omega), ?_, ?_, ?_⟩
    · rw [List.getLast?_eq_getElem?, List.getElem?_eq_getElem (by omega)]
    · rw [List.getLast?_eq_getElem?, List.getElem?_eq_getElem (by omega)]
    · have := h.get (l.length - 1) (by omega) (by omega)
      simp only [hl] at this ⊢
      exact this
theorem ent_mono {g g' : Int} (hg : g ≤ g') : ∀ {ts ts' : List Int}, LeL ts ts' → ∀ {acc acc' : List Int}, LeL acc acc' → LeL (ts.foldl (entG g) acc) (ts'.foldl (entG g') acc')
  | [], [], _, _, _, ha => ha
  | t :: ts, t' :: ts', h, acc, acc', ha => by
    cases h with
    | cons htt hts =>
      rw [List.foldl_cons, List.foldl_cons]
      refine ent_mono hg hts ?_
      unfold entG
      refine ha.append (LeL.cons ?_ LeL.nil)
      rcases ha.getLast with ⟨h1, h2⟩ | ⟨a, b, h1, h2, hab⟩
      · rw [h1, h2]; exact htt
      · rw [h1, h2]; simp only; omega
  | [], _ :: _, h, _, _, _ => by cases h
  | _ :: _, [], h, _, _, _ => by cases h
theorem flowL_mono {wk wk' g g' : Int} (hw : wk ≤ wk') (hg : g ≤ g') {ts ts' : List Int} (h : LeL ts ts') : LeL (flowL wk g ts) (flowL wk' g' ts') := by
  rw [flowL_ent, flowL_ent]
  exact (ent_mono hg h (LeL.refl [])).map fun a b hab => by omega

/-! ## The whole flow -/
theorem comeG0_mono (ch : List S81) (i : Int) : ∀ (ps : List S48) {ts ts' : List Int}, LeL ts ts' → LeL (comeG0 ch ps ts i) (comeG0 ch ps ts' i)
  | [], _, _, _ => by simpa [comeG0] using LeL.refl []
  | x :: ps, [], [], _ => by simpa [comeG0] using LeL.refl []
  | x :: ps, t :: ts, t' :: ts', h => by
    cases h with
    | cons htt hts =>
      have ih := comeG0_mono ch i ps hts
      unfold comeG0 at ih ⊢
      rw [List.zip_cons_cons, List.zip_cons_cons, List.filter_cons, List.filter_cons]
      split
      · rw [List.map_cons, List.map_cons]; exact LeL.cons htt ih
      · exact ih
  | _ :: _, [], _ :: _, h => by cases h
  | _ :: _, _ :: _, [], h => by cases h
theorem LeL.getD {l m : List Int} (h : LeL l m) (k : Nat) : l.getD k 0 ≤ m.getD k 0 := by
  have hl := h.length
  by_cases hk : k < l.length
  · have := h.get k hk (by omega)
    simpa [List.getD_eq_getElem?_getD, hk, (by omega : k < m.length)] using this
  · rw [List.getD_eq_getElem?_getD, List.getD_eq_getElem?_getD, List.getElem?_eq_none (by omega), List.getElem?_eq_none (by omega)]
    exact Int.le_refl _

/-- The same stairs but for their gaps, none of which is less. -/
def GapLe (st st' : List S62) : Prop := ∀ k : Nat, (rd_T62 st k).f0 = (rd_T62 st' k).f0 ∧ (rd_T62 st k).f1 ≤ (rd_T62 st' k).f1
theorem GapLe.refl (st : List S62) : GapLe st st := fun _ => ⟨rfl, Int.le_refl _⟩

theorem putG_eq (a : Int) (v : List Int) (f : Int → List Int) (i : Int) (e : i = a) : putM a v f i = v := by unfold putM; rw [if_pos e]
theorem putG_ne (a : Int) (v : List Int) (f : Int → List Int) (i : Int) (e : ¬i = a) : putM a v f i = f i := by unfold putM; rw [if_neg e]
theorem comeG_mono {st st' : List S62} (hst : GapLe st st') (ch : List S81) (ps : List S48) {ts ts' wk wk' : List Int} (ht : LeL ts ts') (hw : LeL wk wk') : ∀ (k : Nat) (i : Int), LeL (comeG st ch ps ts wk k i) (comeG st' ch ps ts' wk' k i)
  | 0, i => comeG0_mono ch i ps ht
  | k + 1, i => by
    have ih := comeG_mono hst ch ps ht hw k
    have hl : LeL (leftOfG (wk.getD k 0) (rd_T62 st k) (comeG st ch ps ts wk k k)) (leftOfG (wk'.getD k 0) (rd_T62 st' k) (comeG st' ch ps ts' wk' k k)) :=
      flowL_mono (hw.getD k) (hst k).2 (sortL_mono (ih k))
    have hp : ∀ j, LeL (putM (k : Int) [] (comeG st ch ps ts wk k) j) (putM (k : Int) [] (comeG st' ch ps ts' wk' k) j) := fun j => by
      unfold putM; split
      · exact LeL.refl []
      · exact ih j
    simp only [comeG]
    rw [← (hst k).1]
    by_cases e : i = (rd_T62 st k).f0
    · rw [putG_eq _ _ _ _ e, putG_eq _ _ _ _ e]; exact (hp _).append hl
    · rw [putG_ne _ _ _ _ e, putG_ne _ _ _ _ e]; exact hp i
theorem leftG_mono {st st' : List S62} (hst : GapLe st st') (ch : List S81) (ps : List S48) {ts ts' wk wk' : List Int} (ht : LeL ts ts') (hw : LeL wk wk') (k : Nat) : LeL (leftG st ch ps ts wk k) (leftG st' ch ps ts' wk' k) :=
  flowL_mono (hw.getD k) (hst k).2 (sortL_mono (comeG_mono hst ch ps ht hw k k))

/-- Faster, sooner. -/
theorem ceil_anti {a p q : Int} (ha : 0 ≤ a) (hp : 1 ≤ p) (hpq : p ≤ q) : (a + q - 1) / q ≤ (a + p - 1) / p := by
  have h1 := Int.mul_ediv_add_emod (a + p - 1) p
  have h2 := Int.emod_lt_of_pos (a + p - 1) (by omega : 0 < p)
  have h0 : 0 ≤ (a + p - 1) / p := Int.ediv_nonneg (by omega) (by omega)
  have h3 : p * ((a + p - 1) / p) ≤ q * ((a + p - 1) / p) := Int.mul_le_mul_of_nonneg_right hpq h0
  have h4 : (a + q - 1) / q < (a + p - 1) / p + 1 := by
    rw [Int.ediv_lt_iff_lt_mul (by omega), Int.add_mul, Int.one_mul, Int.mul_comm]
    omega
  omega
end Go.Proofs.YtdeaccbolnlgpaaDoor.X
