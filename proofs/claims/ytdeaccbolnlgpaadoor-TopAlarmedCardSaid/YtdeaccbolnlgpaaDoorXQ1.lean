import Derived.Test.YtdeaccbolnlgpaaDoorXPN
import Derived.Test.YtdeaccbolnlgpaaDoorXPK
import Derived.Test.YtdeaccbolnlgpaaDoorXBI
namespace Go.Proofs.YtdeaccbolnlgpaaDoor.X
open Go.RowKit
set_option linter.unusedVariables false
set_option linter.unusedSimpArgs false

/-! # Everybody hears it later -/
def aftP (f l : Int) (x : S48) : S48 := ⟨x.f0, x.f1, ⟨x.f2.f0 + 60 * f, x.f2.f1 + 60 * l⟩⟩
def aftD (b : Bool) (f l : Int) : Int := 60 * (if b then l else f)
section
variable (f l : Int) (st : List S62) (ch : List S81) (ps : List S48)
theorem aft_leave (b : Bool) (x : S48) : leaveT b ch (aftP f l x) = leaveT b ch x + aftD b f l := by
  unfold leaveT aftD
  cases b <;> simp only [aftP, timeS, paceS, if_true, Bool.false_eq_true, if_false] <;> omega
theorem aft_left (b : Bool) {k : Nat} (hk : k < st.length) : leftAt b st ch (ps.map (aftP f l)) k = (leftAt b st ch ps k).map (· + aftD b f l) := by
  rw [← leftG_eq b st ch ps hk, ← leftG_eq b _ _ _ hk]
  have e2 : (ps.map (aftP f l)).map (leaveT b ch) = (ps.map (leaveT b ch)).map (· + aftD b f l) := by
    rw [List.map_map, List.map_map]; exact List.map_congr_left fun x _ => aft_leave f l ch b x
  rw [e2]
  clear e2
  refine leftG_shift (aftD b f l) (fun k => ⟨rfl, rfl⟩) _ (fun i => ?_) k
  generalize ps.map (leaveT b ch) = ts
  unfold comeG0
  induction ps generalizing ts with
  | nil => rfl
  | cons x ps ih =>
    cases ts with
    | nil => rfl
    | cons t ts =>
      have e : (rd_T81 ch (aftP f l x).f0).f0 = (rd_T81 ch x.f0).f0 := rfl
      rw [List.map_cons, List.map_cons, List.zip_cons_cons, List.zip_cons_cons, List.filter_cons, List.filter_cons]
      simp only [e]
      split
      · rw [List.map_cons, List.map_cons, List.map_cons, ih]
      · exact ih ts
end
theorem comeAt_none {b : Bool} {st : List S62} {ch : List S81} {ps : List S48} (hv : Valid st ch ps) (hno : ∀ k : Nat, k < st.length → (rd_T62 st k).f0 = -1 → leftAt b st ch ps k = []) : ∀ k, k ≤ st.length → (comeAt b st ch ps k (-1)).length = 0
  | 0, _ => by
    rw [List.length_eq_zero_iff]
    refine List.eq_nil_iff_forall_not_mem.2 fun t ht => ?_
    have ht' : t ∈ comeO b ch ps (-1) := ht
    unfold comeO at ht'
    obtain ⟨x, hx, _⟩ := List.mem_map.1 ht'
    obtain ⟨hx, h1⟩ := List.mem_filter.1 hx
    have := hv.stairOf hx
    simp at h1
    omega
  | k + 1, hk => by
    rw [comeAt_next hv (by omega : k < st.length) (-1) (by omega), comeAt_none hv hno k (by omega)]
    by_cases e : (-1 : Int) = (rd_T62 st k).f0
    · rw [if_pos e, hno k (by omega) e.symm]; rfl
    · rw [if_neg e]
theorem somebody_out {b : Bool} {st : List S62} {ch : List S81} {ps : List S48} (hv : Valid st ch ps) (hps : ps.length ≠ 0) : ∃ k : Nat, k < st.length ∧ (rd_T62 st k).f0 = -1 ∧ leftAt b st ch ps k ≠ [] :=
  Classical.byContradiction fun hne => by
    have hno : ∀ k : Nat, k < st.length → (rd_T62 st k).f0 = -1 → leftAt b st ch ps k = [] := fun k hk h1 => Classical.byContradiction fun h2 => hne ⟨k, hk, h1, h2⟩
    have h1 := comeAt_none hv hno st.length (Nat.le_refl _)
    have h2 := comeAt_out (b := b) hv
    omega
theorem lastT_within {b : Bool} {st : List S62} {ch : List S81} {ps : List S48} (hv : Valid st ch ps) : ∀ k, k ≤ st.length → 0 ≤ lastT b st ch ps k ∧ lastT b st ch ps k ≤ 16840
  | 0, _ => ⟨Int.le_refl _, by show (0 : Int) ≤ 16840; decide⟩
  | k + 1, hk => by
    have ih := lastT_within (b := b) hv k (by omega)
    rw [lastT]
    split
    · rename_i h1
      have hm : (leftAt b st ch ps k)[(leftAt b st ch ps k).length - 1]?.getD 0 ∈ leftAt b st ch ps k := by
        have := h1.2
        rw [List.getElem?_eq_getElem (by omega), Option.getD_some]; exact List.getElem_mem _
      have := leftAt_bound b hv (by omega) _ hm
      omega
    · exact ih
section
variable {f l : Int} (hf : 0 ≤ f ∧ f ≤ l)
include hf
theorem aftD_nn (b : Bool) : 0 ≤ aftD b f l := by unfold aftD; cases b <;> simp only [if_true, Bool.false_eq_true, if_false] <;> omega
theorem aft_lastT {b : Bool} {st : List S62} {ch : List S81} {ps : List S48} (hv : Valid st ch ps) : ∀ k, k ≤ st.length →
    (lastT b st ch ps k = 0 ∧ lastT b st ch (ps.map (aftP f l)) k = 0 ∧ ∀ j : Nat, j < k → (rd_T62 st j).f0 = -1 → leftAt b st ch ps j = []) ∨ lastT b st ch (ps.map (aftP f l)) k = lastT b st ch ps k + aftD b f l
  | 0, _ => .inl ⟨rfl, rfl, fun j hj => by omega⟩
  | k + 1, hk => by
    have ih := aft_lastT (b := b) hv k (by omega)
    have hd := aftD_nn hf b
    rw [lastT, lastT, aft_left f l st ch ps b (by omega), List.length_map]
    by_cases h1 : (rd_T62 st k).f0 = -1 ∧ 0 < (leftAt b st ch ps k).length
    · right
      have hl := h1.2
      rw [if_pos h1, if_pos h1, List.getElem?_map, List.getElem?_eq_getElem (by omega)]
      have hb := leftAt_bound b hv (by omega : k < st.length) _ (List.getElem_mem (h := (by omega : (leftAt b st ch ps k).length - 1 < (leftAt b st ch ps k).length)))
      simp only [Option.map_some, Option.getD_some]
      rcases ih with ⟨e1, e2, _⟩ | e <;> omega
    · rw [if_neg h1, if_neg h1]
      rcases ih with ⟨e1, e2, e3⟩ | e
      · refine .inl ⟨e1, e2, fun j hj h2 => ?_⟩
        by_cases e : j = k
        · subst e
          refine List.eq_nil_of_length_eq_zero ?_
          rcases Nat.eq_zero_or_pos (leftAt b st ch ps j).length with h3 | h3
          · exact h3
          · exact absurd ⟨h2, h3⟩ h1
        · exact e3 j (by omega) h2
      · exact .inr e
theorem aft_last {b : Bool} {st : List S62} {ch : List S81} {ps : List S48} (hv : Valid st ch ps) (hps : ps.length ≠ 0) : lastT b st ch (ps.map (aftP f l)) st.length = lastT b st ch ps st.length + aftD b f l := by
  rcases aft_lastT hf (b := b) hv st.length (Nat.le_refl _) with ⟨_, _, h3⟩ | h
  · obtain ⟨k, hk, h1, h2⟩ := somebody_out (b := b) hv hps
    exact absurd (h3 k hk h1) h2
  · exact h
end
theorem aft_noLater (b : Bool) {f l f2 l2 : Int} (h1 : f2 ≤ f) (h2 : l2 ≤ l) (st : List S62) (ch : List S81) (ps : List S48) : NoLater b b st st ch ch (ps.map (aftP f2 l2)) (ps.map (aftP f l)) where
  lenS := rfl
  lenC := rfl
  left := fun k hk t ht => by
    rw [aft_left f2 l2 st ch ps b hk] at ht
    obtain ⟨u, hu, rfl⟩ := List.mem_map.1 ht
    rw [aft_left f l st ch ps b hk]
    refine ⟨u + aftD b f l, List.mem_map.2 ⟨u, hu, rfl⟩, ?_⟩
    unfold aftD; cases b <;> simp only [if_true, Bool.false_eq_true, if_false] <;> omega
  smS := fun k hk => Int.le_refl _
  who := fun x hx => by
    obtain ⟨y, hy, rfl⟩ := List.mem_map.1 hx
    refine ⟨aftP f l y, List.mem_map.2 ⟨y, hy, rfl⟩, rfl, ?_⟩
    rw [aft_leave, aft_leave]
    unfold aftD; cases b <;> simp only [if_true, Bool.false_eq_true, if_false] <;> omega
  smC := fun c hc => Int.le_refl _
theorem aft_zero (ps : List S48) : ps.map (aftP 0 0) = ps := by
  have : aftP 0 0 = id := funext fun x => by simp [aftP]
  rw [this, List.map_id]
theorem aft_late (b : Bool) {f l f2 l2 : Int} (h1 : f2 ≤ f) (h2 : l2 ≤ l) (st : List S62) (ch : List S81) (ps : List S48) (h : lateF b st ch (ps.map (aftP f l)) = (-1, -1)) : lateF b st ch (ps.map (aftP f2 l2)) = (-1, -1) :=
  (aft_noLater b h1 h2 st ch ps).late h
theorem aft_safe {f l f2 l2 : Int} (h1 : f2 ≤ f) (h2 : l2 ≤ l) {st : List S62} {ch : List S81} {ps : List S48} (hc : checkF st ch (ps.map (aftP f l)) = 0) (hc2 : checkF st ch (ps.map (aftP f2 l2)) = 0) :
    (safeF st ch (ps.map (aftP f l))).1 ≤ (safeF st ch (ps.map (aftP f2 l2))).1 := by
  have a := aft_late true h1 h2 st ch ps
  have c := aft_late false h1 h2 st ch ps
  unfold safeF
  rw [if_pos hc, if_pos hc2]
  simp only
  by_cases e1 : lateF true st ch (ps.map (aftP f l)) = (-1, -1)
  · rw [if_pos e1, if_pos (a e1)]; exact Int.le_refl _
  · rw [if_neg e1]
    by_cases e2 : lateF false st ch (ps.map (aftP f l)) = (-1, -1)
    · rw [if_pos e2, if_pos (c e2)]; split <;> decide
    · rw [if_neg e2]; split
      · decide
      · split <;> decide
theorem aft_lives {f l f2 l2 : Int} (h1 : 0 ≤ f2 ∧ f2 ≤ l2) (h2 : l2 ≤ l) {n : Nat} {x : S48} (h : livesB n x = true) (h' : livesB n (aftP f l x) = true) : livesB n (aftP f2 l2 x) = true := by
  have a := livesB_iff.1 h
  have c := livesB_iff.1 h'
  simp only [aftP] at c
  refine livesB_iff.2 ?_
  simp only [aftP]
  omega
theorem aft_valid {f l f2 l2 : Int} (h1 : 0 ≤ f2 ∧ f2 ≤ l2) (h2 : l2 ≤ l) {st : List S62} {ch : List S81} {ps : List S48} (hv : Valid st ch ps) (hv' : Valid st ch (ps.map (aftP f l))) : Valid st ch (ps.map (aftP f2 l2)) where
  built := hv.built
  nps := by rw [List.length_map]; exact hv.nps
  lives := fun x hx => by
    obtain ⟨y, hy, rfl⟩ := List.mem_map.1 hx
    exact aft_lives h1 h2 (hv.lives y hy) (hv'.lives _ (List.mem_map.2 ⟨y, hy, rfl⟩))
theorem aft_out {f l : Int} (hf : 0 ≤ f ∧ f ≤ l) {st : List S62} {ch : List S81} {ps : List S48} (hc : checkF st ch ps = 0) (hps : ps.length ≠ 0) (hc2 : checkF st ch (ps.map (aftP f l)) = 0) :
    outF st ch (ps.map (aftP f l)) = ((outF st ch ps).1 + 60 * f, (outF st ch ps).2.1 + 60 * l, 0) := by
  unfold outF
  rw [if_pos hc, if_pos hc2, aft_last hf (checkF_zero hc) hps, aft_last hf (checkF_zero hc) hps]
  rfl

/-! # The bulb bursts -/
theorem idxI_mono {a c : Int} (h : a ≤ c) : ∀ {l m : List Int}, LeL l m → 0 ≤ idxI (fun d => decide (d ≥ c)) l → 0 ≤ idxI (fun d => decide (d ≥ a)) m ∧ idxI (fun d => decide (d ≥ a)) m ≤ idxI (fun d => decide (d ≥ c)) l
  | [], [], _, h0 => by simp [idxI] at h0
  | x :: l, y :: m, hl, h0 => by
    have hxy : x ≤ y := hl.get 0 (by simp) (by simp)
    have hlm : LeL l m := LeL.of_get (by have := hl.length; simpa using this) fun i h1 h2 => by
      have := hl.get (i + 1) (by simpa using h1) (by simpa using h2)
      simpa using this
    simp only [idxI] at h0 ⊢
    by_cases e : decide (y ≥ a) = true
    · rw [if_pos e]
      refine ⟨Int.le_refl _, h0⟩
    · rw [if_neg e]
      have e' : ¬ decide (x ≥ c) = true := by simp at e ⊢; omega
      rw [if_neg e'] at h0 ⊢
      by_cases e2 : idxI (fun d => decide (d ≥ c)) l < 0
      · rw [if_pos e2] at h0; omega
      · rw [if_neg e2]
        have ih := idxI_mono h hlm (by omega)
        rw [if_neg (by omega)]
        omega
  | [], _ :: _, hl, h0 => by simp [idxI] at h0
  | _ :: _, [], hl, h0 => by have := hl.length; simp at this
theorem burst_mono {a c p q : Int} (h : a ≤ c) (hp : 0 ≤ p ∧ p ≤ q) {l m : List Int} (hl : LeL l m) (h0 : 0 < burstI l c q) : 1 ≤ burstI m a p ∧ burstI m a p ≤ burstI l c q := by
  have hn := hl.length
  unfold burstI at h0 ⊢
  by_cases e1 : idxI (fun d => decide (d ≥ c)) l < 0
  · rw [if_pos e1] at h0; omega
  rw [if_neg e1] at h0 ⊢
  by_cases e2 : idxI (fun d => decide (d ≥ c)) l + q ≥ (l.length : Int)
  · rw [if_pos e2] at h0; omega
  rw [if_neg e2] at h0 ⊢
  have hm := idxI_mono h hl (by omega)
  rw [if_neg (by omega), if_neg (by omega)]
  omega
theorem burst_within (l : List Int) (c : Int) {q : Int} (hq : 0 ≤ q) : 0 ≤ burstI l c q ∧ burstI l c q ≤ l.length := by
  unfold burstI
  split
  · omega
  · split <;> omega
end Go.Proofs.YtdeaccbolnlgpaaDoor.X
