import Derived.Test.YtdeaccbolnlgpaaDoorXPC0
import Derived.Test.YtdeaccbolnlgpaaDoorXPB
import Derived.Test.YtdeaccbolnlgpaaDoorXHO
import Derived.Test.YtdeaccbolnlgpaaDoorXHL
import Derived.Test.YtdeaccbolnlgpaaDoorXHS
namespace Go.Proofs.YtdeaccbolnlgpaaDoor.X
open Go.RowKit Go.Proofs.YtdeaccbolnlgpaaDoorW.PrintWords Go.Proofs.YtdeaccbolnlgpaaDoorW.PrintLast Go.Proofs.YtdeaccbolnlgpaaDoorW.PrintMore
set_option linter.unusedVariables false
set_option linter.unusedSimpArgs false

/-! # The truth lies between the ends -/

theorem foldl_mx_ge : ∀ (l : List Int) (a : Int), a ≤ l.foldl mx a ∧ ∀ z ∈ l, z ≤ l.foldl mx a
  | [], a => ⟨Int.le_refl _, fun z hz => by cases hz⟩
  | b :: l, a => by
    obtain ⟨h1, h2⟩ := foldl_mx_ge l (mx a b)
    have h3 : a ≤ mx a b ∧ b ≤ mx a b := by unfold mx; split <;> omega
    rw [List.foldl_cons]
    refine ⟨by omega, fun z hz => ?_⟩
    rcases List.mem_cons.1 hz with rfl | hz
    · omega
    · exact h2 z hz
theorem foldl_mx_le : ∀ (l : List Int) (a B : Int), a ≤ B → (∀ z ∈ l, z ≤ B) → l.foldl mx a ≤ B
  | [], a, B, h, _ => h
  | b :: l, a, B, h, hl => by
    rw [List.foldl_cons]
    refine foldl_mx_le l _ B ?_ fun z hz => hl z (List.mem_cons_of_mem _ hz)
    have := hl b (List.mem_cons_self ..)
    unfold mx; split <;> omega

/-- When the last one was out. -/
def lastW (st : List S62) (L : List (List Int)) : Nat → Int
  | 0 => 0
  | k + 1 => if (rd_T62 st k).f0 = -1 then (rd_L11 L k).foldl mx (lastW st L k) else lastW st L k

theorem lastT_le {st : List S62} {ch : List S81} {ps : List S48} {L : List (List Int)} (h : ∀ k : Nat, k < st.length → LeL (leftAt false st ch ps k) (rd_L11 L k)) : ∀ k, k ≤ st.length → lastT false st ch ps k ≤ lastW st L k
  | 0, _ => Int.le_refl _
  | k + 1, hk => by
    have ih := lastT_le h k (by omega)
    have hl := h k (by omega)
    rw [lastT, lastW]
    by_cases h1 : (rd_T62 st k).f0 = -1
    · rw [if_pos h1]
      obtain ⟨h2, h3⟩ := foldl_mx_ge (rd_L11 L k) (lastW st L k)
      split
      · rename_i h4
        have h5 : ((leftAt false st ch ps k)[(leftAt false st ch ps k).length - 1]?.getD 0) ≤ (rd_L11 L k).foldl mx (lastW st L k) := by
          have h6 := last_get h4.2
          rcases hl.getLast with ⟨e1, _⟩ | ⟨a, b, e1, e2, hab⟩
          · rw [e1] at h6; cases h6
          · rw [e1] at h6
            have h7 := h3 b (List.mem_of_getLast? e2)
            have := Option.some.inj h6
            omega
        omega
      · omega
    · rw [if_neg h1, if_neg (fun h => h1 h.1)]; exact ih

theorem le_lastT {st : List S62} {ch : List S81} {ps : List S48} {L : List (List Int)} (hg : ∀ k : Nat, k < st.length → 0 ≤ (rd_T62 st k).f1) (h : ∀ k : Nat, k < st.length → LeL (rd_L11 L k) (leftAt true st ch ps k)) : ∀ k, k ≤ st.length → lastW st L k ≤ lastT true st ch ps k
  | 0, _ => Int.le_refl _
  | k + 1, hk => by
    have ih := le_lastT hg h k (by omega)
    have hl := h k (by omega)
    rw [lastT, lastW]
    by_cases h1 : (rd_T62 st k).f0 = -1
    · rw [if_pos h1]
      have htop : TopLast (leftAt true st ch ps k) := flowL_top _ (hg k (by omega)) _
      by_cases h4 : 0 < (leftAt true st ch ps k).length
      · rw [if_pos ⟨h1, h4⟩]
        refine foldl_mx_le _ _ _ (by omega) fun z hz => ?_
        obtain ⟨i, hi, rfl⟩ := List.getElem_of_mem hz
        have hi' : i < (leftAt true st ch ps k).length := by rw [← hl.length]; exact hi
        have h5 := hl.get i hi hi'
        obtain ⟨e, h6, h7⟩ := htop _ (List.getElem_mem hi')
        rw [last_get h4] at h6
        have := Option.some.inj h6
        omega
      · rw [if_neg (fun h => h4 h.2)]
        have h5 : rd_L11 L k = [] := List.eq_nil_of_length_eq_zero (by have := hl.length; omega)
        rw [h5]; exact ih
    · rw [if_neg h1, if_neg (fun h => h1 h.1)]; exact ih

/-! ## The times -/
def truthT (ch : List S81) (ps : List S48) (by_ : List Int) : List Int := tsG ch ps (listK (paceK ps by_) ps.length) (listK (waitK ps by_) ps.length)
theorem listK_rd (f : Nat → Int) {n i : Nat} (hi : i < n) : rd (listK f n) (i : Int) = f i := by
  rw [rd_get (by simpa [listK] using hi)]; simp [listK]
theorem rdT81_in {st : List S62} {ch : List S81} {ps : List S48} (hv : Valid st ch ps) {i : Nat} (hi : i < ps.length) : chamberB st.length (rd_T81 ch (rd_T48 ps i).f0) = true := by
  have h1 := livesB_iff.1 (hv.lives _ (List.getElem_mem hi))
  rw [rdT48_nat hi]
  exact hv.built.chamber _ (rdT81_get h1.1.1 h1.1.2)
theorem truthT_get {st : List S62} {ch : List S81} {ps : List S48} (hv : Valid st ch ps) (by_ : List Int) {i : Nat} (hi : i < ps.length) : leaveT false ch ps[i] ≤ (truthT ch ps by_)[i]'(by rw [truthT, tsG_length]; exact hi) ∧ (truthT ch ps by_)[i]'(by rw [truthT, tsG_length]; exact hi) ≤ leaveT true ch ps[i] := by
  have h1 := livesB_iff.1 (hv.lives _ (List.getElem_mem hi))
  have h2 := chamberB_iff.1 (rdT81_in hv hi)
  have e : (truthT ch ps by_)[i]'(by rw [truthT, tsG_length]; exact hi) = waitK ps by_ i + ceilI (rd_T81 ch ps[i].f0).f1 (paceK ps by_ i) := by
    unfold truthT
    rw [tsG_get hi, listK_rd _ hi, listK_rd _ hi, rdT48_nat hi]
  rw [rdT48_nat hi] at h2
  rw [e]
  have h3 := pickI_in h1.2.1.2.1 (chooseI by_ (2 * i))
  have h4 := pickI_in h1.2.2.2.1 (chooseI by_ (2 * i + 1))
  unfold leaveT ceilI paceK waitK
  rw [rdT48_nat hi]
  simp only [timeS, paceS, if_true, Bool.false_eq_true, if_false]
  have h5 := ceil_anti (a := (rd_T81 ch ps[i].f0).f1) h2.2.1.1 (by omega) h3.1
  have h6 := ceil_anti (a := (rd_T81 ch ps[i].f0).f1) h2.2.1.1 (by omega) h3.2
  omega
theorem truthT_lo {st : List S62} {ch : List S81} {ps : List S48} (hv : Valid st ch ps) (by_ : List Int) : LeL (ps.map (leaveT false ch)) (truthT ch ps by_) :=
  LeL.of_get (by rw [truthT, tsG_length, List.length_map]) fun i h1 h2 => by
    have hi : i < ps.length := by simpa using h1
    rw [List.getElem_map]; exact (truthT_get hv by_ hi).1
theorem truthT_hi {st : List S62} {ch : List S81} {ps : List S48} (hv : Valid st ch ps) (by_ : List Int) : LeL (truthT ch ps by_) (ps.map (leaveT true ch)) :=
  LeL.of_get (by rw [truthT, tsG_length, List.length_map]) fun i h1 h2 => by
    have hi : i < ps.length := by simpa using h2
    rw [List.getElem_map]; exact (truthT_get hv by_ hi).2
theorem walk_in {st : List S62} {ch : List S81} {ps : List S48} (hv : Valid st ch ps) (by_ : List Int) {i : Nat} (hi : i < st.length) : st[i].f2.f0 ≤ walkK st by_ i ∧ walkK st by_ i ≤ st[i].f2.f1 := by
  have h1 := stairB_iff.1 (hv.built.stair i hi)
  have := pickI_in h1.2.2.1.2.1 (chooseI by_ (50 + i))
  unfold walkK
  rw [rdT62_get hi]; exact this
theorem walk_lo {st : List S62} {ch : List S81} {ps : List S48} (hv : Valid st ch ps) (by_ : List Int) : LeL (st.map fun s => timeS false s.f2) (listK (walkK st by_) st.length) :=
  LeL.of_get (by rw [listK_length, List.length_map]) fun i h1 h2 => by
    have hi : i < st.length := by simpa using h1
    rw [List.getElem_map, show (listK (walkK st by_) st.length)[i] = walkK st by_ i by simp [listK]]
    exact (walk_in hv by_ hi).1
theorem walk_hi {st : List S62} {ch : List S81} {ps : List S48} (hv : Valid st ch ps) (by_ : List Int) : LeL (listK (walkK st by_) st.length) (st.map fun s => timeS true s.f2) :=
  LeL.of_get (by rw [listK_length, List.length_map]) fun i h1 h2 => by
    have hi : i < st.length := by simpa using h2
    rw [List.getElem_map, show (listK (walkK st by_) st.length)[i] = walkK st by_ i by simp [listK]]
    exact (walk_in hv by_ hi).2

/-- Who left which stair when. -/
def truthL (st : List S62) (ch : List S81) (ps : List S48) (by_ : List Int) : List (List Int) := (truthG st ch ps by_).2
theorem truthL_rd {st : List S62} {ch : List S81} {ps : List S48} (by_ : List Int) {s : Nat} (hs : s < st.length) : rd_L11 (truthL st ch ps by_) s = leftG st ch ps (truthT ch ps by_) (listK (walkK st by_) st.length) s := by
  unfold truthL truthG goF rd_L11
  simp only [Int.toNat_natCast]
  rw [List.getD_eq_getElem?_getD, List.getElem?_eq_getElem (by simpa using hs)]
  simp [truthT]
theorem truthL_lo {st : List S62} {ch : List S81} {ps : List S48} (hv : Valid st ch ps) (by_ : List Int) {s : Nat} (hs : s < st.length) : LeL (leftAt false st ch ps s) (rd_L11 (truthL st ch ps by_) s) := by
  rw [truthL_rd by_ hs, ← leftG_eq false st ch ps hs]
  exact leftG_mono (GapLe.refl st) ch ps (truthT_lo hv by_) (walk_lo hv by_) s
theorem truthL_hi {st : List S62} {ch : List S81} {ps : List S48} (hv : Valid st ch ps) (by_ : List Int) {s : Nat} (hs : s < st.length) : LeL (rd_L11 (truthL st ch ps by_) s) (leftAt true st ch ps s) := by
  rw [truthL_rd by_ hs, ← leftG_eq true st ch ps hs]
  exact leftG_mono (GapLe.refl st) ch ps (truthT_hi hv by_) (walk_hi hv by_) s

/-! ## What is known is so -/
theorem truthT_rd {st : List S62} {ch : List S81} {ps : List S48} (hv : Valid st ch ps) (by_ : List Int) {i : Nat} (hi : i < ps.length) : leaveT false ch ps[i] ≤ rd (truthT ch ps by_) i ∧ rd (truthT ch ps by_) i ≤ leaveT true ch ps[i] := by
  rw [rd_get (by rw [truthT, tsG_length]; exact hi)]; exact truthT_get hv by_ hi
/-- Known safe: so it was. -/
theorem right_two {st : List S62} {ch : List S81} {ps : List S48} (hv : Valid st ch ps) (by_ : List Int) (h : lateF true st ch ps = (-1, -1)) : rightP ch ps by_ (truthT ch ps by_) ps.length = true ∧ rightS st by_ (truthL st ch ps by_) st.length = true := by
  have h1 : lateC true ch ps ch.length = -1 := congrArg Prod.fst h
  have h2 : lateS true st ch ps 0 st.length = -1 := congrArg Prod.snd h
  constructor
  · refine List.all_eq_true.2 fun i hi => ?_
    rw [List.mem_range] at hi
    have h3 := livesB_iff.1 (hv.lives _ (List.getElem_mem hi))
    have h4 := lateC_none _ h1 ps[i].f0.toNat (by omega)
    have h5 := List.any_eq_false.1 h4 _ (List.getElem_mem hi)
    have h6 := truthT_rd hv by_ hi
    have h7 := chamberB_iff.1 (rdT81_in hv hi)
    have h8 := pickI_in h7.2.2.2.1 (chooseI by_ (60 + (rd_T48 ps i).f0.toNat))
    have e : ((ps[i].f0.toNat : Nat) : Int) = ps[i].f0 := Int.toNat_of_nonneg h3.1.1
    simp [slowB, e, smokeS] at h5
    rw [rdT48_nat hi] at h8 ⊢
    rw [decide_eq_true_eq]
    omega
  · refine List.all_eq_true.2 fun s hs => List.all_eq_true.2 fun t ht => ?_
    rw [List.mem_range] at hs
    rw [List.take_length] at ht
    have h4 := lateS_all _ _ h2 s (by omega) (by omega)
    obtain ⟨i, hi, rfl⟩ := List.getElem_of_mem ht
    have hl := truthL_hi hv by_ hs
    have hi' : i < (leftAt true st ch ps s).length := by rw [← hl.length]; exact hi
    have h5 := List.any_eq_false.1 h4 _ (List.getElem_mem hi')
    have h6 := hl.get i hi hi'
    have h7 := stairB_iff.1 (hv.built.stair s hs)
    have h8 := pickI_in h7.2.2.2.2.1 (chooseI by_ (70 + s))
    simp [smokeS] at h5
    rw [rdT62_get hs] at h5 ⊢
    rw [decide_eq_true_eq]
    omega
/-- Known unsafe: so it was. -/
theorem right_zero {st : List S62} {ch : List S81} {ps : List S48} (hv : Valid st ch ps) (by_ : List Int) (h : lateF false st ch ps ≠ (-1, -1)) : (rightP ch ps by_ (truthT ch ps by_) ps.length && rightS st by_ (truthL st ch ps by_) st.length) = false := by
  rw [Bool.and_eq_false_iff]
  by_cases h1 : lateC false ch ps ch.length = -1
  · right
    have h2 : lateS false st ch ps 0 st.length ≠ -1 := fun h2 => h (Prod.ext h1 h2)
    obtain ⟨s, _, hs, h3⟩ := lateS_some _ _ h2
    rw [Nat.zero_add] at hs
    obtain ⟨t, ht, h4⟩ := List.any_eq_true.1 h3
    obtain ⟨i, hi, rfl⟩ := List.getElem_of_mem ht
    have hl := truthL_lo hv by_ hs
    have hi' : i < (rd_L11 (truthL st ch ps by_) s).length := by rw [← hl.length]; exact hi
    have h6 := hl.get i hi hi'
    have h7 := stairB_iff.1 (hv.built.stair s hs)
    have h8 := pickI_in h7.2.2.2.2.1 (chooseI by_ (70 + s))
    simp [smokeS] at h4
    rw [rdT62_get hs] at h4
    refine List.all_eq_false.2 ⟨s, List.mem_range.2 hs, fun hall => ?_⟩
    have h9 := List.all_eq_true.1 hall _ (by rw [List.take_length]; exact List.getElem_mem hi')
    rw [decide_eq_true_eq, rdT62_get hs] at h9
    omega
  · left
    obtain ⟨c, hc, h2⟩ := lateC_some _ h1
    obtain ⟨x, hx, h3⟩ := List.any_eq_true.1 h2
    obtain ⟨i, hi, rfl⟩ := List.getElem_of_mem hx
    simp [slowB, smokeS] at h3
    have h6 := truthT_rd hv by_ hi
    have h7 := chamberB_iff.1 (rdT81_in hv hi)
    have h8 := pickI_in h7.2.2.2.1 (chooseI by_ (60 + (rd_T48 ps i).f0.toNat))
    refine List.all_eq_false.2 ⟨i, List.mem_range.2 hi, fun hle => ?_⟩
    rw [decide_eq_true_eq] at hle
    rw [rdT48_nat hi] at h8 hle
    rw [h3.1] at h8 hle
    omega
end Go.Proofs.YtdeaccbolnlgpaaDoor.X
