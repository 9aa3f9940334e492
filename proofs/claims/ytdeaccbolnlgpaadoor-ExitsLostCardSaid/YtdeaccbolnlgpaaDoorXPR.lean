import Derived.Test.YtdeaccbolnlgpaaDoorXPK
import Derived.Test.YtdeaccbolnlgpaaDoorXP6G
import Derived.Test.YtdeaccbolnlgpaaDoorXP5S
import Derived.Test.YtdeaccbolnlgpaaDoorXN11A
import Derived.Test.YtdeaccbolnlgpaaDoorXN11B
namespace Go.Proofs.YtdeaccbolnlgpaaDoor.X
open Go.RowKit Go.Proofs.YtdeaccbolnlgpaaDoorW.PrintWords Go.Proofs.YtdeaccbolnlgpaaDoorW.PrintLast Go.Proofs.YtdeaccbolnlgpaaDoorW.PrintMore
set_option linter.unusedVariables false
set_option linter.unusedSimpArgs false
set_option linter.unusedSectionVars false

/-! # The plain law of ExitsLost -/
theorem rdR {f : Nat → Int} {n j : Nat} (h : j < n) : rd ((List.range n).map f) (j : Int) = f j := by
  rw [rd_get (by simpa using h)]; simp
/-- How many come to each stair from the first k people. -/
def comeP (n : Nat) (ch : List S81) (ps : List S48) (k : Nat) : List Int := (List.range n).map fun (j : Nat) => ((comeO false ch (ps.take k) (j : Int)).length : Int)
/-- .. behind i of the stairs. -/
def comeI (st : List S62) (ch : List S81) (ps : List S48) (i : Nat) : List Int := (List.range st.length).map fun (j : Nat) => (((if j < i then (leftAt false st ch ps j).length else (comeAt false st ch ps i (j : Int)).length) : Nat) : Int)
def outI (st : List S62) (ch : List S81) (ps : List S48) (i : Nat) : Int := ((comeAt false st ch ps i (-1)).length : Int)
theorem comeP_length (n : Nat) (ch : List S81) (ps : List S48) (k : Nat) : (comeP n ch ps k).length = n := by simp [comeP]
theorem comeI_length (st : List S62) (ch : List S81) (ps : List S48) (i : Nat) : (comeI st ch ps i).length = st.length := by simp [comeI]
theorem comeP_zero (n : Nat) (ch : List S81) (ps : List S48) : comeP n ch ps 0 = List.replicate n 0 := by
  unfold comeP
  apply List.ext_getElem
  · simp
  · intro i h1 h2; simp [comeO]
theorem comeP_all (st : List S62) (ch : List S81) (ps : List S48) : comeP st.length ch ps ps.length = comeI st ch ps 0 := by
  unfold comeP comeI
  refine List.map_congr_left fun j _ => ?_
  rw [List.take_length, if_neg (by omega)]; rfl
theorem comeO_le (b : Bool) (ch : List S81) (ps : List S48) (i : Int) : (comeO b ch ps i).length ≤ ps.length := by
  unfold comeO
  rw [List.length_map]; exact List.length_filter_le _ _
section
variable {st : List S62} {ch : List S81} {ps : List S48} (hv : Valid st ch ps)
include hv
theorem comeP_step {k : Nat} (hk : k < ps.length) : (comeP st.length ch ps k).set (rd_T81 ch ps[k].f0).f0.toNat (wrap64 (rd (comeP st.length ch ps k) (rd_T81 ch ps[k].f0).f0 + 1)) = comeP st.length ch ps (k + 1) := by
  have hs := hv.stairOf (List.getElem_mem hk)
  have hn := hv.nps
  obtain ⟨s, hse⟩ : ∃ s : Nat, (rd_T81 ch ps[k].f0).f0 = (s : Int) := ⟨_, (Int.toNat_of_nonneg hs.1).symm⟩
  have hcs := comeO_succ false ch ps k hk
  rw [hse] at hs hcs ⊢
  have hsn : s < st.length := by omega
  have hb := comeO_le false ch (ps.take k) (s : Int)
  have hb2 : (ps.take k).length ≤ ps.length := by rw [List.length_take]; omega
  rw [Int.toNat_natCast]
  have e1 : rd (comeP st.length ch ps k) (s : Int) = ((comeO false ch (ps.take k) (s : Int)).length : Int) := rdR hsn
  rw [e1]
  refine List.ext_getElem (by simp [comeP]) fun j h1 h2 => ?_
  have hj : j < st.length := by simpa [comeP] using h2
  rw [List.getElem_set]
  have e2 : (comeP st.length ch ps (k + 1))[j]'h2 = ((comeO false ch (ps.take (k + 1)) (j : Int)).length : Int) := by simp [comeP]
  rw [e2, hcs]
  by_cases e : s = j
  · subst e
    rw [if_pos rfl, putG_eq _ _ _ _ rfl, List.length_append, List.length_singleton, wrap_in (by omega)]
    omega
  · rw [if_neg e, putG_ne _ _ _ _ (by omega)]
    simp [comeP]
theorem comeI_out {i : Nat} (hi : i < st.length) (e : (rd_T62 st i).f0 = -1) : comeI st ch ps (i + 1) = comeI st ch ps i := by
  unfold comeI
  refine List.map_congr_left fun j _ => ?_
  by_cases h1 : j < i
  · rw [if_pos h1, if_pos (by omega)]
  · rw [if_neg h1]
    by_cases h2 : j = i
    · subst h2
      rw [if_pos (by omega), leftAt_come]
    · rw [if_neg (by omega), comeAt_next hv hi _ (by omega), if_neg (by omega)]; rfl
theorem comeI_next {i m : Nat} (hi : i < st.length) (e : (rd_T62 st i).f0 = (m : Int)) (him : i < m) (hm : m < st.length) : (comeI st ch ps i).set m (wrap64 (rd (comeI st ch ps i) (m : Int) + ((leftAt false st ch ps i).length : Int))) = comeI st ch ps (i + 1) := by
  have h24 := leftAt_le24 false hv i
  have hn := hv.nps
  have hl := hv.len (b := false) i (m : Int)
  have e1 : rd (comeI st ch ps i) (m : Int) = ((comeAt false st ch ps i (m : Int)).length : Int) := by
    unfold comeI
    rw [rdR hm, if_neg (by omega)]
  rw [e1]
  refine List.ext_getElem (by simp [comeI]) fun j h1 h2 => ?_
  have hj : j < st.length := by simpa [comeI] using h2
  rw [List.getElem_set]
  have e2 : (comeI st ch ps (i + 1))[j]'h2 = (((if j < i + 1 then (leftAt false st ch ps j).length else (comeAt false st ch ps (i + 1) (j : Int)).length) : Nat) : Int) := by simp [comeI]
  rw [e2]
  by_cases h3 : m = j
  · subst h3
    rw [if_pos rfl, if_neg (by omega), comeAt_next hv hi _ (by omega), if_pos e.symm, wrap_in (by omega)]
    omega
  · rw [if_neg h3]
    have e3 : (comeI st ch ps i)[j]'(by rw [comeI_length]; exact hj) = (((if j < i then (leftAt false st ch ps j).length else (comeAt false st ch ps i (j : Int)).length) : Nat) : Int) := by simp [comeI]
    rw [e3]
    by_cases h4 : j < i
    · rw [if_pos h4, if_pos (by omega)]
    · rw [if_neg h4]
      by_cases h5 : j = i
      · subst h5; rw [if_pos (by omega), leftAt_come]
      · rw [if_neg (by omega), comeAt_next hv hi _ (by omega), if_neg (by omega)]; rfl
theorem comeI_at {i : Nat} (hi : i < st.length) : rd (comeI st ch ps i) (i : Int) = ((leftAt false st ch ps i).length : Int) := by
  unfold comeI
  rw [rdR hi, if_neg (by omega), leftAt_come]
theorem outI_next {i : Nat} (hi : i < st.length) : outI st ch ps (i + 1) = outI st ch ps i + (if (rd_T62 st i).f0 = -1 then ((leftAt false st ch ps i).length : Int) else 0) := by
  unfold outI
  rw [comeAt_next hv hi _ (by omega)]
  by_cases e : (rd_T62 st i).f0 = -1
  · rw [if_pos e.symm, if_pos e]; omega
  · rw [if_neg (fun h => e h.symm), if_neg e]; omega
theorem outI_bound (i : Nat) : 0 ≤ outI st ch ps i ∧ outI st ch ps i ≤ 24 := by
  have h1 := hv.len (b := false) i (-1)
  have := hv.nps
  unfold outI
  omega
end
def spansI (st : List S62) (ch : List S81) (ps : List S48) (i : Nat) : List S36 := List.zipWith S36.mk (leftAt false st ch ps i) (leftAt true st ch ps i)
theorem spansI_length (st : List S62) (ch : List S81) (ps : List S48) (i : Nat) : (spansI st ch ps i).length = (leftAt false st ch ps i).length := by
  have := leftAt_len st ch ps i
  unfold spansI
  rw [List.length_zipWith]; omega
theorem left_gap (b : Bool) (st : List S62) (ch : List S81) (ps : List S48) (k : Nat) : GapOk (rd_T62 st k).f1 (leftAt b st ch ps k) := by
  unfold leftAt leftOf
  exact flowL_gap _ _ _

/-! ## Walk A -/
section
variable {st : List S62} {ch : List S81} {ps qs : List S48} (hc : checkF st ch ps = 0) (hp : ps.Perm qs)
include hc hp
theorem lostA_l2 {i : Nat} (hi : i < st.length) (hK : Ev (fun k => cottonpadlaw06_ExitsLostA.l1 k ps true qs (comeI st ch ps (i + 1)) (outI st ch ps (i + 1)) st (st.length : Int) ((i + 1 : Nat) : Int) st ch) true) : ∀ d j : Nat, j + d = (leftAt false st ch ps i).length →
    Ev (fun k => cottonpadlaw06_ExitsLostA.l2 k ps true qs (comeI st ch ps i) (outI st ch ps i) (spansI st ch ps i) st (st.length : Int) (i : Int) ((leftAt false st ch ps i).length : Int) (j : Int) st ch (rd_T62 st i).f0 (rd_T62 st i).f1 (rd_T62 st i).f2.f0 (rd_T62 st i).f2.f1 (rd_T62 st i).f3.f0 (rd_T62 st i).f3.f1) true
  | 0, j, h => by
    have hv := checkF_zero hc
    have hst := hv.built.nst
    have h24 := leftAt_le24 false hv i
    have hs := stairB_iff.1 (hv.built.stair i hi)
    have ho := outI_next hv hi
    have hob := outI_bound hv i
    have hsl := spansI_length st ch ps i
    rw [← rdT62_get hi] at hs
    refine Ev.step (fun k => ?_) hK
    rw [cottonpadlaw06_ExitsLostA.l2, if_neg (by omega), hsl, wrap_succ hi (by omega)]
    by_cases e : (rd_T62 st i).f0 = -1
    · rw [if_pos e] at ho ⊢
      rw [← comeI_out hv hi e, ho, wrap_in (by omega)]
    · rw [if_neg e] at ho ⊢
      obtain ⟨m, hm⟩ : ∃ m : Nat, (rd_T62 st i).f0 = (m : Int) := ⟨_, (Int.toNat_of_nonneg (by omega)).symm⟩
      rw [hm] at hs ⊢
      rw [if_pos (by omega), if_pos (by rw [comeI_length]; omega), Int.toNat_natCast, comeI_next hv hi hm (by omega) (by omega), ho, Int.add_zero]
  | d + 1, j, h => by
    have hv := checkF_zero hc
    have hst := hv.built.nst
    have h24 := leftAt_le24 false hv i
    have hlen := leftAt_len st ch ps i
    have hsl := spansI_length st ch ps i
    have hs := stairB_iff.1 (hv.built.stair i hi)
    rw [← rdT62_get hi] at hs
    have hj : j < (leftAt false st ch ps i).length := by omega
    have hr : ∀ q (hq : q < (leftAt false st ch ps i).length), rd_T36 (spansI st ch ps i) (q : Int) = ⟨(leftAt false st ch ps i)[q], (leftAt true st ch ps i)[q]'(by omega)⟩ := fun q hq => by
      rw [rdT36_nat (by rw [hsl]; exact hq)]
      simp [spansI]
    refine Ev.step (fun k => ?_) (lostA_l2 hi hK d (j + 1) (by omega))
    rw [cottonpadlaw06_ExitsLostA.l2, if_pos (by omega), wrap_succ hj (by omega)]
    by_cases h0 : (j : Int) > 0
    · obtain ⟨q, rfl⟩ : ∃ q, j = q + 1 := ⟨j - 1, by omega⟩
      have w1 : wrap64 (((q + 1 : Nat) : Int) - 1) = (q : Int) := by rw [wrap_in (by omega)]; omega
      have b1 := leftAt_bound false hv hi _ (List.getElem_mem (h := (by omega : q < (leftAt false st ch ps i).length)))
      have b2 := leftAt_bound true hv hi _ (List.getElem_mem (h := (by omega : q < (leftAt true st ch ps i).length)))
      have g1 := left_gap false st ch ps i q (by omega)
      have g2 := left_gap true st ch ps i q (by omega)
      rw [if_pos h0, if_pos (by omega), if_pos (by omega), w1, if_pos (by omega), if_pos (by omega), hr (q + 1) hj, hr q (by omega)]
      simp only
      rw [wrap_in (x := (leftAt false st ch ps i)[q] + (rd_T62 st i).f1) (by omega), wrap_in (x := (leftAt true st ch ps i)[q] + (rd_T62 st i).f1) (by omega), if_neg (by omega), if_neg (by omega)]
    · rw [if_neg h0]
theorem lostA_l1 : ∀ d i : Nat, i + d = st.length → Ev (fun k => cottonpadlaw06_ExitsLostA.l1 k ps true qs (comeI st ch ps i) (outI st ch ps i) st (st.length : Int) (i : Int) st ch) true
  | 0, i, h => by
    have hv := checkF_zero hc
    have h3 := check_small3 hc
    have h3q : small3 st ch qs := ⟨h3.1, h3.2.1, by rw [← hp.length_eq]; exact h3.2.2⟩
    have o1 : outF st ch ps = (lastT false st ch ps st.length, lastT true st ch ps st.length, 0) := if_pos hc
    have s0 := (safeF_two hc).1
    have ho : outI st ch ps st.length = (ps.length : Int) := by unfold outI; rw [comeAt_out hv]
    refine Ev.step (f := fun _ => some true) (fun k => ?_) (Ev.now _)
    rw [cottonpadlaw06_ExitsLostA.l1, if_neg (by omega), exitsOut_f h3, exitsOut_f h3q, exitsSafe_f h3, exitsSafe_f h3q, ← outF_perm st ch hp, ← safeF_perm st ch hp, o1, show i = st.length by omega, ho]
    simp only [Option.bind_some, if_true, beq_self_eq_true, Bool.and_self, s0]
  | d + 1, i, h => by
    have hv := checkF_zero hc
    have h3 := check_small3 hc
    have h3q : small3 st ch qs := ⟨h3.1, h3.2.1, by rw [← hp.length_eq]; exact h3.2.2⟩
    have hst := hv.built.nst
    have hi : i < st.length := by omega
    have h24 := leftAt_le24 false hv i
    have hsl := spansI_length st ch ps i
    have l1 : leavesF st ch ps (i : Int) = (spansI st ch ps i, 0) := leavesF_at hc hi
    have l2 : leavesF st ch qs (i : Int) = (spansI st ch ps i, 0) := by rw [← leavesF_perm st ch hp]; exact l1
    have hK := lostA_l1 d (i + 1) (by omega)
    have h2 := lostA_l2 hc hp hi hK (leftAt false st ch ps i).length 0 (by omega)
    have hS := SameSpans_ev (spansI st ch ps i) (by omega)
    refine Ev.step (f := fun k => (cottonpadref06_SameSpans.f k (spansI st ch ps i) (spansI st ch ps i)).bind fun t846 => (if t846 = true then cottonpadlaw06_ExitsLostA.j3 k ps true qs (comeI st ch ps i) (outI st ch ps i) (spansI st ch ps i) st (st.length : Int) (i : Int) false st ch (rd_T62 st i).f0 (rd_T62 st i).f1 (rd_T62 st i).f2.f0 (rd_T62 st i).f2.f1 (rd_T62 st i).f3.f0 (rd_T62 st i).f3.f1 else cottonpadlaw06_ExitsLostA.j3 k ps true qs (comeI st ch ps i) (outI st ch ps i) (spansI st ch ps i) st (st.length : Int) (i : Int) true st ch (rd_T62 st i).f0 (rd_T62 st i).f1 (rd_T62 st i).f2.f0 (rd_T62 st i).f2.f1 (rd_T62 st i).f3.f0 (rd_T62 st i).f3.f1)) (fun k => ?_) (Ev.bind hS ?_)
    · rw [cottonpadlaw06_ExitsLostA.l1, if_pos (by omega), if_pos (by omega), if_pos (by omega), exitsLeaves_f h3, exitsLeaves_f h3q, l1, l2]
      have hb : (((spansI st ch ps i).length : Int) != rd (comeI st ch ps i) (i : Int)) = false := by rw [comeI_at hv hi, hsl]; simp
      simp only [Option.bind_some, if_true, hb]
      rw [if_pos (by rw [comeI_length]; omega)]
    · simp only [if_true]
      refine Ev.step (fun k => ?_) h2
      rw [cottonpadlaw06_ExitsLostA.j3, if_neg (by simp), hsl]; rfl
theorem lostA_l0 : ∀ d k : Nat, k + d = ps.length → Ev (fun n => cottonpadlaw06_ExitsLostA.l0 n ps true qs (comeP st.length ch ps k) ps (ps.length : Int) (k : Int) st ch) true
  | 0, k, h => by
    have hv := checkF_zero hc
    have h1 := lostA_l1 hc hp st.length 0 (by omega)
    have h0 : outI st ch ps 0 = 0 := by
      have h2 : comeAt false st ch ps 0 (-1) = [] := List.eq_nil_iff_forall_not_mem.2 fun t ht => by
        obtain ⟨x, hx, h3, _⟩ := comeO_mem ht
        have := hv.stairOf hx
        omega
      unfold outI
      rw [h2]; rfl
    rw [h0] at h1
    refine Ev.step (fun n => ?_) h1
    rw [cottonpadlaw06_ExitsLostA.l0, if_neg (by omega), show k = ps.length by omega, comeP_all]
    rfl
  | d + 1, k, h => by
    have hv := checkF_zero hc
    have hn := hv.nps
    have hk : k < ps.length := by omega
    have hs := hv.stairOf (List.getElem_mem hk)
    have hl := (livesB_iff.1 (hv.lives _ (List.getElem_mem hk))).1
    refine Ev.step (fun n => ?_) (lostA_l0 d (k + 1) (by omega))
    rw [cottonpadlaw06_ExitsLostA.l0, if_pos (by omega), if_pos (by omega), if_pos (by omega), rdT48_nat hk, if_pos (by omega), if_pos (by omega), if_pos (by omega), if_pos (by rw [comeP_length]; omega), wrap_succ hk (by omega), comeP_step hv hk]
end

/-! ## Walk B -/
section
variable {st : List S62} {ch : List S81} {ps qs : List S48} (hc : checkF st ch ps = 0) (hp : ps.Perm qs)
include hc hp
theorem lostB_l2 {i : Nat} (hi : i < st.length) (hK : Ev (fun k => cottonpadlaw06_ExitsLostB.l1 k ps true qs (comeI st ch ps (i + 1)) (outI st ch ps (i + 1)) st (st.length : Int) ((i + 1 : Nat) : Int) st ch) true) : ∀ d j : Nat, j + d = (leftAt false st ch ps i).length →
    Ev (fun k => cottonpadlaw06_ExitsLostB.l2 k ps true qs (comeI st ch ps i) (outI st ch ps i) (spansI st ch ps i) st (st.length : Int) (i : Int) ((leftAt false st ch ps i).length : Int) (j : Int) st ch (rd_T62 st i).f0 (rd_T62 st i).f1 (rd_T62 st i).f2.f0 (rd_T62 st i).f2.f1 (rd_T62 st i).f3.f0 (rd_T62 st i).f3.f1) true
  | 0, j, h => by
    have hv := checkF_zero hc
    have hst := hv.built.nst
    have h24 := leftAt_le24 false hv i
    have hs := stairB_iff.1 (hv.built.stair i hi)
    have ho := outI_next hv hi
    have hob := outI_bound hv i
    have hsl := spansI_length st ch ps i
    rw [← rdT62_get hi] at hs
    refine Ev.step (fun k => ?_) hK
    rw [cottonpadlaw06_ExitsLostB.l2, if_neg (by omega), hsl, wrap_succ hi (by omega)]
    by_cases e : (rd_T62 st i).f0 = -1
    · rw [if_pos e] at ho ⊢
      rw [← comeI_out hv hi e, ho, wrap_in (by omega)]
    · rw [if_neg e] at ho ⊢
      obtain ⟨m, hm⟩ : ∃ m : Nat, (rd_T62 st i).f0 = (m : Int) := ⟨_, (Int.toNat_of_nonneg (by omega)).symm⟩
      rw [hm] at hs ⊢
      rw [if_pos (by omega), if_pos (by rw [comeI_length]; omega), Int.toNat_natCast, comeI_next hv hi hm (by omega) (by omega), ho, Int.add_zero]
  | d + 1, j, h => by
    have hv := checkF_zero hc
    have hst := hv.built.nst
    have h24 := leftAt_le24 false hv i
    have hlen := leftAt_len st ch ps i
    have hsl := spansI_length st ch ps i
    have hs := stairB_iff.1 (hv.built.stair i hi)
    rw [← rdT62_get hi] at hs
    have hj : j < (leftAt false st ch ps i).length := by omega
    have hr : ∀ q (hq : q < (leftAt false st ch ps i).length), rd_T36 (spansI st ch ps i) (q : Int) = ⟨(leftAt false st ch ps i)[q], (leftAt true st ch ps i)[q]'(by omega)⟩ := fun q hq => by
      rw [rdT36_nat (by rw [hsl]; exact hq)]
      simp [spansI]
    refine Ev.step (fun k => ?_) (lostB_l2 hi hK d (j + 1) (by omega))
    rw [cottonpadlaw06_ExitsLostB.l2, if_pos (by omega), wrap_succ hj (by omega)]
    by_cases h0 : (j : Int) > 0
    · obtain ⟨q, rfl⟩ : ∃ q, j = q + 1 := ⟨j - 1, by omega⟩
      have w1 : wrap64 (((q + 1 : Nat) : Int) - 1) = (q : Int) := by rw [wrap_in (by omega)]; omega
      have b1 := leftAt_bound false hv hi _ (List.getElem_mem (h := (by omega : q < (leftAt false st ch ps i).length)))
      have b2 := leftAt_bound true hv hi _ (List.getElem_mem (h := (by omega : q < (leftAt true st ch ps i).length)))
      have g1 := left_gap false st ch ps i q (by omega)
      have g2 := left_gap true st ch ps i q (by omega)
      rw [if_pos h0, if_pos (by omega), if_pos (by omega), w1, if_pos (by omega), if_pos (by omega), hr (q + 1) hj, hr q (by omega)]
      simp only
      rw [wrap_in (x := (leftAt false st ch ps i)[q] + (rd_T62 st i).f1) (by omega), wrap_in (x := (leftAt true st ch ps i)[q] + (rd_T62 st i).f1) (by omega), if_neg (by omega), if_neg (by omega)]
    · rw [if_neg h0]
theorem lostB_l1 : ∀ d i : Nat, i + d = st.length → Ev (fun k => cottonpadlaw06_ExitsLostB.l1 k ps true qs (comeI st ch ps i) (outI st ch ps i) st (st.length : Int) (i : Int) st ch) true
  | 0, i, h => by
    have hv := checkF_zero hc
    have h3 := check_small3 hc
    have h3q : small3 st ch qs := ⟨h3.1, h3.2.1, by rw [← hp.length_eq]; exact h3.2.2⟩
    have o1 : outF st ch ps = (lastT false st ch ps st.length, lastT true st ch ps st.length, 0) := if_pos hc
    have s0 := (safeF_two hc).1
    have ho : outI st ch ps st.length = (ps.length : Int) := by unfold outI; rw [comeAt_out hv]
    refine Ev.step (f := fun _ => some true) (fun k => ?_) (Ev.now _)
    rw [cottonpadlaw06_ExitsLostB.l1, if_neg (by omega), exitsOut_f h3, exitsOut_f h3q, exitsSafe_f h3, exitsSafe_f h3q, ← outF_perm st ch hp, ← safeF_perm st ch hp, o1, show i = st.length by omega, ho]
    simp only [Option.bind_some, if_true, beq_self_eq_true, Bool.and_self, s0]
  | d + 1, i, h => by
    have hv := checkF_zero hc
    have h3 := check_small3 hc
    have h3q : small3 st ch qs := ⟨h3.1, h3.2.1, by rw [← hp.length_eq]; exact h3.2.2⟩
    have hst := hv.built.nst
    have hi : i < st.length := by omega
    have h24 := leftAt_le24 false hv i
    have hsl := spansI_length st ch ps i
    have l1 : leavesF st ch ps (i : Int) = (spansI st ch ps i, 0) := leavesF_at hc hi
    have l2 : leavesF st ch qs (i : Int) = (spansI st ch ps i, 0) := by rw [← leavesF_perm st ch hp]; exact l1
    have hK := lostB_l1 d (i + 1) (by omega)
    have h2 := lostB_l2 hc hp hi hK (leftAt false st ch ps i).length 0 (by omega)
    have hS := SameSpans_ev (spansI st ch ps i) (by omega)
    refine Ev.step (f := fun k => (cottonpadref06_SameSpans.f k (spansI st ch ps i) (spansI st ch ps i)).bind fun t846 => (if t846 = true then cottonpadlaw06_ExitsLostB.j3 k ps true qs (comeI st ch ps i) (outI st ch ps i) (spansI st ch ps i) st (st.length : Int) (i : Int) false st ch (rd_T62 st i).f0 (rd_T62 st i).f1 (rd_T62 st i).f2.f0 (rd_T62 st i).f2.f1 (rd_T62 st i).f3.f0 (rd_T62 st i).f3.f1 else cottonpadlaw06_ExitsLostB.j3 k ps true qs (comeI st ch ps i) (outI st ch ps i) (spansI st ch ps i) st (st.length : Int) (i : Int) true st ch (rd_T62 st i).f0 (rd_T62 st i).f1 (rd_T62 st i).f2.f0 (rd_T62 st i).f2.f1 (rd_T62 st i).f3.f0 (rd_T62 st i).f3.f1)) (fun k => ?_) (Ev.bind hS ?_)
    · rw [cottonpadlaw06_ExitsLostB.l1, if_pos (by omega), if_pos (by omega), if_pos (by omega), exitsLeaves_f h3, exitsLeaves_f h3q, l1, l2]
      have hb : (((spansI st ch ps i).length : Int) != rd (comeI st ch ps i) (i : Int)) = false := by rw [comeI_at hv hi, hsl]; simp
      simp only [Option.bind_some, if_true, hb]
      rw [if_pos (by rw [comeI_length]; omega)]
    · simp only [if_true]
      refine Ev.step (fun k => ?_) h2
      rw [cottonpadlaw06_ExitsLostB.j3, if_neg (by simp), hsl]; rfl
theorem lostB_l0 : ∀ d k : Nat, k + d = ps.length → Ev (fun n => cottonpadlaw06_ExitsLostB.l0 n ps true qs (comeP st.length ch ps k) ps (ps.length : Int) (k : Int) st ch) true
  | 0, k, h => by
    have hv := checkF_zero hc
    have h1 := lostB_l1 hc hp st.length 0 (by omega)
    have h0 : outI st ch ps 0 = 0 := by
      have h2 : comeAt false st ch ps 0 (-1) = [] := List.eq_nil_iff_forall_not_mem.2 fun t ht => by
        obtain ⟨x, hx, h3, _⟩ := comeO_mem ht
        have := hv.stairOf hx
        omega
      unfold outI
      rw [h2]; rfl
    rw [h0] at h1
    refine Ev.step (fun n => ?_) h1
    rw [cottonpadlaw06_ExitsLostB.l0, if_neg (by omega), show k = ps.length by omega, comeP_all]
    rfl
  | d + 1, k, h => by
    have hv := checkF_zero hc
    have hn := hv.nps
    have hk : k < ps.length := by omega
    have hs := hv.stairOf (List.getElem_mem hk)
    have hl := (livesB_iff.1 (hv.lives _ (List.getElem_mem hk))).1
    refine Ev.step (fun n => ?_) (lostB_l0 d (k + 1) (by omega))
    rw [cottonpadlaw06_ExitsLostB.l0, if_pos (by omega), if_pos (by omega), if_pos (by omega), rdT48_nat hk, if_pos (by omega), if_pos (by omega), if_pos (by omega), if_pos (by rw [comeP_length]; omega), wrap_succ hk (by omega), comeP_step hv hk]
end

theorem rot_perm (ps : List S48) (k : Nat) : ps.Perm (ps.drop k ++ ps.take k) := by
  have h := List.perm_append_comm (l₁ := ps.take k) (l₂ := ps.drop k)
  rwa [List.take_append_drop] at h
theorem u8_lost {z : Int} (h : (Lit.int .u8 z).wf = true) : 0 ≤ z ∧ z < 256 := by
  simp [Lit.wf, IntKind.min, IntKind.max, IntKind.signed, IntKind.bits] at h
  omega
theorem lostA_ev (st : List S62) (ch : List S81) (ps : List S48) (a2 : Int) (hps : ps.length = 0) : Ev (fun k => cottonpadlaw06_ExitsLostA.f k st ch ps a2) true := by
  have h0 : ∀ k, cottonpadlaw06_ExitsLostA.f k st ch ps a2 = (cottonpadlaw06_ready.f k st ch ps).bind fun t810 => (if t810 = true then cottonpadlaw06_ExitsLostA.j0 k ps true false st ch else cottonpadlaw06_ExitsLostA.j0 k ps true true st ch) := fun k => rfl
  have hE : Ev (fun k => cottonpadlaw06_ExitsLostA.j0 k ps true true st ch) true := Ev.step (f := fun _ => some true) (fun k => by rw [cottonpadlaw06_ExitsLostA.j0, if_pos rfl]) (Ev.now _)
  refine Ev.congr h0 (Ev.bind (ready_ev st ch ps) ?_)
  by_cases h : (!greatB st ch ps && checkF st ch ps == 0) = true
  · simp only [h, if_true]
    have hc := ready_out h
    have h3 := check_small3 hc
    have hs := h3.1
    have hl := lostA_l0 hc (List.Perm.refl ps) ps.length 0 (by omega)
    rw [comeP_zero] at hl
    refine Ev.step (fun k => ?_) hl
    rw [cottonpadlaw06_ExitsLostA.j0, if_neg (by simp), if_neg (by omega), if_pos (by omega), Int.toNat_natCast, if_pos (by omega)]
    rfl
  · simp only [h, Bool.false_eq_true, if_false]; exact hE
theorem lostB_ev (st : List S62) (ch : List S81) (ps : List S48) {a2 : Int} (h2 : 0 ≤ a2 ∧ a2 < 256) (hps : ps.length ≠ 0) : Ev (fun k => cottonpadlaw06_ExitsLostB.f k st ch ps a2) true := by
  have h0 : ∀ k, cottonpadlaw06_ExitsLostB.f k st ch ps a2 = (cottonpadlaw06_ready.f k st ch ps).bind fun t810 => (if t810 = true then cottonpadlaw06_ExitsLostB.j0 k ps a2 true false st ch else cottonpadlaw06_ExitsLostB.j0 k ps a2 true true st ch) := fun k => rfl
  have hE : Ev (fun k => cottonpadlaw06_ExitsLostB.j0 k ps a2 true true st ch) true := Ev.step (f := fun _ => some true) (fun k => by rw [cottonpadlaw06_ExitsLostB.j0, if_pos rfl]) (Ev.now _)
  refine Ev.congr h0 (Ev.bind (ready_ev st ch ps) ?_)
  by_cases h : (!greatB st ch ps && checkF st ch ps == 0) = true
  · simp only [h, if_true]
    have hc := ready_out h
    have h3 := check_small3 hc
    have hs := h3.1
    have hp3 := h3.2.2
    have w2 : wrap64 a2 = a2 := wrap_in (by omega)
    obtain ⟨q, hq, hidx⟩ : ∃ q : Nat, q < ps.length ∧ Int.tmod (wrap64 a2) (ps.length : Int) = (q : Int) := by
      refine ⟨a2.toNat % ps.length, Nat.mod_lt _ (by omega), ?_⟩
      rw [w2, Int.tmod_eq_emod_of_nonneg h2.1]
      have : a2 = ((a2.toNat : Nat) : Int) := (Int.toNat_of_nonneg h2.1).symm
      rw [this]; simp
    have hl := lostB_l0 hc (rot_perm ps q) ps.length 0 (by omega)
    rw [comeP_zero] at hl
    refine Ev.step (fun k => ?_) hl
    rw [cottonpadlaw06_ExitsLostB.j0, if_neg (by simp), if_pos (by omega), if_neg (by omega), hidx]
    have d1 : (ps.drop q).length ≤ ps.length := by rw [List.length_drop]; omega
    have d2 : (ps.take q).length ≤ ps.length := by rw [List.length_take]; omega
    simp only [Option.bind_some, List.nil_append, List.length_nil, Nat.zero_add, Int.toNat_natCast]
    rw [if_pos (by omega), if_pos (by omega), if_pos (by omega), if_pos (by omega), if_pos (by omega), if_pos (by omega)]
    rfl
  · simp only [h, Bool.false_eq_true, if_false]; exact hE
theorem exitsLost_calls (A0_0 : Option Addr) (c0_0 : Nat) (st : List S62) (A0_1 : Option Addr) (c0_1 : Nat) (ch : List S81) (A1 : Option Addr) (c1 : Nat) (ps : List S48) {a2 : Int} (h2 : 0 ≤ a2 ∧ a2 < 256) (w : World) (hG : Globs w)
    (hr0 : Kd.C k62 w A0_0 st.length st) (hc0 : st.length ≤ c0_0) (hr1 : Kd.C k81 w A0_1 ch.length ch) (hc1 : ch.length ≤ c0_1) (hr2 : Kd.C k48 w A1 ps.length ps) (hc2 : ps.length ≤ c1) :
    Calls Tryd.prog 11 #[.agg #[.slice A0_0 st.length c0_0, .slice A0_1 ch.length c0_1], .slice A1 ps.length c1, .int .u8 a2] w fun e w' => e = .returned (.bool true) ∧ Below w.heap.size w w' := by
  by_cases hps : ps.length = 0
  · obtain ⟨K, hK⟩ := (lostA_ev st ch ps a2 hps).rounds
    exact cottonpadlaw06_ExitsLostA.calls K A0_0 c0_0 st A0_1 c0_1 ch A1 c1 ps a2 true w hG rfl hr0 hc0 hr1 hc1 hr2 hc2 hK
  · obtain ⟨K, hK⟩ := (lostB_ev st ch ps h2 hps).rounds
    exact cottonpadlaw06_ExitsLostB.calls K A0_0 c0_0 st A0_1 c0_1 ch A1 c1 ps a2 true w hG rfl hr0 hc0 hr1 hc1 hr2 hc2 hK
end Go.Proofs.YtdeaccbolnlgpaaDoor.X
