import Derived.Test.YtdeaccbolnlgpaaDoorXNA
import Derived.Test.YtdeaccbolnlgpaaDoorXND
import Derived.Test.YtdeaccbolnlgpaaDoorXP4
namespace Go.Proofs.YtdeaccbolnlgpaaDoor.X
open Go.RowKit Go.Proofs.YtdeaccbolnlgpaaDoorW.PrintWords Go.Proofs.YtdeaccbolnlgpaaDoorW.PrintLast Go.Proofs.YtdeaccbolnlgpaaDoorW.PrintMore
set_option linter.unusedVariables false
set_option linter.unusedSimpArgs false
set_option linter.unusedSectionVars false

/-! # law06.choose, pick, truth -/
/-- Choices. -/
def ByOk (by_ : List Int) : Prop := ∀ z ∈ by_, 0 ≤ z ∧ z < 4294967296
def chooseI (by_ : List Int) (i : Nat) : Int := if by_.length = 0 then 0 else by_.getD (i % by_.length) 0
theorem chooseI_in {by_ : List Int} (h : ByOk by_) (i : Nat) : 0 ≤ chooseI by_ i ∧ chooseI by_ i < 4294967296 := by
  unfold chooseI
  split
  · omega
  · rename_i h0
    have hi : i % by_.length < by_.length := Nat.mod_lt _ (by omega)
    rw [List.getD_eq_getElem?_getD, List.getElem?_eq_getElem hi]
    exact h _ (List.getElem_mem _)
theorem choose_f {by_ : List Int} (h : ByOk by_) (i : Nat) : cottonpadlaw06_choose.f by_ (i : Int) = some (chooseI by_ i) := by
  unfold cottonpadlaw06_choose.f
  by_cases h0 : by_.length = 0
  · rw [if_pos (by omega), chooseI, if_pos h0]
  · have hm : Int.tmod (i : Int) (by_.length : Int) = ((i % by_.length : Nat) : Int) := by rw [Int.tmod_eq_emod_of_nonneg (by omega)]; simp
    have hlt : i % by_.length < by_.length := Nat.mod_lt _ (by omega)
    have hc := chooseI_in h i
    rw [if_neg (by omega), hm, if_pos (by omega), if_pos (by omega)]
    have e : rd by_ ((i % by_.length : Nat) : Int) = chooseI by_ i := by rw [chooseI, if_neg h0]; unfold rd; rw [Int.toNat_natCast]
    rw [e, wrap_in (by omega)]
def pickI (s : S36) (n : Int) : Int := s.f0 + n % (s.f1 - s.f0 + 1)
theorem pickI_in {s : S36} (h : s.f0 ≤ s.f1) (n : Int) : s.f0 ≤ pickI s n ∧ pickI s n ≤ s.f1 := by
  have h1 := Int.emod_nonneg n (by omega : s.f1 - s.f0 + 1 ≠ 0)
  have h2 := Int.emod_lt_of_pos n (by omega : 0 < s.f1 - s.f0 + 1)
  unfold pickI
  omega
theorem pick_f {s : S36} (h0 : 0 ≤ s.f0) (h : s.f0 ≤ s.f1) (h1 : s.f1 ≤ 1000000) {n : Int} (hn : 0 ≤ n) : cottonpadlaw06_pick.f s.f0 s.f1 n = some (pickI s n) := by
  have hp := pickI_in h n
  unfold cottonpadlaw06_pick.f
  rw [wrap_in (x := s.f1 - s.f0) (by omega), wrap_in (x := s.f1 - s.f0 + 1) (by omega), if_neg (by omega), Int.tmod_eq_emod_of_nonneg hn]
  unfold pickI at hp ⊢
  rw [wrap_in (by omega)]

def paceK (ps : List S48) (by_ : List Int) (i : Nat) : Int := pickI (rd_T48 ps i).f1 (chooseI by_ (2 * i))
def waitK (ps : List S48) (by_ : List Int) (i : Nat) : Int := pickI (rd_T48 ps i).f2 (chooseI by_ (2 * i + 1))
def walkK (st : List S62) (by_ : List Int) (i : Nat) : Int := pickI (rd_T62 st i).f2 (chooseI by_ (50 + i))
def listK (f : Nat → Int) (n : Nat) : List Int := (List.range n).map f
theorem listK_succ (f : Nat → Int) (n : Nat) : listK f n ++ [f n] = listK f (n + 1) := by simp [listK, List.range_succ]
theorem listK_length (f : Nat → Int) (n : Nat) : (listK f n).length = n := by simp [listK]
def truthG (st : List S62) (ch : List S81) (ps : List S48) (by_ : List Int) : List Int × List (List Int) :=
  goF st ch ps (listK (paceK ps by_) ps.length) (listK (waitK ps by_) ps.length) (listK (walkK st by_) st.length)
def rightP (ch : List S81) (ps : List S48) (by_ rooms : List Int) (n : Nat) : Bool :=
  (List.range n).all fun i => decide (rd rooms i ≤ pickI (rd_T81 ch (rd_T48 ps i).f0).f2 (chooseI by_ (60 + (rd_T48 ps i).f0.toNat)))
def rightT (st : List S62) (by_ : List Int) (leave : List (List Int)) (s : Nat) (n : Nat) : Bool :=
  ((rd_L11 leave s).take n).all fun t => decide (t ≤ pickI (rd_T62 st s).f3 (chooseI by_ (70 + s)))
def rightS (st : List S62) (by_ : List Int) (leave : List (List Int)) (n : Nat) : Bool :=
  (List.range n).all fun s => rightT st by_ leave s (rd_L11 leave s).length
def truthF (st : List S62) (ch : List S81) (ps : List S48) (by_ : List Int) : List Int × List (List Int) × Bool :=
  ((truthG st ch ps by_).1, (truthG st ch ps by_).2, rightP ch ps by_ (truthG st ch ps by_).1 ps.length && rightS st by_ (truthG st ch ps by_).2 st.length)

theorem truth_goOk {st : List S62} {ch : List S81} {ps : List S48} (by_ : List Int) (h : checkF st ch ps = 0) : GoOk st ch ps (listK (paceK ps by_) ps.length) (listK (waitK ps by_) ps.length) (listK (walkK st by_) st.length) := by
  have hv := checkF_zero h
  refine ⟨h, listK_length _ _, listK_length _ _, listK_length _ _, ?_, ?_, ?_⟩
  · refine List.all_eq_true.2 fun z hz => ?_
    obtain ⟨i, hi, rfl⟩ := List.mem_map.1 hz
    rw [List.mem_range] at hi
    have h1 := livesB_iff.1 (hv.lives _ (List.getElem_mem hi))
    have h2 := pickI_in h1.2.1.2.1 (chooseI by_ (2 * i))
    unfold paceK
    rw [rdT48_nat hi]
    simp
    omega
  · refine List.all_eq_true.2 fun z hz => ?_
    obtain ⟨i, hi, rfl⟩ := List.mem_map.1 hz
    rw [List.mem_range] at hi
    have h1 := livesB_iff.1 (hv.lives _ (List.getElem_mem hi))
    have h2 := pickI_in h1.2.2.2.1 (chooseI by_ (2 * i + 1))
    unfold waitK
    rw [rdT48_nat hi]
    simp
    omega
  · refine List.all_eq_true.2 fun z hz => ?_
    obtain ⟨i, hi, rfl⟩ := List.mem_map.1 hz
    rw [List.mem_range] at hi
    have h1 := stairB_iff.1 (hv.built.stair i hi)
    have h2 := pickI_in h1.2.2.1.2.1 (chooseI by_ (50 + i))
    unfold walkK
    rw [rdT62_get hi]
    simp
    omega

section
variable {st : List S62} {ch : List S81} {ps : List S48} {by_ : List Int} (hc : checkF st ch ps = 0) (hb : ByOk by_)
include hc hb

theorem truth_l4 (rooms : List Int) (leave : List (List Int)) (R : List Int × List (List Int) × Bool) {s : Nat} (hs : s < st.length) (hl : (rd_L11 leave s).length ≤ 1000) (r0 : Bool)
    (hK : Ev (fun k => cottonpadlaw06_truth.l3 k by_ rooms leave (r0 && rightT st by_ leave s (rd_L11 leave s).length) st (st.length : Int) ((s + 1 : Nat) : Int)) R) : ∀ d j : Nat, j + d = (rd_L11 leave s).length →
    Ev (fun k => cottonpadlaw06_truth.l4 k by_ rooms leave (r0 && rightT st by_ leave s j) (s : Int) st (st.length : Int) (s : Int) (rd_L11 leave s) ((rd_L11 leave s).length : Int) (j : Int) st[s].f0 st[s].f1 st[s].f2.f0 st[s].f2.f1 st[s].f3.f0 st[s].f3.f1) R
  | 0, j, hd => by
    have hst := (checkF_zero hc).built.nst
    refine Ev.step (fun k => ?_) hK
    rw [cottonpadlaw06_truth.l4, if_neg (by omega), show j = (rd_L11 leave s).length by omega, wrap_succ hs (by omega)]
  | d + 1, j, hd => by
    have hv := checkF_zero hc
    have hst := hv.built.nst
    have hj : j < (rd_L11 leave s).length := by omega
    have h1 := stairB_iff.1 (hv.built.stair s hs)
    have hch := chooseI_in hb (70 + s)
    have hT : rightT st by_ leave s (j + 1) = (rightT st by_ leave s j && decide ((rd_L11 leave s)[j] ≤ pickI st[s].f3 (chooseI by_ (70 + s)))) := by
      unfold rightT
      rw [List.take_succ_eq_append_getElem hj, List.all_append, rdT62_get hs]
      simp
    refine Ev.step (fun k => ?_) (truth_l4 rooms leave R hs hl r0 hK d (j + 1) (by omega))
    rw [cottonpadlaw06_truth.l4, if_pos (by omega), if_pos (by omega), if_pos (by omega), wrap_succ hj (by omega), hT]
    cases hr : (r0 && rightT st by_ leave s j)
    · rw [if_neg (by simp), ← Bool.and_assoc, hr, Bool.false_and]
    · have e70 : wrap64 (70 + (s : Int)) = ((70 + s : Nat) : Int) := by rw [wrap_in (by omega)]; omega
      rw [if_pos rfl, e70, choose_f hb, ← Bool.and_assoc, hr, Bool.true_and]
      simp only [Option.bind_some]
      rw [pick_f (s := st[s].f3) h1.2.2.2.1 h1.2.2.2.2.1 (by omega) hch.1]
      simp only [Option.bind_some]
      rw [rd_get hj]

theorem truth_l3 (rooms : List Int) (leave : List (List Int)) (hlen : leave.length = st.length) (hl : ∀ s, (rd_L11 leave s).length ≤ 1000) (r0 : Bool) : ∀ d s : Nat, s + d = st.length →
    Ev (fun k => cottonpadlaw06_truth.l3 k by_ rooms leave (r0 && rightS st by_ leave s) st (st.length : Int) (s : Int)) (rooms, leave, r0 && rightS st by_ leave st.length)
  | 0, s, hd => by
    refine Ev.step (f := fun _ => some (rooms, leave, r0 && rightS st by_ leave st.length)) (fun k => ?_) (Ev.now _)
    rw [cottonpadlaw06_truth.l3, if_neg (by omega), show s = st.length by omega]
  | d + 1, s, hd => by
    have hs : s < st.length := by omega
    have hS : rightS st by_ leave (s + 1) = (rightS st by_ leave s && rightT st by_ leave s (rd_L11 leave s).length) := by
      unfold rightS; rw [List.range_succ, List.all_append]; simp
    have ih := truth_l3 rooms leave hlen hl r0 d (s + 1) (by omega)
    rw [hS, ← Bool.and_assoc] at ih
    have h4 := truth_l4 hc hb rooms leave _ hs (hl s) (r0 && rightS st by_ leave s) ih (rd_L11 leave s).length 0 (by omega)
    refine Ev.step (fun k => ?_) h4
    rw [cottonpadlaw06_truth.l3, if_pos (by omega), if_pos (by omega), if_pos (by omega), if_pos (by omega), rdT62_get hs]
    simp [rightT]

theorem truth_l2 (rooms : List Int) (leave : List (List Int)) (hrl : rooms.length = ps.length) (hlen : leave.length = st.length) (hl : ∀ s, (rd_L11 leave s).length ≤ 1000) : ∀ d i : Nat, i + d = ps.length →
    Ev (fun k => cottonpadlaw06_truth.l2 k by_ rooms leave (rightP ch ps by_ rooms i) ps (ps.length : Int) (i : Int) st ch) (rooms, leave, rightP ch ps by_ rooms ps.length && rightS st by_ leave st.length)
  | 0, i, hd => by
    have h3 := truth_l3 hc hb rooms leave hlen hl (rightP ch ps by_ rooms ps.length) st.length 0 (by omega)
    refine Ev.step (fun k => ?_) h3
    rw [cottonpadlaw06_truth.l2, if_neg (by omega), show i = ps.length by omega]
    simp [rightS]
  | d + 1, i, hd => by
    have hv := checkF_zero hc
    have hi : i < ps.length := by omega
    have hn := hv.nps
    have h1 := livesB_iff.1 (hv.lives _ (List.getElem_mem hi))
    have h8 := hv.built.nch
    have h2 := chamberB_iff.1 (hv.built.chamber _ (rdT81_get h1.1.1 h1.1.2))
    have hch := chooseI_in hb (60 + ps[i].f0.toNat)
    have hP : rightP ch ps by_ rooms (i + 1) = (rightP ch ps by_ rooms i && decide (rd rooms i ≤ pickI (rd_T81 ch ps[i].f0).f2 (chooseI by_ (60 + ps[i].f0.toNat)))) := by
      unfold rightP; rw [List.range_succ, List.all_append]; simp [rdT48_nat hi]
    refine Ev.step (fun k => ?_) (truth_l2 rooms leave hrl hlen hl d (i + 1) (by omega))
    rw [cottonpadlaw06_truth.l2, if_pos (by omega), if_pos (by omega), if_pos (by omega), rdT48_nat hi, wrap_succ hi (by omega), hP]
    cases hr : rightP ch ps by_ rooms i
    · rw [if_neg (by simp), Bool.false_and]
    · have e60 : wrap64 (60 + ps[i].f0) = ((60 + ps[i].f0.toNat : Nat) : Int) := by rw [wrap_in (by omega)]; omega
      rw [if_pos rfl, if_pos (by omega), if_pos (by omega), if_pos (by omega), e60, choose_f hb, Bool.true_and]
      simp only [Option.bind_some]
      rw [pick_f h2.2.2.1 h2.2.2.2.1 (by omega) hch.1]
      simp only [Option.bind_some]

theorem truthG_len (h : checkF st ch ps = 0) : (truthG st ch ps by_).1.length = ps.length ∧ (truthG st ch ps by_).2.length = st.length ∧ ∀ s, (rd_L11 (truthG st ch ps by_).2 s).length ≤ 1000 := by
  have hg := (truth_goOk by_ h).go
  refine ⟨by simp [truthG, goF, tsG_length], by simp [truthG, goF], fun s => ?_⟩
  unfold truthG goF rd_L11
  simp only
  rw [List.getD_eq_getElem?_getD]
  by_cases hs : s.toNat < st.length
  · rw [List.getElem?_eq_getElem (by simpa using hs)]
    simp only [List.getElem_map, List.getElem_range, Option.getD_some]
    rw [leftG, leftOfG_length]
    have := hg.len (k := s.toNat) (by omega) (i := (s.toNat : Int)) (mem_keysN.2 (by omega))
    have := hg.valid.nps
    omega
  · rw [List.getElem?_eq_none (by simpa using hs)]
    simp

theorem truth_l1 : ∀ d i : Nat, i + d = st.length →
    Ev (fun k => cottonpadlaw06_truth.l1 k ps by_ (listK (paceK ps by_) ps.length) (listK (waitK ps by_) ps.length) (listK (walkK st by_) i) st (st.length : Int) (i : Int) st ch) (truthF st ch ps by_)
  | 0, i, hd => by
    obtain ⟨h1, h2, h3⟩ := truthG_len hc hb hc
    have hl2 := truth_l2 hc hb _ _ h1 h2 h3 ps.length 0 (by omega)
    refine Ev.step (fun k => ?_) hl2
    rw [cottonpadlaw06_truth.l1, if_neg (by omega), show i = st.length by omega, cottonpadref06_Go.f, if_pos (truth_goOk by_ hc)]
    simp only [Option.bind_some]
    simp [rightP, truthG]
  | d + 1, i, hd => by
    have hv := checkF_zero hc
    have hi : i < st.length := by omega
    have hst := hv.built.nst
    have h1 := stairB_iff.1 (hv.built.stair i hi)
    have hch := chooseI_in hb (50 + i)
    refine Ev.step (fun k => ?_) (truth_l1 d (i + 1) (by omega))
    rw [cottonpadlaw06_truth.l1, if_pos (by omega), if_pos (by omega), if_pos (by omega)]
    have e50 : wrap64 (50 + (i : Int)) = ((50 + i : Nat) : Int) := by rw [wrap_in (by omega)]; omega
    rw [rdT62_get hi, e50, choose_f hb]
    clear e50
    rw [wrap_succ hi (by omega), ← listK_succ (walkK st by_) i]
    simp only [Option.bind_some]
    rw [pick_f (s := st[i].f2) h1.2.2.1.1 h1.2.2.1.2.1 (by omega) hch.1]
    simp only [Option.bind_some]
    rw [if_pos (by rw [listK_length]; omega)]
    simp only [walkK, rdT62_get hi]

theorem truth_l0 : ∀ d i : Nat, i + d = ps.length →
    Ev (fun k => cottonpadlaw06_truth.l0 k ps by_ (listK (paceK ps by_) i) (listK (waitK ps by_) i) ps (ps.length : Int) (i : Int) st ch) (truthF st ch ps by_)
  | 0, i, hd => by
    refine Ev.step (fun k => ?_) (truth_l1 hc hb st.length 0 (by omega))
    rw [cottonpadlaw06_truth.l0, if_neg (by omega), show i = ps.length by omega]
    rfl
  | d + 1, i, hd => by
    have hv := checkF_zero hc
    have hi : i < ps.length := by omega
    have hn := hv.nps
    have h1 := livesB_iff.1 (hv.lives _ (List.getElem_mem hi))
    have hc1 := chooseI_in hb (2 * i)
    have hc2 := chooseI_in hb (2 * i + 1)
    refine Ev.step (fun k => ?_) (truth_l0 d (i + 1) (by omega))
    rw [cottonpadlaw06_truth.l0, if_pos (by omega), if_pos (by omega), if_pos (by omega)]
    have e1 : wrap64 (2 * (i : Int)) = ((2 * i : Nat) : Int) := by rw [wrap_in (by omega)]; omega
    have e2 : wrap64 (((2 * i : Nat) : Int) + 1) = ((2 * i + 1 : Nat) : Int) := by rw [wrap_in (by clear e1; omega)]; clear e1; omega
    rw [rdT48_nat hi, e1, e2, choose_f hb, choose_f hb]
    clear e1 e2
    rw [wrap_succ hi (by omega), ← listK_succ (paceK ps by_) i, ← listK_succ (waitK ps by_) i]
    simp only [Option.bind_some]
    rw [pick_f (s := ps[i].f1) (by omega) h1.2.1.2.1 (by omega) hc1.1, pick_f (s := ps[i].f2) (by omega) h1.2.2.2.1 (by omega) hc2.1]
    simp only [Option.bind_some]
    rw [if_pos (by rw [listK_length]; omega), if_pos (by rw [listK_length]; omega)]
    simp only [paceK, waitK, rdT48_nat hi]

theorem truth_ev : Ev (fun k => cottonpadlaw06_truth.f k st ch ps by_) (truthF st ch ps by_) := truth_l0 hc hb ps.length 0 (by omega)
end
end Go.Proofs.YtdeaccbolnlgpaaDoor.X
