import Derived.Test.YtdeaccbolnlgpaaDoorXNA
import Derived.Test.YtdeaccbolnlgpaaDoorXP3
namespace Go.Proofs.YtdeaccbolnlgpaaDoor.X
open Go.RowKit Go.Proofs.YtdeaccbolnlgpaaDoorW.PrintWords Go.Proofs.YtdeaccbolnlgpaaDoorW.PrintLast Go.Proofs.YtdeaccbolnlgpaaDoorW.PrintMore
set_option linter.unusedVariables false
set_option linter.unusedSimpArgs false

/-! # The reference's functions and the model: whether a building and people are valid -/

theorem within_f (n lo hi : Int) : cottonpadref06_within.f n lo hi = some (inB lo hi [n]) := by
  unfold cottonpadref06_within.f
  by_cases h1 : n ≥ lo
  · rw [if_pos h1]; congr 1; rw [Bool.eq_iff_iff, inB_one]; simp; omega
  · rw [if_neg h1]; congr 1; rw [Bool.eq_iff_iff, inB_one]; simp; omega
theorem spanned_f (s : S36) (lo hi : Int) : cottonpadref06_spanned.f s.f0 s.f1 lo hi = some (ordB lo hi s) := by
  unfold cottonpadref06_spanned.f
  by_cases h1 : s.f0 ≥ lo
  · rw [if_pos h1]
    by_cases h2 : s.f0 ≤ s.f1
    · rw [if_pos h2]; congr 1; rw [Bool.eq_iff_iff, ordB_iff]; simp; omega
    · rw [if_neg h2]; congr 1; rw [Bool.eq_iff_iff, ordB_iff]; simp; omega
  · rw [if_neg h1]; congr 1; rw [Bool.eq_iff_iff, ordB_iff]; simp; omega

theorem rdT81_nat {ch : List S81} {k : Nat} (h : k < ch.length) : rd_T81 ch (k : Int) = ch[k] := by simp [rd_T81, List.getD_eq_getElem?_getD, h]
theorem rdT48_nat {ps : List S48} {k : Nat} (h : k < ps.length) : rd_T48 ps (k : Int) = ps[k] := by simp [rd_T48, List.getD_eq_getElem?_getD, h]
theorem rdT36_nat {ps : List S36} {k : Nat} (h : k < ps.length) : rd_T36 ps (k : Int) = ps[k] := by simp [rd_T36, List.getD_eq_getElem?_getD, h]
theorem wrap_succ {i n : Nat} (h : i < n) (hn : n ≤ 100000) : wrap64 ((i : Int) + 1) = ((i + 1 : Nat) : Int) := by rw [wrap_in (by omega)]; omega
theorem wrap_pred {n : Nat} (hn : n ≤ 100000) : wrap64 ((n : Int) - 1) = (n : Int) - 1 := by rw [wrap_in (by omega)]

theorem Building_l1 {st : List S62} {ch : List S81} (h1 : st.length ≤ 100000) (h2 : ch.length ≤ 100000) : ∀ d i : Nat, i + d = ch.length → Ev (fun k => cottonpadref06_Building.l1 k (i : Int) st ch) ((ch.drop i).all (chamberB st.length))
  | 0, i, hd => by
    refine Ev.step (f := fun _ => some true) (fun k => by rw [cottonpadref06_Building.l1, if_neg (by omega)]) ?_
    rw [List.drop_eq_nil_of_le (by omega)]
    exact Ev.now _
  | d + 1, i, hd => by
    have hi : i < ch.length := by omega
    refine Ev.step (f := fun k => if chamberB st.length ch[i] = true then cottonpadref06_Building.l1 k ((i + 1 : Nat) : Int) st ch else some false) (fun k => ?_) ?_
    · rw [cottonpadref06_Building.l1, if_pos (by omega), if_pos (by omega), rdT81_nat hi, within_f, within_f, spanned_f, wrap_succ hi h2, wrap_pred h1]
      unfold chamberB
      cases inB 0 ((st.length : Int) - 1) [ch[i].f0] <;> cases inB 0 100000 [ch[i].f1] <;> cases ordB 0 36000 ch[i].f2 <;> rfl
    · rw [List.drop_eq_getElem_cons hi, List.all_cons]
      cases hb : chamberB st.length ch[i]
      · simp only [Bool.false_and]; exact Ev.now _
      · simp only [Bool.true_and, if_true]; exact Building_l1 h1 h2 d (i + 1) (by omega)

theorem Building_l0 {st : List S62} {ch : List S81} (h1 : st.length ≤ 100000) (h2 : ch.length ≤ 100000) : ∀ d i : Nat, i + d = st.length → Ev (fun k => cottonpadref06_Building.l0 k (i : Int) st ch) (stairsB st.length i (st.drop i) && ch.all (chamberB st.length))
  | 0, i, hd => by
    refine Ev.step (f := fun k => cottonpadref06_Building.l1 k ((0 : Nat) : Int) st ch) (fun k => by rw [cottonpadref06_Building.l0, if_neg (by omega)]; rfl) ?_
    rw [List.drop_eq_nil_of_le (by omega)]
    exact Building_l1 h1 h2 ch.length 0 (by omega)
  | d + 1, i, hd => by
    have hi : i < st.length := by omega
    refine Ev.step (f := fun k => if stairB st.length i st[i] = true then cottonpadref06_Building.l0 k ((i + 1 : Nat) : Int) st ch else some false) (fun k => ?_) ?_
    · rw [cottonpadref06_Building.l0, if_pos (by omega), if_pos (by omega), rdT62_get hi, within_f, within_f, spanned_f, spanned_f, wrap_succ hi h1, wrap_pred h1]
      unfold stairB
      rw [show ((i : Int) + 1) = ((i + 1 : Nat) : Int) by omega]
      by_cases hn : st[i].f0 = -1
      · rw [if_pos hn, show (st[i].f0 == -1) = true by simp [hn]]
        cases inB 0 60 [st[i].f1] <;> cases ordB 0 600 st[i].f2 <;> cases ordB 0 36000 st[i].f3 <;> rfl
      · rw [if_neg hn, show (st[i].f0 == -1) = false by simp [hn]]
        cases inB ((i + 1 : Nat) : Int) ((st.length : Int) - 1) [st[i].f0] <;> cases inB 0 60 [st[i].f1] <;> cases ordB 0 600 st[i].f2 <;> cases ordB 0 36000 st[i].f3 <;> rfl
    · rw [List.drop_eq_getElem_cons hi, stairsB]
      cases hb : stairB st.length i st[i]
      · simp only [Bool.false_and]; exact Ev.now _
      · simp only [Bool.true_and, if_true]; exact Building_l0 h1 h2 d (i + 1) (by omega)

theorem Building_ev (st : List S62) (ch : List S81) : Ev (fun k => cottonpadref06_Building.f k st ch) (builtB st ch) := by
  unfold builtB
  have hf : ∀ k, cottonpadref06_Building.f k st ch = cottonpadref06_Building.j0 k (!(inB 1 6 [(st.length : Int)] && inB 1 8 [(ch.length : Int)])) st ch := fun k => by
    unfold cottonpadref06_Building.f
    rw [within_f, within_f]
    cases inB 1 6 [(st.length : Int)] <;> cases inB 1 8 [(ch.length : Int)] <;> rfl
  refine Ev.congr hf ?_
  cases h6 : inB 1 6 [(st.length : Int)]
  · simp only [Bool.false_and, Bool.and_false, Bool.not_false]
    exact Ev.step (f := fun _ => some false) (fun k => by rw [cottonpadref06_Building.j0, if_pos rfl]) (Ev.now _)
  · cases h8 : inB 1 8 [(ch.length : Int)]
    · simp only [Bool.false_and, Bool.and_false, Bool.not_false]
      exact Ev.step (f := fun _ => some false) (fun k => by rw [cottonpadref06_Building.j0, if_pos rfl]) (Ev.now _)
    · rw [inB_one] at h6 h8
      simp only [Bool.true_and, Bool.and_true, Bool.not_true]
      refine Ev.step (f := fun k => cottonpadref06_Building.l0 k ((0 : Nat) : Int) st ch) (fun k => by rw [cottonpadref06_Building.j0, if_neg (by simp)]; rfl) ?_
      exact Building_l0 (by omega) (by omega) st.length 0 (by omega)

theorem People_l0 {st : List S62} {ch : List S81} {ps : List S48} (h1 : ps.length ≤ 100000) (h2 : ch.length ≤ 100000) : ∀ d i : Nat, i + d = ps.length → Ev (fun k => cottonpadref06_People.l0 k ps (i : Int) st ch) ((ps.drop i).all (livesB ch.length))
  | 0, i, hd => by
    refine Ev.step (f := fun _ => some true) (fun k => by rw [cottonpadref06_People.l0, if_neg (by omega)]) ?_
    rw [List.drop_eq_nil_of_le (by omega)]
    exact Ev.now _
  | d + 1, i, hd => by
    have hi : i < ps.length := by omega
    refine Ev.step (f := fun k => if livesB ch.length ps[i] = true then cottonpadref06_People.l0 k ps ((i + 1 : Nat) : Int) st ch else some false) (fun k => ?_) ?_
    · rw [cottonpadref06_People.l0, if_pos (by omega), if_pos (by omega), rdT48_nat hi, within_f, spanned_f, spanned_f, wrap_succ hi h1, wrap_pred h2]
      unfold livesB
      cases inB 0 ((ch.length : Int) - 1) [ps[i].f0] <;> cases ordB 100 3000 ps[i].f1 <;> cases ordB 0 3600 ps[i].f2 <;> rfl
    · rw [List.drop_eq_getElem_cons hi, List.all_cons]
      cases hb : livesB ch.length ps[i]
      · simp only [Bool.false_and]; exact Ev.now _
      · simp only [Bool.true_and, if_true]; exact People_l0 h1 h2 d (i + 1) (by omega)

theorem People_ev (st : List S62) (ch : List S81) (ps : List S48) (h : ch.length ≤ 100000) : Ev (fun k => cottonpadref06_People.f k st ch ps) (decide ((ps.length : Int) ≤ 24) && ps.all (livesB ch.length)) := by
  by_cases h1 : (ps.length : Int) > 24
  · rw [show decide ((ps.length : Int) ≤ 24) = false by simp; omega, Bool.false_and]
    exact Ev.congr (f := fun _ => some false) (fun k => by rw [cottonpadref06_People.f, if_pos h1]) (Ev.now _)
  · rw [show decide ((ps.length : Int) ≤ 24) = true by simp; omega, Bool.true_and]
    exact Ev.congr (f := fun k => cottonpadref06_People.l0 k ps ((0 : Nat) : Int) st ch) (fun k => by rw [cottonpadref06_People.f, if_neg h1]; rfl) (People_l0 (by omega) h ps.length 0 (by omega))

theorem Check_ev (st : List S62) (ch : List S81) (ps : List S48) : Ev (fun k => cottonpadref06_Check.f k st ch ps) (checkF st ch ps) := by
  unfold cottonpadref06_Check.f checkF
  refine Ev.bind (Building_ev st ch) ?_
  cases hb : builtB st ch
  · exact Ev.now _
  · have h8 : ch.length ≤ 100000 := by have := (builtB_iff hb).nch; omega
    simp only [if_true]
    refine Ev.bind (People_ev st ch ps h8) ?_
    by_cases h1 : (ps.length : Int) > 24
    · rw [show decide ((ps.length : Int) ≤ 24) = false by simp; omega, if_pos h1]
      exact Ev.now _
    · rw [show decide ((ps.length : Int) ≤ 24) = true by simp; omega, if_neg h1, Bool.true_and]
      cases ps.all (livesB ch.length) <;> exact Ev.now _

def greatB (st : List S62) (ch : List S81) (ps : List S48) : Bool := decide (10 < st.length) || decide (12 < ch.length) || decide (30 < ps.length)
theorem Great_f (st : List S62) (ch : List S81) (ps : List S48) : cottonpadref06_Great.f st ch ps = some (greatB st ch ps) := by
  unfold cottonpadref06_Great.f greatB
  by_cases h1 : 10 < st.length
  · rw [if_pos (by omega)]; simp [h1]
  · rw [if_neg (by omega)]
    by_cases h2 : 12 < ch.length
    · rw [if_pos (by omega)]; simp [h2]
    · rw [if_neg (by omega)]; simp [h1, h2] <;> omega
theorem greatB_false {st : List S62} {ch : List S81} {ps : List S48} (h : greatB st ch ps = false) : st.length ≤ 10 ∧ ch.length ≤ 12 ∧ ps.length ≤ 30 := by
  simp [greatB] at h; omega
theorem ready_ev (st : List S62) (ch : List S81) (ps : List S48) : Ev (fun k => cottonpadlaw06_ready.f k st ch ps) (!greatB st ch ps && checkF st ch ps == 0) := by
  unfold cottonpadlaw06_ready.f
  rw [Great_f]
  simp only [Option.bind_some]
  cases greatB st ch ps
  · simp only [Bool.false_eq_true, if_false, Bool.not_false, Bool.true_and]
    exact Ev.bind (Check_ev st ch ps) (Ev.now _)
  · exact Ev.now _
theorem ready_out {st : List S62} {ch : List S81} {ps : List S48} (h : (!greatB st ch ps && checkF st ch ps == 0) = true) : checkF st ch ps = 0 := by
  simp only [Bool.and_eq_true, beq_iff_eq] at h
  exact h.2

end Go.Proofs.YtdeaccbolnlgpaaDoor.X
