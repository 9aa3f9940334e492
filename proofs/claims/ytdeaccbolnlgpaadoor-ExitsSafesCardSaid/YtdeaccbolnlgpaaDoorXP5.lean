import Derived.Test.YtdeaccbolnlgpaaDoorXP4
import Derived.Test.YtdeaccbolnlgpaaDoorXC13
import Derived.Test.YtdeaccbolnlgpaaDoorXN56
namespace Go.Proofs.YtdeaccbolnlgpaaDoor.X
open Go.RowKit Go.Proofs.YtdeaccbolnlgpaaDoorW.PrintWords Go.Proofs.YtdeaccbolnlgpaaDoorW.PrintLast Go.Proofs.YtdeaccbolnlgpaaDoorW.PrintMore
set_option linter.unusedVariables false
set_option linter.unusedSimpArgs false

/-! # The reference's functions and the model: Ends, Leaves, Out -/

/-- What Go tells at an end. -/
def endsF (b : Bool) (st : List S62) (ch : List S81) (ps : List S48) : List Int × List (List Int) := (ps.map (leaveT b ch), (List.range st.length).map (leftAt b st ch ps))

theorem tsG_ends (b : Bool) (ch : List S81) (ps : List S48) : tsG ch ps (ps.map fun x => paceS b x.f1) (ps.map fun x => timeS b x.f2) = ps.map (leaveT b ch) := by
  apply List.ext_getElem
  · simp [tsG]
  · intro i h1 h2
    have hi : i < ps.length := by simpa using h2
    rw [tsG_get hi, rdT48_nat hi, rd_get (by simpa using hi), rd_get (by simpa using hi)]
    simp [leaveT, ceilI]
theorem goOk_ends (b : Bool) {st : List S62} {ch : List S81} {ps : List S48} (h : checkF st ch ps = 0) : GoOk st ch ps (ps.map fun x => paceS b x.f1) (ps.map fun x => timeS b x.f2) (st.map fun s => timeS b s.f2) := by
  have hv := checkF_zero h
  refine ⟨h, by simp, by simp, by simp, ?_, ?_, ?_⟩
  · refine List.all_eq_true.2 fun z hz => ?_
    obtain ⟨x, hx, rfl⟩ := List.mem_map.1 hz
    have := livesB_iff.1 (hv.lives x hx)
    have : 1 ≤ paceS b x.f1 ∧ paceS b x.f1 ≤ 3000 := by unfold paceS; split <;> omega
    simp [this]
  · refine List.all_eq_true.2 fun z hz => ?_
    obtain ⟨x, hx, rfl⟩ := List.mem_map.1 hz
    have := livesB_iff.1 (hv.lives x hx)
    have : 0 ≤ timeS b x.f2 ∧ timeS b x.f2 ≤ 3600 := by unfold timeS; split <;> omega
    simp [this]
  · refine List.all_eq_true.2 fun z hz => ?_
    obtain ⟨s, hs, rfl⟩ := List.mem_map.1 hz
    have h1 := hv.stairOk hs
    unfold StairOk at h1
    have : 0 ≤ timeS b s.f2 ∧ timeS b s.f2 ≤ 600 := by unfold timeS; split <;> omega
    simp [this]
theorem goF_ends (b : Bool) {st : List S62} {ch : List S81} {ps : List S48} (h : checkF st ch ps = 0) : cottonpadref06_Go.f st ch ps (ps.map fun x => paceS b x.f1) (ps.map fun x => timeS b x.f2) (st.map fun s => timeS b s.f2) = some (endsF b st ch ps) := by
  rw [cottonpadref06_Go.f, if_pos (goOk_ends b h), goF, tsG_ends, endsF]
  congr 2
  refine List.map_congr_left fun k hk => ?_
  exact leftG_eq b st ch ps (List.mem_range.1 hk)

theorem take_snoc_map {α β : Type} (f : α → β) (l : List α) {i : Nat} (h : i < l.length) : (l.take i).map f ++ [f l[i]] = (l.take (i + 1)).map f := by
  rw [List.take_succ_eq_append_getElem h, List.map_append]; rfl

theorem Ends_l1 (b : Bool) {st : List S62} {ch : List S81} {ps : List S48} (h : checkF st ch ps = 0) : ∀ d i : Nat, i + d = st.length →
    Ev (fun k => cottonpadref06_Ends.l1 k ps b (ps.map fun x => paceS b x.f1) (ps.map fun x => timeS b x.f2) ((st.take i).map fun s => timeS b s.f2) (i : Int) st ch) (endsF b st ch ps)
  | 0, i, hd => by
    refine Ev.step (f := fun _ => some (endsF b st ch ps)) (fun k => ?_) (Ev.now _)
    rw [cottonpadref06_Ends.l1, if_neg (by omega), List.take_of_length_le (by omega), goF_ends b h]
    rfl
  | d + 1, i, hd => by
    have hi : i < st.length := by omega
    have hst := (checkF_zero h).built.nst
    refine Ev.step (fun k => ?_) (Ends_l1 b h d (i + 1) (by omega))
    have hl : ((st.take i).map fun s => timeS b s.f2).length + ([timeS b st[i].f2] : List Int).length < 17592186044416 := by simp; omega
    rw [cottonpadref06_Ends.l1, if_pos (by omega), rdT62_get hi, wrap_succ hi (by omega), ← take_snoc_map (fun s : S62 => timeS b s.f2) st hi]
    cases b
    · rw [if_neg (by simp), if_pos (by omega)]
      simp only [Option.bind_some]
      rw [if_pos (by simp; omega)]; rfl
    · rw [if_pos rfl, if_pos (by omega)]
      simp only [Option.bind_some]
      rw [if_pos (by simp; omega)]; rfl

theorem Ends_l0 (b : Bool) {st : List S62} {ch : List S81} {ps : List S48} (h : checkF st ch ps = 0) : ∀ d i : Nat, i + d = ps.length →
    Ev (fun k => cottonpadref06_Ends.l0 k ps b ((ps.take i).map fun x => paceS b x.f1) ((ps.take i).map fun x => timeS b x.f2) (i : Int) st ch) (endsF b st ch ps)
  | 0, i, hd => by
    refine Ev.step (fun k => ?_) (Ends_l1 b h st.length 0 (by omega))
    rw [cottonpadref06_Ends.l0, if_neg (by omega), List.take_of_length_le (by omega)]
    rfl
  | d + 1, i, hd => by
    have hi : i < ps.length := by omega
    have hnp := (checkF_zero h).nps
    refine Ev.step (fun k => ?_) (Ends_l0 b h d (i + 1) (by omega))
    have hl1 : ((ps.take i).map fun x => paceS b x.f1).length + ([paceS b ps[i].f1] : List Int).length < 17592186044416 := by simp; omega
    have hl2 : ((ps.take i).map fun x => timeS b x.f2).length + ([timeS b ps[i].f2] : List Int).length < 17592186044416 := by simp; omega
    rw [cottonpadref06_Ends.l0, if_pos (by omega), rdT48_nat hi, wrap_succ hi (by omega), ← take_snoc_map (fun x : S48 => paceS b x.f1) ps hi, ← take_snoc_map (fun x : S48 => timeS b x.f2) ps hi]
    cases b
    · rw [if_neg (by simp), if_pos (by omega)]
      simp only [Option.bind_some]
      rw [if_pos (by simp; omega)]
      rw [if_pos (by simp; omega)]; rfl
    · rw [if_pos rfl, if_pos (by omega)]
      simp only [Option.bind_some]
      rw [if_pos (by simp; omega)]
      rw [if_pos (by simp; omega)]; rfl
theorem Ends_ev (b : Bool) {st : List S62} {ch : List S81} {ps : List S48} (h : checkF st ch ps = 0) : Ev (fun k => cottonpadref06_Ends.f k st ch ps b) (endsF b st ch ps) :=
  Ends_l0 b h ps.length 0 (by omega)

theorem rdL_nat {ls : List (List Int)} {k : Nat} (h : k < ls.length) : rd_L11 ls (k : Int) = ls[k] := by simp [rd_L11, List.getD_eq_getElem?_getD, h]
theorem endsF_len (b : Bool) (st : List S62) (ch : List S81) (ps : List S48) : (endsF b st ch ps).2.length = st.length := by simp [endsF]
theorem endsF_rd (b : Bool) {st : List S62} {ch : List S81} {ps : List S48} {k : Nat} (h : k < st.length) : rd_L11 (endsF b st ch ps).2 (k : Int) = leftAt b st ch ps k := by
  rw [rdL_nat (by rw [endsF_len]; exact h)]; simp [endsF]
theorem leftAt_le (b : Bool) {st : List S62} {ch : List S81} {ps : List S48} (h : Valid st ch ps) (k : Nat) : (leftAt b st ch ps k).length ≤ 24 := by
  have h1 := h.len (b := b) k k
  have := h.nps
  rw [leftAt, leftOf, flowL_length, sortL_length]
  omega

end Go.Proofs.YtdeaccbolnlgpaaDoor.X
