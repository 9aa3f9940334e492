import Derived.Test.YtdeaccbolnlgpaaDoorXP4
import Derived.Test.YtdeaccbolnlgpaaDoorX10
import Derived.Test.YtdeaccbolnlgpaaDoorX11
import Derived.Test.YtdeaccbolnlgpaaDoorXHand
namespace Go.Proofs.YtdeaccbolnlgpaaDoor.X
open Go.RowKit Go.Proofs.YtdeaccbolnlgpaaDoorW.PrintWords Go.Proofs.YtdeaccbolnlgpaaDoorW.PrintLast Go.Proofs.YtdeaccbolnlgpaaDoorW.PrintMore
set_option linter.unusedVariables false
set_option linter.unusedSimpArgs false

/-! # The reference's functions and the model: Ends, Leaves, Out -/

/-- What Go tells at an end. -/
def endsF (b : Bool) (st : List S62) (ch : List S81) (ps : List S48) : List Int × List (List Int) := (ps.map (leaveT b ch), (List.range st.length).map (leftAt b st ch ps))

theorem tsG_ends (b : Bool) (ch : List S81) (ps : List S48) : tsG ch ps (ps.map fun x => paceS b x.f1) (ps.map fun x => timeS b x.f2) = ps.map (leaveT b ch) := by
  apply List.ext_getElem
  · simp [tsG]
  · intro i h1 h2
    have hi : i < ps.length := by simpa using h2
    rw [tsG_get hi, rdT48_nat hi, rd_get (by simpa using hi), rd_get (by simpa using hi)]
    simp [leaveT, ceilI]
theorem goOk_ends (b : Bool) {st : List S62} {ch : List S81} {ps : List S48} (h : checkF st ch ps = 0) : GoOk st ch ps (ps.map fun x => paceS b x.f1) (ps.map fun x => timeS b x.f2) (st.map fun s => timeS b s.f2) := by
  have hv := checkF_zero h
  refine ⟨h, by simp, by simp, by simp, ?_, ?_, ?_⟩
  · refine List.all_eq_true.2 fun z hz => ?_
    obtain ⟨x, hx, rfl⟩ := List.mem_map.1 hz
    have := livesB_iff.1 (hv.lives x hx)
    have : 1 ≤ paceS b x.f1 ∧ paceS b x.f1 ≤ 3000 := by unfold paceS; split <;> omega
    simp [this]
  · refine List.all_eq_true.2 fun z hz => ?_
    obtain ⟨x, hx, rfl⟩ := List.mem_map.1 hz
    have := livesB_iff.1 (hv.lives x hx)
    have : 0 ≤ timeS b x.f2 ∧ timeS b x.f2 ≤ 3600 := by unfold timeS; split <;> omega
    simp [this]
  · refine List.all_eq_true.2 fun z hz => ?_
    obtain ⟨s, hs, rfl⟩ := List.mem_map.1 hz
    have h1 := hv.stairOk hs
    unfold StairOk at h1
    have : 0 ≤ timeS b s.f2 ∧ timeS b s.f2 ≤ 600 := by unfold timeS; split <;> omega
    simp [this]
theorem goF_ends (b : Bool) {st : List S62} {ch : List S81} {ps : List S48} (h : checkF st ch ps = 0) : cottonpadref06_Go.f st ch ps (ps.map fun x => paceS b x.f1) (ps.map fun x => timeS b x.f2) (st.map fun s => timeS b s.f2) = some (endsF b st ch ps) := by
  rw [cottonpadref06_Go.f, if_pos (goOk_ends b h), goF, tsG_ends, endsF]
  congr 2
  refine List.map_congr_left fun k hk => ?_
  exact leftG_eq b st ch ps (List.mem_range.1 hk)

theorem take_snoc_map {α β : Type} (f : α → β) (l : List α) {i : Nat} (h : i < l.length) : (l.take i).map f ++ [f l[i]] = (l.take (i + 1)).map f := by
  rw [List.take_succ_eq_append_getElem h, List.map_append]; rfl

theorem Ends_l1 (b : Bool) {st : List S62} {ch : List S81} {ps : List S48} (h : checkF st ch ps = 0) : ∀ d i : Nat, i + d = st.length →
    Ev (fun k => cottonpadref06_Ends.l1 k ps b (ps.map fun x => paceS b x.f1) (ps.map fun x => timeS b x.f2) ((st.take i).map fun s => timeS b s.f2) (i : Int) st ch) (endsF b st ch ps)
  | 0, i, hd => by
    refine Ev.step (f := fun _ => some (endsF b st ch ps)) (fun k => ?_) (Ev.now _)
    rw [cottonpadref06_Ends.l1, if_neg (by omega), List.take_of_length_le (by omega), goF_ends b h]
    rfl
  | d + 1, i, hd => by
    have hi : i < st.length := by omega
    have hst := (checkF_zero h).built.nst
    refine Ev.step (fun k => ?_) (Ends_l1 b h d (i + 1) (by omega))
    have hl : ((st.take i).map fun s => timeS b s.f2).length + ([timeS b st[i].f2] : List Int).length < 17592186044416 := by simp; omega
    rw [cottonpadref06_Ends.l1, if_pos (by omega), rdT62_get hi, wrap_succ hi (by omega), ← take_snoc_map (fun s : S62 => timeS b s.f2) st hi]
    cases b
    · rw [if_neg (by simp), if_pos (by omega)]
      simp only [Option.bind_some]
      rw [if_pos (by simp; omega)]; rfl
    · rw [if_pos rfl, if_pos (by omega)]
      simp only [Option.bind_some]
      rw [if_pos (by simp; omega)]; rfl

theorem Ends_l0 (b : Bool) {st : List S62} {ch : List S81} {ps : List S48} (h : checkF st ch ps = 0) : ∀ d i : Nat, i + d = ps.length →
    Ev (fun k => cottonpadref06_Ends.l0 k ps b ((ps.take i).map fun x => paceS b x.f1) ((ps.take i).map fun x => timeS b x.f2) (i : Int) st ch) (endsF b st ch ps)
  | 0, i, hd => by
    refine Ev.step (fun k => ?_) (Ends_l1 b h st.length 0 (by omega))
    rw [cottonpadref06_Ends.l0, if_neg (by omega), List.take_of_length_le (by omega)]
    rfl
  | d + 1, i, hd => by
    have hi : i < ps.length := by omega
    have hnp := (checkF_zero h).nps
    refine Ev.step (fun k => ?_) (Ends_l0 b h d (i + 1) (by omega))
    have hl1 : ((ps.take i).map fun x => paceS b x.f1).length + ([paceS b ps[i].f1] : List Int).length < 17592186044416 := by simp; omega
    have hl2 : ((ps.take i).map fun x => timeS b x.f2).length + ([timeS b ps[i].f2] : List Int).length < 17592186044416 := by simp; omega
    rw [cottonpadref06_Ends.l0, if_pos (by omega), rdT48_nat hi, wrap_succ hi (by omega), ← take_snoc_map (fun x : S48 => paceS b x.f1) ps hi, ← take_snoc_map (fun x : S48 => timeS b x.f2) ps hi]
    cases b
    · rw [if_neg (by simp), if_pos (by omega)]
      simp only [Option.bind_some]
      rw [if_pos (by simp; omega)]
      rw [if_pos (by simp; omega)]; rfl
    · rw [if_pos rfl, if_pos (by omega)]
      simp only [Option.bind_some]
      rw [if_pos (by simp; omega)]
      rw [if_pos (by simp; omega)]; rfl
theorem Ends_ev (b : Bool) {st : List S62} {ch : List S81} {ps : List S48} (h : checkF st ch ps = 0) : Ev (fun k => cottonpadref06_Ends.f k st ch ps b) (endsF b st ch ps) :=
  Ends_l0 b h ps.length 0 (by omega)

theorem rdL_nat {ls : List (List Int)} {k : Nat} (h : k < ls.length) : rd_L11 ls (k : Int) = ls[k] := by simp [rd_L11, List.getD_eq_getElem?_getD, h]
theorem endsF_len (b : Bool) (st : List S62) (ch : List S81) (ps : List S48) : (endsF b st ch ps).2.length = st.length := by simp [endsF]
theorem endsF_rd (b : Bool) {st : List S62} {ch : List S81} {ps : List S48} {k : Nat} (h : k < st.length) : rd_L11 (endsF b st ch ps).2 (k : Int) = leftAt b st ch ps k := by
  rw [rdL_nat (by rw [endsF_len]; exact h)]; simp [endsF]
theorem zip_snoc (l m : List Int) {i : Nat} (h : i < l.length) (h2 : i < m.length) : List.zipWith S36.mk (l.take i) (m.take i) ++ [(⟨l[i], m[i]⟩ : S36)] = List.zipWith S36.mk (l.take (i + 1)) (m.take (i + 1)) := by
  rw [List.take_succ_eq_append_getElem h, List.take_succ_eq_append_getElem h2, List.zipWith_append (by simp; omega)]; rfl

theorem leftAt_le (b : Bool) {st : List S62} {ch : List S81} {ps : List S48} (h : Valid st ch ps) (k : Nat) : (leftAt b st ch ps k).length ≤ 24 := by
  have h1 := h.len (b := b) k k
  have := h.nps
  rw [leftAt, leftOf, flowL_length, sortL_length]
  omega

theorem Leaves_l0 {st : List S62} {ch : List S81} {ps : List S48} (hv : Valid st ch ps) {s : Nat} (hs : s < st.length) : ∀ d i : Nat, i + d = (leftAt false st ch ps s).length →
    Ev (fun k => cottonpadref06_Leaves.l0 k (s : Int) (endsF false st ch ps).2 (endsF true st ch ps).2 (List.zipWith S36.mk ((leftAt false st ch ps s).take i) ((leftAt true st ch ps s).take i)) (i : Int)) (List.zipWith S36.mk (leftAt false st ch ps s) (leftAt true st ch ps s), 0)
  | 0, i, hd => by
    have hl := leftAt_len st ch ps s
    refine Ev.step (f := fun _ => some (List.zipWith S36.mk (leftAt false st ch ps s) (leftAt true st ch ps s), 0)) (fun k => ?_) (Ev.now _)
    rw [cottonpadref06_Leaves.l0, if_pos (by omega), if_pos (by rw [endsF_len]; omega), endsF_rd false hs, if_neg (by omega), List.take_of_length_le (by omega), List.take_of_length_le (by omega)]
  | d + 1, i, hd => by
    have hl := leftAt_len st ch ps s
    have h24 := leftAt_le false hv s
    have hi : i < (leftAt false st ch ps s).length := by omega
    refine Ev.step (fun k => ?_) (Leaves_l0 hv hs d (i + 1) (by omega))
    rw [cottonpadref06_Leaves.l0, if_pos (by omega), if_pos (by rw [endsF_len]; omega), endsF_rd false hs, if_pos (by omega), if_pos (by omega), if_pos (by rw [endsF_len]; omega), endsF_rd true hs, if_pos (by omega), if_pos (by simp; omega), rd_get hi, rd_get (by omega),
      zip_snoc _ _ hi (by omega), wrap_succ hi (by omega)]

theorem Leaves_ev (st : List S62) (ch : List S81) (ps : List S48) (i : Int) : Ev (fun k => cottonpadref06_Leaves.f k st ch ps i) (leavesF st ch ps i) := by
  unfold cottonpadref06_Leaves.f leavesF
  refine Ev.bind (Check_ev st ch ps) ?_
  by_cases h : checkF st ch ps = 0
  · simp only [h, if_true]
    have hv := checkF_zero h
    have hst := hv.built.nst
    rw [within_f, wrap_pred (by omega)]
    simp only [Option.bind_some]
    cases hb : inB 0 ((st.length : Int) - 1) [i]
    · exact Ev.now _
    · simp only [if_true]
      rw [inB_one] at hb
      obtain ⟨s, rfl⟩ : ∃ s : Nat, i = s := ⟨i.toNat, by omega⟩
      refine Ev.bind (Ends_ev false h) (Ev.bind (Ends_ev true h) ?_)
      exact Leaves_l0 hv (by omega) _ 0 (Nat.zero_add _)
  · simp only [h, if_false]
    exact Ev.now _

theorem all_l0 (b : Bool) {st : List S62} {ch : List S81} {ps : List S48} (hv : Valid st ch ps) : ∀ d i : Nat, i + d = st.length →
    Ev (fun k => cottonpadref06_all.l0 k (endsF b st ch ps).2 (lastT b st ch ps i) (i : Int) st ch) (lastT b st ch ps st.length)
  | 0, i, hd => by
    refine Ev.step (f := fun _ => some (lastT b st ch ps st.length)) (fun k => ?_) (Ev.now _)
    rw [cottonpadref06_all.l0, if_neg (by rw [endsF_len]; omega), show i = st.length by omega]
  | d + 1, i, hd => by
    have hi : i < st.length := by omega
    have hst := hv.built.nst
    have h24 := leftAt_le b hv i
    refine Ev.step (fun k => ?_) (all_l0 b hv d (i + 1) (by omega))
    rw [cottonpadref06_all.l0, if_pos (by rw [endsF_len]; omega), if_pos (by omega), endsF_rd b hi, wrap_succ hi (by omega), lastT_succ, rdT62_get hi]
    by_cases h0 : 0 < (leftAt b st ch ps i).length
    · rw [if_pos (by omega), if_pos (by omega)]
      by_cases hn : st[i].f0 = -1
      · have hp : wrap64 (((leftAt b st ch ps i).length : Int) - 1) = (((leftAt b st ch ps i).length - 1 : Nat) : Int) := by rw [wrap_in (by omega)]; omega
        rw [if_pos hn, hp, if_pos (by omega), if_pos (by omega), rd_get (by omega), if_pos ⟨hn, h0⟩, List.getElem?_eq_getElem (by omega)]
        congr 1
        unfold mx
        simp only [Option.getD_some]
        split <;> omega
      · rw [if_neg hn, if_neg (fun h => hn h.1)]
    · rw [if_neg (by omega), if_neg (fun h => h0 h.2)]

theorem Out_ev (st : List S62) (ch : List S81) (ps : List S48) : Ev (fun k => cottonpadref06_Out.f k st ch ps) (outF st ch ps) := by
  unfold cottonpadref06_Out.f outF
  refine Ev.bind (Check_ev st ch ps) ?_
  by_cases h : checkF st ch ps = 0
  · simp only [h, if_true]
    have hv := checkF_zero h
    refine Ev.bind (Ends_ev false h) (Ev.bind (Ends_ev true h) ?_)
    refine Ev.bind (all_l0 false hv st.length 0 (by omega)) (Ev.bind (all_l0 true hv st.length 0 (by omega)) ?_)
    exact Ev.now _
  · simp only [h, if_false]
    exact Ev.now _

/-! ## What is the same -/
theorem SameSpans_l0 (l : List S36) (hl : l.length ≤ 100000) : ∀ d i : Nat, i + d = l.length → Ev (fun k => cottonpadref06_SameSpans.l0 k l l (i : Int)) true
  | 0, i, hd => Ev.step (f := fun _ => some true) (fun k => by rw [cottonpadref06_SameSpans.l0, if_neg (by omega)]) (Ev.now _)
  | d + 1, i, hd => by
    refine Ev.step (fun k => ?_) (SameSpans_l0 l hl d (i + 1) (by omega))
    rw [cottonpadref06_SameSpans.l0, if_pos (by omega), if_pos (by omega), if_pos (by omega), if_neg (by simp), wrap_succ (by omega : i < l.length) hl]
theorem SameSpans_ev (l : List S36) (hl : l.length ≤ 100000) : Ev (fun k => cottonpadref06_SameSpans.f k l l) true :=
  Ev.congr (f := fun k => cottonpadref06_SameSpans.l0 k l l ((0 : Nat) : Int)) (fun k => by rw [cottonpadref06_SameSpans.f, if_pos rfl]; rfl) (SameSpans_l0 l hl l.length 0 (by omega))
theorem SameWalkers_l0 (l : List S48) (hl : l.length ≤ 100000) : ∀ d i : Nat, i + d = l.length → Ev (fun k => cottonpadref06_SameWalkers.l0 k l l (i : Int)) true
  | 0, i, hd => Ev.step (f := fun _ => some true) (fun k => by rw [cottonpadref06_SameWalkers.l0, if_neg (by omega)]) (Ev.now _)
  | d + 1, i, hd => by
    refine Ev.step (fun k => ?_) (SameWalkers_l0 l hl d (i + 1) (by omega))
    rw [cottonpadref06_SameWalkers.l0, if_pos (by omega), if_pos (by omega), if_pos (by omega), if_neg (by simp), wrap_succ (by omega : i < l.length) hl]
theorem SameWalkers_ev (l : List S48) (hl : l.length ≤ 100000) : Ev (fun k => cottonpadref06_SameWalkers.f k l l) true :=
  Ev.congr (f := fun k => cottonpadref06_SameWalkers.l0 k l l ((0 : Nat) : Int)) (fun k => by rw [cottonpadref06_SameWalkers.f, if_pos rfl]; rfl) (SameWalkers_l0 l hl l.length 0 (by omega))
theorem Same_l1 (st : List S62) (ch : List S81) (hl : ch.length ≤ 100000) : ∀ d i : Nat, i + d = ch.length → Ev (fun k => cottonpadref06_Same.l1 k (i : Int) st ch st ch) true
  | 0, i, hd => Ev.step (f := fun _ => some true) (fun k => by rw [cottonpadref06_Same.l1, if_neg (by omega)]) (Ev.now _)
  | d + 1, i, hd => by
    refine Ev.step (fun k => ?_) (Same_l1 st ch hl d (i + 1) (by omega))
    rw [cottonpadref06_Same.l1, if_pos (by omega), if_pos (by omega), if_pos (by omega), if_neg (by simp), wrap_succ (by omega : i < ch.length) hl]
theorem Same_l0 (st : List S62) (ch : List S81) (hs : st.length ≤ 100000) (hl : ch.length ≤ 100000) : ∀ d i : Nat, i + d = st.length → Ev (fun k => cottonpadref06_Same.l0 k (i : Int) st ch st ch) true
  | 0, i, hd => Ev.step (fun k => by rw [cottonpadref06_Same.l0, if_neg (by omega)]; rfl) (Same_l1 st ch hl ch.length 0 (by omega))
  | d + 1, i, hd => by
    refine Ev.step (fun k => ?_) (Same_l0 st ch hs hl d (i + 1) (by omega))
    rw [cottonpadref06_Same.l0, if_pos (by omega), if_pos (by omega), if_pos (by omega), if_neg (by simp), wrap_succ (by omega : i < st.length) hs]
theorem Same_ev (st : List S62) (ch : List S81) (hs : st.length ≤ 100000) (hl : ch.length ≤ 100000) : Ev (fun k => cottonpadref06_Same.f k st ch st ch) true := by
  refine Ev.congr (f := fun k => cottonpadref06_Same.j0 k false st ch st ch) (fun k => by rw [cottonpadref06_Same.f, if_pos rfl]; simp) ?_
  exact Ev.step (fun k => by rw [cottonpadref06_Same.j0, if_neg (by simp)]; rfl) (Same_l0 st ch hs hl st.length 0 (by omega))
end Go.Proofs.YtdeaccbolnlgpaaDoor.X
