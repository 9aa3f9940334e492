import Derived.Test.YtdeaccbolnlgpaaDoorXF1
import Derived.Test.YtdeaccbolnlgpaaDoorXP3
namespace Go.Proofs.YtdeaccbolnlgpaaDoor.X
open Go.RowKit Go.Shelf Go.Proofs.YtdeaccbolnlgpaaDoorW.PrintWords Go.Proofs.YtdeaccbolnlgpaaDoorW.PrintLast Go.Proofs.YtdeaccbolnlgpaaDoorW.PrintMore
set_option linter.unusedVariables false
set_option linter.unusedSimpArgs false

/-- When people leave their chambers. -/
def ceilI (a p : Int) : Int := (a + p - 1) / p
def tsG (ch : List S81) (ps : List S48) (pace wait : List Int) : List Int := (List.range ps.length).map fun (i : Nat) => rd wait (i : Int) + ceilI (rd_T81 ch (rd_T48 ps (i : Int)).f0).f1 (rd pace (i : Int))
def inAll (lo hi : Int) (l : List Int) : Bool := l.all fun x => decide (lo ≤ x) && decide (x ≤ hi)
def GoOk (st : List S62) (ch : List S81) (ps : List S48) (pace wait walk : List Int) : Prop :=
  checkF st ch ps = 0 ∧ pace.length = ps.length ∧ wait.length = ps.length ∧ walk.length = st.length ∧ inAll 1 3000 pace = true ∧ inAll 0 3600 wait = true ∧ inAll 0 600 walk = true
instance (st : List S62) (ch : List S81) (ps : List S48) (pace wait walk : List Int) : Decidable (GoOk st ch ps pace wait walk) := inferInstanceAs (Decidable (_ ∧ _ ∧ _ ∧ _ ∧ _ ∧ _ ∧ _))

theorem inAll_iff {lo hi : Int} {l : List Int} (h : inAll lo hi l = true) : ∀ x ∈ l, lo ≤ x ∧ x ≤ hi := fun x hx => by
  have := List.all_eq_true.1 h x hx
  simpa using this
theorem tsG_length (ch : List S81) (ps : List S48) (pace wait : List Int) : (tsG ch ps pace wait).length = ps.length := by simp [tsG]
theorem rd_in {lo hi : Int} {l : List Int} (h : inAll lo hi l = true) {i : Nat} (hi' : i < l.length) : lo ≤ rd l (i : Int) ∧ rd l (i : Int) ≤ hi := by
  rw [rd_get hi']; exact inAll_iff h _ (List.getElem_mem _)
theorem tsG_get {ch : List S81} {ps : List S48} {pace wait : List Int} {k : Nat} (hk : k < ps.length) : (tsG ch ps pace wait)[k]'(by simpa [tsG] using hk) = rd wait k + ceilI (rd_T81 ch (rd_T48 ps k).f0).f1 (rd pace k) := by simp [tsG]

theorem GoOk.go {st : List S62} {ch : List S81} {ps : List S48} {pace wait walk : List Int} (h : GoOk st ch ps pace wait walk) : GoIn st ch ps (tsG ch ps pace wait) walk := by
  obtain ⟨h1, h2, h3, h4, h5, h6, h7⟩ := h
  have hv := checkF_zero h1
  refine ⟨hv, tsG_length _ _ _ _, h4, fun t ht => ?_, inAll_iff h7⟩
  obtain ⟨i, hi, rfl⟩ := List.mem_map.1 ht
  rw [List.mem_range] at hi
  have hx : rd_T48 ps (i : Int) = ps[i] := by simp [rd_T48, List.getD_eq_getElem?_getD, hi]
  have hw := hv.walkOk (List.getElem_mem hi)
  rw [hx]
  unfold WalkOk at hw
  have a1 := rd_in h5 (by omega : i < pace.length)
  have a2 := rd_in h6 (by omega : i < wait.length)
  unfold ceilI
  have b1 : 0 ≤ ((rd_T81 ch ps[i].f0).f1 + rd pace i - 1) / rd pace i := Int.ediv_nonneg (by omega) (by omega)
  have b2 : ((rd_T81 ch ps[i].f0).f1 + rd pace i - 1) / rd pace i ≤ (rd_T81 ch ps[i].f0).f1 + rd pace i - 1 := Int.ediv_le_self _ (by omega)
  omega
end Go.Proofs.YtdeaccbolnlgpaaDoor.X
