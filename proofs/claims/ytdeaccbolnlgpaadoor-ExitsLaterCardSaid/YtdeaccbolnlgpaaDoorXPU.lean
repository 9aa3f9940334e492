import Derived.Test.YtdeaccbolnlgpaaDoorXPX
import Derived.Test.YtdeaccbolnlgpaaDoorXP6G
import Derived.Test.YtdeaccbolnlgpaaDoorXPB1
import Derived.Test.YtdeaccbolnlgpaaDoorXN12
namespace Go.Proofs.YtdeaccbolnlgpaaDoor.X
open Go.RowKit Go.Proofs.YtdeaccbolnlgpaaDoorW.PrintWords Go.Proofs.YtdeaccbolnlgpaaDoorW.PrintLast Go.Proofs.YtdeaccbolnlgpaaDoorW.PrintMore
set_option linter.unusedVariables false
set_option linter.unusedSimpArgs false

/-! # The plain law of ExitsLater -/

/-! ## One after the other -/
def curL {α : Type} (F : α → α) (l : List α) (i : Nat) : List α := l.mapIdx fun k a => if k < i then F a else a
section
variable {α : Type} (F : α → α) (l : List α)
theorem curL_length (i : Nat) : (curL F l i).length = l.length := by simp [curL]
theorem curL_get (i : Nat) {k : Nat} (hk : k < l.length) : (curL F l i)[k]'(by rw [curL_length]; exact hk) = if k < i then F l[k] else l[k] := by simp [curL]
theorem curL_zero : curL F l 0 = l := List.ext_getElem (curL_length ..) fun k h1 h2 => by rw [curL_get F l 0 h2, if_neg (by omega)]
theorem curL_all : curL F l l.length = l.map F := List.ext_getElem (by simp [curL_length]) fun k h1 h2 => by
  have hk : k < l.length := by simpa using h2
  rw [curL_get F l _ hk, if_pos hk, List.getElem_map]
theorem curL_succ {i : Nat} (hi : i < l.length) : (curL F l i).set i (F l[i]) = curL F l (i + 1) :=
  List.ext_getElem (by simp [curL_length]) fun k h1 h2 => by
    have hk : k < l.length := by rw [curL_length] at h2; exact h2
    rw [curL_get F l (i + 1) hk, List.getElem_set]
    by_cases e : i = k
    · subst e; rw [if_pos rfl, if_pos (by omega)]
    · rw [if_neg e, curL_get F l i hk]
      by_cases e2 : k < i
      · rw [if_pos e2, if_pos (by omega)]
      · rw [if_neg e2, if_neg (by omega)]
end

/-! ## All later -/
def lat (d : Int) (s : S36) : S36 := ⟨s.f0 + d, s.f1 + d⟩
def latS (d : Int) (s : S62) : S62 := ⟨s.f0, s.f1, s.f2, lat d s.f3⟩
def latC (d : Int) (c : S81) : S81 := ⟨c.f0, c.f1, lat d c.f2⟩
def latP (d : Int) (x : S48) : S48 := ⟨x.f0, x.f1, lat d x.f2⟩
section
variable (d : Int) (st : List S62) (ch : List S81) (ps : List S48)
theorem latC_rd (i : Int) : (rd_T81 (ch.map (latC d)) i).f0 = (rd_T81 ch i).f0 ∧ (rd_T81 (ch.map (latC d)) i).f1 = (rd_T81 ch i).f1 := by
  unfold rd_T81
  rw [List.getD_eq_getElem?_getD, List.getD_eq_getElem?_getD, List.getElem?_map]
  cases ch[i.toNat]? <;> exact ⟨rfl, rfl⟩
theorem latC_at {c : Nat} (hc : c < ch.length) : (rd_T81 (ch.map (latC d)) c).f2 = lat d (rd_T81 ch c).f2 := by
  unfold rd_T81
  rw [Int.toNat_natCast, List.getD_eq_getElem?_getD, List.getD_eq_getElem?_getD, List.getElem?_map, List.getElem?_eq_getElem hc]; rfl
theorem latS_rd (i : Int) : (rd_T62 (st.map (latS d)) i).f0 = (rd_T62 st i).f0 ∧ (rd_T62 (st.map (latS d)) i).f1 = (rd_T62 st i).f1 := by
  unfold rd_T62
  rw [List.getD_eq_getElem?_getD, List.getD_eq_getElem?_getD, List.getElem?_map]
  cases st[i.toNat]? <;> exact ⟨rfl, rfl⟩
theorem latS_at {c : Nat} (hc : c < st.length) : (rd_T62 (st.map (latS d)) c).f3 = lat d (rd_T62 st c).f3 := by
  unfold rd_T62
  rw [Int.toNat_natCast, List.getD_eq_getElem?_getD, List.getD_eq_getElem?_getD, List.getElem?_map, List.getElem?_eq_getElem hc]; rfl
theorem lat_leave (b : Bool) (x : S48) : leaveT b (ch.map (latC d)) (latP d x) = leaveT b ch x + d := by
  unfold leaveT
  have e : (rd_T81 (ch.map (latC d)) (latP d x).f0).f1 = (rd_T81 ch x.f0).f1 := (latC_rd d ch x.f0).2
  have e2 : timeS b (latP d x).f2 = timeS b x.f2 + d := by cases b <;> rfl
  have e3 : paceS b (latP d x).f1 = paceS b x.f1 := rfl
  rw [e, e2, e3]; omega
theorem lat_left (b : Bool) {k : Nat} (hk : k < st.length) : leftAt b (st.map (latS d)) (ch.map (latC d)) (ps.map (latP d)) k = (leftAt b st ch ps k).map (· + d) := by
  rw [← leftG_eq b st ch ps hk, ← leftG_eq b _ _ _ (by rw [List.length_map]; exact hk)]
  have e1 : (st.map (latS d)).map (fun s => timeS b s.f2) = st.map (fun s => timeS b s.f2) := by rw [List.map_map]; rfl
  have e2 : (ps.map (latP d)).map (leaveT b (ch.map (latC d))) = (ps.map (leaveT b ch)).map (· + d) := by
    rw [List.map_map, List.map_map]; exact List.map_congr_left fun x _ => lat_leave d ch b x
  rw [e1, e2]
  clear e1 e2
  refine leftG_shift d (fun k => ⟨((latS_rd d st k).1).symm, ((latS_rd d st k).2).symm⟩) _ (fun i => ?_) k
  generalize ps.map (leaveT b ch) = ts
  unfold comeG0
  induction ps generalizing ts with
  | nil => rfl
  | cons x ps ih =>
    cases ts with
    | nil => rfl
    | cons t ts =>
      have e : (rd_T81 (ch.map (latC d)) (latP d x).f0).f0 = (rd_T81 ch x.f0).f0 := (latC_rd d ch x.f0).1
      rw [List.map_cons, List.map_cons, List.zip_cons_cons, List.zip_cons_cons, List.filter_cons, List.filter_cons]
      simp only [e]
      split
      · rw [List.map_cons, List.map_cons, List.map_cons, ih]
      · exact ih ts
theorem lat_lateC (b : Bool) : ∀ k, k ≤ ch.length → lateC b (ch.map (latC d)) (ps.map (latP d)) k = lateC b ch ps k
  | 0, _ => rfl
  | k + 1, hk => by
    have e : (ps.map (latP d)).any (slowB b (ch.map (latC d)) k (rd_T81 (ch.map (latC d)) k).f2) = ps.any (slowB b ch k (rd_T81 ch k).f2) := by
      rw [List.any_map, latC_at d ch (by omega)]
      congr 1
      funext x
      simp only [Function.comp, slowB, lat_leave]
      have e1 : smokeS b (lat d (rd_T81 ch k).f2) = smokeS b (rd_T81 ch k).f2 + d := by cases b <;> rfl
      rw [e1]
      congr 1
      exact decide_eq_decide.2 (by omega)
    rw [lateC, lateC, lat_lateC b k (by omega), e]
theorem lat_lateB (b : Bool) {k : Nat} (hk : k < st.length) : lateB b (st.map (latS d)) (ch.map (latC d)) (ps.map (latP d)) k = lateB b st ch ps k := by
  unfold lateB
  rw [lat_left d st ch ps b hk, List.any_map, latS_at d st hk]
  congr 1
  funext t
  have e1 : smokeS b (lat d (rd_T62 st k).f3) = smokeS b (rd_T62 st k).f3 + d := by cases b <;> rfl
  simp only [Function.comp]
  rw [e1]
  exact decide_eq_decide.2 (by omega)
theorem lat_lateS (b : Bool) : ∀ n k, k + n ≤ st.length → lateS b (st.map (latS d)) (ch.map (latC d)) (ps.map (latP d)) k n = lateS b st ch ps k n
  | 0, _, _ => rfl
  | n + 1, k, h => by rw [lateS, lateS, lat_lateB d st ch ps b (by omega), lat_lateS b n (k + 1) (by omega)]
theorem lat_late (b : Bool) : lateF b (st.map (latS d)) (ch.map (latC d)) (ps.map (latP d)) = lateF b st ch ps := by
  unfold lateF
  rw [List.length_map, List.length_map, lat_lateC d ch ps b _ (Nat.le_refl _), lat_lateS d st ch ps b _ 0 (by omega)]
end

/-! ## Somebody leaves the house -/
theorem come_gone {st : List S62} {ch : List S81} {ps : List S48} {ts wk : List Int} (hv : Valid st ch ps) : ∀ k, k ≤ st.length → ∀ i : Int, 0 ≤ i → i < k → comeG st ch ps ts wk k i = []
  | 0, _, i, h0, h1 => by omega
  | k + 1, hk, i, h0, h1 => by
    have hs := stairB_iff.1 (hv.built.stair k (by omega))
    simp only [comeG]
    rw [rdT62_get (by omega), putG_ne _ _ _ _ (by omega)]
    by_cases e : i = (k : Int)
    · rw [putG_eq _ _ _ _ e]
    · rw [putG_ne _ _ _ _ e]; exact come_gone hv k (by omega) i h0 (by omega)
theorem come_out {st : List S62} {ch : List S81} {ps : List S48} {ts wk : List Int} (hv : Valid st ch ps) (hno : ∀ k : Nat, k < st.length → (rd_T62 st k).f0 = -1 → leftG st ch ps ts wk k = []) : ∀ k, k ≤ st.length → comeG st ch ps ts wk k (-1) = []
  | 0, _ => List.eq_nil_iff_forall_not_mem.2 fun t ht => by
    obtain ⟨x, hx, h1, _⟩ := comeG0_mem ht
    have := hv.stairOf hx
    omega
  | k + 1, hk => by
    have ih := come_out hv hno k (by omega)
    simp only [comeG]
    by_cases e : (-1 : Int) = (rd_T62 st k).f0
    · have := hno k (by omega) e.symm
      unfold leftG at this
      rw [putG_eq _ _ _ _ e, this, List.append_nil, ← e, putG_ne _ _ _ _ (by omega)]; exact ih
    · rw [putG_ne _ _ _ _ e, putG_ne _ _ _ _ (by omega)]; exact ih
theorem sum_none : ∀ l : List Nat, (∀ x ∈ l, x = 0) → l.sum = 0
  | [], _ => rfl
  | a :: l, h => by rw [List.sum_cons, h a (by simp), sum_none l fun x hx => h x (by simp [hx])]
theorem some_out {st : List S62} {ch : List S81} {ps : List S48} {ts wk : List Int} (h : GoIn st ch ps ts wk) (hps : ps.length ≠ 0) : ∃ k : Nat, k < st.length ∧ (rd_T62 st k).f0 = -1 ∧ leftG st ch ps ts wk k ≠ [] :=
  Classical.byContradiction fun hne => by
    have hno : ∀ k : Nat, k < st.length → (rd_T62 st k).f0 = -1 → leftG st ch ps ts wk k = [] := fun k hk h1 => Classical.byContradiction fun h2 => hne ⟨k, hk, h1, h2⟩
    have h1 := come_out h.valid hno st.length (Nat.le_refl _)
    have h2 := come_gone (ts := ts) (wk := wk) h.valid st.length (Nat.le_refl _)
    have h3 := h.mass st.length (Nat.le_refl _)
    have h4 : massL (keysN st.length) (comeG st ch ps ts wk st.length) = 0 := by
      unfold massL
      refine sum_none _ fun x hx => ?_
      obtain ⟨i, hi, rfl⟩ := List.mem_map.1 hx
      have := mem_keysN.1 hi
      rcases Int.lt_or_le i 0 with h5 | h5
      · have : i = -1 := by omega
        rw [this, h1]; rfl
      · rw [h2 i h5 (by omega)]; rfl
    omega
theorem lastT_nn {b : Bool} {st : List S62} {ch : List S81} {ps : List S48} (hv : Valid st ch ps) : ∀ k, k ≤ st.length → 0 ≤ lastT b st ch ps k ∧ lastT b st ch ps k ≤ 16840
  | 0, _ => ⟨Int.le_refl _, by show (0 : Int) ≤ 16840; decide⟩
  | k + 1, hk => by
    have ih := lastT_nn (b := b) hv k (by omega)
    rw [lastT]
    split
    · rename_i h1
      have hm : (leftAt b st ch ps k)[(leftAt b st ch ps k).length - 1]?.getD 0 ∈ leftAt b st ch ps k := by
        have := h1.2
        rw [List.getElem?_eq_getElem (by omega), Option.getD_some]; exact List.getElem_mem _
      have := leftAt_bound b hv (by omega) _ hm
      omega
    · exact ih
theorem lat_lastT {d : Int} (hd : 0 ≤ d) {b : Bool} {st : List S62} {ch : List S81} {ps : List S48} (hv : Valid st ch ps) : ∀ k, k ≤ st.length →
    (lastT b st ch ps k = 0 ∧ lastT b (st.map (latS d)) (ch.map (latC d)) (ps.map (latP d)) k = 0 ∧ ∀ j : Nat, j < k → (rd_T62 st j).f0 = -1 → leftAt b st ch ps j = []) ∨ lastT b (st.map (latS d)) (ch.map (latC d)) (ps.map (latP d)) k = lastT b st ch ps k + d
  | 0, _ => .inl ⟨rfl, rfl, fun j hj => by omega⟩
  | k + 1, hk => by
    have ih := lat_lastT hd (b := b) hv k (by omega)
    rw [lastT, lastT, (latS_rd d st k).1, lat_left d st ch ps b (by omega), List.length_map]
    by_cases h1 : (rd_T62 st k).f0 = -1 ∧ 0 < (leftAt b st ch ps k).length
    · right
      have hl := h1.2
      rw [if_pos h1, if_pos h1, List.getElem?_map, List.getElem?_eq_getElem (by omega)]
      have hb := leftAt_bound b hv (by omega : k < st.length) _ (List.getElem_mem (h := (by omega : (leftAt b st ch ps k).length - 1 < (leftAt b st ch ps k).length)))
      simp only [Option.map_some, Option.getD_some]
      rcases ih with ⟨e1, e2, _⟩ | e <;> omega
    · rw [if_neg h1, if_neg h1]
      rcases ih with ⟨e1, e2, e3⟩ | e
      · refine .inl ⟨e1, e2, fun j hj h2 => ?_⟩
        by_cases e : j = k
        · subst e
          refine List.eq_nil_of_length_eq_zero ?_
          rcases Nat.eq_zero_or_pos (leftAt b st ch ps j).length with h3 | h3
          · exact h3
          · exact absurd ⟨h2, h3⟩ h1
        · exact e3 j (by omega) h2
      · exact .inr e
theorem lat_out {d : Int} (hd : 0 ≤ d) (b : Bool) {st : List S62} {ch : List S81} {ps : List S48} (hv : Valid st ch ps) (hps : ps.length ≠ 0) : lastT b (st.map (latS d)) (ch.map (latC d)) (ps.map (latP d)) st.length = lastT b st ch ps st.length + d := by
  rcases lat_lastT hd (b := b) hv st.length (Nat.le_refl _) with ⟨_, _, h3⟩ | h
  · obtain ⟨k, hk, h1, h2⟩ := some_out (ends_go b hv) hps
    rw [leftG_eq b st ch ps hk] at h2
    exact absurd (h3 k hk h1) h2
  · exact h
/-! ## The loops -/
theorem latr_l3 {d : Int} (hd : 0 ≤ d ∧ d < 1000) (A B : List S36) (hl : B.length = A.length) (hlen : A.length ≤ 1000) (hAB : ∀ (j : Nat) (h1 : j < A.length) (h2 : j < B.length), B[j] = lat d A[j])
    (hbd : ∀ (j : Nat) (h1 : j < A.length), 0 ≤ A[j].f0 ∧ A[j].f0 ≤ 16840 ∧ 0 ≤ A[j].f1 ∧ A[j].f1 ≤ 16840) : ∀ dd j : Nat, j + dd = A.length →
    Ev (fun k => cottonpadlaw06_ExitsLater.l3 k true d A B (A.length : Int) (j : Int)) true
  | 0, j, h => Ev.step (f := fun _ => some true) (fun k => by rw [cottonpadlaw06_ExitsLater.l3, if_neg (by omega)]) (Ev.now _)
  | dd + 1, j, h => by
    have hj : j < A.length := by omega
    have hb := hbd j hj
    refine Ev.step (fun k => ?_) (latr_l3 hd A B hl hlen hAB hbd dd (j + 1) (by omega))
    rw [cottonpadlaw06_ExitsLater.l3, if_pos (by omega), if_pos (by omega), if_pos (by omega), if_pos (by omega), rdT36_nat hj, rdT36_nat (by omega : j < B.length), span_f, hAB j hj (by omega), wrap_succ hj (by omega), wrap_in (x := A[j].f0 + d) (by omega), wrap_in (x := A[j].f1 + d) (by omega)]
    simp only [Option.bind_some, lat, beq_self_eq_true, Bool.not_true, Bool.or_self, Bool.false_eq_true, if_false]

section
variable {st : List S62} {ch : List S81} {ps : List S48} {d : Int} (hc : checkF st ch ps = 0) (hps : ps.length ≠ 0) (hd : 0 ≤ d ∧ d < 1000) {a3 : Int} {m : Nat} (hm : m < st.length) (hidx : Int.tmod (wrap64 a3) (st.length : Int) = (m : Int))
include hc hps hd hm hidx
theorem latr_end : Ev (fun k => cottonpadlaw06_ExitsLater.l2 k ps a3 true d (ps.map (latP d)) (ps.length : Int) (ps.length : Int) st ch (st.map (latS d)) (ch.map (latC d))) true := by
  have hv := checkF_zero hc
  refine Ev.step (fun k => by rw [cottonpadlaw06_ExitsLater.l2, if_neg (by omega)]) ?_
  refine Ev.bind (ready_ev (st.map (latS d)) (ch.map (latC d)) (ps.map (latP d))) ?_
  by_cases hR : (!greatB (st.map (latS d)) (ch.map (latC d)) (ps.map (latP d)) && checkF (st.map (latS d)) (ch.map (latC d)) (ps.map (latP d)) == 0) = true
  · simp only [hR, if_true]
    have hc' := ready_out hR
    have h3 := check_small3 hc
    have h3' := check_small3 hc'
    have hm' : m < (st.map (latS d)).length := by rw [List.length_map]; exact hm
    have o1 : outF st ch ps = (lastT false st ch ps st.length, lastT true st ch ps st.length, 0) := if_pos hc
    have o2 : outF (st.map (latS d)) (ch.map (latC d)) (ps.map (latP d)) = (lastT false st ch ps st.length + d, lastT true st ch ps st.length + d, 0) := by
      unfold outF
      rw [if_pos hc', List.length_map, lat_out hd.1 false hv hps, lat_out hd.1 true hv hps]
    have hs : safeF (st.map (latS d)) (ch.map (latC d)) (ps.map (latP d)) = safeF st ch ps := by
      unfold safeF
      rw [if_pos hc', if_pos hc, lat_late, lat_late]
    have s0 := (safeF_two hc).1
    have n1 := lastT_nn (b := false) hv st.length (Nat.le_refl _)
    have n2 := lastT_nn (b := true) hv st.length (Nat.le_refl _)
    have hL := leavesF_at hc hm
    have hL' := leavesF_at hc' hm'
    rw [lat_left d st ch ps false hm, lat_left d st ch ps true hm] at hL'
    have hlen := leftAt_len st ch ps m
    have h24 := leftAt_le24 false hv m
    have hz : (List.zipWith S36.mk (leftAt false st ch ps m) (leftAt true st ch ps m)).length = (leftAt false st ch ps m).length := by rw [List.length_zipWith]; omega
    have hz' : (List.zipWith S36.mk ((leftAt false st ch ps m).map (· + d)) ((leftAt true st ch ps m).map (· + d))).length = (leftAt false st ch ps m).length := by rw [List.length_zipWith, List.length_map, List.length_map]; omega
    have hl3 := latr_l3 hd (List.zipWith S36.mk (leftAt false st ch ps m) (leftAt true st ch ps m)) (List.zipWith S36.mk ((leftAt false st ch ps m).map (· + d)) ((leftAt true st ch ps m).map (· + d))) (by rw [hz, hz']) (by omega)
      (fun j h1 h2 => by rw [List.getElem_zipWith, List.getElem_zipWith, List.getElem_map, List.getElem_map]; rfl)
      (fun j h1 => by
        rw [List.getElem_zipWith]
        have b1 := leftAt_bound false hv hm _ (List.getElem_mem (h := (by omega : j < (leftAt false st ch ps m).length)))
        have b2 := leftAt_bound true hv hm _ (List.getElem_mem (h := (by omega : j < (leftAt true st ch ps m).length)))
        exact ⟨b1.1, b1.2, b2.1, b2.2⟩) (List.zipWith S36.mk (leftAt false st ch ps m) (leftAt true st ch ps m)).length 0 (by omega)
    refine Ev.congr (f := fun k => cottonpadlaw06_ExitsLater.j4 k true d (List.zipWith S36.mk (leftAt false st ch ps m) (leftAt true st ch ps m)) (List.zipWith S36.mk ((leftAt false st ch ps m).map (· + d)) ((leftAt true st ch ps m).map (· + d))) false) (fun k => ?_) (Ev.step (fun k => ?_) hl3)
    · rw [if_neg (by omega), hidx, exitsLeaves_f h3, exitsLeaves_f h3', exitsOut_f h3, exitsOut_f h3', exitsSafe_f h3, exitsSafe_f h3', hL, hL', o1, o2, hs]
      simp only [Option.bind_some, if_true, span_f]
      rw [wrap_in (x := lastT false st ch ps st.length + d) (by omega), wrap_in (x := lastT true st ch ps st.length + d) (by omega)]
      simp only [s0, hz, hz', if_true, beq_self_eq_true, Bool.not_true, Bool.or_self, Bool.false_eq_true, if_false, bne_self_eq_false]
    · rw [cottonpadlaw06_ExitsLater.j4, if_neg (by simp)]; rfl
  · simp only [hR, Bool.false_eq_true, if_false]
    exact Ev.now _

theorem latr_l2 : ∀ dd i : Nat, i + dd = ps.length →
    Ev (fun k => cottonpadlaw06_ExitsLater.l2 k ps a3 true d (curL (latP d) ps i) (ps.length : Int) (i : Int) st ch (st.map (latS d)) (ch.map (latC d))) true
  | 0, i, h => by
    rw [show i = ps.length by omega, curL_all]
    exact latr_end hc hps hd hm hidx
  | dd + 1, i, h => by
    have hv := checkF_zero hc
    have hi : i < ps.length := by omega
    have hn := hv.nps
    have hl := curL_length (latP d) ps i
    have h1 := livesB_iff.1 (hv.lives _ (List.getElem_mem hi))
    have hr : rd_T48 (curL (latP d) ps i) (i : Int) = ps[i] := by rw [rdT48_nat (by omega), curL_get (latP d) ps i hi, if_neg (by omega)]
    refine Ev.step (fun k => ?_) (latr_l2 dd (i + 1) (by omega))
    rw [cottonpadlaw06_ExitsLater.l2, if_pos (by omega), if_pos (by omega), if_pos (by omega), hr, span_f, wrap_succ hi (by omega), wrap_in (x := ps[i].f2.f0 + d) (by omega), wrap_in (x := ps[i].f2.f1 + d) (by omega), ← curL_succ (latP d) ps hi]
    simp only [Option.bind_some, Int.toNat_natCast]
    rfl
theorem latr_l1 : ∀ dd i : Nat, i + dd = ch.length →
    Ev (fun k => cottonpadlaw06_ExitsLater.l1 k ps a3 true d ps (ch.length : Int) (i : Int) st ch (st.map (latS d)) (curL (latC d) ch i)) true
  | 0, i, h => by
    have h2 := latr_l2 hc hps hd hm hidx ps.length 0 (by omega)
    rw [curL_zero] at h2
    refine Ev.step (fun k => ?_) h2
    rw [cottonpadlaw06_ExitsLater.l1, if_neg (by omega), show i = ch.length by omega, curL_all]
    rfl
  | dd + 1, i, h => by
    have hv := checkF_zero hc
    have hi : i < ch.length := by omega
    have hn := hv.built.nch
    have hl := curL_length (latC d) ch i
    have h1 := chamberB_iff.1 (hv.built.chamber _ (List.getElem_mem hi))
    have hr : rd_T81 (curL (latC d) ch i) (i : Int) = ch[i] := by rw [rdT81_nat (by omega), curL_get (latC d) ch i hi, if_neg (by omega)]
    refine Ev.step (fun k => ?_) (latr_l1 dd (i + 1) (by omega))
    rw [cottonpadlaw06_ExitsLater.l1, if_pos (by omega), if_pos (by omega), if_pos (by omega), hr, span_f, wrap_succ hi (by omega), wrap_in (x := ch[i].f2.f0 + d) (by omega), wrap_in (x := ch[i].f2.f1 + d) (by omega), ← curL_succ (latC d) ch hi]
    simp only [Option.bind_some, Int.toNat_natCast]
    rfl
theorem latr_l0 : ∀ dd i : Nat, i + dd = st.length →
    Ev (fun k => cottonpadlaw06_ExitsLater.l0 k ps a3 true d ps (st.length : Int) (i : Int) st ch (curL (latS d) st i) ch) true
  | 0, i, h => by
    have h2 := latr_l1 hc hps hd hm hidx ch.length 0 (by omega)
    rw [curL_zero] at h2
    refine Ev.step (fun k => ?_) h2
    rw [cottonpadlaw06_ExitsLater.l0, if_neg (by omega), show i = st.length by omega, curL_all]
    rfl
  | dd + 1, i, h => by
    have hv := checkF_zero hc
    have hi : i < st.length := by omega
    have hn := hv.built.nst
    have hl := curL_length (latS d) st i
    have h1 := stairB_iff.1 (hv.built.stair i hi)
    have hr : rd_T62 (curL (latS d) st i) (i : Int) = st[i] := by rw [rdT62_get (by omega), curL_get (latS d) st i hi, if_neg (by omega)]
    refine Ev.step (fun k => ?_) (latr_l0 dd (i + 1) (by omega))
    rw [cottonpadlaw06_ExitsLater.l0, if_pos (by omega), if_pos (by omega), if_pos (by omega), hr, span_f, wrap_succ hi (by omega), wrap_in (x := st[i].f3.f0 + d) (by omega), wrap_in (x := st[i].f3.f1 + d) (by omega), ← curL_succ (latS d) st hi]
    simp only [Option.bind_some, Int.toNat_natCast]
    rfl
end

theorem u16_of {z : Int} (h : (Lit.int .u16 z).wf = true) : 0 ≤ z ∧ z < 65536 := by
  simp [Lit.wf, IntKind.min, IntKind.max, IntKind.signed, IntKind.bits] at h
  omega
theorem u8_of {z : Int} (h : (Lit.int .u8 z).wf = true) : 0 ≤ z ∧ z < 256 := by
  simp [Lit.wf, IntKind.min, IntKind.max, IntKind.signed, IntKind.bits] at h
  omega
theorem ExitsLater_ev (st : List S62) (ch : List S81) (ps : List S48) {a2 a3 : Int} (h2 : 0 ≤ a2 ∧ a2 < 65536) (h3 : 0 ≤ a3 ∧ a3 < 256) : Ev (fun k => cottonpadlaw06_ExitsLater.f k st ch ps a2 a3) true := by
  have h0 : ∀ k, cottonpadlaw06_ExitsLater.f k st ch ps a2 a3 = (cottonpadlaw06_ready.f k st ch ps).bind fun t872 => (if t872 = true then (if (ps.length : Int) = 0 then cottonpadlaw06_ExitsLater.j0 k ps a2 a3 true true st ch else cottonpadlaw06_ExitsLater.j0 k ps a2 a3 true false st ch) else cottonpadlaw06_ExitsLater.j0 k ps a2 a3 true true st ch) := fun k => rfl
  have hE : Ev (fun k => cottonpadlaw06_ExitsLater.j0 k ps a2 a3 true true st ch) true := Ev.step (f := fun _ => some true) (fun k => by rw [cottonpadlaw06_ExitsLater.j0, if_pos rfl]) (Ev.now _)
  refine Ev.congr h0 (Ev.bind (ready_ev st ch ps) ?_)
  by_cases h : (!greatB st ch ps && checkF st ch ps == 0) = true
  · simp only [h, if_true]
    by_cases hps : (ps.length : Int) = 0
    · simp only [hps, if_true]; exact hE
    · simp only [hps, if_false]
      have hc := ready_out h
      have hs := check_small3 hc
      have hn0 := (checkF_zero hc).built.nst0
      have w2 : wrap64 a2 = a2 := wrap_in (by omega)
      have w3 : wrap64 a3 = a3 := wrap_in (by omega)
      have hidx : Int.tmod (wrap64 a3) (st.length : Int) = ((a3.toNat % st.length : Nat) : Int) := by
        rw [w3, Int.tmod_eq_emod_of_nonneg h3.1]
        have : a3 = ((a3.toNat : Nat) : Int) := (Int.toNat_of_nonneg h3.1).symm
        rw [this]; simp
      have hd : 0 ≤ Int.tmod (wrap64 a2) 1000 ∧ Int.tmod (wrap64 a2) 1000 < 1000 := by
        rw [w2, Int.tmod_eq_emod_of_nonneg h2.1]; omega
      have hl0 := latr_l0 hc (by omega) hd (Nat.mod_lt _ hn0) hidx st.length 0 (by omega)
      rw [curL_zero] at hl0
      refine Ev.step (fun k => ?_) hl0
      rw [cottonpadlaw06_ExitsLater.j0, if_neg (by simp), Twin_f hs.1 hs.2.1]
      simp only [Option.bind_some, List.length_nil, List.nil_append, Nat.zero_add]
      rw [if_pos (by have := hs.2.2; omega)]
      rfl
  · simp only [h, Bool.false_eq_true, if_false]; exact hE
end Go.Proofs.YtdeaccbolnlgpaaDoor.X
