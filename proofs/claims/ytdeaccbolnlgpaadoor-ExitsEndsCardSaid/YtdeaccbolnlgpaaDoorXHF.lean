import Derived.Test.YtdeaccbolnlgpaaDoorXN44
import Derived.Test.YtdeaccbolnlgpaaDoorXPN
import Derived.Test.YtdeaccbolnlgpaaDoorXP6G
namespace Go.Proofs.YtdeaccbolnlgpaaDoor.X
open Go.RowKit Go.Proofs.YtdeaccbolnlgpaaDoorW.PrintWords Go.Proofs.YtdeaccbolnlgpaaDoorW.PrintLast Go.Proofs.YtdeaccbolnlgpaaDoorW.PrintMore
set_option linter.unusedVariables false
set_option linter.unusedSimpArgs false

/-! # law06.fixed: its contract -/
/-! ## One after the other -/
def curM {α : Type} (F : α → α) (l : List α) (i : Nat) : List α := l.mapIdx fun k a => if k < i then F a else a
section
variable {α : Type} (F : α → α) (l : List α)
theorem curM_length (i : Nat) : (curM F l i).length = l.length := by simp [curM]
theorem curM_get (i : Nat) {k : Nat} (hk : k < l.length) : (curM F l i)[k]'(by rw [curM_length]; exact hk) = if k < i then F l[k] else l[k] := by simp [curM]
theorem curM_zero : curM F l 0 = l := List.ext_getElem (curM_length ..) fun k h1 h2 => by rw [curM_get F l 0 h2, if_neg (by omega)]
theorem curM_all : curM F l l.length = l.map F := List.ext_getElem (by simp [curM_length]) fun k h1 h2 => by
  have hk : k < l.length := by simpa using h2
  rw [curM_get F l _ hk, if_pos hk, List.getElem_map]
theorem curM_succ {i : Nat} (hi : i < l.length) : (curM F l i).set i (F l[i]) = curM F l (i + 1) :=
  List.ext_getElem (by simp [curM_length]) fun k h1 h2 => by
    have hk : k < l.length := by rw [curM_length] at h2; exact h2
    rw [curM_get F l (i + 1) hk, List.getElem_set]
    by_cases e : i = k
    · subst e; rw [if_pos rfl, if_pos (by omega)]
    · rw [if_neg e, curM_get F l i hk]
      by_cases e2 : k < i
      · rw [if_pos e2, if_pos (by omega)]
      · rw [if_neg e2, if_neg (by omega)]
end
theorem early_p (b : Bool) (s : S36) : cottonpadlaw06_fixedearly.f b s.f0 s.f1 = some (paceS b s, paceS b s) := by cases b <;> rfl
theorem early_s (b : Bool) (s : S36) : cottonpadlaw06_fixedearly.f b s.f0 s.f1 = some (smokeS b s, smokeS b s) := by cases b <;> rfl
theorem late_t (b : Bool) (s : S36) : cottonpadlaw06_fixedlate.f b s.f0 s.f1 = some (timeS b s, timeS b s) := by cases b <;> rfl

section
variable (b : Bool) {st : List S62} {ch : List S81} {ps : List S48} (h3 : small3 st ch ps)
include h3
theorem fixed_l2 : ∀ d i : Nat, i + d = ps.length → Ev (fun k => cottonpadlaw06_fixedW.l2 k b (curM (fixP b) ps i) (ps.length : Int) (i : Int) (st.map (fixS b)) (ch.map (fixC b))) (st.map (fixS b), ch.map (fixC b), ps.map (fixP b))
  | 0, i, h => by
    rw [show i = ps.length by omega, curM_all]
    exact Ev.step (f := fun _ => some _) (fun k => by rw [cottonpadlaw06_fixedW.l2, if_neg (by omega)]) (Ev.now _)
  | d + 1, i, h => by
    have hi : i < ps.length := by omega
    have hn := h3.2.2
    have hl := curM_length (fixP b) ps i
    have hr : rd_T48 (curM (fixP b) ps i) (i : Int) = ps[i] := by rw [rdT48_nat (by omega), curM_get (fixP b) ps i hi, if_neg (by omega)]
    refine Ev.step (fun k => ?_) (fixed_l2 d (i + 1) (by omega))
    rw [cottonpadlaw06_fixedW.l2, if_pos (by omega), if_pos (by omega), if_pos (by omega), wrap_succ hi (by omega), hr, early_p, late_t]
    simp only [Option.bind_some, Int.toNat_natCast]
    have hy : rd_T48 ((curM (fixP b) ps i).set i (⟨ps[i].f0, (⟨paceS b ps[i].f1, paceS b ps[i].f1⟩ : S36), (⟨ps[i].f2.f0, ps[i].f2.f1⟩ : S36)⟩ : S48)) (i : Int) = ⟨ps[i].f0, (⟨paceS b ps[i].f1, paceS b ps[i].f1⟩ : S36), (⟨ps[i].f2.f0, ps[i].f2.f1⟩ : S36)⟩ := by
      rw [rdT48_nat (by rw [List.length_set]; omega), List.getElem_set_self]
    rw [hy]
    simp only
    rw [List.set_set, ← curM_succ (fixP b) ps hi]
    rfl
theorem fixed_l1 : ∀ d i : Nat, i + d = ch.length → Ev (fun k => cottonpadlaw06_fixedW.l1 k b ps (ch.length : Int) (i : Int) (st.map (fixS b)) (curM (fixC b) ch i)) (st.map (fixS b), ch.map (fixC b), ps.map (fixP b))
  | 0, i, h => by
    have h2 := fixed_l2 b h3 ps.length 0 (by omega)
    rw [curM_zero] at h2
    refine Ev.step (fun k => ?_) h2
    rw [cottonpadlaw06_fixedW.l1, if_neg (by omega), show i = ch.length by omega, curM_all]
    rfl
  | d + 1, i, h => by
    have hi : i < ch.length := by omega
    have hn := h3.2.1
    have hl := curM_length (fixC b) ch i
    have hr : rd_T81 (curM (fixC b) ch i) (i : Int) = ch[i] := by rw [rdT81_nat (by omega), curM_get (fixC b) ch i hi, if_neg (by omega)]
    refine Ev.step (fun k => ?_) (fixed_l1 d (i + 1) (by omega))
    rw [cottonpadlaw06_fixedW.l1, if_pos (by omega), if_pos (by omega), if_pos (by omega), wrap_succ hi (by omega), hr, early_s]
    simp only [Option.bind_some, Int.toNat_natCast]
    rw [← curM_succ (fixC b) ch hi]
    rfl
theorem fixed_l0 : ∀ d i : Nat, i + d = st.length → Ev (fun k => cottonpadlaw06_fixedW.l0 k b ps (st.length : Int) (i : Int) (curM (fixS b) st i) ch) (st.map (fixS b), ch.map (fixC b), ps.map (fixP b))
  | 0, i, h => by
    have h2 := fixed_l1 b h3 ch.length 0 (by omega)
    rw [curM_zero] at h2
    refine Ev.step (fun k => ?_) h2
    rw [cottonpadlaw06_fixedW.l0, if_neg (by omega), show i = st.length by omega, curM_all]
    rfl
  | d + 1, i, h => by
    have hi : i < st.length := by omega
    have hn := h3.1
    have hl := curM_length (fixS b) st i
    have hr : rd_T62 (curM (fixS b) st i) (i : Int) = st[i] := by rw [rdT62_get (by omega), curM_get (fixS b) st i hi, if_neg (by omega)]
    refine Ev.step (fun k => ?_) (fixed_l0 d (i + 1) (by omega))
    rw [cottonpadlaw06_fixedW.l0, if_pos (by omega), if_pos (by omega), if_pos (by omega), wrap_succ hi (by omega), hr, late_t, early_s]
    simp only [Option.bind_some, Int.toNat_natCast]
    have hy : rd_T62 ((curM (fixS b) st i).set i (⟨st[i].f0, st[i].f1, (⟨timeS b st[i].f2, timeS b st[i].f2⟩ : S36), (⟨st[i].f3.f0, st[i].f3.f1⟩ : S36)⟩ : S62)) (i : Int) = ⟨st[i].f0, st[i].f1, (⟨timeS b st[i].f2, timeS b st[i].f2⟩ : S36), (⟨st[i].f3.f0, st[i].f3.f1⟩ : S36)⟩ := by
      rw [rdT62_get (by rw [List.length_set]; omega), List.getElem_set_self]
    rw [hy]
    simp only
    rw [List.set_set, ← curM_succ (fixS b) st hi]
    rfl
theorem fixedW_ev : Ev (fun k => cottonpadlaw06_fixedW.f k st ch ps b) (st.map (fixS b), ch.map (fixC b), ps.map (fixP b)) := by
  have h0 := fixed_l0 b h3 st.length 0 (by omega)
  rw [curM_zero] at h0
  refine Ev.congr (fun k => ?_) h0
  unfold cottonpadlaw06_fixedW.f
  rw [Twin_f h3.1 h3.2.1]
  simp only [Option.bind_some, List.length_nil, List.nil_append, Nat.zero_add]
  rw [if_pos (by have := h3.2.2; omega)]
  rfl
end

def cottonpadlaw06_fixed.f (l0_0 : List (S62)) (l0_1 : List (S81)) (l1 : List (S48)) (a2 : Bool) : Option ((List (S62)) × (List (S81)) × (List (S48))) := if small3 l0_0 l0_1 l1 then some (l0_0.map (fixS a2), l0_1.map (fixC a2), l1.map (fixP a2)) else none
theorem cottonpadlaw06_fixed.calls (A0_0 : Option Addr) (c0_0 : Nat) (l0_0 : List (S62)) (A0_1 : Option Addr) (c0_1 : Nat) (l0_1 : List (S81)) (A1 : Option Addr) (c1 : Nat) (l1 : List (S48)) (a2 : Bool) (r1 : List (S62)) (r2 : List (S81)) (r3 : List (S48)) (w : World) (hr0_0 : Kd.C k62 w A0_0 l0_0.length l0_0) (hc0_0 : l0_0.length ≤ c0_0) (hr0_1 : Kd.C k81 w A0_1 l0_1.length l0_1) (hc0_1 : l0_1.length ≤ c0_1) (hr1 : Kd.C k48 w A1 l1.length l1) (hc1 : l1.length ≤ c1) (h : cottonpadlaw06_fixed.f l0_0 l0_1 l1 a2 = some (r1, r2, r3)) :
    Calls Tryd.prog 44 #[.agg #[.slice A0_0 l0_0.length c0_0, .slice A0_1 l0_1.length c0_1], .slice A1 l1.length c1, .bool a2] w fun e w' => ∃ v0_ v1_ v2_ : Value, e = .returned (.tuple #[.agg #[v0_, v1_], v2_]) ∧ Kd.R k62 62 w' w.heap.size (fun _ => True) v0_ r1 ∧ Kd.R k81 81 w' w.heap.size (fun _ => True) v1_ r2 ∧ Kd.R k48 48 w' w.heap.size (fun _ => True) v2_ r3 ∧ Below w.heap.size w w' := by
  unfold cottonpadlaw06_fixed.f at h
  split at h
  · rename_i hs
    obtain ⟨K, hK⟩ := (fixedW_ev a2 hs).rounds
    rw [Option.some.inj h] at hK
    exact cottonpadlaw06_fixedW.calls K A0_0 c0_0 l0_0 A0_1 c0_1 l0_1 A1 c1 l1 a2 r1 r2 r3 w hr0_0 hc0_0 hr0_1 hc0_1 hr1 hc1 hK
  · cases h
theorem fixed_f {st : List S62} {ch : List S81} {ps : List S48} (h : small3 st ch ps) (b : Bool) : cottonpadlaw06_fixed.f st ch ps b = some (st.map (fixS b), ch.map (fixC b), ps.map (fixP b)) := if_pos h
end Go.Proofs.YtdeaccbolnlgpaaDoor.X
