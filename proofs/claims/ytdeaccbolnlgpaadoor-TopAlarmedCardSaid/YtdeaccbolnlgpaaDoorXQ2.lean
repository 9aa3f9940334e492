import Derived.Test.YtdeaccbolnlgpaaDoorXQ1
import Derived.Test.YtdeaccbolnlgpaaDoorXP4
import Derived.Test.YtdeaccbolnlgpaaDoorXN49
import Derived.Test.YtdeaccbolnlgpaaDoorXN46
import Derived.Test.YtdeaccbolnlgpaaDoorXN48
namespace Go.Proofs.YtdeaccbolnlgpaaDoor.X
open Go.RowKit Go.Proofs.YtdeaccbolnlgpaaDoorW.PrintWords Go.Proofs.YtdeaccbolnlgpaaDoorW.PrintLast Go.Proofs.YtdeaccbolnlgpaaDoorW.PrintMore
set_option linter.unusedVariables false
set_option linter.unusedSimpArgs false

/-! # What TopAlarmed calls -/
def curA {α : Type} (F : α → α) (l : List α) (i : Nat) : List α := l.mapIdx fun k a => if k < i then F a else a
section
variable {α : Type} (F : α → α) (l : List α)
theorem curA_length (i : Nat) : (curA F l i).length = l.length := by simp [curA]
theorem curA_get (i : Nat) {k : Nat} (hk : k < l.length) : (curA F l i)[k]'(by rw [curA_length]; exact hk) = if k < i then F l[k] else l[k] := by simp [curA]
theorem curA_zero : curA F l 0 = l := List.ext_getElem (curA_length ..) fun k h1 h2 => by rw [curA_get F l 0 h2, if_neg (by omega)]
theorem curA_all : curA F l l.length = l.map F := List.ext_getElem (by simp [curA_length]) fun k h1 h2 => by
  have hk : k < l.length := by simpa using h2
  rw [curA_get F l _ hk, if_pos hk, List.getElem_map]
theorem curA_succ {i : Nat} (hi : i < l.length) : (curA F l i).set i (F l[i]) = curA F l (i + 1) :=
  List.ext_getElem (by simp [curA_length]) fun k h1 h2 => by
    have hk : k < l.length := by rw [curA_length] at h2; exact h2
    rw [curA_get F l (i + 1) hk, List.getElem_set]
    by_cases e : i = k
    · subst e; rw [if_pos rfl, if_pos (by omega)]
    · rw [if_neg e, curA_get F l i hk]
      by_cases e2 : k < i
      · rw [if_pos e2, if_pos (by omega)]
      · rw [if_neg e2, if_neg (by omega)]
end

/-! ## after -/
section
variable {f l : Int} (hf : 0 ≤ f ∧ f ≤ 1000) (hl : 0 ≤ l ∧ l ≤ 1000) (st : List S62) (ch : List S81) {ps : List S48} (hn : ps.length ≤ 1000) (hb : ∀ x ∈ ps, 0 ≤ x.f2.f0 ∧ x.f2.f0 ≤ 100000 ∧ 0 ≤ x.f2.f1 ∧ x.f2.f1 ≤ 100000)
include hf hl hn hb
theorem after_l0 : ∀ d i : Nat, i + d = ps.length → Ev (fun k => cottonpadtop_topafter.l0 k f l st ch (curA (aftP f l) ps i) (ps.length : Int) (i : Int)) (ps.map (aftP f l), checkF st ch (ps.map (aftP f l)) == 0)
  | 0, i, h => by
    rw [show i = ps.length by omega, curA_all]
    refine Ev.step (f := fun k => (cottonpadref06_Check.f k st ch (ps.map (aftP f l))).bind fun t => some (ps.map (aftP f l), (t == 0))) (fun k => by rw [cottonpadtop_topafter.l0, if_neg (by omega)]) ?_
    exact Ev.bind (Check_ev st ch _) (Ev.now _)
  | d + 1, i, h => by
    have hi : i < ps.length := by omega
    have hlen := curA_length (aftP f l) ps i
    have hx := hb _ (List.getElem_mem hi)
    have hr : rd_T48 (curA (aftP f l) ps i) (i : Int) = ps[i] := by rw [rdT48_nat (by omega), curA_get (aftP f l) ps i hi, if_neg (by omega)]
    refine Ev.step (fun k => ?_) (after_l0 d (i + 1) (by omega))
    rw [cottonpadtop_topafter.l0, if_pos (by omega), if_pos (by omega), if_pos (by omega), hr, wrap_succ hi (by omega), wrap_in (x := 60 * f) (by omega), wrap_in (x := 60 * l) (by omega), wrap_in (x := ps[i].f2.f0 + 60 * f) (by omega), wrap_in (x := ps[i].f2.f1 + 60 * l) (by omega), Int.toNat_natCast, ← curA_succ (aftP f l) ps hi]
    rfl
theorem after_ev : Ev (fun k => cottonpadtop_topafter.f k f l ps st ch) (ps.map (aftP f l), checkF st ch (ps.map (aftP f l)) == 0) := by
  have h0 := after_l0 hf hl st ch hn hb ps.length 0 (by omega)
  rw [curA_zero] at h0
  refine Ev.congr (fun k => ?_) h0
  unfold cottonpadtop_topafter.f
  simp only [Option.bind_some, List.length_nil, List.nil_append, Nat.zero_add]
  rw [if_pos (by omega)]
  rfl
end

/-! ## the hotter room -/
theorem rdI_nat {l : List Int} {k : Nat} (h : k < l.length) : rd l (k : Int) = l[k] := by simp [rd, List.getD_eq_getElem?_getD, h]
section
variable {l3 l4 : List Int} (hn : l3.length ≤ 60) (h3 : ∀ x ∈ l3, 0 ≤ x ∧ x ≤ 2000) (h4 : ∀ x ∈ l4, 0 ≤ x ∧ x < 65536)
include hn h3 h4
theorem hot_l0 : ∀ d i : Nat, i + d = l3.length → ∀ acc : List Int, acc.length ≤ i → ∃ m : List Int, m.length = d ∧ (∀ (j : Nat) (h : j < d) (h' : i + j < l3.length) (h'' : j < m.length), l3[i + j] ≤ m[j] ∧ m[j] ≤ 2000) ∧ Ev (fun k => cottonpadtop_topHotter.l0 k l4 acc l3 (l3.length : Int) (i : Int)) (acc ++ m)
  | 0, i, h, acc, ha => ⟨[], rfl, fun j hj => by omega, by
    rw [List.append_nil]
    exact Ev.step (f := fun _ => some acc) (fun k => by rw [cottonpadtop_topHotter.l0, if_neg (by omega)]) (Ev.now _)⟩
  | d + 1, i, h, acc, ha => by
    have hi : i < l3.length := by omega
    have hx := h3 _ (List.getElem_mem hi)
    by_cases h0 : (l4.length : Int) > 0
    · have hp : 0 < l4.length := by omega
      have e1 : Int.tmod (i : Int) (l4.length : Int) = ((i % l4.length : Nat) : Int) := by
        rw [Int.tmod_eq_emod_of_nonneg (by omega)]; simp
      have hm := Nat.mod_lt i hp
      have hy := h4 _ (List.getElem_mem hm)
      have e2 : wrap64 (wrap64 (2000 - l3[i]) + 1) = 2000 - l3[i] + 1 := by rw [wrap_in (x := 2000 - l3[i]) (by omega), wrap_in (by omega)]
      have hq : 0 ≤ Int.tmod l4[i % l4.length] (2000 - l3[i] + 1) ∧ Int.tmod l4[i % l4.length] (2000 - l3[i] + 1) < 2000 - l3[i] + 1 := by
        rw [Int.tmod_eq_emod_of_nonneg hy.1]
        exact ⟨Int.emod_nonneg _ (by omega), Int.emod_lt_of_pos _ (by omega)⟩
      obtain ⟨m, hm1, hm2, hm3⟩ := hot_l0 d (i + 1) (by omega) (acc ++ [l3[i] + Int.tmod l4[i % l4.length] (2000 - l3[i] + 1)]) (by rw [List.length_append]; simp; omega)
      refine ⟨(l3[i] + Int.tmod l4[i % l4.length] (2000 - l3[i] + 1)) :: m, by rw [List.length_cons, hm1], fun j hj h' h'' => ?_, ?_⟩
      · cases j with
        | zero => simp only [Nat.add_zero, List.getElem_cons_zero]; omega
        | succ j =>
          have := hm2 j (by omega) (by omega) (by omega)
          simp only [List.getElem_cons_succ]
          simpa only [show i + 1 + j = i + (j + 1) by omega] using this
      · refine Ev.step (fun k => ?_) (by rw [List.append_assoc] at hm3; exact hm3)
        rw [cottonpadtop_topHotter.l0, if_pos (by omega), if_pos (by omega), if_pos (by omega), if_pos h0, if_neg (by omega), e1, if_pos (by omega), if_pos (by omega), rdI_nat hi, rdI_nat hm, e2, if_neg (by omega), if_pos (by omega), wrap_succ hi (by omega), wrap_in (x := l4[i % l4.length]) (by omega), wrap_in (x := l3[i] + _) (by omega)]
    · obtain ⟨m, hm1, hm2, hm3⟩ := hot_l0 d (i + 1) (by omega) (acc ++ [l3[i]]) (by rw [List.length_append]; simp; omega)
      refine ⟨l3[i] :: m, by rw [List.length_cons, hm1], fun j hj h' h'' => ?_, ?_⟩
      · cases j with
        | zero => simp only [Nat.add_zero, List.getElem_cons_zero]; omega
        | succ j =>
          have := hm2 j (by omega) (by omega) (by omega)
          simp only [List.getElem_cons_succ]
          simpa only [show i + 1 + j = i + (j + 1) by omega] using this
      · refine Ev.step (fun k => ?_) (by rw [List.append_assoc] at hm3; exact hm3)
        rw [cottonpadtop_topHotter.l0, if_pos (by omega), if_pos (by omega), if_pos (by omega), if_neg h0, if_pos (by omega), rdI_nat hi, wrap_succ hi (by omega)]
theorem hot_ev : ∃ m : List Int, LeL l3 m ∧ (∀ x ∈ m, 0 ≤ x ∧ x ≤ 2000) ∧ Ev (fun k => cottonpadtop_topHotter.f k l3 l4) m := by
  obtain ⟨m, hm1, hm2, hm3⟩ := hot_l0 hn h3 h4 l3.length 0 (by omega) [] (by simp)
  rw [List.nil_append] at hm3
  refine ⟨m, LeL.of_get hm1.symm fun i h1 h2 => ?_, fun x hx => ?_, hm3⟩
  · have := hm2 i h1 (by omega) h2
    simpa only [Nat.zero_add] using this.1
  · obtain ⟨i, hi, rfl⟩ := List.getElem_of_mem hx
    have h1 := hm2 i (by omega) (by omega) hi
    have h2 := h3 _ (List.getElem_mem (show i < l3.length by omega))
    simp only [Nat.zero_add] at h1
    omega
end

/-! ## heat and bulb -/
theorem heat_l0 {l : List Int} (hn : l.length ≤ 1000) : ∀ d i : Nat, i + d = l.length → ∃ b, Ev (fun k => cottonpadref05_Heat.l0 k l (i : Int)) b ∧ (b = true → l.length ≤ 60 ∧ ∀ (j : Nat) (h : j < l.length), i ≤ j → 0 ≤ l[j] ∧ l[j] ≤ 2000)
  | 0, i, h => ⟨decide ((l.length : Int) ≤ 60), Ev.step (f := fun _ => some _) (fun k => by rw [cottonpadref05_Heat.l0, if_neg (by omega)]) (Ev.now _), fun hb => ⟨by have := of_decide_eq_true hb; omega, fun j hj hij => by omega⟩⟩
  | d + 1, i, h => by
    have hi : i < l.length := by omega
    obtain ⟨b, h1, h2⟩ := heat_l0 hn d (i + 1) (by omega)
    by_cases hx : 0 ≤ l[i] ∧ l[i] ≤ 2000
    · refine ⟨b, Ev.step (fun k => ?_) h1, fun hb => ⟨(h2 hb).1, fun j hj hij => ?_⟩⟩
      · rw [cottonpadref05_Heat.l0, if_pos (by omega), if_pos (by omega), rdI_nat hi, cottonpadref05_within.f, if_pos hx.1, decide_eq_true hx.2, wrap_succ hi (by omega)]
        simp only [Option.bind_some, if_true]
      · rcases Nat.lt_or_ge i j with h3 | h3
        · exact (h2 hb).2 j hj (by omega)
        · have : j = i := by omega
          subst this; exact hx
    · refine ⟨false, Ev.step (f := fun _ => some false) (fun k => ?_) (Ev.now _), fun hb => by cases hb⟩
      rw [cottonpadref05_Heat.l0, if_pos (by omega), if_pos (by omega), rdI_nat hi, cottonpadref05_within.f]
      by_cases h3 : l[i] ≥ 0
      · rw [if_pos h3, decide_eq_false (by omega)]; simp
      · rw [if_neg h3]; simp
theorem heat_ev {l : List Int} (hn : l.length ≤ 1000) : ∃ b, Ev (fun k => cottonpadref05_Heat.f k l) b ∧ (b = true → l.length ≤ 60 ∧ ∀ x ∈ l, 0 ≤ x ∧ x ≤ 2000) := by
  obtain ⟨b, h1, h2⟩ := heat_l0 hn l.length 0 (by omega)
  refine ⟨b, h1, fun hb => ⟨(h2 hb).1, fun x hx => ?_⟩⟩
  obtain ⟨i, hi, rfl⟩ := List.getElem_of_mem hx
  exact (h2 hb).2 i hi (by omega)
def bulbOk (a0 a2 a3 a4 a5 a6 a7 : Int) : Prop := (0 ≤ a0 ∧ a0 ≤ 9999) ∧ (1 ≤ a2 ∧ a2 ≤ 500) ∧ (0 ≤ a3 ∧ a3 ≤ 100000) ∧ (0 ≤ a4 ∧ a4 ≤ a5 ∧ a5 ≤ 2000) ∧ (0 ≤ a6 ∧ a6 ≤ a7 ∧ a7 ≤ 10)
theorem hwithin_f (a lo hi : Int) : cottonpadref05_within.f a lo hi = some (decide (lo ≤ a ∧ a ≤ hi)) := by
  unfold cottonpadref05_within.f
  by_cases h : a ≥ lo
  · rw [if_pos h]; congr 1; exact decide_eq_decide.2 (by omega)
  · rw [if_neg h, decide_eq_false (by omega)]
theorem hspanned_f (a c lo hi : Int) : cottonpadref05_spanned.f a c lo hi = some (decide (lo ≤ a ∧ a ≤ c ∧ c ≤ hi)) := by
  unfold cottonpadref05_spanned.f
  by_cases h : a ≥ lo
  · rw [if_pos h]
    by_cases h2 : a ≤ c
    · rw [if_pos h2]; congr 1; exact decide_eq_decide.2 (by omega)
    · rw [if_neg h2, decide_eq_false (by omega)]
  · rw [if_neg h, decide_eq_false (by omega)]
theorem bulb_f (a0 a1 a2 a3 a4 a5 a6 a7 : Int) : ∃ b, cottonpadref05_Bulb.f a0 a1 a2 a3 a4 a5 a6 a7 = some b ∧ (b = true → bulbOk a0 a2 a3 a4 a5 a6 a7) := by
  unfold cottonpadref05_Bulb.f bulbOk
  simp only [hwithin_f, hspanned_f, Option.bind_some, decide_eq_true_eq]
  by_cases h0 : 0 ≤ a0 ∧ a0 ≤ 9999
  · rw [if_pos h0]
    by_cases h2 : 1 ≤ a2 ∧ a2 ≤ 500
    · rw [if_pos h2]
      by_cases h3 : 0 ≤ a3 ∧ a3 ≤ 100000
      · rw [if_pos h3]
        by_cases h4 : 0 ≤ a4 ∧ a4 ≤ a5 ∧ a5 ≤ 2000
        · rw [if_pos h4]
          exact ⟨_, rfl, fun hb => ⟨h0, h2, h3, h4, of_decide_eq_true hb⟩⟩
        · rw [if_neg h4]; exact ⟨_, rfl, fun hb => by cases hb⟩
      · rw [if_neg h3]; exact ⟨_, rfl, fun hb => by cases hb⟩
    · rw [if_neg h2]; exact ⟨_, rfl, fun hb => by cases hb⟩
  · rw [if_neg h0]; exact ⟨_, rfl, fun hb => by cases hb⟩

/-! ## spray.Bursts -/
theorem inB_of {lo hi : Int} {l : List Int} (h : ∀ x ∈ l, lo ≤ x ∧ x ≤ hi) : inB lo hi l = true := by
  unfold inB
  have : l.any (outB lo hi) = false := by
    rw [List.any_eq_false]
    intro x hx
    have := h x hx
    simp [outB]; omega
  rw [this]; rfl
theorem sprayIn_f {lo hi : Int} {l : List Int} (hn : l.length ≤ 60) (h : ∀ x ∈ l, lo ≤ x ∧ x ≤ hi) : spray_in.f lo hi l = some true := by
  unfold spray_in.f
  rw [if_pos (by omega), inB_of h]
theorem sprayOrdered_f {lo hi a c : Int} (h : lo ≤ a ∧ a ≤ c ∧ c ≤ hi) : spray_ordered.f lo hi a c = some true := by
  unfold spray_ordered.f
  rw [sprayIn_f (by simp) (by intro x hx; simp at hx; rcases hx with rfl | rfl <;> omega)]
  simp only [Option.bind_some, if_true, decide_eq_true h.2.1]
theorem bursts_f {a0 a1 a2 a3 a4 a5 a6 a7 : Int} (hk : bulbOk a0 a2 a3 a4 a5 a6 a7) (h1 : 1 ≤ a1 ∧ a1 ≤ 12) {l : List Int} (hn : l.length ≤ 60) (h : ∀ x ∈ l, 0 ≤ x ∧ x ≤ 2000) :
    spray_Bursts.f a0 a1 a2 a3 a4 a5 a6 a7 l = some (burstI l a4 a6, burstI l a5 a7, 0) := by
  obtain ⟨k0, k2, k3, k4, k5⟩ := hk
  have hm : spray_made.f a0 a1 a2 a3 a4 a5 a6 a7 12 = some true := by
    unfold spray_made.f
    rw [sprayIn_f (lo := 0) (hi := 9999) (by simp) (by intro x hx; simp at hx; omega), sprayIn_f (lo := 1) (hi := 12) (by simp) (by intro x hx; simp at hx; omega), sprayIn_f (lo := 1) (hi := 500) (by simp) (by intro x hx; simp at hx; omega), sprayIn_f (lo := 0) (hi := 100000) (by simp) (by intro x hx; simp at hx; omega), sprayOrdered_f k4, sprayOrdered_f k5]
    simp only [Option.bind_some, if_true]
  have hh : spray_heated.f l = some true := by
    unfold spray_heated.f
    rw [if_pos (by omega), sprayIn_f hn h]; rfl
  unfold spray_Bursts.f
  rw [hm, hh]
  simp only [Option.bind_some, if_true]
  rw [spray_bursts.f, if_pos (by omega), spray_bursts.f, if_pos (by omega)]
  rfl
end Go.Proofs.YtdeaccbolnlgpaaDoor.X
