import Derived.Test.YtdeaccbolnlgpaaDoorXQ2
import Derived.Test.YtdeaccbolnlgpaaDoorXHMore
import Derived.Test.YtdeaccbolnlgpaaDoorXN9
namespace Go.Proofs.YtdeaccbolnlgpaaDoor.X
open Go.RowKit Go.Proofs.YtdeaccbolnlgpaaDoorW.PrintWords Go.Proofs.YtdeaccbolnlgpaaDoorW.PrintLast Go.Proofs.YtdeaccbolnlgpaaDoorW.PrintMore
set_option linter.unusedVariables false
set_option linter.unusedSimpArgs false
set_option linter.unusedSectionVars false

/-! # The plain law of TopAlarmed -/
section
variable {st : List S62} {ch : List S81} {ps : List S48} (hc : checkF st ch ps = 0) (hps : ps.length ≠ 0) {a0 a1 a2 a3 a4 a5 a6 a7 : Int} (hk : bulbOk a0 a2 a3 a4 a5 a6 a7) (h1 : 1 ≤ a1 ∧ a1 ≤ 12)
  {l3 l4 : List Int} (hn : l3.length ≤ 60) (h3 : ∀ x ∈ l3, 0 ≤ x ∧ x ≤ 2000) (h4 : ∀ x ∈ l4, 0 ≤ x ∧ x < 65536)
include hc hps
theorem alarmed_j3 {F L F2 L2 : Int} (hFL : 1 ≤ F ∧ F ≤ L ∧ L ≤ 60) (h2 : 1 ≤ F2 ∧ F2 ≤ L2 ∧ F2 ≤ F ∧ L2 ≤ L) (c2 : checkF st ch (ps.map (aftP F L)) = 0) :
    Ev (fun k => cottonpadtop_TopAlarmed.j3 k ps true (safeF st ch (ps.map (aftP F L))).1 F2 L2 false st ch st ch (lastT false st ch ps st.length + 60 * F) (lastT true st ch ps st.length + 60 * L)) true := by
  have hv := checkF_zero hc
  have hs := check_small3 hc
  have c3 : checkF st ch (ps.map (aftP F2 L2)) = 0 := checkF_of (aft_valid (by omega) (by omega) hv (checkF_zero c2))
  have o1 : outF st ch ps = (lastT false st ch ps st.length, lastT true st ch ps st.length, 0) := if_pos hc
  have o3 := aft_out (by omega : 0 ≤ F2 ∧ F2 ≤ L2) hc hps c3
  rw [o1] at o3
  have s3 := (safeF_two c3).1
  have hle := aft_safe (by omega : F2 ≤ F) (by omega : L2 ≤ L) c2 c3
  refine Ev.step (fun k => by rw [cottonpadtop_TopAlarmed.j3, if_neg (by simp)]) ?_
  refine Ev.bind (after_ev (by omega) (by omega) st ch (by have := hs.2.2; omega : ps.length ≤ 1000) fun x hx => by have := livesB_iff.1 (hv.lives x hx); omega) ?_
  simp only [c3, beq_self_eq_true, if_true, exitsOut_f (check_small3 c3), exitsSafe_f (check_small3 c3), Option.bind_some, o3, s3]
  refine Ev.congr (f := fun _ => some true) (fun k => ?_) (Ev.now _)
  rw [if_pos (by omega), if_pos (by omega), decide_eq_true hle]
include hk h1 hn h3 h4
theorem alarmed_j2 (hL : 0 < burstI l3 a5 a7) (c2 : checkF st ch (ps.map (aftP (burstI l3 a4 a6) (burstI l3 a5 a7))) = 0) :
    Ev (fun k => cottonpadtop_TopAlarmed.j2 k ps l3 l4 true (burstI l3 a4 a6) (burstI l3 a5 a7) (safeF st ch (ps.map (aftP (burstI l3 a4 a6) (burstI l3 a5 a7)))).1 false st ch st ch a0 a1 a2 a3 a4 a5 a6 a7 (lastT false st ch ps st.length + 60 * burstI l3 a4 a6) (lastT true st ch ps st.length + 60 * burstI l3 a5 a7)) true := by
  obtain ⟨m, hm1, hm2, hm3⟩ := hot_ev hn h3 h4
  have hk' := hk
  obtain ⟨k0, k2, k3, k4, k5⟩ := hk'
  have hml := hm1.length
  have b1 := burst_mono (by omega : a4 ≤ a5) (by omega : 0 ≤ a6 ∧ a6 ≤ a7) (LeL.refl l3) hL
  have b2 := burst_mono (Int.le_refl a5) (by omega : 0 ≤ a7 ∧ a7 ≤ a7) hm1 hL
  have b3 := burst_mono (Int.le_refl a4) (by omega : 0 ≤ a6 ∧ a6 ≤ a6) hm1 (by omega : 0 < burstI l3 a4 a6)
  have b4 := burst_mono (by omega : a4 ≤ a5) (by omega : 0 ≤ a6 ∧ a6 ≤ a7) (LeL.refl m) (by omega : 0 < burstI m a5 a7)
  have b5 := burst_within l3 a5 (by omega : 0 ≤ a7)
  refine Ev.step (fun k => by rw [cottonpadtop_TopAlarmed.j2, if_neg (by simp)]) ?_
  refine Ev.bind hm3 ?_
  simp only [bursts_f hk h1 (by omega : m.length ≤ 60) hm2, Option.bind_some, if_true]
  refine Ev.congr (f := fun k => cottonpadtop_TopAlarmed.j3 k ps true (safeF st ch (ps.map (aftP (burstI l3 a4 a6) (burstI l3 a5 a7)))).1 (burstI m a4 a6) (burstI m a5 a7) false st ch st ch (lastT false st ch ps st.length + 60 * burstI l3 a4 a6) (lastT true st ch ps st.length + 60 * burstI l3 a5 a7)) (fun k => ?_) (alarmed_j3 hc hps (by omega) (by omega) c2)
  rw [if_neg (by omega), if_neg (by omega), if_neg (by omega), decide_eq_false (by omega)]
theorem alarmed_j1 (hL : 0 ≤ burstI l3 a5 a7) (hF : 0 < burstI l3 a5 a7 → 1 ≤ burstI l3 a4 a6 ∧ burstI l3 a4 a6 ≤ burstI l3 a5 a7) :
    Ev (fun k => cottonpadtop_TopAlarmed.j1 k ps l3 l4 true (burstI l3 a4 a6) (burstI l3 a5 a7) false st ch a0 a1 a2 a3 a4 a5 a6 a7) true := by
  have hv := checkF_zero hc
  have hs := check_small3 hc
  have hk' := hk
  obtain ⟨k0, k2, k3, k4, k5⟩ := hk'
  have b5 := burst_within l3 a5 (by omega : 0 ≤ a7)
  by_cases h0 : burstI l3 a5 a7 = 0
  · exact Ev.step (f := fun _ => some true) (fun k => by rw [cottonpadtop_TopAlarmed.j1, if_neg (by simp), if_pos h0]) (Ev.now _)
  · have hF' := hF (by omega)
    refine Ev.step (fun k => by rw [cottonpadtop_TopAlarmed.j1, if_neg (by simp), if_neg h0]) ?_
    refine Ev.bind (after_ev (by omega) (by omega) st ch (by have := hs.2.2; omega : ps.length ≤ 1000) fun x hx => by have := livesB_iff.1 (hv.lives x hx); omega) ?_
    by_cases c2 : checkF st ch (ps.map (aftP (burstI l3 a4 a6) (burstI l3 a5 a7))) = 0
    · have o1 : outF st ch ps = (lastT false st ch ps st.length, lastT true st ch ps st.length, 0) := if_pos hc
      have o3 := aft_out (by omega : 0 ≤ burstI l3 a4 a6 ∧ burstI l3 a4 a6 ≤ burstI l3 a5 a7) hc hps c2
      rw [o1] at o3
      have s1 := (safeF_two hc).1
      have s2 := (safeF_two c2).1
      have hle : (safeF st ch (ps.map (aftP (burstI l3 a4 a6) (burstI l3 a5 a7)))).1 ≤ (safeF st ch ps).1 := by
        have := aft_safe (f2 := 0) (l2 := 0) (by omega) (by omega) c2 (by rw [aft_zero]; exact hc)
        rwa [aft_zero] at this
      have n1 := lastT_within (b := false) hv st.length (Nat.le_refl _)
      have n2 := lastT_within (b := true) hv st.length (Nat.le_refl _)
      simp only [c2, beq_self_eq_true, if_true, exitsOut_f hs, exitsOut_f (check_small3 c2), exitsSafe_f hs, exitsSafe_f (check_small3 c2), Option.bind_some, o1, o3, s1, s2]
      refine Ev.congr (fun k => ?_) (alarmed_j2 hc hps hk h1 hn h3 h4 (by omega) c2)
      rw [wrap_in (x := 60 * burstI l3 a4 a6) (by omega), wrap_in (x := 60 * burstI l3 a5 a7) (by omega), wrap_in (x := lastT false st ch ps st.length + 60 * burstI l3 a4 a6) (by omega), wrap_in (x := lastT true st ch ps st.length + 60 * burstI l3 a5 a7) (by omega), decide_eq_false (by omega)]
      simp only [beq_self_eq_true, Bool.not_true, Bool.or_self, Bool.false_eq_true, if_false]
    · have e : (checkF st ch (ps.map (aftP (burstI l3 a4 a6) (burstI l3 a5 a7))) == 0) = false := beq_eq_false_iff_ne.2 c2
      simp only [e, Bool.false_eq_true, if_false]
      exact Ev.now _
theorem alarmed_j0 : Ev (fun k => cottonpadtop_TopAlarmed.j0 k ps l3 l4 true false st ch a0 a1 a2 a3 a4 a5 a6 a7) true := by
  have hk' := hk
  obtain ⟨k0, k2, k3, k4, k5⟩ := hk'
  have b5 := burst_within l3 a5 (by omega : 0 ≤ a7)
  have hF : 0 < burstI l3 a5 a7 → 1 ≤ burstI l3 a4 a6 ∧ burstI l3 a4 a6 ≤ burstI l3 a5 a7 := fun hL => burst_mono (by omega : a4 ≤ a5) (by omega : 0 ≤ a6 ∧ a6 ≤ a7) (LeL.refl l3) hL
  refine Ev.step (fun k => ?_) (alarmed_j1 hc hps hk h1 hn h3 h4 b5.1 hF)
  rw [cottonpadtop_TopAlarmed.j0, if_neg (by simp), bursts_f hk h1 hn h3]
  simp only [Option.bind_some, if_true]
  by_cases hL : 0 < burstI l3 a5 a7
  · have := hF hL
    rw [if_pos hL, if_neg (by omega), decide_eq_false (by omega)]
  · rw [if_neg hL]
end
theorem TopAlarmed_ev (st : List S62) (ch : List S81) (ps : List S48) (a0 a1 a2 a3 a4 a5 a6 a7 : Int) (l3 l4 : List Int) (h4 : ∀ x ∈ l4, 0 ≤ x ∧ x < 65536) :
    Ev (fun k => cottonpadtop_TopAlarmed.f k st ch ps a0 a1 a2 a3 a4 a5 a6 a7 l3 l4) true := by
  have hE : Ev (fun k => cottonpadtop_TopAlarmed.j0 k ps l3 l4 true true st ch a0 a1 a2 a3 a4 a5 a6 a7) true := Ev.step (f := fun _ => some true) (fun k => by rw [cottonpadtop_TopAlarmed.j0, if_pos rfl]) (Ev.now _)
  unfold cottonpadtop_TopAlarmed.f cottonpadtop_alive06_t.f
  simp only [Great_f, Option.bind_some]
  by_cases g : greatB st ch ps = true
  · simp only [g, if_true]; exact hE
  · simp only [g, Bool.false_eq_true, if_false]
    refine Ev.bind (Check_ev st ch ps) ?_
    by_cases hc : checkF st ch ps = 0
    · simp only [if_pos hc]
      by_cases hp : (ps.length : Int) = 0
      · simp only [if_pos hp]; exact hE
      · simp only [if_neg hp]
        by_cases c1 : a1 < 1
        · simp only [if_pos c1]; exact hE
        · simp only [if_neg c1]
          by_cases c2 : a1 > 12
          · simp only [if_pos c2]; exact hE
          · simp only [if_neg c2]
            obtain ⟨b, hb1, hb2⟩ := bulb_f a0 a1 a2 a3 a4 a5 a6 a7
            simp only [hb1, Option.bind_some]
            cases b with
            | false => simp only [Bool.false_eq_true, if_false]; exact hE
            | true =>
              simp only [if_true]
              by_cases c3 : (l3.length : Int) > 60
              · simp only [if_pos c3]; exact hE
              · simp only [if_neg c3]
                obtain ⟨b, hh1, hh2⟩ := heat_ev (l := l3) (by omega)
                refine Ev.bind hh1 ?_
                cases b with
                | false => simp only [Bool.false_eq_true, if_false]; exact hE
                | true =>
                  simp only [if_true, Bool.not_true]
                  exact alarmed_j0 hc (by omega) (hb2 rfl) (by omega) (hh2 rfl).1 (hh2 rfl).2 h4
    · simp only [if_neg hc]; exact hE
end Go.Proofs.YtdeaccbolnlgpaaDoor.X
