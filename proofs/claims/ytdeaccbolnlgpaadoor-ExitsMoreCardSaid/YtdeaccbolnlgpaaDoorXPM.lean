import Derived.Test.YtdeaccbolnlgpaaDoorXP4
import Derived.Test.YtdeaccbolnlgpaaDoorXN14
namespace Go.Proofs.YtdeaccbolnlgpaaDoor.X
open Go.RowKit Go.Proofs.YtdeaccbolnlgpaaDoorW.PrintWords Go.Proofs.YtdeaccbolnlgpaaDoorW.PrintLast Go.Proofs.YtdeaccbolnlgpaaDoorW.PrintMore
set_option linter.unusedVariables false
set_option linter.unusedSimpArgs false

/-! # The plain law of ExitsMore -/
theorem moreN_spec (st : List S62) (ch : List S81) (ps : List S48) (x : S48) : ∀ d n, lateF true st ch (addN ps x n) = (-1, -1) →
    ∃ j : Nat, moreN st ch ps x n d = ((n + j : Nat) : Int) ∧ j ≤ d ∧ lateF true st ch (addN ps x (n + j)) = (-1, -1) ∧ (j < d → lateF true st ch (addN ps x (n + j + 1)) ≠ (-1, -1))
  | 0, n, h => ⟨0, rfl, Nat.le_refl _, h, fun h => absurd h (by omega)⟩
  | d + 1, n, h => by
    rw [moreN]
    by_cases h1 : lateF true st ch (addN ps x (n + 1)) = (-1, -1)
    · rw [if_pos h1]
      obtain ⟨j, e, h2, h3, h4⟩ := moreN_spec st ch ps x d (n + 1) h1
      have a : n + 1 + j = n + (j + 1) := by omega
      refine ⟨j + 1, by rw [e, a], by omega, by rw [← a]; exact h3, fun h5 => ?_⟩
      have := h4 (by omega)
      rwa [show n + 1 + j + 1 = n + (j + 1) + 1 by omega] at this
    · rw [if_neg h1]
      exact ⟨0, rfl, by omega, h, fun _ => h1⟩

section
variable {st : List S62} {ch : List S81} {ps : List S48} {x : S48} (hc : checkF st ch ps = 0) (hl : livesB ch.length x = true) {j : Nat} (hj : ps.length + j ≤ 24)
  (hsafe : lateF true st ch (addN ps x j) = (-1, -1)) (hnext : ps.length + j < 24 → lateF true st ch (addN ps x (j + 1)) ≠ (-1, -1))
include hc hl hj hsafe hnext
theorem more_l0 : ∀ d i : Nat, i + d = j → Ev (fun k => cottonpadlaw06_ExitsMore.l0 k true (addN ps x i) (j : Int) (i : Int) st ch x.f0 x.f1.f0 x.f1.f1 x.f2.f0 x.f2.f1) true
  | 0, i, hd => by
    obtain rfl : i = j := by omega
    have hc1 := checkF_add hc hl i
    rw [if_pos hj] at hc1
    obtain ⟨h0, h2⟩ := safeF_two hc1
    have hlen := addN_length ps x i
    refine Ev.step (f := fun k => cottonpadlaw06_ExitsMore.j4 k true (addN ps x i) false st ch x.f0 x.f1.f0 x.f1.f1 x.f2.f0 x.f2.f1) (fun k => ?_) (Ev.step (f := fun _ => some true) (fun k => ?_) (Ev.now _))
    · rw [cottonpadlaw06_ExitsMore.l0, if_neg (by omega), exitsSafe_f (check_small3 hc1)]
      simp only [Option.bind_some]
      rw [if_pos h0, h2.2 hsafe]; rfl
    · rw [cottonpadlaw06_ExitsMore.j4, if_neg (by simp)]
      by_cases h24 : ((addN ps x i).length : Int) = 24
      · rw [if_pos h24]
      · have hc2 := checkF_add hc hl (i + 1)
        rw [if_pos (by omega)] at hc2
        obtain ⟨e0, e2⟩ := safeF_two hc2
        have hne : (safeF st ch (addN ps x (i + 1))).1 ≠ 2 := fun h => hnext (by omega) (e2.1 h)
        rw [if_neg h24, if_pos (by omega)]
        show Option.bind (exits_Safe.f st ch (addN ps x i ++ [x])) _ = _
        rw [addN_succ, exitsSafe_f (check_small3 hc2)]
        simp only [Option.bind_some, if_true]
        rw [if_pos e0, bne_iff_ne.2 hne]
  | d + 1, i, hd => by
    have hlen := addN_length ps x i
    refine Ev.step (fun k => ?_) (more_l0 d (i + 1) (by omega))
    rw [cottonpadlaw06_ExitsMore.l0, if_pos (by omega), if_pos (by omega), wrap_succ (by omega : i < j) (by omega), ← addN_succ]
end

theorem ExitsMore_ev (st : List S62) (ch : List S81) (ps : List S48) (x : S48) : Ev (fun k => cottonpadlaw06_ExitsMore.f k st ch ps x.f0 x.f1.f0 x.f1.f1 x.f2.f0 x.f2.f1) true := by
  have h0 : ∀ k, cottonpadlaw06_ExitsMore.f k st ch ps x.f0 x.f1.f0 x.f1.f1 x.f2.f0 x.f2.f1 = (cottonpadlaw06_ready.f k st ch ps).bind fun t1000 => (if t1000 = true then ((cottonpadlaw06_ready.f k st ch [x]).bind fun t1004 => (if t1004 = true then cottonpadlaw06_ExitsMore.j0 k ps true false st ch x.f0 x.f1.f0 x.f1.f1 x.f2.f0 x.f2.f1 else cottonpadlaw06_ExitsMore.j0 k ps true true st ch x.f0 x.f1.f0 x.f1.f1 x.f2.f0 x.f2.f1)) else cottonpadlaw06_ExitsMore.j0 k ps true true st ch x.f0 x.f1.f0 x.f1.f1 x.f2.f0 x.f2.f1) := fun k => rfl
  have hE : Ev (fun k => cottonpadlaw06_ExitsMore.j0 k ps true true st ch x.f0 x.f1.f0 x.f1.f1 x.f2.f0 x.f2.f1) true := Ev.step (f := fun _ => some true) (fun k => by rw [cottonpadlaw06_ExitsMore.j0, if_pos rfl]) (Ev.now _)
  refine Ev.congr h0 (Ev.bind (ready_ev st ch ps) ?_)
  by_cases h : (!greatB st ch ps && checkF st ch ps == 0) = true
  · simp only [h, if_true]
    refine Ev.bind (ready_ev st ch [x]) ?_
    by_cases hx : (!greatB st ch [x] && checkF st ch [x] == 0) = true
    · simp only [hx, if_true]
      have hc := ready_out h
      have hl : livesB ch.length x = true := (checkF_zero (ready_out hx)).lives x (by simp)
      have h3 := check_small3 hc
      have hn := (checkF_zero hc).nps
      obtain ⟨hs0, hs2⟩ := safeF_two hc
      by_cases hF : lateF true st ch ps = (-1, -1)
      · obtain ⟨j, e, hj, hsafe, hnext⟩ := moreN_spec st ch ps x (24 - ps.length) 0 (by rw [addN_zero]; exact hF)
        rw [Nat.zero_add] at e hsafe hnext
        have hm : moreF st ch ps x = ((j : Int), 0) := by unfold moreF; rw [if_pos hc, if_pos hl, if_pos hF, e]
        have hl0 := more_l0 hc hl (by omega) hsafe (fun h => hnext (by omega)) j 0 (by omega)
        rw [addN_zero] at hl0
        refine Ev.step (f := fun k => cottonpadlaw06_ExitsMore.j1 k ps true (j : Int) 0 false st ch x.f0 x.f1.f0 x.f1.f1 x.f2.f0 x.f2.f1) (fun k => ?_) (Ev.step (f := fun k => cottonpadlaw06_ExitsMore.j2 k ps true (j : Int) false st ch x.f0 x.f1.f0 x.f1.f1 x.f2.f0 x.f2.f1) (fun k => ?_) (Ev.step (fun k => ?_) hl0))
        · rw [cottonpadlaw06_ExitsMore.j0, if_neg (by simp), exitsMore_f h3, exitsSafe_f h3]
          simp only [Option.bind_some]
          rw [hm, if_pos hs0, hs2.2 hF]; rfl
        · rw [cottonpadlaw06_ExitsMore.j1, if_neg (by simp), if_pos rfl, if_neg (by omega), wrap_in (by omega), decide_eq_false (by omega)]
        · rw [cottonpadlaw06_ExitsMore.j2, if_neg (by simp)]
          simp only [Option.bind_some, List.length_nil, List.nil_append, Nat.zero_add]
          rw [if_pos (by omega)]
          rfl
      · have hm : moreF st ch ps x = (0, 8) := by unfold moreF; rw [if_pos hc, if_pos hl, if_neg hF]
        have hne : ((safeF st ch ps).1 == 2) = false := beq_eq_false_iff_ne.2 fun e => hF (hs2.1 e)
        refine Ev.step (f := fun k => cottonpadlaw06_ExitsMore.j1 k ps true 0 8 false st ch x.f0 x.f1.f0 x.f1.f1 x.f2.f0 x.f2.f1) (fun k => ?_) (Ev.step (f := fun _ => some true) (fun k => ?_) (Ev.now _))
        · rw [cottonpadlaw06_ExitsMore.j0, if_neg (by simp), exitsMore_f h3, exitsSafe_f h3]
          simp only [Option.bind_some]
          rw [hm, if_pos hs0, hne]; rfl
        · rw [cottonpadlaw06_ExitsMore.j1, if_neg (by simp), if_neg (by decide), if_pos rfl, if_pos rfl]; rfl
    · simp only [hx, if_false]; exact hE
  · simp only [h, if_false]; exact hE
end Go.Proofs.YtdeaccbolnlgpaaDoor.X
