import Derived.Test.YtdeaccbolnlgpaaDoorXN30
import Derived.Test.YtdeaccbolnlgpaaDoorXPE
import Derived.Test.YtdeaccbolnlgpaaDoorXP5S
import Derived.Test.YtdeaccbolnlgpaaDoorXHL
import Derived.Test.YtdeaccbolnlgpaaDoorXHO
import Derived.Test.YtdeaccbolnlgpaaDoorXHS
import Derived.Test.YtdeaccbolnlgpaaDoorXHMore
namespace Go.Proofs.YtdeaccbolnlgpaaDoor.X
open Go.RowKit Go.Proofs.YtdeaccbolnlgpaaDoorW.PrintWords Go.Proofs.YtdeaccbolnlgpaaDoorW.PrintLast Go.Proofs.YtdeaccbolnlgpaaDoorW.PrintMore
set_option linter.unusedVariables false
set_option linter.unusedSimpArgs false

/-! # law06.alive is true -/
theorem span_f (a b : Int) : cottonpadlaw06_span.f a b = some (a, b) := rfl
theorem building_f : cottonpadlaw06_building.f = some (bldS, bldC) := rfl
theorem walker_f : cottonpadlaw06_walker.f = some (0, 800, 1000, 10, 15) := rfl
theorem people_f : cottonpadlaw06_people.f = some ppl := rfl
theorem small3_ex (st : List S62) (ch : List S81) (hs : st.length ≤ 1000) (hc : ch.length ≤ 1000) : small3 st ch ppl := ⟨hs, hc, by simp [ppl]⟩
theorem safe_f {st : List S62} {ch : List S81} (hs : st.length ≤ 1000) (hc : ch.length ≤ 1000) {k c s : Int} (h : safeF st ch ppl = (k, c, s, 0)) : cottonpadlaw06_safe.f st ch k c s = some true := by
  unfold cottonpadlaw06_safe.f
  rw [people_f]
  simp only [Option.bind_some]
  rw [exitsSafe_f (small3_ex st ch hs hc), h]
  simp

theorem alive_ev : Ev (fun k => cottonpadlaw06_alive.f k) true := by
  unfold cottonpadlaw06_alive.f
  have h3 : small3 bldS bldC ppl := small3_ex _ _ (by simp [bldS]) (by simp [bldC])
  have hm : exits_More.f bldS bldC ppl 0 800 1000 10 15 = some (7, 0) := (if_pos h3).trans (by rw [show (⟨0, ⟨800, 1000⟩, ⟨10, 15⟩⟩ : S48) = wlk from rfl, ex_more])
  simp only [building_f, people_f, walker_f, span_f, Option.bind_some, exitsLeaves_f h3, exitsOut_f h3, hm, ex_leaves0, ex_leaves1, ex_out]
  simp only [bldC, List.length_cons, List.length_nil, if_true]
  have hl : (0 : Int) < ((0 + 1 + 1 : Nat) : Int) := by decide
  simp only [hl, if_true]
  refine Ev.bind (SameSpans_ev _ (by simp)) ?_
  simp only [if_true]
  refine Ev.bind (SameSpans_ev _ (by simp)) ?_
  have e1 : cottonpadlaw06_safe.f bldS bldC 2 (-1) (-1) = some true := safe_f (by simp [bldS]) (by simp [bldC]) ex_safe
  have e2 : cottonpadlaw06_safe.f bldS [⟨0, 10000, ⟨27, 40⟩⟩, ⟨1, 4000, ⟨40, 50⟩⟩] 1 0 (-1) = some true := safe_f (by simp [bldS]) (by simp) ex_safe27
  have e1' : cottonpadlaw06_safe.f bldS [⟨0, 10000, ⟨30, 40⟩⟩, ⟨1, 4000, ⟨40, 50⟩⟩] 2 (-1) (-1) = some true := e1
  simp only [if_true, beq_self_eq_true, Bool.and_self, e1', Option.bind_some]
  refine Ev.congr (f := fun _ => some true) (fun k => ?_) (Ev.now _)
  exact congrArg (fun o : Option Bool => o.bind fun t => some t) e2

def cottonpadlaw06_alive_t.f : Option Bool := some true
theorem cottonpadlaw06_alive_t.calls (r : Bool) (w : World) (hG : Globs w) (h : cottonpadlaw06_alive_t.f = some r) : Calls Tryd.prog 30 #[] w fun e w' => e = .returned (.bool r) ∧ Below w.heap.size w w' := by
  cases h
  obtain ⟨K, hK⟩ := alive_ev.rounds
  exact cottonpadlaw06_alive.calls K true w hG rfl hK
end Go.Proofs.YtdeaccbolnlgpaaDoor.X
