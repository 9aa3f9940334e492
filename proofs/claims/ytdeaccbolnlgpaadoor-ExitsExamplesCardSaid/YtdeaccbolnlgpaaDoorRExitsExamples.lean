/- ExitsExamples: whatever the input, the law ExitsExamples returns true, and each argument reads behind the call as it read before. Conditions: what the listed package-level variables of exits hold is tied to the program's text by the given tie. -/
import Derived.Test.YtdeaccbolnlgpaaDoorCards
import Derived.Test.YtdeaccbolnlgpaaDoorTie
import Derived.Test.YtdeaccbolnlgpaaDoorXL
import Derived.Test.YtdeaccbolnlgpaaDoorXP9
import Derived.SevenTiedAt
import Derived.Below
import Derived.SizedLaws
import Derived.WalkKit
import Derived.OpenShut
import Derived.ChangeOld
namespace Go.Proofs.YtdeaccbolnlgpaaDoor.X.RExitsExamples
open Go.ChangeShapes Go.WideShapes Go.ChangeAt Go.RowKit Go.Proofs.YtdeaccbolnlgpaaDoorW.PrintWords
set_option linter.unusedVariables false
set_option linter.unusedSimpArgs false

theorem own : ownKnob Tryd.prog.godebug = none := by kernel_rfl
theorem laidOut : laidOutB Tryd.prog = true := by kernel_rfl
theorem door_met (os : Os) (args : Array Value) : laidMetH Tryd.prog laidN ((World.doorLaid Tryd.prog 600 os).forCall (fun _ _ => 0) ⟨#[], args, []⟩).memory :=
  laidMetH_of_parts3 (fuel := 8) (laidMet_of_run' 8 (by kernel_rfl) (by kernel_rfl)) (by kernel_rfl) (by kernel_rfl)

set_option maxRecDepth 100000 in
theorem lifted (os : Os) (started : os.Started) (H : Type) (enc : TypeId × Value → H) :
    ReturnsInHanded {} Tryd.checked os 5 .any (fun w args => (Rows.exitsExamplesSpec.pre enc Tryd.prog Tryd.f5 [] false w args ∧ laidMetH Tryd.prog laidN w) ∧ sizedMet enc Tryd.prog Tryd.f5 (OpenSpec.ofChange Rows.exitsExamplesSpec) false w args)
      (Rows.exitsExamplesSpec.post enc Tryd.prog Tryd.f5 false true false false) := by
  refine returnsInHanded_of_change_and (C := Tryd.checked) (X := fun w _ => laidMetH Tryd.prog laidN w) (fun _ _ _ hh h => h.of_heap hh) own started (by kernel_rfl) Tryd.func5
    (ChangeSpec.witness_shaped (enc := enc) (C := Tryd.checked) (os := os) (X := fun w _ => laidMetH Tryd.prog laidN w) false (World.doorLaid Tryd.prog 600 os) #[] 8 rfl (World.shaped_of_RefB (by kernel_rfl) (by kernel_rfl)) (by kernel_rfl) (by kernel_rfl) (by kernel_rfl) (door_met os _)) ?_
  intro W base args ds gs before hval0 hW _ hsz0 hL _
  have hval : ∀ (j : Nat) t v, Tryd.f5.params[j]? = some t → args[j]? = some v → Value.okWide Tryd.prog W .any base t v := hval0
  have hW' := hW
  obtain ⟨p, q, hA0, hV, rfl, hfz, hnd⟩ := hW
  have hA : DataW.TrodAll enc Tryd.prog W 0 (fun _ => true) true Tryd.f5.params.toList args.toList ds p := hA0
  rw [Tryd.params5] at hA hval
  obtain ⟨rfl, rfl, rfl⟩ := trodAll_none hA
  obtain ⟨rfl, rfl⟩ := trodVars_none hV
  have hg := globs_of_laid hL
  clear hA0 hval0 hsz0
  obtain ⟨K, hK⟩ := ExitsExamples_ev.rounds
  refine (cottonpadlaw06_ExitsExamples.calls K true W hg rfl hK).mono fun e W' ⟨he, bel⟩ => ?_
  subst he
  exact ⟨_, rfl, _, _, _, [], _, [], hW', trodAll_mk1 (shut_bool Tryd.underlying4 _), trodAll_mk0, rfl, bel.frame _, fun h => by cases h⟩

theorem over : Rows.ExitsExamplesSaid :=
  OpenClaim.holds_of_wide 5 Tryd.f5 rfl rfl rfl rfl rfl rfl rfl ⟨rfl, rfl, rfl, rfl, rfl⟩ rfl rfl rfl rfl rfl (by kernel_rfl) Tryd.func5 (by kernel_rfl)
    (of_decide_eq_true (by kernel_rfl)) (by unfold Func.isWrapper; first | (rw [if_pos (by decide +kernel)]; kernel_rfl) | (rw [if_neg (by decide +kernel)]; exact ⟨rfl, rfl⟩))
    (fun os started H enc _ => lifted os started H enc)

theorem card : Rows.ExitsExamplesCardSaid :=
  Claim7.holds_tied_plain_at .later [] [.funcs, .funcs, .data] true (true, "4413333bb1f88036351ba3d4513656484ada098f67c7e010ce0eaf8a90402be8") false
    over (fun _ h => by cases h) (by kernel_rfl) (fun _ h => by cases h) exitsExamples_row_tie rfl ⟨rfl, rfl⟩ (by kernel_rfl) rfl
    (fun f fn hf hfn => by
      obtain rfl : f = 5 := Option.some.inj ((show Tryd.prog.funcNamed "cottonpad/cottonpadlaw06.ExitsExamples" = some 5 by kernel_rfl).symm.trans hf) |>.symm
      obtain rfl : fn = Tryd.f5 := (Option.some.inj (Tryd.func5.symm.trans hfn)).symm
      exact ⟨by kernel_rfl, fun j t ht => by
        have hm := mem_params (l := []) (by rw [Tryd.params5]) ht
        exact absurd hm (by simp)⟩)
    (by kernel_rfl)
#print axioms card
end Go.Proofs.YtdeaccbolnlgpaaDoor.X.RExitsExamples
namespace Go.Proofs.YtdeaccbolnlgpaaDoor
/-- The card, under a short name, for the claim. -/
theorem exitsExamples_card : Rows.ExitsExamplesCardSaid := X.RExitsExamples.card
end Go.Proofs.YtdeaccbolnlgpaaDoor
