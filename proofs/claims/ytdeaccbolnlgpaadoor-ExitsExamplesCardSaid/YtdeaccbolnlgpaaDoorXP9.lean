import Derived.Test.YtdeaccbolnlgpaaDoorXN5
namespace Go.Proofs.YtdeaccbolnlgpaaDoor.X
open Go.RowKit Go.Proofs.YtdeaccbolnlgpaaDoorW.PrintWords Go.Proofs.YtdeaccbolnlgpaaDoorW.PrintLast Go.Proofs.YtdeaccbolnlgpaaDoorW.PrintMore
set_option linter.unusedVariables false
set_option linter.unusedSimpArgs false

/-! # The plain law of ExitsExamples -/
def smS : List S62 := [⟨1, 2, ⟨10, 12⟩, ⟨60, 90⟩⟩, ⟨-1, 3, ⟨5, 5⟩, ⟨40, 47⟩⟩]
def deepS : List S62 := [⟨1, 2, ⟨10, 12⟩, ⟨60, 90⟩⟩, ⟨-1, 3, ⟨5, 5⟩, ⟨20, 38⟩⟩]
def wildS : List S62 := [⟨0, 2, ⟨10, 12⟩, ⟨60, 90⟩⟩, ⟨-1, 3, ⟨5, 5⟩, ⟨70, 100⟩⟩]
def slowP : List S48 := [wlk, wlk, ⟨1, ⟨99, 500⟩, ⟨20, 21⟩⟩]
theorem sm_safe : safeF smS bldC ppl = (1, -1, 1, 0) := by rw [safeF_E]; kernel_rfl
theorem deep_safe : safeF deepS bldC ppl = (0, -1, 1, 0) := by rw [safeF_E]; kernel_rfl
theorem no_leaves : leavesF bldS bldC ppl 2 = ([], 2) := by rw [leavesF_E]; kernel_rfl
theorem wild_out : outF wildS bldC ppl = (0, 0, 60) := by rw [outF_E]; kernel_rfl
theorem bad_more : moreF bldS bldC ppl ⟨2, ⟨100, 100⟩, ⟨0, 0⟩⟩ = (0, 2) := by rw [moreF_E]; kernel_rfl
theorem sm_more : moreF smS bldC ppl wlk = (0, 8) := by rw [moreF_E]; kernel_rfl
theorem none_out : outF bldS bldC [] = (0, 0, 0) := by rw [outF_E]; kernel_rfl
theorem slow_check : checkF bldS bldC slowP = 61 := by kernel_rfl

theorem ExitsExamples_ev : Ev (fun k => cottonpadlaw06_ExitsExamples.f k) true := by
  have s2 : ∀ (st : List S62) (ch : List S81) (ps : List S48), st.length ≤ 1000 → ch.length ≤ 1000 → ps.length ≤ 1000 → small3 st ch ps := fun _ _ _ h1 h2 h3 => ⟨h1, h2, h3⟩
  have e1 : cottonpadlaw06_safe.f smS bldC 1 (-1) 1 = some true := safe_f (by simp [smS]) (by simp [bldC]) sm_safe
  have e2 : cottonpadlaw06_safe.f deepS bldC 0 (-1) 1 = some true := safe_f (by simp [deepS]) (by simp [bldC]) deep_safe
  have l2 : exits_Leaves.f bldS bldC ppl 2 = some ([], 2) := by rw [exitsLeaves_f (s2 _ _ _ (by simp [bldS]) (by simp [bldC]) (by simp [ppl])), no_leaves]
  have o2 : exits_Out.f wildS bldC ppl = some (0, 0, 60) := by rw [exitsOut_f (s2 _ _ _ (by simp [wildS]) (by simp [bldC]) (by simp [ppl])), wild_out]
  have m2 : exits_More.f bldS bldC ppl 2 100 100 0 0 = some (0, 2) := (if_pos (s2 _ _ _ (by simp [bldS]) (by simp [bldC]) (by simp [ppl]))).trans (by rw [bad_more])
  have m3 : exits_More.f smS bldC ppl 0 800 1000 10 15 = some (0, 8) := (if_pos (s2 _ _ _ (by simp [smS]) (by simp [bldC]) (by simp [ppl]))).trans (by rw [show (⟨0, ⟨800, 1000⟩, ⟨10, 15⟩⟩ : S48) = wlk from rfl, sm_more])
  have o3 : exits_Out.f bldS bldC [] = some (0, 0, 0) := by rw [exitsOut_f (s2 _ _ _ (by simp [bldS]) (by simp [bldC]) (by simp)), none_out]
  have k2 : exits_Check.f bldS bldC slowP = some 61 := by rw [exitsCheck_f (s2 _ _ _ (by simp [bldS]) (by simp [bldC]) (by simp [slowP])), slow_check]
  have hf : ∀ k, cottonpadlaw06_ExitsExamples.f k = (cottonpadlaw06_safe.f smS bldC 1 (-1) 1).bind fun t558 => (if t558 = true then ((cottonpadlaw06_safe.f deepS bldC 0 (-1) 1).bind fun t559 => (cottonpadlaw06_ExitsExamples.j0 k (!t559) smS bldC wildS bldC)) else (cottonpadlaw06_ExitsExamples.j0 k true smS bldC wildS bldC)) := fun k => rfl
  refine Ev.congr (f := fun k => cottonpadlaw06_ExitsExamples.j0 k false smS bldC wildS bldC) (fun k => ?_) ?_
  · rw [hf, e1]
    simp only [Option.bind_some, if_true]
    rw [e2]
    rfl
  refine Ev.step (f := fun _ => some true) (fun k => ?_) (Ev.now _)
  have hj : cottonpadlaw06_ExitsExamples.j0 (k + 1) false smS bldC wildS bldC = (exits_Leaves.f bldS bldC ppl 2).bind fun bt573 => (exits_Out.f wildS bldC ppl).bind fun bt580 => (exits_More.f bldS bldC ppl 2 100 100 0 0).bind fun bt595 => (exits_More.f smS bldC ppl 0 800 1000 10 15).bind fun bt605 => (exits_Out.f bldS bldC []).bind fun bt613 =>
      (if bt573.2 = 2 then (if bt580.2.2 = 60 then (if bt595.2 = 2 then (if bt605.2 = 8 then (if bt613.2.2 = 0 then (if (bt613.1 == 0 && (bt613.2.1 == 0)) = true then ((exits_Check.f bldS bldC slowP).bind fun t623 => (some (t623 == 61))) else (some false)) else (some false)) else (some false)) else (some false)) else (some false)) else (some false)) := by
    rw [cottonpadlaw06_ExitsExamples.j0]
    rfl
  rw [hj, l2, o2, m2, m3, o3, k2]
  rfl
end Go.Proofs.YtdeaccbolnlgpaaDoor.X
