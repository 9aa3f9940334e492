import Derived.Test.YtdeaccbolnlgpaaDoorXN23
import Derived.Test.YtdeaccbolnlgpaaDoorXP4
import Derived.Test.YtdeaccbolnlgpaaDoorXN24
import Derived.Test.YtdeaccbolnlgpaaDoorXN25
namespace Go.Proofs.YtdeaccbolnlgpaaDoor.X
open Go.RowKit Go.Proofs.YtdeaccbolnlgpaaDoorW.PrintWords Go.Proofs.YtdeaccbolnlgpaaDoorW.PrintLast Go.Proofs.YtdeaccbolnlgpaaDoorW.PrintMore
set_option linter.unusedVariables false
set_option linter.unusedSimpArgs false

/-! ## What is the same -/
theorem SameSpans_l0 (l : List S36) (hl : l.length ≤ 100000) : ∀ d i : Nat, i + d = l.length → Ev (fun k => cottonpadref06_SameSpans.l0 k l l (i : Int)) true
  | 0, i, hd => Ev.step (f := fun _ => some true) (fun k => by rw [cottonpadref06_SameSpans.l0, if_neg (by omega)]) (Ev.now _)
  | d + 1, i, hd => by
    refine Ev.step (fun k => ?_) (SameSpans_l0 l hl d (i + 1) (by omega))
    rw [cottonpadref06_SameSpans.l0, if_pos (by omega), if_pos (by omega), if_pos (by omega), if_neg (by simp), wrap_succ (by omega : i < l.length) hl]
theorem SameSpans_ev (l : List S36) (hl : l.length ≤ 100000) : Ev (fun k => cottonpadref06_SameSpans.f k l l) true :=
  Ev.congr (f := fun k => cottonpadref06_SameSpans.l0 k l l ((0 : Nat) : Int)) (fun k => by rw [cottonpadref06_SameSpans.f, if_pos rfl]; rfl) (SameSpans_l0 l hl l.length 0 (by omega))
end Go.Proofs.YtdeaccbolnlgpaaDoor.X

namespace Go.Proofs.YtdeaccbolnlgpaaDoor.X
open Go.RowKit Go.Proofs.YtdeaccbolnlgpaaDoorW.PrintWords Go.Proofs.YtdeaccbolnlgpaaDoorW.PrintLast Go.Proofs.YtdeaccbolnlgpaaDoorW.PrintMore
set_option linter.unusedVariables false
set_option linter.unusedSimpArgs false

theorem SameWalkers_l0 (l : List S48) (hl : l.length ≤ 100000) : ∀ d i : Nat, i + d = l.length → Ev (fun k => cottonpadref06_SameWalkers.l0 k l l (i : Int)) true
  | 0, i, hd => Ev.step (f := fun _ => some true) (fun k => by rw [cottonpadref06_SameWalkers.l0, if_neg (by omega)]) (Ev.now _)
  | d + 1, i, hd => by
    refine Ev.step (fun k => ?_) (SameWalkers_l0 l hl d (i + 1) (by omega))
    rw [cottonpadref06_SameWalkers.l0, if_pos (by omega), if_pos (by omega), if_pos (by omega), if_neg (by simp), wrap_succ (by omega : i < l.length) hl]
theorem SameWalkers_ev (l : List S48) (hl : l.length ≤ 100000) : Ev (fun k => cottonpadref06_SameWalkers.f k l l) true :=
  Ev.congr (f := fun k => cottonpadref06_SameWalkers.l0 k l l ((0 : Nat) : Int)) (fun k => by rw [cottonpadref06_SameWalkers.f, if_pos rfl]; rfl) (SameWalkers_l0 l hl l.length 0 (by omega))
theorem Same_l1 (st : List S62) (ch : List S81) (hl : ch.length ≤ 100000) : ∀ d i : Nat, i + d = ch.length → Ev (fun k => cottonpadref06_Same.l1 k (i : Int) st ch st ch) true
  | 0, i, hd => Ev.step (f := fun _ => some true) (fun k => by rw [cottonpadref06_Same.l1, if_neg (by omega)]) (Ev.now _)
  | d + 1, i, hd => by
    refine Ev.step (fun k => ?_) (Same_l1 st ch hl d (i + 1) (by omega))
    rw [cottonpadref06_Same.l1, if_pos (by omega), if_pos (by omega), if_pos (by omega), if_neg (by simp), wrap_succ (by omega : i < ch.length) hl]
theorem Same_l0 (st : List S62) (ch : List S81) (hs : st.length ≤ 100000) (hl : ch.length ≤ 100000) : ∀ d i : Nat, i + d = st.length → Ev (fun k => cottonpadref06_Same.l0 k (i : Int) st ch st ch) true
  | 0, i, hd => Ev.step (fun k => by rw [cottonpadref06_Same.l0, if_neg (by omega)]; rfl) (Same_l1 st ch hl ch.length 0 (by omega))
  | d + 1, i, hd => by
    refine Ev.step (fun k => ?_) (Same_l0 st ch hs hl d (i + 1) (by omega))
    rw [cottonpadref06_Same.l0, if_pos (by omega), if_pos (by omega), if_pos (by omega), if_neg (by simp), wrap_succ (by omega : i < st.length) hs]
theorem Same_ev (st : List S62) (ch : List S81) (hs : st.length ≤ 100000) (hl : ch.length ≤ 100000) : Ev (fun k => cottonpadref06_Same.f k st ch st ch) true := by
  refine Ev.congr (f := fun k => cottonpadref06_Same.j0 k false st ch st ch) (fun k => by rw [cottonpadref06_Same.f, if_pos rfl]; simp) ?_
  exact Ev.step (fun k => by rw [cottonpadref06_Same.j0, if_neg (by simp)]; rfl) (Same_l0 st ch hs hl st.length 0 (by omega))
end Go.Proofs.YtdeaccbolnlgpaaDoor.X
