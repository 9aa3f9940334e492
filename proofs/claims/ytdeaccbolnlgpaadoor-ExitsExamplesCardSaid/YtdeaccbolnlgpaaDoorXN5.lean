import Derived.Test.YtdeaccbolnlgpaaDoorX0
import Derived.Test.YtdeaccbolnlgpaaDoorXE1
import Derived.Test.YtdeaccbolnlgpaaDoorXNB
import Derived.Test.YtdeaccbolnlgpaaDoorXN33
import Derived.Test.YtdeaccbolnlgpaaDoorXAlive
import Derived.Test.YtdeaccbolnlgpaaDoorXG
import Derived.Test.YtdeaccbolnlgpaaDoorXH2
import Derived.Test.YtdeaccbolnlgpaaDoorXHL
import Derived.Test.YtdeaccbolnlgpaaDoorXHMore
import Derived.Test.YtdeaccbolnlgpaaDoorXHO
namespace Go.Proofs.YtdeaccbolnlgpaaDoor.X
open Go.RowKit Go.Proofs.YtdeaccbolnlgpaaDoorW.PrintWords Go.Proofs.YtdeaccbolnlgpaaDoorW.PrintLast Go.Proofs.YtdeaccbolnlgpaaDoorW.PrintMore
attribute [local go_sem] max2_int min2_int max_two min_two max_three min_three max_four min_four   -- for this text's walks alone
set_option linter.unusedVariables false
set_option linter.unusedSimpArgs false

attribute [local go_sem high] eqA36
/-! ### cottonpadlaw06_ExitsExamples: function 5 -/
def cottonpadlaw06_ExitsExamples.j0 : Nat → Bool → List (S62) → List (S81) → List (S62) → List (S81) → Option (Bool)
 | 0, _, _, _, _, _ => none
 | k + 1, x43, x549000, x549001, x550000, x550001 => if x43 = true then (some false) else ((cottonpadlaw06_people.f).bind fun t560 => (if 2 < (t560.length : Int) then ((cottonpadlaw06_building.f).bind fun bt564 => ((cottonpadlaw06_people.f).bind fun t570 => ((exits_Leaves.f bt564.1 bt564.2 t570 2).bind fun bt573 => ((cottonpadlaw06_people.f).bind fun t577 => ((exits_Out.f x550000 x550001 t577).bind fun bt580 => ((cottonpadlaw06_building.f).bind fun bt584 => ((cottonpadlaw06_people.f).bind fun t590 => ((cottonpadlaw06_span.f 100 100).bind fun bt593 => ((exits_More.f bt584.1 bt584.2 t590 2 bt593.1 bt593.2 0 0).bind fun bt595 => ((cottonpadlaw06_people.f).bind fun t597 => ((cottonpadlaw06_walker.f).bind fun bt600 => ((exits_More.f x549000 x549001 t597 bt600.1 bt600.2.1 bt600.2.2.1 bt600.2.2.2.1 bt600.2.2.2.2).bind fun bt605 => ((cottonpadlaw06_building.f).bind fun bt607 => ((exits_Out.f bt607.1 bt607.2 ([] : List (S48))).bind fun bt613 => (if bt573.2 = 2 then (if bt580.2.2 = 60 then (if bt595.2 = 2 then (if bt605.2 = 8 then (if bt613.2.2 = 0 then (if (bt613.1 == 0 && (bt613.2.1 == 0)) = true then ((cottonpadlaw06_building.f).bind fun bt617 => ((exits_Check.f bt617.1 bt617.2 (t560.set (2 : Int).toNat (⟨(rd_T48 t560 2).f0, (⟨99, (rd_T48 t560 2).f1.f1⟩ : S36), (⟨(rd_T48 t560 2).f2.f0, (rd_T48 t560 2).f2.f1⟩ : S36)⟩ : S48))).bind fun t623 => (some (t623 == 61)))) else (some false)) else (some false)) else (some false)) else (some false)) else (some false)) else (some false)))))))))))))))) else (none)))
def cottonpadlaw06_ExitsExamples.f (k : Nat)  : Option (Bool) := (cottonpadlaw06_alive_t.f).bind fun t529 => (if t529 = true then ((cottonpadlaw06_building.f).bind fun bt530 => ((cottonpadlaw06_building.f).bind fun bt536 => ((cottonpadlaw06_building.f).bind fun bt542 => ((cottonpadlaw06_span.f 40 47).bind fun bt551 => (if 1 < (bt530.1.length : Int) then ((some (bt530.1.set (1 : Int).toNat (⟨(rd_T62 bt530.1 1).f0, (rd_T62 bt530.1 1).f1, (⟨(rd_T62 bt530.1 1).f2.f0, (rd_T62 bt530.1 1).f2.f1⟩ : S36), (⟨bt551.1, bt551.2⟩ : S36)⟩ : S62) : List (S62))).bind fun y553 => (if 0 < (bt536.1.length : Int) then ((some (bt536.1.set (0 : Int).toNat (⟨0, (rd_T62 bt536.1 0).f1, (⟨(rd_T62 bt536.1 0).f2.f0, (rd_T62 bt536.1 0).f2.f1⟩ : S36), (⟨(rd_T62 bt536.1 0).f3.f0, (rd_T62 bt536.1 0).f3.f1⟩ : S36)⟩ : S62) : List (S62))).bind fun y554 => ((cottonpadlaw06_span.f 20 38).bind fun bt555 => (if 1 < (bt542.1.length : Int) then ((cottonpadlaw06_safe.f y553 bt530.2 1 (-1) 1).bind fun t558 => (if t558 = true then ((cottonpadlaw06_safe.f (bt542.1.set (1 : Int).toNat (⟨(rd_T62 bt542.1 1).f0, (rd_T62 bt542.1 1).f1, (⟨(rd_T62 bt542.1 1).f2.f0, (rd_T62 bt542.1 1).f2.f1⟩ : S36), (⟨bt555.1, bt555.2⟩ : S36)⟩ : S62)) bt542.2 0 (-1) 1).bind fun t559 => (cottonpadlaw06_ExitsExamples.j0 k (!t559) y553 bt530.2 y554 bt536.2)) else (cottonpadlaw06_ExitsExamples.j0 k true y553 bt530.2 y554 bt536.2))) else (none)))) else (none))) else (none)))))) else (some false))
theorem cottonpadlaw06_ExitsExamples.mono_l : ∀ k, (∀ y0 y1 y2 y3 y4, LeO (cottonpadlaw06_ExitsExamples.j0 k y0 y1 y2 y3 y4) (cottonpadlaw06_ExitsExamples.j0 (k + 1) y0 y1 y2 y3 y4))
 | 0 => fun _ _ _ _ _ r h => by simp [cottonpadlaw06_ExitsExamples.j0] at h
 | k + 1 => by
  have ih0 := cottonpadlaw06_ExitsExamples.mono_l k
  ·intro y0 y1 y2 y3 y4
   unfold cottonpadlaw06_ExitsExamples.j0
   repeat' first
   | (with_reducible exact ih0 _ _ _ _ _)
   | (with_reducible exact LeO.refl _)
   | (with_reducible exact LeO.none _)
   | (with_reducible refine LeO.ite ?_ ?_)
   | (with_reducible refine LeO.bind ?_ (fun _ => ?_))
   | exact ih0 _ _ _ _ _
   | exact LeO.none _
   | refine LeO.ite ?_ ?_
   | refine LeO.bind ?_ (fun _ => ?_)
theorem cottonpadlaw06_ExitsExamples.mono : ∀ k, LeO (cottonpadlaw06_ExitsExamples.f k ) (cottonpadlaw06_ExitsExamples.f (k + 1) ) := by
 intro  k
 have ih0 := cottonpadlaw06_ExitsExamples.mono_l k
 unfold cottonpadlaw06_ExitsExamples.f
 repeat' first
   | (with_reducible exact ih0 _ _ _ _ _)
   | (with_reducible exact LeO.refl _)
   | (with_reducible exact LeO.none _)
   | (with_reducible refine LeO.ite ?_ ?_)
   | (with_reducible refine LeO.bind ?_ (fun _ => ?_))
   | exact ih0 _ _ _ _ _
   | exact LeO.none _
   | refine LeO.ite ?_ ?_
   | refine LeO.bind ?_ (fun _ => ?_)
def cottonpadlaw06_ExitsExamples.T12 : Bool × List (List Nat × List Nat) := (true, [([], []), ([], []), ([0, 1, 1], [0, 1]), ([2], [2]), ([3], [3]), ([3], [3]), ([], []), ([6, 4, 2, 0, 1, 2, 3, 4, 6], [4, 6]), ([5, 7, 0, 1, 2, 3, 4, 5, 6, 7], [5])])
def cottonpadlaw06_ExitsExamples.B12 : List Nat := [0, 0, 3, 7, 15, 15, 0, 95, 255]
theorem cottonpadlaw06_ExitsExamples.tab12 : rtab .any (opsOf Tryd.f5 12) = cottonpadlaw06_ExitsExamples.T12 := by kernel_rfl
theorem cottonpadlaw06_ExitsExamples.bits12 : waitsOk cottonpadlaw06_ExitsExamples.T12.2 cottonpadlaw06_ExitsExamples.B12 = true := by kernel_rfl
def cottonpadlaw06_ExitsExamples.T14 : Bool × List (List Nat × List Nat) := (true, [([], []), ([], []), ([1], []), ([0, 1, 2, 2], [0, 1, 2]), ([3], [3]), ([4], [4]), ([4], [4]), ([5, 3, 0, 1, 2, 3, 4, 5], [5]), ([6, 7, 0, 1, 2, 3, 4, 5, 6, 7], [6])])
def cottonpadlaw06_ExitsExamples.B14 : List Nat := [0, 0, 2, 7, 15, 31, 31, 63, 255]
theorem cottonpadlaw06_ExitsExamples.tab14 : rtab .any (opsOf Tryd.f5 14) = cottonpadlaw06_ExitsExamples.T14 := by kernel_rfl
theorem cottonpadlaw06_ExitsExamples.bits14 : waitsOk cottonpadlaw06_ExitsExamples.T14.2 cottonpadlaw06_ExitsExamples.B14 = true := by kernel_rfl
set_option maxHeartbeats 8000000 in
set_option maxRecDepth 100000 in
theorem cottonpadlaw06_ExitsExamples.calls (k : Nat)  (r : Bool) (w : World) (hG : Globs w) (hrt : r = true) (h : cottonpadlaw06_ExitsExamples.f k  = some r) :
  Calls Tryd.prog 5 #[] w fun e w' => e = .returned (.bool r) ∧ Below w.heap.size w w' := by
 have hu25 := Tryd.underlying25
 have hu36 := Tryd.underlying36
 have hu48 := Tryd.underlying48
 have HB := Aside0.mk (Below.refl w.heap.size w)
 have HG := Aside0.mk hG
 clear hG
 have HRT := Aside0.mk hrt
 clear hrt
 have H : ((cottonpadlaw06_alive_t.f).bind fun t529 => (if t529 = true then ((cottonpadlaw06_building.f).bind fun bt530 => ((cottonpadlaw06_building.f).bind fun bt536 => ((cottonpadlaw06_building.f).bind fun bt542 => ((cottonpadlaw06_span.f 40 47).bind fun bt551 => (if 1 < (bt530.1.length : Int) then ((some (bt530.1.set (1 : Int).toNat (⟨(rd_T62 bt530.1 1).f0, (rd_T62 bt530.1 1).f1, (⟨(rd_T62 bt530.1 1).f2.f0, (rd_T62 bt530.1 1).f2.f1⟩ : S36), (⟨bt551.1, bt551.2⟩ : S36)⟩ : S62) : List (S62))).bind fun y553 => (if 0 < (bt536.1.length : Int) then ((some (bt536.1.set (0 : Int).toNat (⟨0, (rd_T62 bt536.1 0).f1, (⟨(rd_T62 bt536.1 0).f2.f0, (rd_T62 bt536.1 0).f2.f1⟩ : S36), (⟨(rd_T62 bt536.1 0).f3.f0, (rd_T62 bt536.1 0).f3.f1⟩ : S36)⟩ : S62) : List (S62))).bind fun y554 => ((cottonpadlaw06_span.f 20 38).bind fun bt555 => (if 1 < (bt542.1.length : Int) then ((cottonpadlaw06_safe.f y553 bt530.2 1 (-1) 1).bind fun t558 => (if t558 = true then ((cottonpadlaw06_safe.f (bt542.1.set (1 : Int).toNat (⟨(rd_T62 bt542.1 1).f0, (rd_T62 bt542.1 1).f1, (⟨(rd_T62 bt542.1 1).f2.f0, (rd_T62 bt542.1 1).f2.f1⟩ : S36), (⟨bt555.1, bt555.2⟩ : S36)⟩ : S62)) bt542.2 0 (-1) 1).bind fun t559 => (cottonpadlaw06_ExitsExamples.j0 k (!t559) y553 bt530.2 y554 bt536.2)) else (cottonpadlaw06_ExitsExamples.j0 k true y553 bt530.2 y554 bt536.2))) else (none)))) else (none))) else (none)))))) else (some false))) = some r := h
 clear h
 replace H := Option.bind_eq_some_iff.mp H
 obtain ⟨t529, A10, H⟩ := H
 replace H : (if t529 = true then ((cottonpadlaw06_building.f).bind fun bt530 => ((cottonpadlaw06_building.f).bind fun bt536 => ((cottonpadlaw06_building.f).bind fun bt542 => ((cottonpadlaw06_span.f 40 47).bind fun bt551 => (if 1 < (bt530.1.length : Int) then ((some (bt530.1.set (1 : Int).toNat (⟨(rd_T62 bt530.1 1).f0, (rd_T62 bt530.1 1).f1, (⟨(rd_T62 bt530.1 1).f2.f0, (rd_T62 bt530.1 1).f2.f1⟩ : S36), (⟨bt551.1, bt551.2⟩ : S36)⟩ : S62) : List (S62))).bind fun y553 => (if 0 < (bt536.1.length : Int) then ((some (bt536.1.set (0 : Int).toNat (⟨0, (rd_T62 bt536.1 0).f1, (⟨(rd_T62 bt536.1 0).f2.f0, (rd_T62 bt536.1 0).f2.f1⟩ : S36), (⟨(rd_T62 bt536.1 0).f3.f0, (rd_T62 bt536.1 0).f3.f1⟩ : S36)⟩ : S62) : List (S62))).bind fun y554 => ((cottonpadlaw06_span.f 20 38).bind fun bt555 => (if 1 < (bt542.1.length : Int) then ((cottonpadlaw06_safe.f y553 bt530.2 1 (-1) 1).bind fun t558 => (if t558 = true then ((cottonpadlaw06_safe.f (bt542.1.set (1 : Int).toNat (⟨(rd_T62 bt542.1 1).f0, (rd_T62 bt542.1 1).f1, (⟨(rd_T62 bt542.1 1).f2.f0, (rd_T62 bt542.1 1).f2.f1⟩ : S36), (⟨bt555.1, bt555.2⟩ : S36)⟩ : S62)) bt542.2 0 (-1) 1).bind fun t559 => (cottonpadlaw06_ExitsExamples.j0 k (!t559) y553 bt530.2 y554 bt536.2)) else (cottonpadlaw06_ExitsExamples.j0 k true y553 bt530.2 y554 bt536.2))) else (none)))) else (none))) else (none)))))) else (some false)) = some r := H
 have A1 := Aside0.mk A10
 clear A10
 by_cases c2 : t529 = true
 ·subst c2
  have H1 : ((cottonpadlaw06_building.f).bind fun bt530 => ((cottonpadlaw06_building.f).bind fun bt536 => ((cottonpadlaw06_building.f).bind fun bt542 => ((cottonpadlaw06_span.f 40 47).bind fun bt551 => (if 1 < (bt530.1.length : Int) then ((some (bt530.1.set (1 : Int).toNat (⟨(rd_T62 bt530.1 1).f0, (rd_T62 bt530.1 1).f1, (⟨(rd_T62 bt530.1 1).f2.f0, (rd_T62 bt530.1 1).f2.f1⟩ : S36), (⟨bt551.1, bt551.2⟩ : S36)⟩ : S62) : List (S62))).bind fun y553 => (if 0 < (bt536.1.length : Int) then ((some (bt536.1.set (0 : Int).toNat (⟨0, (rd_T62 bt536.1 0).f1, (⟨(rd_T62 bt536.1 0).f2.f0, (rd_T62 bt536.1 0).f2.f1⟩ : S36), (⟨(rd_T62 bt536.1 0).f3.f0, (rd_T62 bt536.1 0).f3.f1⟩ : S36)⟩ : S62) : List (S62))).bind fun y554 => ((cottonpadlaw06_span.f 20 38).bind fun bt555 => (if 1 < (bt542.1.length : Int) then ((cottonpadlaw06_safe.f y553 bt530.2 1 (-1) 1).bind fun t558 => (if t558 = true then ((cottonpadlaw06_safe.f (bt542.1.set (1 : Int).toNat (⟨(rd_T62 bt542.1 1).f0, (rd_T62 bt542.1 1).f1, (⟨(rd_T62 bt542.1 1).f2.f0, (rd_T62 bt542.1 1).f2.f1⟩ : S36), (⟨bt555.1, bt555.2⟩ : S36)⟩ : S62)) bt542.2 0 (-1) 1).bind fun t559 => (cottonpadlaw06_ExitsExamples.j0 k (!t559) y553 bt530.2 y554 bt536.2)) else (cottonpadlaw06_ExitsExamples.j0 k true y553 bt530.2 y554 bt536.2))) else (none)))) else (none))) else (none)))))) = some r := by rw [if_pos rfl] at H; exact H
  clear H
  have H := H1
  clear H1
  replace H := Option.bind_eq_some_iff.mp H
  obtain ⟨⟨t530, t533⟩, A30, H⟩ := H
  replace H : ((cottonpadlaw06_building.f).bind fun bt536 => ((cottonpadlaw06_building.f).bind fun bt542 => ((cottonpadlaw06_span.f 40 47).bind fun bt551 => (if 1 < (t530.length : Int) then ((some (t530.set (1 : Int).toNat (⟨(rd_T62 t530 1).f0, (rd_T62 t530 1).f1, (⟨(rd_T62 t530 1).f2.f0, (rd_T62 t530 1).f2.f1⟩ : S36), (⟨bt551.1, bt551.2⟩ : S36)⟩ : S62) : List (S62))).bind fun y553 => (if 0 < (bt536.1.length : Int) then ((some (bt536.1.set (0 : Int).toNat (⟨0, (rd_T62 bt536.1 0).f1, (⟨(rd_T62 bt536.1 0).f2.f0, (rd_T62 bt536.1 0).f2.f1⟩ : S36), (⟨(rd_T62 bt536.1 0).f3.f0, (rd_T62 bt536.1 0).f3.f1⟩ : S36)⟩ : S62) : List (S62))).bind fun y554 => ((cottonpadlaw06_span.f 20 38).bind fun bt555 => (if 1 < (bt542.1.length : Int) then ((cottonpadlaw06_safe.f y553 t533 1 (-1) 1).bind fun t558 => (if t558 = true then ((cottonpadlaw06_safe.f (bt542.1.set (1 : Int).toNat (⟨(rd_T62 bt542.1 1).f0, (rd_T62 bt542.1 1).f1, (⟨(rd_T62 bt542.1 1).f2.f0, (rd_T62 bt542.1 1).f2.f1⟩ : S36), (⟨bt555.1, bt555.2⟩ : S36)⟩ : S62)) bt542.2 0 (-1) 1).bind fun t559 => (cottonpadlaw06_ExitsExamples.j0 k (!t559) y553 t533 y554 bt536.2)) else (cottonpadlaw06_ExitsExamples.j0 k true y553 t533 y554 bt536.2))) else (none)))) else (none))) else (none))))) = some r := H
  have A3 := Aside0.mk A30
  clear A30
  replace H := Option.bind_eq_some_iff.mp H
  obtain ⟨⟨t536, t539⟩, A40, H⟩ := H
  replace H : ((cottonpadlaw06_building.f).bind fun bt542 => ((cottonpadlaw06_span.f 40 47).bind fun bt551 => (if 1 < (t530.length : Int) then ((some (t530.set (1 : Int).toNat (⟨(rd_T62 t530 1).f0, (rd_T62 t530 1).f1, (⟨(rd_T62 t530 1).f2.f0, (rd_T62 t530 1).f2.f1⟩ : S36), (⟨bt551.1, bt551.2⟩ : S36)⟩ : S62) : List (S62))).bind fun y553 => (if 0 < (t536.length : Int) then ((some (t536.set (0 : Int).toNat (⟨0, (rd_T62 t536 0).f1, (⟨(rd_T62 t536 0).f2.f0, (rd_T62 t536 0).f2.f1⟩ : S36), (⟨(rd_T62 t536 0).f3.f0, (rd_T62 t536 0).f3.f1⟩ : S36)⟩ : S62) : List (S62))).bind fun y554 => ((cottonpadlaw06_span.f 20 38).bind fun bt555 => (if 1 < (bt542.1.length : Int) then ((cottonpadlaw06_safe.f y553 t533 1 (-1) 1).bind fun t558 => (if t558 = true then ((cottonpadlaw06_safe.f (bt542.1.set (1 : Int).toNat (⟨(rd_T62 bt542.1 1).f0, (rd_T62 bt542.1 1).f1, (⟨(rd_T62 bt542.1 1).f2.f0, (rd_T62 bt542.1 1).f2.f1⟩ : S36), (⟨bt555.1, bt555.2⟩ : S36)⟩ : S62)) bt542.2 0 (-1) 1).bind fun t559 => (cottonpadlaw06_ExitsExamples.j0 k (!t559) y553 t533 y554 t539)) else (cottonpadlaw06_ExitsExamples.j0 k true y553 t533 y554 t539))) else (none)))) else (none))) else (none)))) = some r := H
  have A4 := Aside0.mk A40
  clear A40
  replace H := Option.bind_eq_some_iff.mp H
  obtain ⟨⟨t542, t545⟩, A50, H⟩ := H
  replace H : ((cottonpadlaw06_span.f 40 47).bind fun bt551 => (if 1 < (t530.length : Int) then ((some (t530.set (1 : Int).toNat (⟨(rd_T62 t530 1).f0, (rd_T62 t530 1).f1, (⟨(rd_T62 t530 1).f2.f0, (rd_T62 t530 1).f2.f1⟩ : S36), (⟨bt551.1, bt551.2⟩ : S36)⟩ : S62) : List (S62))).bind fun y553 => (if 0 < (t536.length : Int) then ((some (t536.set (0 : Int).toNat (⟨0, (rd_T62 t536 0).f1, (⟨(rd_T62 t536 0).f2.f0, (rd_T62 t536 0).f2.f1⟩ : S36), (⟨(rd_T62 t536 0).f3.f0, (rd_T62 t536 0).f3.f1⟩ : S36)⟩ : S62) : List (S62))).bind fun y554 => ((cottonpadlaw06_span.f 20 38).bind fun bt555 => (if 1 < (t542.length : Int) then ((cottonpadlaw06_safe.f y553 t533 1 (-1) 1).bind fun t558 => (if t558 = true then ((cottonpadlaw06_safe.f (t542.set (1 : Int).toNat (⟨(rd_T62 t542 1).f0, (rd_T62 t542 1).f1, (⟨(rd_T62 t542 1).f2.f0, (rd_T62 t542 1).f2.f1⟩ : S36), (⟨bt555.1, bt555.2⟩ : S36)⟩ : S62)) t545 0 (-1) 1).bind fun t559 => (cottonpadlaw06_ExitsExamples.j0 k (!t559) y553 t533 y554 t539)) else (cottonpadlaw06_ExitsExamples.j0 k true y553 t533 y554 t539))) else (none)))) else (none))) else (none))) = some r := H
  have A5 := Aside0.mk A50
  clear A50
  replace H := Option.bind_eq_some_iff.mp H
  obtain ⟨⟨t551, t552⟩, A60, H⟩ := H
  replace H : (if 1 < (t530.length : Int) then ((some (t530.set (1 : Int).toNat (⟨(rd_T62 t530 1).f0, (rd_T62 t530 1).f1, (⟨(rd_T62 t530 1).f2.f0, (rd_T62 t530 1).f2.f1⟩ : S36), (⟨t551, t552⟩ : S36)⟩ : S62) : List (S62))).bind fun y553 => (if 0 < (t536.length : Int) then ((some (t536.set (0 : Int).toNat (⟨0, (rd_T62 t536 0).f1, (⟨(rd_T62 t536 0).f2.f0, (rd_T62 t536 0).f2.f1⟩ : S36), (⟨(rd_T62 t536 0).f3.f0, (rd_T62 t536 0).f3.f1⟩ : S36)⟩ : S62) : List (S62))).bind fun y554 => ((cottonpadlaw06_span.f 20 38).bind fun bt555 => (if 1 < (t542.length : Int) then ((cottonpadlaw06_safe.f y553 t533 1 (-1) 1).bind fun t558 => (if t558 = true then ((cottonpadlaw06_safe.f (t542.set (1 : Int).toNat (⟨(rd_T62 t542 1).f0, (rd_T62 t542 1).f1, (⟨(rd_T62 t542 1).f2.f0, (rd_T62 t542 1).f2.f1⟩ : S36), (⟨bt555.1, bt555.2⟩ : S36)⟩ : S62)) t545 0 (-1) 1).bind fun t559 => (cottonpadlaw06_ExitsExamples.j0 k (!t559) y553 t533 y554 t539)) else (cottonpadlaw06_ExitsExamples.j0 k true y553 t533 y554 t539))) else (none)))) else (none))) else (none)) = some r := H
  have A6 := Aside0.mk A60
  clear A60
  by_cases c7 : 1 < (t530.length : Int)
  ·rw [if_pos c7] at H
   have c7b0 : decide (1 < (t530.length : Int)) = true := decide_eq_true c7
   have c7b1 : decide (1 < t530.length) = true := decide_eq_true (by omega)
   clear c7
   obtain ⟨y553, hy553⟩ : ∃ y_ : List (S62), y_ = (t530.set (1 : Int).toNat (⟨(rd_T62 t530 1).f0, (rd_T62 t530 1).f1, (⟨(rd_T62 t530 1).f2.f0, (rd_T62 t530 1).f2.f1⟩ : S36), (⟨t551, t552⟩ : S36)⟩ : S62)) := ⟨_, rfl⟩
   replace H : (if 0 < (t536.length : Int) then ((some (t536.set (0 : Int).toNat (⟨0, (rd_T62 t536 0).f1, (⟨(rd_T62 t536 0).f2.f0, (rd_T62 t536 0).f2.f1⟩ : S36), (⟨(rd_T62 t536 0).f3.f0, (rd_T62 t536 0).f3.f1⟩ : S36)⟩ : S62) : List (S62))).bind fun y554 => ((cottonpadlaw06_span.f 20 38).bind fun bt555 => (if 1 < (t542.length : Int) then ((cottonpadlaw06_safe.f y553 t533 1 (-1) 1).bind fun t558 => (if t558 = true then ((cottonpadlaw06_safe.f (t542.set (1 : Int).toNat (⟨(rd_T62 t542 1).f0, (rd_T62 t542 1).f1, (⟨(rd_T62 t542 1).f2.f0, (rd_T62 t542 1).f2.f1⟩ : S36), (⟨bt555.1, bt555.2⟩ : S36)⟩ : S62)) t545 0 (-1) 1).bind fun t559 => (cottonpadlaw06_ExitsExamples.j0 k (!t559) y553 t533 y554 t539)) else (cottonpadlaw06_ExitsExamples.j0 k true y553 t533 y554 t539))) else (none)))) else (none)) = some r := by first | (rw [hy553]; with_reducible exact H) | (have H2_ := (Option.bind_some _ _).symm.trans H; rw [hy553]; with_reducible exact H2_) | (have H2_ := (Option.bind_some _ _).symm.trans H; with_reducible exact H2_) | with_reducible exact H | (rw [hy553]; exact H) | exact H
   have Ny553 := Aside0.mk hy553
   clear hy553
   by_cases c9 : 0 < (t536.length : Int)
   ·rw [if_pos c9] at H
    have c9b0 : decide (0 < (t536.length : Int)) = true := decide_eq_true c9
    have c9b1 : decide (0 < t536.length) = true := decide_eq_true (by omega)
    clear c9
    obtain ⟨y554, hy554⟩ : ∃ y_ : List (S62), y_ = (t536.set (0 : Int).toNat (⟨0, (rd_T62 t536 0).f1, (⟨(rd_T62 t536 0).f2.f0, (rd_T62 t536 0).f2.f1⟩ : S36), (⟨(rd_T62 t536 0).f3.f0, (rd_T62 t536 0).f3.f1⟩ : S36)⟩ : S62)) := ⟨_, rfl⟩
    replace H : ((cottonpadlaw06_span.f 20 38).bind fun bt555 => (if 1 < (t542.length : Int) then ((cottonpadlaw06_safe.f y553 t533 1 (-1) 1).bind fun t558 => (if t558 = true then ((cottonpadlaw06_safe.f (t542.set (1 : Int).toNat (⟨(rd_T62 t542 1).f0, (rd_T62 t542 1).f1, (⟨(rd_T62 t542 1).f2.f0, (rd_T62 t542 1).f2.f1⟩ : S36), (⟨bt555.1, bt555.2⟩ : S36)⟩ : S62)) t545 0 (-1) 1).bind fun t559 => (cottonpadlaw06_ExitsExamples.j0 k (!t559) y553 t533 y554 t539)) else (cottonpadlaw06_ExitsExamples.j0 k true y553 t533 y554 t539))) else (none))) = some r := by first | (rw [hy554]; with_reducible exact H) | (have H2_ := (Option.bind_some _ _).symm.trans H; rw [hy554]; with_reducible exact H2_) | (have H2_ := (Option.bind_some _ _).symm.trans H; with_reducible exact H2_) | with_reducible exact H | (rw [hy554]; exact H) | exact H
    have Ny554 := Aside0.mk hy554
    clear hy554
    replace H := Option.bind_eq_some_iff.mp H
    obtain ⟨⟨t555, t556⟩, A110, H⟩ := H
    replace H : (if 1 < (t542.length : Int) then ((cottonpadlaw06_safe.f y553 t533 1 (-1) 1).bind fun t558 => (if t558 = true then ((cottonpadlaw06_safe.f (t542.set (1 : Int).toNat (⟨(rd_T62 t542 1).f0, (rd_T62 t542 1).f1, (⟨(rd_T62 t542 1).f2.f0, (rd_T62 t542 1).f2.f1⟩ : S36), (⟨t555, t556⟩ : S36)⟩ : S62)) t545 0 (-1) 1).bind fun t559 => (cottonpadlaw06_ExitsExamples.j0 k (!t559) y553 t533 y554 t539)) else (cottonpadlaw06_ExitsExamples.j0 k true y553 t533 y554 t539))) else (none)) = some r := H
    have A11 := Aside0.mk A110
    clear A110
    by_cases c12 : 1 < (t542.length : Int)
    ·rw [if_pos c12] at H
     have c12b0 : decide (1 < (t542.length : Int)) = true := decide_eq_true c12
     have c12b1 : decide (1 < t542.length) = true := decide_eq_true (by omega)
     clear c12
     obtain ⟨y557, hy557⟩ : ∃ y_ : List (S62), y_ = (t542.set (1 : Int).toNat (⟨(rd_T62 t542 1).f0, (rd_T62 t542 1).f1, (⟨(rd_T62 t542 1).f2.f0, (rd_T62 t542 1).f2.f1⟩ : S36), (⟨t555, t556⟩ : S36)⟩ : S62)) := ⟨_, rfl⟩
     replace H : ((cottonpadlaw06_safe.f y553 t533 1 (-1) 1).bind fun t558 => (if t558 = true then ((cottonpadlaw06_safe.f y557 t545 0 (-1) 1).bind fun t559 => (cottonpadlaw06_ExitsExamples.j0 k (!t559) y553 t533 y554 t539)) else (cottonpadlaw06_ExitsExamples.j0 k true y553 t533 y554 t539))) = some r := by first | (rw [hy557]; with_reducible exact H) | (have H2_ := (Option.bind_some _ _).symm.trans H; rw [hy557]; with_reducible exact H2_) | (have H2_ := (Option.bind_some _ _).symm.trans H; with_reducible exact H2_) | with_reducible exact H | (rw [hy557]; exact H) | exact H
     have Ny557 := Aside0.mk hy557
     clear hy557
     have HC14 := Aside0.mk H
     clear H
     go_enter Tryd.func5, Tryd.ntmps5
     try go_wp2_with (first | (go_at_call 30; (with_reducible refine (cottonpadlaw06_alive_t.calls  true _ ?side1 A1.out).mono ?_); (case side1 => exact Globs.below HG.out (be_ HB)); rintro e w15 ⟨rfl, hb⟩; replace HB := bs_ HB hb; (try clear hb); (try clear hb2); (try clear hk); (try clear hi)) | ((with_reducible refine gate_callee (f := 31) rfl ?_); refine goesL_ (some 19) rfl rfl Tryd.func31 (by kernel_rfl) rfl #[] rfl ls_ ?_; (with_reducible refine (cottonpadlaw06_building.calls  t530 t533 _ A3.out).mono ?_); rintro e w16 ⟨v531, v534, rfl, ho0, ho1, hb⟩; refine ⟨_, rfl, ?_⟩; have HO532 := Aside0.mk (Kd.R_lower ho0 (below_size (be_ HB))); have HO535 := Aside0.mk (Kd.R_lower ho1 (below_size (be_ HB))); replace HB := bs_ HB hb; (try clear hb); (try clear hb2); (try clear hk); (try clear hi); (try clear ho0); (try clear ho1)) | ((with_reducible refine gate_callee (f := 31) rfl ?_); refine goesL_ (some 20) rfl rfl Tryd.func31 (by kernel_rfl) rfl #[] rfl ls_ ?_; (with_reducible refine (cottonpadlaw06_building.calls  t536 t539 _ A4.out).mono ?_); rintro e w17 ⟨v537, v540, rfl, ho0, ho1, hb⟩; refine ⟨_, rfl, ?_⟩; have HO538 := Aside0.mk (Kd.R_lower (Kd.R_new' ho0 (Kd.R_lt (ro_ HO532))) (below_size (be_ HB))); replace HO532 := Aside0.mk (Kd.R_elder' (ro_ HO532) (Kd.R_base ho0) hb); have HO541 := Aside0.mk (Kd.R_lower (Kd.R_new' ho1 (Kd.R_lt (ro_ HO535))) (below_size (be_ HB))); replace HO535 := Aside0.mk (Kd.R_elder' (ro_ HO535) (Kd.R_base ho1) hb); replace HB := bs_ HB hb; (try clear hb); (try clear hb2); (try clear hk); (try clear hi); (try clear ho0); (try clear ho1)) | ((with_reducible refine gate_callee (f := 31) rfl ?_); refine goesL_ (some 21) rfl rfl Tryd.func31 (by kernel_rfl) rfl #[] rfl ls_ ?_; (with_reducible refine (cottonpadlaw06_building.calls  t542 t545 _ A5.out).mono ?_); rintro e w18 ⟨v543, v546, rfl, ho0, ho1, hb⟩; refine ⟨_, rfl, ?_⟩; have HO544 := Aside0.mk (Kd.R_lower (Kd.R_new' (Kd.R_new' ho0 (Kd.R_lt (ro_ HO532))) (Kd.R_lt (ro_ HO538))) (below_size (be_ HB))); replace HO532 := Aside0.mk (Kd.R_elder' (ro_ HO532) (Kd.R_base ho0) hb); replace HO538 := Aside0.mk (Kd.R_elder' (ro_ HO538) (Kd.R_base ho0) hb); have HO547 := Aside0.mk (Kd.R_lower (Kd.R_new' (Kd.R_new' ho1 (Kd.R_lt (ro_ HO535))) (Kd.R_lt (ro_ HO541))) (below_size (be_ HB))); replace HO535 := Aside0.mk (Kd.R_elder' (ro_ HO535) (Kd.R_base ho1) hb); replace HO541 := Aside0.mk (Kd.R_elder' (ro_ HO541) (Kd.R_base ho1) hb); replace HB := bs_ HB hb; (try clear hb); (try clear hb2); (try clear hk); (try clear hi); (try clear ho0); (try clear ho1)) | ((with_reducible refine gate_dst (N := 1) rfl ?_); refine box_event ?hg (N := 1) ?hd (cs := #[.slice none 0 0, .slice none 0 0]) (t := 25) ?hr ?_; (case hd => rfl); (case hg => rfl); (case hr => exact gs_); intro gb548 hg w19 hbox hb; replace HO532 := rb_ HO532 hb; replace HO535 := rb_ HO535 hb; replace HO538 := rb_ HO538 hb; replace HO541 := rb_ HO541 hb; replace HO544 := rb_ HO544 hb; replace HO547 := rb_ HO547 hb; have BK548 := Aside0.mk (hbox); have GW548 := hl_ hg (be_ HB); have GE548 := hl_ hg (be_ HB); replace HB := bs_ HB hb; clear hb hbox hg) | ((with_reducible refine gate_dst (N := 2) rfl ?_); refine box_event ?hg (N := 2) ?hd (cs := #[.slice none 0 0, .slice none 0 0]) (t := 25) ?hr ?_; (case hd => rfl); (case hg => rfl); (case hr => exact gs_); intro gb549 hg w20 hbox hb; replace HO532 := rb_ HO532 hb; replace HO535 := rb_ HO535 hb; replace HO538 := rb_ HO538 hb; replace HO541 := rb_ HO541 hb; replace HO544 := rb_ HO544 hb; replace HO547 := rb_ HO547 hb; have BK549 := Aside0.mk (hbox); have GW549 := hl_ hg (be1_ HB GE548); have GE549 := hl_ hg (be1_ HB GE548); replace HB := bs1_ HB GE548 hb; have NB548_549 := Aside0.mk ((by rw [hg]; exact Nat.ne_of_lt (blk_lt (bk_ BK548)) : gb548 ≠ gb549)); have NB549_548 := Aside0.mk ((by rw [hg]; exact Nat.ne_of_gt (blk_lt (bk_ BK548)) : gb549 ≠ gb548)); replace BK548 := bb_ BK548 hb; clear hb hbox hg) | ((with_reducible refine gate_dst (N := 3) rfl ?_); refine box_event ?hg (N := 3) ?hd (cs := #[.slice none 0 0, .slice none 0 0]) (t := 25) ?hr ?_; (case hd => rfl); (case hg => rfl); (case hr => exact gs_); intro gb550 hg w21 hbox hb; replace HO532 := rb_ HO532 hb; replace HO535 := rb_ HO535 hb; replace HO538 := rb_ HO538 hb; replace HO541 := rb_ HO541 hb; replace HO544 := rb_ HO544 hb; replace HO547 := rb_ HO547 hb; have BK550 := Aside0.mk (hbox); have GW550 := hl_ hg (be2_ HB GE548 GE549); have GE550 := hl_ hg (be2_ HB GE548 GE549); replace HB := bs2_ HB GE548 GE549 hb; have NB548_550 := Aside0.mk ((by rw [hg]; exact Nat.ne_of_lt (blk_lt (bk_ BK548)) : gb548 ≠ gb550)); have NB550_548 := Aside0.mk ((by rw [hg]; exact Nat.ne_of_gt (blk_lt (bk_ BK548)) : gb550 ≠ gb548)); replace BK548 := bb_ BK548 hb; have NB549_550 := Aside0.mk ((by rw [hg]; exact Nat.ne_of_lt (blk_lt (bk_ BK549)) : gb549 ≠ gb550)); have NB550_549 := Aside0.mk ((by rw [hg]; exact Nat.ne_of_gt (blk_lt (bk_ BK549)) : gb550 ≠ gb549)); replace BK549 := bb_ BK549 hb; clear hb hbox hg; obtain ⟨Ao22, co22, eo22⟩ := Kd.R_slice HO532.out; subst eo22; have hnb23 := NB548_549.out; have hnc23 := NB549_548.out; have hnb24 := NB548_550.out; have hnc24 := NB550_548.out; have hcz25_0 : w21.cell? ⟨gb548, 0, none⟩ = some (.slice none 0 0) := bc_ BK548 0; have hcz25_1 : w21.cell? ⟨gb548, 1, none⟩ = some (.slice none 0 0) := bc_ BK548 1; have hfz25_0 := blk_frozen BK548.out 0; have hfz25_1 := blk_frozen BK548.out 1; obtain ⟨Ao26, co26, eo26⟩ := Kd.R_slice HO535.out; subst eo26; obtain ⟨Ao27, co27, eo27⟩ := Kd.R_slice HO538.out; subst eo27; have hnb28 := NB549_550.out; have hnc28 := NB550_549.out; have hcz29_0 : w21.cell? ⟨gb549, 0, none⟩ = some (.slice none 0 0) := bc_ BK549 0; have hcz29_1 : w21.cell? ⟨gb549, 1, none⟩ = some (.slice none 0 0) := bc_ BK549 1; have hfz29_0 := blk_frozen BK549.out 0; have hfz29_1 := blk_frozen BK549.out 1; obtain ⟨Ao30, co30, eo30⟩ := Kd.R_slice HO541.out; subst eo30; obtain ⟨Ao31, co31, eo31⟩ := Kd.R_slice HO544.out; subst eo31; have hcz32_0 : w21.cell? ⟨gb550, 0, none⟩ = some (.slice none 0 0) := bc_ BK550 0; have hcz32_1 : w21.cell? ⟨gb550, 1, none⟩ = some (.slice none 0 0) := bc_ BK550 1; have hfz32_0 := blk_frozen BK550.out 0; have hfz32_1 := blk_frozen BK550.out 1; obtain ⟨Ao33, co33, eo33⟩ := Kd.R_slice HO547.out; subst eo33))
     have n0_ : Aside0 (Kd.R k62 62 ((((((w21.setCell ⟨gb548, 0, none⟩ (.slice Ao22 t530.length co22)).setCell ⟨gb548, 1, none⟩ (.slice Ao26 t533.length co26)).setCell ⟨gb549, 0, none⟩ (.slice Ao27 t536.length co27)).setCell ⟨gb549, 1, none⟩ (.slice Ao30 t539.length co30)).setCell ⟨gb550, 0, none⟩ (.slice Ao31 t542.length co31)).setCell ⟨gb550, 1, none⟩ (.slice Ao33 t545.length co33)) w.heap.size (fun k_ => some k_ ≠ (.slice Ao27 t536.length co27 : Value).ownBlock ∧ some k_ ≠ (.slice Ao31 t542.length co31 : Value).ownBlock) (.slice Ao22 t530.length co22) t530) := ⟨by (with_reducible repeat (first | apply Kd.R_alloc | apply Kd.R_drewN | apply Kd.R_drew)); exact Kd.R_mono (Kd.R_far (p := ⟨gb550, 1, none⟩) (Kd.R_far (p := ⟨gb550, 0, none⟩) (Kd.R_far (p := ⟨gb549, 1, none⟩) (Kd.R_far (p := ⟨gb549, 0, none⟩) (Kd.R_far (p := ⟨gb548, 1, none⟩) (Kd.R_far (p := ⟨gb548, 0, none⟩) (Kd.R_types (Kd.R_types (Kd.R_types HO532.out BK548.out (by decide)) BK549.out (by decide)) BK550.out (by decide)) (fun _ hk => hk.1.1.2) (.slice Ao22 t530.length co22)) (fun _ hk => hk.1.1.2) (.slice Ao26 t533.length co26)) (fun _ hk => hk.1.2) (.slice Ao27 t536.length co27)) (fun _ hk => hk.1.2) (.slice Ao30 t539.length co30)) (fun _ hk => hk.2) (.slice Ao31 t542.length co31)) (fun _ hk => hk.2) (.slice Ao33 t545.length co33)) (fun _ hk => ⟨hk.1.1.1.1.2, hk.1.1.1.2⟩)⟩
     have n1_ : Aside0 (Kd.R k81 81 ((((((w21.setCell ⟨gb548, 0, none⟩ (.slice Ao22 t530.length co22)).setCell ⟨gb548, 1, none⟩ (.slice Ao26 t533.length co26)).setCell ⟨gb549, 0, none⟩ (.slice Ao27 t536.length co27)).setCell ⟨gb549, 1, none⟩ (.slice Ao30 t539.length co30)).setCell ⟨gb550, 0, none⟩ (.slice Ao31 t542.length co31)).setCell ⟨gb550, 1, none⟩ (.slice Ao33 t545.length co33)) w.heap.size (fun k_ => some k_ ≠ (.slice Ao30 t539.length co30 : Value).ownBlock ∧ some k_ ≠ (.slice Ao33 t545.length co33 : Value).ownBlock) (.slice Ao26 t533.length co26) t533) := ⟨by (with_reducible repeat (first | apply Kd.R_alloc | apply Kd.R_drewN | apply Kd.R_drew)); exact Kd.R_mono (Kd.R_far (p := ⟨gb550, 1, none⟩) (Kd.R_far (p := ⟨gb550, 0, none⟩) (Kd.R_far (p := ⟨gb549, 1, none⟩) (Kd.R_far (p := ⟨gb549, 0, none⟩) (Kd.R_far (p := ⟨gb548, 1, none⟩) (Kd.R_far (p := ⟨gb548, 0, none⟩) (Kd.R_types (Kd.R_types (Kd.R_types HO535.out BK548.out (by decide)) BK549.out (by decide)) BK550.out (by decide)) (fun _ hk => hk.1.1.2) (.slice Ao22 t530.length co22)) (fun _ hk => hk.1.1.2) (.slice Ao26 t533.length co26)) (fun _ hk => hk.1.2) (.slice Ao27 t536.length co27)) (fun _ hk => hk.1.2) (.slice Ao30 t539.length co30)) (fun _ hk => hk.2) (.slice Ao31 t542.length co31)) (fun _ hk => hk.2) (.slice Ao33 t545.length co33)) (fun _ hk => ⟨hk.1.1.1.1.2, hk.1.1.1.2⟩)⟩
     have n2_ : Aside0 (Kd.R k62 62 ((((((w21.setCell ⟨gb548, 0, none⟩ (.slice Ao22 t530.length co22)).setCell ⟨gb548, 1, none⟩ (.slice Ao26 t533.length co26)).setCell ⟨gb549, 0, none⟩ (.slice Ao27 t536.length co27)).setCell ⟨gb549, 1, none⟩ (.slice Ao30 t539.length co30)).setCell ⟨gb550, 0, none⟩ (.slice Ao31 t542.length co31)).setCell ⟨gb550, 1, none⟩ (.slice Ao33 t545.length co33)) w.heap.size (fun k_ => some k_ ≠ (.slice Ao22 t530.length co22 : Value).ownBlock ∧ some k_ ≠ (.slice Ao31 t542.length co31 : Value).ownBlock) (.slice Ao27 t536.length co27) t536) := ⟨by (with_reducible repeat (first | apply Kd.R_alloc | apply Kd.R_drewN | apply Kd.R_drew)); exact Kd.R_mono (Kd.R_far (p := ⟨gb550, 1, none⟩) (Kd.R_far (p := ⟨gb550, 0, none⟩) (Kd.R_far (p := ⟨gb549, 1, none⟩) (Kd.R_far (p := ⟨gb549, 0, none⟩) (Kd.R_far (p := ⟨gb548, 1, none⟩) (Kd.R_far (p := ⟨gb548, 0, none⟩) (Kd.R_types (Kd.R_types (Kd.R_types HO538.out BK548.out (by decide)) BK549.out (by decide)) BK550.out (by decide)) (fun _ hk => hk.1.1.2) (.slice Ao22 t530.length co22)) (fun _ hk => hk.1.1.2) (.slice Ao26 t533.length co26)) (fun _ hk => hk.1.2) (.slice Ao27 t536.length co27)) (fun _ hk => hk.1.2) (.slice Ao30 t539.length co30)) (fun _ hk => hk.2) (.slice Ao31 t542.length co31)) (fun _ hk => hk.2) (.slice Ao33 t545.length co33)) (fun _ hk => ⟨hk.1.1.1.1.2, hk.1.1.1.2⟩)⟩
     have n3_ : Aside0 (Kd.R k81 81 ((((((w21.setCell ⟨gb548, 0, none⟩ (.slice Ao22 t530.length co22)).setCell ⟨gb548, 1, none⟩ (.slice Ao26 t533.length co26)).setCell ⟨gb549, 0, none⟩ (.slice Ao27 t536.length co27)).setCell ⟨gb549, 1, none⟩ (.slice Ao30 t539.length co30)).setCell ⟨gb550, 0, none⟩ (.slice Ao31 t542.length co31)).setCell ⟨gb550, 1, none⟩ (.slice Ao33 t545.length co33)) w.heap.size (fun k_ => some k_ ≠ (.slice Ao26 t533.length co26 : Value).ownBlock ∧ some k_ ≠ (.slice Ao33 t545.length co33 : Value).ownBlock) (.slice Ao30 t539.length co30) t539) := ⟨by (with_reducible repeat (first | apply Kd.R_alloc | apply Kd.R_drewN | apply Kd.R_drew)); exact Kd.R_mono (Kd.R_far (p := ⟨gb550, 1, none⟩) (Kd.R_far (p := ⟨gb550, 0, none⟩) (Kd.R_far (p := ⟨gb549, 1, none⟩) (Kd.R_far (p := ⟨gb549, 0, none⟩) (Kd.R_far (p := ⟨gb548, 1, none⟩) (Kd.R_far (p := ⟨gb548, 0, none⟩) (Kd.R_types (Kd.R_types (Kd.R_types HO541.out BK548.out (by decide)) BK549.out (by decide)) BK550.out (by decide)) (fun _ hk => hk.1.1.2) (.slice Ao22 t530.length co22)) (fun _ hk => hk.1.1.2) (.slice Ao26 t533.length co26)) (fun _ hk => hk.1.2) (.slice Ao27 t536.length co27)) (fun _ hk => hk.1.2) (.slice Ao30 t539.length co30)) (fun _ hk => hk.2) (.slice Ao31 t542.length co31)) (fun _ hk => hk.2) (.slice Ao33 t545.length co33)) (fun _ hk => ⟨hk.1.1.1.1.2, hk.1.1.1.2⟩)⟩
     have n4_ : Aside0 (Kd.R k62 62 ((((((w21.setCell ⟨gb548, 0, none⟩ (.slice Ao22 t530.length co22)).setCell ⟨gb548, 1, none⟩ (.slice Ao26 t533.length co26)).setCell ⟨gb549, 0, none⟩ (.slice Ao27 t536.length co27)).setCell ⟨gb549, 1, none⟩ (.slice Ao30 t539.length co30)).setCell ⟨gb550, 0, none⟩ (.slice Ao31 t542.length co31)).setCell ⟨gb550, 1, none⟩ (.slice Ao33 t545.length co33)) w.heap.size (fun k_ => some k_ ≠ (.slice Ao22 t530.length co22 : Value).ownBlock ∧ some k_ ≠ (.slice Ao27 t536.length co27 : Value).ownBlock) (.slice Ao31 t542.length co31) t542) := ⟨by (with_reducible repeat (first | apply Kd.R_alloc | apply Kd.R_drewN | apply Kd.R_drew)); exact Kd.R_mono (Kd.R_far (p := ⟨gb550, 1, none⟩) (Kd.R_far (p := ⟨gb550, 0, none⟩) (Kd.R_far (p := ⟨gb549, 1, none⟩) (Kd.R_far (p := ⟨gb549, 0, none⟩) (Kd.R_far (p := ⟨gb548, 1, none⟩) (Kd.R_far (p := ⟨gb548, 0, none⟩) (Kd.R_types (Kd.R_types (Kd.R_types HO544.out BK548.out (by decide)) BK549.out (by decide)) BK550.out (by decide)) (fun _ hk => hk.1.1.2) (.slice Ao22 t530.length co22)) (fun _ hk => hk.1.1.2) (.slice Ao26 t533.length co26)) (fun _ hk => hk.1.2) (.slice Ao27 t536.length co27)) (fun _ hk => hk.1.2) (.slice Ao30 t539.length co30)) (fun _ hk => hk.2) (.slice Ao31 t542.length co31)) (fun _ hk => hk.2) (.slice Ao33 t545.length co33)) (fun _ hk => ⟨hk.1.1.1.1.2, hk.1.1.1.2⟩)⟩
     have n5_ : Aside0 (Kd.R k81 81 ((((((w21.setCell ⟨gb548, 0, none⟩ (.slice Ao22 t530.length co22)).setCell ⟨gb548, 1, none⟩ (.slice Ao26 t533.length co26)).setCell ⟨gb549, 0, none⟩ (.slice Ao27 t536.length co27)).setCell ⟨gb549, 1, none⟩ (.slice Ao30 t539.length co30)).setCell ⟨gb550, 0, none⟩ (.slice Ao31 t542.length co31)).setCell ⟨gb550, 1, none⟩ (.slice Ao33 t545.length co33)) w.heap.size (fun k_ => some k_ ≠ (.slice Ao26 t533.length co26 : Value).ownBlock ∧ some k_ ≠ (.slice Ao30 t539.length co30 : Value).ownBlock) (.slice Ao33 t545.length co33) t545) := ⟨by (with_reducible repeat (first | apply Kd.R_alloc | apply Kd.R_drewN | apply Kd.R_drew)); exact Kd.R_mono (Kd.R_far (p := ⟨gb550, 1, none⟩) (Kd.R_far (p := ⟨gb550, 0, none⟩) (Kd.R_far (p := ⟨gb549, 1, none⟩) (Kd.R_far (p := ⟨gb549, 0, none⟩) (Kd.R_far (p := ⟨gb548, 1, none⟩) (Kd.R_far (p := ⟨gb548, 0, none⟩) (Kd.R_types (Kd.R_types (Kd.R_types HO547.out BK548.out (by decide)) BK549.out (by decide)) BK550.out (by decide)) (fun _ hk => hk.1.1.2) (.slice Ao22 t530.length co22)) (fun _ hk => hk.1.1.2) (.slice Ao26 t533.length co26)) (fun _ hk => hk.1.2) (.slice Ao27 t536.length co27)) (fun _ hk => hk.1.2) (.slice Ao30 t539.length co30)) (fun _ hk => hk.2) (.slice Ao31 t542.length co31)) (fun _ hk => hk.2) (.slice Ao33 t545.length co33)) (fun _ hk => ⟨hk.1.1.1.1.2, hk.1.1.1.2⟩)⟩
     have n6_ : Aside0 (((((((w21.setCell ⟨gb548, 0, none⟩ (.slice Ao22 t530.length co22)).setCell ⟨gb548, 1, none⟩ (.slice Ao26 t533.length co26)).setCell ⟨gb549, 0, none⟩ (.slice Ao27 t536.length co27)).setCell ⟨gb549, 1, none⟩ (.slice Ao30 t539.length co30)).setCell ⟨gb550, 0, none⟩ (.slice Ao31 t542.length co31)).setCell ⟨gb550, 1, none⟩ (.slice Ao33 t545.length co33)).heap[gb548]? = some (.cells #[.slice Ao22 t530.length co22, .slice Ao26 t533.length co26] 25 (0, 0))) := ⟨by refine bx_ ?_; refine blk_far ?_ NB548_550.out _; refine bx_ ?_; refine blk_far ?_ NB548_550.out _; refine bx_ ?_; refine blk_far ?_ NB548_549.out _; refine bx_ ?_; refine blk_far ?_ NB548_549.out _; refine bx_ ?_; refine blk_put (cs := #[.slice Ao22 t530.length co22, .slice none 0 0]) ?_ 1 _ rfl; refine bx_ ?_; refine blk_put (cs := #[.slice none 0 0, .slice none 0 0]) ?_ 0 _ rfl; refine bx_ ?_; exact BK548.out⟩
     have n7_ : Aside0 (((((((w21.setCell ⟨gb548, 0, none⟩ (.slice Ao22 t530.length co22)).setCell ⟨gb548, 1, none⟩ (.slice Ao26 t533.length co26)).setCell ⟨gb549, 0, none⟩ (.slice Ao27 t536.length co27)).setCell ⟨gb549, 1, none⟩ (.slice Ao30 t539.length co30)).setCell ⟨gb550, 0, none⟩ (.slice Ao31 t542.length co31)).setCell ⟨gb550, 1, none⟩ (.slice Ao33 t545.length co33)).heap[gb549]? = some (.cells #[.slice Ao27 t536.length co27, .slice Ao30 t539.length co30] 25 (0, 0))) := ⟨by refine bx_ ?_; refine blk_far ?_ NB549_550.out _; refine bx_ ?_; refine blk_far ?_ NB549_550.out _; refine bx_ ?_; refine blk_put (cs := #[.slice Ao27 t536.length co27, .slice none 0 0]) ?_ 1 _ rfl; refine bx_ ?_; refine blk_put (cs := #[.slice none 0 0, .slice none 0 0]) ?_ 0 _ rfl; refine bx_ ?_; refine blk_far ?_ NB549_548.out _; refine bx_ ?_; refine blk_far ?_ NB549_548.out _; refine bx_ ?_; exact BK549.out⟩
     have n8_ : Aside0 (((((((w21.setCell ⟨gb548, 0, none⟩ (.slice Ao22 t530.length co22)).setCell ⟨gb548, 1, none⟩ (.slice Ao26 t533.length co26)).setCell ⟨gb549, 0, none⟩ (.slice Ao27 t536.length co27)).setCell ⟨gb549, 1, none⟩ (.slice Ao30 t539.length co30)).setCell ⟨gb550, 0, none⟩ (.slice Ao31 t542.length co31)).setCell ⟨gb550, 1, none⟩ (.slice Ao33 t545.length co33)).heap[gb550]? = some (.cells #[.slice Ao31 t542.length co31, .slice Ao33 t545.length co33] 25 (0, 0))) := ⟨by refine bx_ ?_; refine blk_put (cs := #[.slice Ao31 t542.length co31, .slice none 0 0]) ?_ 1 _ rfl; refine bx_ ?_; refine blk_put (cs := #[.slice none 0 0, .slice none 0 0]) ?_ 0 _ rfl; refine bx_ ?_; refine blk_far ?_ NB550_549.out _; refine bx_ ?_; refine blk_far ?_ NB550_549.out _; refine bx_ ?_; refine blk_far ?_ NB550_548.out _; refine bx_ ?_; refine blk_far ?_ NB550_548.out _; refine bx_ ?_; exact BK550.out⟩
     have n9_ : Aside0 (Below w.heap.size w ((((((w21.setCell ⟨gb548, 0, none⟩ (.slice Ao22 t530.length co22)).setCell ⟨gb548, 1, none⟩ (.slice Ao26 t533.length co26)).setCell ⟨gb549, 0, none⟩ (.slice Ao27 t536.length co27)).setCell ⟨gb549, 1, none⟩ (.slice Ao30 t539.length co30)).setCell ⟨gb550, 0, none⟩ (.slice Ao31 t542.length co31)).setCell ⟨gb550, 1, none⟩ (.slice Ao33 t545.length co33))) := ⟨be3_ HB GE548 GE549 GE550⟩
     (try clear HO532)
     (try clear HO535)
     (try clear HO538)
     (try clear HO541)
     (try clear HO544)
     (try clear HO547)
     (try clear BK548)
     (try clear BK549)
     (try clear BK550)
     (try clear HB)
     generalize ((((((w21.setCell ⟨gb548, 0, none⟩ (.slice Ao22 t530.length co22)).setCell ⟨gb548, 1, none⟩ (.slice Ao26 t533.length co26)).setCell ⟨gb549, 0, none⟩ (.slice Ao27 t536.length co27)).setCell ⟨gb549, 1, none⟩ (.slice Ao30 t539.length co30)).setCell ⟨gb550, 0, none⟩ (.slice Ao31 t542.length co31)).setCell ⟨gb550, 1, none⟩ (.slice Ao33 t545.length co33)) = w34 at n0_ n1_ n2_ n3_ n4_ n5_ n6_ n7_ n8_ n9_ ⊢
     have HO532 := n0_
     have HO535 := n1_
     have HO538 := n2_
     have HO541 := n3_
     have HO544 := n4_
     have HO547 := n5_
     have BK548 := n6_
     have BK549 := n7_
     have BK550 := n8_
     have HB := n9_
     clear n0_ n1_ n2_ n3_ n4_ n5_ n6_ n7_ n8_ n9_
     replace HO532 := Aside0.mk (Kd.R_drew HO532.out)
     replace HO535 := Aside0.mk (Kd.R_drew HO535.out)
     replace HO538 := Aside0.mk (Kd.R_drew HO538.out)
     replace HO541 := Aside0.mk (Kd.R_drew HO541.out)
     replace HO544 := Aside0.mk (Kd.R_drew HO544.out)
     replace HO547 := Aside0.mk (Kd.R_drew HO547.out)
     replace BK548 := Aside0.mk (blk_drew BK548.out)
     replace BK549 := Aside0.mk (blk_drew BK549.out)
     replace BK550 := Aside0.mk (blk_drew BK550.out)
     replace HB := Aside0.mk (below_drew1 HB.out)
     refine start_ (n := 6) (S := fun w' => w'.cell? ⟨gb548, 0, none⟩ = some (.slice Ao22 t530.length co22) ∧ w'.cell? ⟨gb548, 1, none⟩ = some (.slice Ao26 t533.length co26)) (ds := [5]) (bm_ 6 0) (by kernel_rfl) rfl rfl ⟨bc_ BK548 0, bc_ BK548 1⟩ (fun hHeld => ?_)
     generalize w34.drew = w35 at HO532 HO535 HO538 HO541 HO544 HO547 BK548 BK549 BK550 HB hHeld ⊢
     refine pure_ (i := 0) (N := some 22) (v := ?_) (a' := ?_) (bm_ 6 1) rfl rfl (by kernel_rfl) (fun _ _ _ h => h) (Or.inl ⟨by rfl, ?_⟩) ?_ ?_
     rotate_left
     ·intro w'
      go_simp
      with_reducible rfl
     rotate_left
     ·exact pt_
     refine take_ (i := 1) (N := some 23) (v := ?_) (a' := ?_) (bm_ 6 3) rfl rfl (by kernel_rfl) (fun _ _ _ h => h) (Or.inl ⟨by rfl, ?_⟩) hHeld ?_ ?_
     rotate_left
     ·rintro w' ⟨s0, s1⟩
      go_simp
      with_reducible rfl
     rotate_left
     ·exact pt_
     refine one_ (i := 2) (N := some 24) (bm_ 6 7) rfl rfl (by kernel_rfl) (by decide) (fun K hK => ?_)
     refine goes_ Tryd.func32 (by kernel_rfl) rfl #[.int .i64 40, .int .i64 47] (by rfl) rfl rfl ls_ ?_
     with_reducible refine (cottonpadlaw06_span.calls 40 47 t551 t552 _ A6.out).mono ?_
     rintro e w36 ⟨rfl, hb⟩
     refine ⟨_, rfl, ?_⟩
     replace HO532 := rb_ HO532 hb
     replace HO535 := rb_ HO535 hb
     replace HO538 := rb_ HO538 hb
     replace HO541 := rb_ HO541 hb
     replace HO544 := rb_ HO544 hb
     replace HO547 := rb_ HO547 hb
     replace BK548 := bb_ BK548 hb
     replace BK549 := bb_ BK549 hb
     replace BK550 := bb_ BK550 hb
     replace HB := bs3_ HB GE548 GE549 GE550 hb
     (try clear hb)
     (try clear hb2)
     (try clear hk)
     (try clear hi)
     have p8 : 0 ≤ (1 : Int) := (by omega)
     have q8 : (1 : Int) < ((t530.length : Int) : Int) := of_decide_eq_true as_
     have qi8 : (1 < t530.length) = True := eq_true (by omega)
     obtain ⟨go8, co8, eo8, gb8, gl8, cl8, HG8⟩ := Kd.R_form HO532.out (by omega)
     (first | cases eo8 | (injection eo8 with ea_ en_ ec_; (first | subst ea_ | (injection ea_ with ea_; subst ea_)); subst ec_; clear en_))
     have GB8 := Aside0.mk gb8
     have GG8 := Aside0.mk HG8
     clear gb8 gl8 HG8
     obtain ⟨ce8, hcl8, hM8, hcc8, hfr8⟩ := Kd.R_elem HO532.out z62 (1 : Int) p8 q8
     obtain rfl := k62_openM hM8
     have hx8_0 : World.cell? _ ⟨go8, (1 : Int).toNat * 6, none⟩ = some (.int .i64 ((rd_T62 t530 1).f0)) := hcc8 0 _ rfl
     have hx8_1 : World.cell? _ ⟨go8, (1 : Int).toNat * 6 + 1, none⟩ = some (.int .i64 ((rd_T62 t530 1).f1)) := hcc8 1 _ rfl
     have hx8_2 : World.cell? _ ⟨go8, (1 : Int).toNat * 6 + 2, none⟩ = some (.int .i64 ((rd_T62 t530 1).f2.f0)) := hcc8 2 _ rfl
     have hx8_3 : World.cell? _ ⟨go8, (1 : Int).toNat * 6 + 3, none⟩ = some (.int .i64 ((rd_T62 t530 1).f2.f1)) := hcc8 3 _ rfl
     have hx8_4 : World.cell? _ ⟨go8, (1 : Int).toNat * 6 + 4, none⟩ = some (.int .i64 ((rd_T62 t530 1).f3.f0)) := hcc8 4 _ rfl
     have hx8_5 : World.cell? _ ⟨go8, (1 : Int).toNat * 6 + 5, none⟩ = some (.int .i64 ((rd_T62 t530 1).f3.f1)) := hcc8 5 _ rfl
     have hf8_0 : World.frozen? _ ⟨go8, (1 : Int).toNat * 6, none⟩ = false := hfr8 0
     have hf8_1 : World.frozen? _ ⟨go8, (1 : Int).toNat * 6 + 1, none⟩ = false := hfr8 1
     have hf8_2 : World.frozen? _ ⟨go8, (1 : Int).toNat * 6 + 2, none⟩ = false := hfr8 2
     have hf8_3 : World.frozen? _ ⟨go8, (1 : Int).toNat * 6 + 3, none⟩ = false := hfr8 3
     have hf8_4 : World.frozen? _ ⟨go8, (1 : Int).toNat * 6 + 4, none⟩ = false := hfr8 4
     have hf8_5 : World.frozen? _ ⟨go8, (1 : Int).toNat * 6 + 5, none⟩ = false := hfr8 5
     clear hcl8 hcc8 hfr8 hM8
     (try rw [show ((1 : Int)).toNat = 1 from rfl] at hx8_0)
     (try simp only [Nat.reduceMul, Nat.zero_mul, Nat.zero_add, Nat.reduceAdd] at hx8_0)
     (try rw [show ((1 : Int)).toNat = 1 from rfl] at hf8_0)
     (try simp only [Nat.reduceMul, Nat.zero_mul, Nat.zero_add, Nat.reduceAdd] at hf8_0)
     (try rw [show ((1 : Int)).toNat = 1 from rfl] at hx8_1)
     (try simp only [Nat.reduceMul, Nat.zero_mul, Nat.zero_add, Nat.reduceAdd] at hx8_1)
     (try rw [show ((1 : Int)).toNat = 1 from rfl] at hf8_1)
     (try simp only [Nat.reduceMul, Nat.zero_mul, Nat.zero_add, Nat.reduceAdd] at hf8_1)
     (try rw [show ((1 : Int)).toNat = 1 from rfl] at hx8_2)
     (try simp only [Nat.reduceMul, Nat.zero_mul, Nat.zero_add, Nat.reduceAdd] at hx8_2)
     (try rw [show ((1 : Int)).toNat = 1 from rfl] at hf8_2)
     (try simp only [Nat.reduceMul, Nat.zero_mul, Nat.zero_add, Nat.reduceAdd] at hf8_2)
     (try rw [show ((1 : Int)).toNat = 1 from rfl] at hx8_3)
     (try simp only [Nat.reduceMul, Nat.zero_mul, Nat.zero_add, Nat.reduceAdd] at hx8_3)
     (try rw [show ((1 : Int)).toNat = 1 from rfl] at hf8_3)
     (try simp only [Nat.reduceMul, Nat.zero_mul, Nat.zero_add, Nat.reduceAdd] at hf8_3)
     (try rw [show ((1 : Int)).toNat = 1 from rfl] at hx8_4)
     (try simp only [Nat.reduceMul, Nat.zero_mul, Nat.zero_add, Nat.reduceAdd] at hx8_4)
     (try rw [show ((1 : Int)).toNat = 1 from rfl] at hf8_4)
     (try simp only [Nat.reduceMul, Nat.zero_mul, Nat.zero_add, Nat.reduceAdd] at hf8_4)
     (try rw [show ((1 : Int)).toNat = 1 from rfl] at hx8_5)
     (try simp only [Nat.reduceMul, Nat.zero_mul, Nat.zero_add, Nat.reduceAdd] at hx8_5)
     (try rw [show ((1 : Int)).toNat = 1 from rfl] at hf8_5)
     (try simp only [Nat.reduceMul, Nat.zero_mul, Nat.zero_add, Nat.reduceAdd] at hf8_5)
     replace p8 := eq_true p8
     replace q8 := eq_true q8
     obtain ⟨ce37, hcl37, hM37, hcc37, hfr37⟩ := Kd.R_elem HO532.out z62 (1 : Int) (by omega) (by have h_ : (1 : Int) < ((t530.length : Int) : Int) := of_decide_eq_true as_; first | exact h_ | (have e_ := (Kd.R_reads' HO532.out).1; omega) | simpa using h_)
     obtain rfl := k62_openM hM37
     have HP37 := (Kd.R_seg HO532.out (1 : Int) (by omega) (by have h_ : (1 : Int) < ((t530.length : Int) : Int) := of_decide_eq_true as_; first | exact h_ | (have e_ := (Kd.R_reads' HO532.out).1; omega) | simpa using h_) (seg := [.int .i64 t551, .int .i64 t552]) (j := 4) hcl37 hcc37 (show 6 ≤ 6 from by decide) (x' := (⟨(rd_T62 t530 1).f0, (rd_T62 t530 1).f1, (⟨(rd_T62 t530 1).f2.f0, (rd_T62 t530 1).f2.f1⟩ : S36), (⟨t551, t552⟩ : S36)⟩ : S62)) (k62_mkM _ _ _ (⟨(rd_T62 t530 1).f0, (rd_T62 t530 1).f1, (⟨(rd_T62 t530 1).f2.f0, (rd_T62 t530 1).f2.f1⟩ : S36), (⟨t551, t552⟩ : S36)⟩ : S62) ) (fun _ hk => hk)).1
     rw [← Ny553.out] at HP37
     have HQ37 := Aside0.mk HP37
     clear hcl37 hcc37 hfr37 hM37 HP37
     refine hK.out _ _ ⟨bc_ BK548 0, bc_ BK548 1⟩ (fun hHeld => ?_)
     clear hK K
     refine norm_ (a' := ?_) ?_ ?_
     rotate_left
     ·show Act.put _ (some 24) _ = _
      simp only [Act.put, List.setIfInBounds_toArray, List.set_cons_zero, List.set_cons_succ, i64_w, i32_w]
      rfl
     refine pure_ (i := 3) (N := some 25) (v := ?_) (a' := ?_) (bm_ 6 15) rfl rfl (by kernel_rfl) (fun _ _ _ h => h) (Or.inl ⟨by rfl, ?_⟩) ?_ ?_
     rotate_left
     ·intro w'
      go_simp
      with_reducible rfl
     rotate_left
     ·exact pt_
     refine pure_ (i := 4) (N := some 26) (v := ?_) (a' := ?_) (bm_ 6 31) rfl rfl (by kernel_rfl) (fun _ _ _ h => h) (Or.inl ⟨by rfl, ?_⟩) ?_ ?_
     rotate_left
     ·intro w'
      go_simp
      with_reducible rfl
     rotate_left
     ·exact pt_
     refine last_ (i := 5) (N := none) (bm_ 6 63) rfl rfl (by kernel_rfl) (by decide) (fun K hK => ?_)
     refine skip_ (w1 := ?_) (by rfl) rfl ?_ ?_
     rotate_left
     ·go_simp
      rfl
     refine hK.out _ _ ?_
     clear hK K
     refine done_ (by kernel_rfl) ?_
     have n0_ : Aside0 (Kd.R k62 62 ((w36.setCell ⟨go8, 10, none⟩ (.int .i64 t551)).setCell ⟨go8, 11, none⟩ (.int .i64 t552)) w.heap.size (fun k_ => some k_ ≠ (.slice Ao27 t536.length co27 : Value).ownBlock ∧ some k_ ≠ (.slice Ao31 t542.length co31 : Value).ownBlock) (.slice (some ⟨go8, 0, none⟩) t530.length co22) y553) := ⟨by (with_reducible repeat (first | apply Kd.R_alloc | apply Kd.R_drewN | apply Kd.R_drew)); exact HQ37.out⟩
     have n1_ : Aside0 (Kd.R k81 81 ((w36.setCell ⟨go8, 10, none⟩ (.int .i64 t551)).setCell ⟨go8, 11, none⟩ (.int .i64 t552)) w.heap.size (fun k_ => some k_ ≠ (.slice Ao30 t539.length co30 : Value).ownBlock ∧ some k_ ≠ (.slice Ao33 t545.length co33 : Value).ownBlock) (.slice Ao26 t533.length co26) t533) := ⟨by (with_reducible repeat (first | apply Kd.R_alloc | apply Kd.R_drewN | apply Kd.R_drew)); exact Kd.R_mono (Kd.R_far (p := ⟨go8, 11, none⟩) (Kd.R_far (p := ⟨go8, 10, none⟩) (Kd.R_types HO535.out GG8.out (by decide)) (fun _ hk => hk.2) (.int .i64 t551)) (fun _ hk => hk.2) (.int .i64 t552)) (fun _ hk => ⟨hk.1.1, hk.1.2⟩)⟩
     have n2_ : Aside0 (Kd.R k62 62 ((w36.setCell ⟨go8, 10, none⟩ (.int .i64 t551)).setCell ⟨go8, 11, none⟩ (.int .i64 t552)) w.heap.size (fun k_ => some k_ ≠ (.slice (some ⟨go8, 0, none⟩) t530.length co22 : Value).ownBlock ∧ some k_ ≠ (.slice Ao31 t542.length co31 : Value).ownBlock) (.slice Ao27 t536.length co27) t536) := ⟨by (with_reducible repeat (first | apply Kd.R_alloc | apply Kd.R_drewN | apply Kd.R_drew)); exact Kd.R_mono (Kd.R_far (p := ⟨go8, 11, none⟩) (Kd.R_far (p := ⟨go8, 10, none⟩) (Kd.R_mono HO538.out (fun k_ hk => (⟨hk, fun e_ => hk.1 (by rw [e_]; rfl)⟩ : _ ∧ k_ ≠ go8))) (fun _ hk => hk.2) (.int .i64 t551)) (fun _ hk => hk.2) (.int .i64 t552)) (fun _ hk => ⟨hk.1.1, hk.1.2⟩)⟩
     have n3_ : Aside0 (Kd.R k81 81 ((w36.setCell ⟨go8, 10, none⟩ (.int .i64 t551)).setCell ⟨go8, 11, none⟩ (.int .i64 t552)) w.heap.size (fun k_ => some k_ ≠ (.slice Ao26 t533.length co26 : Value).ownBlock ∧ some k_ ≠ (.slice Ao33 t545.length co33 : Value).ownBlock) (.slice Ao30 t539.length co30) t539) := ⟨by (with_reducible repeat (first | apply Kd.R_alloc | apply Kd.R_drewN | apply Kd.R_drew)); exact Kd.R_mono (Kd.R_far (p := ⟨go8, 11, none⟩) (Kd.R_far (p := ⟨go8, 10, none⟩) (Kd.R_types HO541.out GG8.out (by decide)) (fun _ hk => hk.2) (.int .i64 t551)) (fun _ hk => hk.2) (.int .i64 t552)) (fun _ hk => ⟨hk.1.1, hk.1.2⟩)⟩
     have n4_ : Aside0 (Kd.R k62 62 ((w36.setCell ⟨go8, 10, none⟩ (.int .i64 t551)).setCell ⟨go8, 11, none⟩ (.int .i64 t552)) w.heap.size (fun k_ => some k_ ≠ (.slice (some ⟨go8, 0, none⟩) t530.length co22 : Value).ownBlock ∧ some k_ ≠ (.slice Ao27 t536.length co27 : Value).ownBlock) (.slice Ao31 t542.length co31) t542) := ⟨by (with_reducible repeat (first | apply Kd.R_alloc | apply Kd.R_drewN | apply Kd.R_drew)); exact Kd.R_mono (Kd.R_far (p := ⟨go8, 11, none⟩) (Kd.R_far (p := ⟨go8, 10, none⟩) (Kd.R_mono HO544.out (fun k_ hk => (⟨hk, fun e_ => hk.1 (by rw [e_]; rfl)⟩ : _ ∧ k_ ≠ go8))) (fun _ hk => hk.2) (.int .i64 t551)) (fun _ hk => hk.2) (.int .i64 t552)) (fun _ hk => ⟨hk.1.1, hk.1.2⟩)⟩
     have n5_ : Aside0 (Kd.R k81 81 ((w36.setCell ⟨go8, 10, none⟩ (.int .i64 t551)).setCell ⟨go8, 11, none⟩ (.int .i64 t552)) w.heap.size (fun k_ => some k_ ≠ (.slice Ao26 t533.length co26 : Value).ownBlock ∧ some k_ ≠ (.slice Ao30 t539.length co30 : Value).ownBlock) (.slice Ao33 t545.length co33) t545) := ⟨by (with_reducible repeat (first | apply Kd.R_alloc | apply Kd.R_drewN | apply Kd.R_drew)); exact Kd.R_mono (Kd.R_far (p := ⟨go8, 11, none⟩) (Kd.R_far (p := ⟨go8, 10, none⟩) (Kd.R_types HO547.out GG8.out (by decide)) (fun _ hk => hk.2) (.int .i64 t551)) (fun _ hk => hk.2) (.int .i64 t552)) (fun _ hk => ⟨hk.1.1, hk.1.2⟩)⟩
     have n6_ : Aside0 (((w36.setCell ⟨go8, 10, none⟩ (.int .i64 t551)).setCell ⟨go8, 11, none⟩ (.int .i64 t552)).heap[gb548]? = some (.cells #[.slice (some ⟨go8, 0, none⟩) t530.length co22, .slice Ao26 t533.length co26] 25 (0, 0))) := ⟨by refine bx_ ?_; refine blk_far ?_ (by have h_ := Kd.R_ne HO532.out BK548.out (by decide); intro e_; exact h_ (by rw [e_]; rfl)) _; refine bx_ ?_; refine blk_far ?_ (by have h_ := Kd.R_ne HO532.out BK548.out (by decide); intro e_; exact h_ (by rw [e_]; rfl)) _; refine bx_ ?_; exact BK548.out⟩
     have n7_ : Aside0 (((w36.setCell ⟨go8, 10, none⟩ (.int .i64 t551)).setCell ⟨go8, 11, none⟩ (.int .i64 t552)).heap[gb549]? = some (.cells #[.slice Ao27 t536.length co27, .slice Ao30 t539.length co30] 25 (0, 0))) := ⟨by refine bx_ ?_; refine blk_far ?_ (by have h_ := Kd.R_ne HO532.out BK549.out (by decide); intro e_; exact h_ (by rw [e_]; rfl)) _; refine bx_ ?_; refine blk_far ?_ (by have h_ := Kd.R_ne HO532.out BK549.out (by decide); intro e_; exact h_ (by rw [e_]; rfl)) _; refine bx_ ?_; exact BK549.out⟩
     have n8_ : Aside0 (((w36.setCell ⟨go8, 10, none⟩ (.int .i64 t551)).setCell ⟨go8, 11, none⟩ (.int .i64 t552)).heap[gb550]? = some (.cells #[.slice Ao31 t542.length co31, .slice Ao33 t545.length co33] 25 (0, 0))) := ⟨by refine bx_ ?_; refine blk_far ?_ (by have h_ := Kd.R_ne HO532.out BK550.out (by decide); intro e_; exact h_ (by rw [e_]; rfl)) _; refine bx_ ?_; refine blk_far ?_ (by have h_ := Kd.R_ne HO532.out BK550.out (by decide); intro e_; exact h_ (by rw [e_]; rfl)) _; refine bx_ ?_; exact BK550.out⟩
     have n9_ : Aside0 (Below w.heap.size w ((w36.setCell ⟨go8, 10, none⟩ (.int .i64 t551)).setCell ⟨go8, 11, none⟩ (.int .i64 t552))) := ⟨by repeat (first | (with_reducible first | exact HB.out | apply below_alloc | apply pw_below_drewN | apply below_drew1 | refine below_set ?_ GB8.out | refine below_set ?_ GB8.out | refine below_set ?_ GE548.out | refine below_set ?_ GE549.out | refine below_set ?_ GE550.out) | exact HB.out)⟩
     (try clear HO532)
     (try clear HO535)
     (try clear HO538)
     (try clear HO541)
     (try clear HO544)
     (try clear HO547)
     (try clear BK548)
     (try clear BK549)
     (try clear BK550)
     (try clear HB)
     generalize ((w36.setCell ⟨go8, 10, none⟩ (.int .i64 t551)).setCell ⟨go8, 11, none⟩ (.int .i64 t552)) = w38 at n0_ n1_ n2_ n3_ n4_ n5_ n6_ n7_ n8_ n9_ ⊢
     have HO532 := n0_
     have HO535 := n1_
     have HO538 := n2_
     have HO541 := n3_
     have HO544 := n4_
     have HO547 := n5_
     have BK548 := n6_
     have BK549 := n7_
     have BK550 := n8_
     have HB := n9_
     clear n0_ n1_ n2_ n3_ n4_ n5_ n6_ n7_ n8_ n9_
     have hcz39_0 : w38.cell? ⟨gb549, 0, none⟩ = some (.slice Ao27 t536.length co27) := bc_ BK549 0
     have hcz39_1 : w38.cell? ⟨gb549, 1, none⟩ = some (.slice Ao30 t539.length co30) := bc_ BK549 1
     have hfz39_0 := blk_frozen BK549.out 0
     have hfz39_1 := blk_frozen BK549.out 1
     have p10 : 0 ≤ (0 : Int) := (by omega)
     have q10 : (0 : Int) < ((t536.length : Int) : Int) := of_decide_eq_true as_
     have qi10 : (0 < t536.length) = True := eq_true (by omega)
     obtain ⟨go10, co10, eo10, gb10, gl10, cl10, HG10⟩ := Kd.R_form HO538.out (by omega)
     (first | cases eo10 | (injection eo10 with ea_ en_ ec_; (first | subst ea_ | (injection ea_ with ea_; subst ea_)); subst ec_; clear en_))
     have GB10 := Aside0.mk gb10
     have GG10 := Aside0.mk HG10
     clear gb10 gl10 HG10
     obtain ⟨ce10, hcl10, hM10, hcc10, hfr10⟩ := Kd.R_elem HO538.out z62 (0 : Int) p10 q10
     obtain rfl := k62_openM hM10
     have hx10_0 : w38.cell? ⟨go10, (0 : Int).toNat * 6, none⟩ = some (.int .i64 ((rd_T62 t536 0).f0)) := hcc10 0 _ rfl
     have hx10_1 : w38.cell? ⟨go10, (0 : Int).toNat * 6 + 1, none⟩ = some (.int .i64 ((rd_T62 t536 0).f1)) := hcc10 1 _ rfl
     have hx10_2 : w38.cell? ⟨go10, (0 : Int).toNat * 6 + 2, none⟩ = some (.int .i64 ((rd_T62 t536 0).f2.f0)) := hcc10 2 _ rfl
     have hx10_3 : w38.cell? ⟨go10, (0 : Int).toNat * 6 + 3, none⟩ = some (.int .i64 ((rd_T62 t536 0).f2.f1)) := hcc10 3 _ rfl
     have hx10_4 : w38.cell? ⟨go10, (0 : Int).toNat * 6 + 4, none⟩ = some (.int .i64 ((rd_T62 t536 0).f3.f0)) := hcc10 4 _ rfl
     have hx10_5 : w38.cell? ⟨go10, (0 : Int).toNat * 6 + 5, none⟩ = some (.int .i64 ((rd_T62 t536 0).f3.f1)) := hcc10 5 _ rfl
     have hf10_0 : w38.frozen? ⟨go10, (0 : Int).toNat * 6, none⟩ = false := hfr10 0
     have hf10_1 : w38.frozen? ⟨go10, (0 : Int).toNat * 6 + 1, none⟩ = false := hfr10 1
     have hf10_2 : w38.frozen? ⟨go10, (0 : Int).toNat * 6 + 2, none⟩ = false := hfr10 2
     have hf10_3 : w38.frozen? ⟨go10, (0 : Int).toNat * 6 + 3, none⟩ = false := hfr10 3
     have hf10_4 : w38.frozen? ⟨go10, (0 : Int).toNat * 6 + 4, none⟩ = false := hfr10 4
     have hf10_5 : w38.frozen? ⟨go10, (0 : Int).toNat * 6 + 5, none⟩ = false := hfr10 5
     clear hcl10 hcc10 hfr10 hM10
     (try rw [show ((0 : Int)).toNat = 0 from rfl] at hx10_0)
     (try simp only [Nat.reduceMul, Nat.zero_mul, Nat.zero_add, Nat.reduceAdd] at hx10_0)
     (try rw [show ((0 : Int)).toNat = 0 from rfl] at hf10_0)
     (try simp only [Nat.reduceMul, Nat.zero_mul, Nat.zero_add, Nat.reduceAdd] at hf10_0)
     (try rw [show ((0 : Int)).toNat = 0 from rfl] at hx10_1)
     (try simp only [Nat.reduceMul, Nat.zero_mul, Nat.zero_add, Nat.reduceAdd] at hx10_1)
     (try rw [show ((0 : Int)).toNat = 0 from rfl] at hf10_1)
     (try simp only [Nat.reduceMul, Nat.zero_mul, Nat.zero_add, Nat.reduceAdd] at hf10_1)
     (try rw [show ((0 : Int)).toNat = 0 from rfl] at hx10_2)
     (try simp only [Nat.reduceMul, Nat.zero_mul, Nat.zero_add, Nat.reduceAdd] at hx10_2)
     (try rw [show ((0 : Int)).toNat = 0 from rfl] at hf10_2)
     (try simp only [Nat.reduceMul, Nat.zero_mul, Nat.zero_add, Nat.reduceAdd] at hf10_2)
     (try rw [show ((0 : Int)).toNat = 0 from rfl] at hx10_3)
     (try simp only [Nat.reduceMul, Nat.zero_mul, Nat.zero_add, Nat.reduceAdd] at hx10_3)
     (try rw [show ((0 : Int)).toNat = 0 from rfl] at hf10_3)
     (try simp only [Nat.reduceMul, Nat.zero_mul, Nat.zero_add, Nat.reduceAdd] at hf10_3)
     (try rw [show ((0 : Int)).toNat = 0 from rfl] at hx10_4)
     (try simp only [Nat.reduceMul, Nat.zero_mul, Nat.zero_add, Nat.reduceAdd] at hx10_4)
     (try rw [show ((0 : Int)).toNat = 0 from rfl] at hf10_4)
     (try simp only [Nat.reduceMul, Nat.zero_mul, Nat.zero_add, Nat.reduceAdd] at hf10_4)
     (try rw [show ((0 : Int)).toNat = 0 from rfl] at hx10_5)
     (try simp only [Nat.reduceMul, Nat.zero_mul, Nat.zero_add, Nat.reduceAdd] at hx10_5)
     (try rw [show ((0 : Int)).toNat = 0 from rfl] at hf10_5)
     (try simp only [Nat.reduceMul, Nat.zero_mul, Nat.zero_add, Nat.reduceAdd] at hf10_5)
     replace p10 := eq_true p10
     replace q10 := eq_true q10
     have HX40 := Aside0.mk (show Kd.R k62 62 w38 w.heap.size (fun k_ => some k_ ≠ (.slice (some ⟨go8, 0, none⟩) t530.length co22 : Value).ownBlock ∧ some k_ ≠ (.slice Ao31 t542.length co31 : Value).ownBlock) (.slice (some ⟨go10, 0, none⟩) t536.length co27) t536 from (ro_ HO538))
     obtain ⟨ce40, hcl40, hM40, hcc40, hfr40⟩ := Kd.R_elem HX40.out z62 (0 : Int) (by omega) (by have h_ : (0 : Int) < ((t536.length : Int) : Int) := of_decide_eq_true as_; first | exact h_ | (have e_ := (Kd.R_reads' HO538.out).1; omega) | simpa using h_)
     obtain rfl := k62_openM hM40
     have HP40 := Kd.R_seg HX40.out (0 : Int) (by omega) (by have h_ : (0 : Int) < ((t536.length : Int) : Int) := of_decide_eq_true as_; first | exact h_ | (have e_ := (Kd.R_reads' HO538.out).1; omega) | simpa using h_) (seg := [.int .i64 0]) (j := 0) hcl40 hcc40 (show 1 ≤ 6 from by decide) (x' := (⟨0, (rd_T62 t536 0).f1, (⟨(rd_T62 t536 0).f2.f0, (rd_T62 t536 0).f2.f1⟩ : S36), (⟨(rd_T62 t536 0).f3.f0, (rd_T62 t536 0).f3.f1⟩ : S36)⟩ : S62)) (k62_mkM _ _ _ (⟨0, (rd_T62 t536 0).f1, (⟨(rd_T62 t536 0).f2.f0, (rd_T62 t536 0).f2.f1⟩ : S36), (⟨(rd_T62 t536 0).f3.f0, (rd_T62 t536 0).f3.f1⟩ : S36)⟩ : S62) ) (fun _ hk => hk)
     have hx40_0 := hcc40 0 _ rfl
     (try simp only [show (k62).sz = 6 from rfl, Nat.mul_one, Nat.add_zero] at hx40_0)
     (try rw [show ((0 : Int)).toNat = 0 from rfl] at hx40_0)
     (try simp only [Nat.reduceMul, Nat.zero_mul, Nat.zero_add, Nat.reduceAdd] at hx40_0)
     have hf40_0 := hfr40 0
     (try simp only [show (k62).sz = 6 from rfl, Nat.mul_one, Nat.add_zero] at hf40_0)
     (try rw [show ((0 : Int)).toNat = 0 from rfl] at hf40_0)
     (try simp only [Nat.reduceMul, Nat.zero_mul, Nat.zero_add, Nat.reduceAdd] at hf40_0)
     clear hcl40 hcc40 hfr40 hM40
     try go_wp2_with (first | ((with_reducible refine gate_store (t := 3) (p := 30) rfl ?_); refine store_event (t := 3) (p := 30) (v := ?vo_w41) (w1 := (w38.setCell ⟨go10, 0, none⟩ (.int .i64 0))) ?hg ?ho ?hn ?hr ?_; (case ho => rfl); (case hg => rfl); (case hn => rfl); (case hr => exact gs_); intro w41 hw; have hg : w38.grownBy w41 (some go10) := (by rw [hw]; exact HP40.2); have hp_ : Kd.R k62 62 w41 w.heap.size (fun k_ => some k_ ≠ (.slice (some ⟨go8, 0, none⟩) t530.length co22 : Value).ownBlock ∧ some k_ ≠ (.slice Ao31 t542.length co31 : Value).ownBlock) (.slice (some ⟨go10, 0, none⟩) t536.length co27) y554 := (by rw [hw, Ny554.out]; exact HP40.1); clear HP40; replace HO532 := Aside0.mk (Kd.R_after (v := (.slice (some ⟨go10, 0, none⟩) t536.length co27)) (v1 := (.slice (some ⟨go10, 0, none⟩) t536.length co27)) (ok := (fun k_ => some k_ ≠ (.slice Ao31 t542.length co31 : Value).ownBlock)) (by (with_reducible repeat (first | apply Kd.R_alloc | apply Kd.R_drewN | apply Kd.R_drew)); exact Kd.R_mono HO532.out (fun _ hk => ⟨hk.2, hk.1⟩)) hg (.inl rfl)); replace HO535 := Aside0.mk (Kd.R_over' (v := (.slice (some ⟨go10, 0, none⟩) t536.length co27)) (ro_ HO535) (Kd.R_typed HO538.out) (by decide) hg); replace HO541 := Aside0.mk (Kd.R_over' (v := (.slice (some ⟨go10, 0, none⟩) t536.length co27)) (ro_ HO541) (Kd.R_typed HO538.out) (by decide) hg); replace HO544 := Aside0.mk (Kd.R_after (v := (.slice (some ⟨go10, 0, none⟩) t536.length co27)) (v1 := (.slice (some ⟨go10, 0, none⟩) t536.length co27)) (ok := (fun k_ => some k_ ≠ (.slice (some ⟨go8, 0, none⟩) t530.length co22 : Value).ownBlock)) (ro_ HO544) hg (.inl rfl)); replace HO547 := Aside0.mk (Kd.R_over' (v := (.slice (some ⟨go10, 0, none⟩) t536.length co27)) (ro_ HO547) (Kd.R_typed HO538.out) (by decide) hg); replace BK548 := Aside0.mk (blk_grown (g := gb548) (o := .cells #[.slice (some ⟨go8, 0, none⟩) t530.length co22, .slice Ao26 t533.length co26] 25 (0, 0)) (bk_ BK548) hg (Kd.R_ne HO538.out BK548.out (by decide))); replace BK549 := Aside0.mk (blk_grown (g := gb549) (o := .cells #[.slice (some ⟨go10, 0, none⟩) t536.length co27, .slice Ao30 t539.length co30] 25 (0, 0)) (bk_ BK549) hg (Kd.R_ne HO538.out BK549.out (by decide))); replace BK550 := Aside0.mk (blk_grown (g := gb550) (o := .cells #[.slice Ao31 t542.length co31, .slice Ao33 t545.length co33] 25 (0, 0)) (bk_ BK550) hg (Kd.R_ne HO538.out BK550.out (by decide))); replace HO538 := Aside0.mk (hp_); replace HB := Aside0.mk ((by rw [hw]; exact below_set (HB.out) GB10.out : Below w.heap.size w w41)); clear hg hw hp_))
     replace HO532 := Aside0.mk (Kd.R_drew HO532.out)
     replace HO535 := Aside0.mk (Kd.R_drew HO535.out)
     replace HO538 := Aside0.mk (Kd.R_drew HO538.out)
     replace HO541 := Aside0.mk (Kd.R_drew HO541.out)
     replace HO544 := Aside0.mk (Kd.R_drew HO544.out)
     replace HO547 := Aside0.mk (Kd.R_drew HO547.out)
     replace BK548 := Aside0.mk (blk_drew BK548.out)
     replace BK549 := Aside0.mk (blk_drew BK549.out)
     replace BK550 := Aside0.mk (blk_drew BK550.out)
     replace HB := Aside0.mk (below_drew1 HB.out)
     refine start_ (n := 6) (S := fun w' => w'.cell? ⟨gb550, 0, none⟩ = some (.slice Ao31 t542.length co31) ∧ w'.cell? ⟨gb550, 1, none⟩ = some (.slice Ao33 t545.length co33)) (ds := [5]) (bm_ 6 0) (by kernel_rfl) rfl rfl ⟨bc_ BK550 0, bc_ BK550 1⟩ (fun hHeld => ?_)
     generalize w41.drew = w42 at HO532 HO535 HO538 HO541 HO544 HO547 BK548 BK549 BK550 HB hHeld ⊢
     refine pure_ (i := 0) (N := some 31) (v := ?_) (a' := ?_) (bm_ 6 1) rfl rfl (by kernel_rfl) (fun _ _ _ h => h) (Or.inl ⟨by rfl, ?_⟩) ?_ ?_
     rotate_left
     ·intro w'
      go_simp
      with_reducible rfl
     rotate_left
     ·exact pt_
     refine take_ (i := 1) (N := some 32) (v := ?_) (a' := ?_) (bm_ 6 3) rfl rfl (by kernel_rfl) (fun _ _ _ h => h) (Or.inl ⟨by rfl, ?_⟩) hHeld ?_ ?_
     rotate_left
     ·rintro w' ⟨s0, s1⟩
      go_simp
      with_reducible rfl
     rotate_left
     ·exact pt_
     refine one_ (i := 2) (N := some 33) (bm_ 6 7) rfl rfl (by kernel_rfl) (by decide) (fun K hK => ?_)
     refine goes_ Tryd.func32 (by kernel_rfl) rfl #[.int .i64 20, .int .i64 38] (by rfl) rfl rfl ls_ ?_
     with_reducible refine (cottonpadlaw06_span.calls 20 38 t555 t556 _ A11.out).mono ?_
     rintro e w43 ⟨rfl, hb⟩
     refine ⟨_, rfl, ?_⟩
     replace HO532 := rb_ HO532 hb
     replace HO535 := rb_ HO535 hb
     replace HO538 := rb_ HO538 hb
     replace HO541 := rb_ HO541 hb
     replace HO544 := rb_ HO544 hb
     replace HO547 := rb_ HO547 hb
     replace BK548 := bb_ BK548 hb
     replace BK549 := bb_ BK549 hb
     replace BK550 := bb_ BK550 hb
     replace HB := bs3_ HB GE548 GE549 GE550 hb
     (try clear hb)
     (try clear hb2)
     (try clear hk)
     (try clear hi)
     have p13 : 0 ≤ (1 : Int) := (by omega)
     have q13 : (1 : Int) < ((t542.length : Int) : Int) := of_decide_eq_true as_
     have qi13 : (1 < t542.length) = True := eq_true (by omega)
     obtain ⟨go13, co13, eo13, gb13, gl13, cl13, HG13⟩ := Kd.R_form HO544.out (by omega)
     (first | cases eo13 | (injection eo13 with ea_ en_ ec_; (first | subst ea_ | (injection ea_ with ea_; subst ea_)); subst ec_; clear en_))
     have GB13 := Aside0.mk gb13
     have GG13 := Aside0.mk HG13
     clear gb13 gl13 HG13
     obtain ⟨ce13, hcl13, hM13, hcc13, hfr13⟩ := Kd.R_elem HO544.out z62 (1 : Int) p13 q13
     obtain rfl := k62_openM hM13
     have hx13_0 : World.cell? _ ⟨go13, (1 : Int).toNat * 6, none⟩ = some (.int .i64 ((rd_T62 t542 1).f0)) := hcc13 0 _ rfl
     have hx13_1 : World.cell? _ ⟨go13, (1 : Int).toNat * 6 + 1, none⟩ = some (.int .i64 ((rd_T62 t542 1).f1)) := hcc13 1 _ rfl
     have hx13_2 : World.cell? _ ⟨go13, (1 : Int).toNat * 6 + 2, none⟩ = some (.int .i64 ((rd_T62 t542 1).f2.f0)) := hcc13 2 _ rfl
     have hx13_3 : World.cell? _ ⟨go13, (1 : Int).toNat * 6 + 3, none⟩ = some (.int .i64 ((rd_T62 t542 1).f2.f1)) := hcc13 3 _ rfl
     have hx13_4 : World.cell? _ ⟨go13, (1 : Int).toNat * 6 + 4, none⟩ = some (.int .i64 ((rd_T62 t542 1).f3.f0)) := hcc13 4 _ rfl
     have hx13_5 : World.cell? _ ⟨go13, (1 : Int).toNat * 6 + 5, none⟩ = some (.int .i64 ((rd_T62 t542 1).f3.f1)) := hcc13 5 _ rfl
     have hf13_0 : World.frozen? _ ⟨go13, (1 : Int).toNat * 6, none⟩ = false := hfr13 0
     have hf13_1 : World.frozen? _ ⟨go13, (1 : Int).toNat * 6 + 1, none⟩ = false := hfr13 1
     have hf13_2 : World.frozen? _ ⟨go13, (1 : Int).toNat * 6 + 2, none⟩ = false := hfr13 2
     have hf13_3 : World.frozen? _ ⟨go13, (1 : Int).toNat * 6 + 3, none⟩ = false := hfr13 3
     have hf13_4 : World.frozen? _ ⟨go13, (1 : Int).toNat * 6 + 4, none⟩ = false := hfr13 4
     have hf13_5 : World.frozen? _ ⟨go13, (1 : Int).toNat * 6 + 5, none⟩ = false := hfr13 5
     clear hcl13 hcc13 hfr13 hM13
     (try rw [show ((1 : Int)).toNat = 1 from rfl] at hx13_0)
     (try simp only [Nat.reduceMul, Nat.zero_mul, Nat.zero_add, Nat.reduceAdd] at hx13_0)
     (try rw [show ((1 : Int)).toNat = 1 from rfl] at hf13_0)
     (try simp only [Nat.reduceMul, Nat.zero_mul, Nat.zero_add, Nat.reduceAdd] at hf13_0)
     (try rw [show ((1 : Int)).toNat = 1 from rfl] at hx13_1)
     (try simp only [Nat.reduceMul, Nat.zero_mul, Nat.zero_add, Nat.reduceAdd] at hx13_1)
     (try rw [show ((1 : Int)).toNat = 1 from rfl] at hf13_1)
     (try simp only [Nat.reduceMul, Nat.zero_mul, Nat.zero_add, Nat.reduceAdd] at hf13_1)
     (try rw [show ((1 : Int)).toNat = 1 from rfl] at hx13_2)
     (try simp only [Nat.reduceMul, Nat.zero_mul, Nat.zero_add, Nat.reduceAdd] at hx13_2)
     (try rw [show ((1 : Int)).toNat = 1 from rfl] at hf13_2)
     (try simp only [Nat.reduceMul, Nat.zero_mul, Nat.zero_add, Nat.reduceAdd] at hf13_2)
     (try rw [show ((1 : Int)).toNat = 1 from rfl] at hx13_3)
     (try simp only [Nat.reduceMul, Nat.zero_mul, Nat.zero_add, Nat.reduceAdd] at hx13_3)
     (try rw [show ((1 : Int)).toNat = 1 from rfl] at hf13_3)
     (try simp only [Nat.reduceMul, Nat.zero_mul, Nat.zero_add, Nat.reduceAdd] at hf13_3)
     (try rw [show ((1 : Int)).toNat = 1 from rfl] at hx13_4)
     (try simp only [Nat.reduceMul, Nat.zero_mul, Nat.zero_add, Nat.reduceAdd] at hx13_4)
     (try rw [show ((1 : Int)).toNat = 1 from rfl] at hf13_4)
     (try simp only [Nat.reduceMul, Nat.zero_mul, Nat.zero_add, Nat.reduceAdd] at hf13_4)
     (try rw [show ((1 : Int)).toNat = 1 from rfl] at hx13_5)
     (try simp only [Nat.reduceMul, Nat.zero_mul, Nat.zero_add, Nat.reduceAdd] at hx13_5)
     (try rw [show ((1 : Int)).toNat = 1 from rfl] at hf13_5)
     (try simp only [Nat.reduceMul, Nat.zero_mul, Nat.zero_add, Nat.reduceAdd] at hf13_5)
     replace p13 := eq_true p13
     replace q13 := eq_true q13
     obtain ⟨ce44, hcl44, hM44, hcc44, hfr44⟩ := Kd.R_elem HO544.out z62 (1 : Int) (by omega) (by have h_ : (1 : Int) < ((t542.length : Int) : Int) := of_decide_eq_true as_; first | exact h_ | (have e_ := (Kd.R_reads' HO544.out).1; omega) | simpa using h_)
     obtain rfl := k62_openM hM44
     have HP44 := (Kd.R_seg HO544.out (1 : Int) (by omega) (by have h_ : (1 : Int) < ((t542.length : Int) : Int) := of_decide_eq_true as_; first | exact h_ | (have e_ := (Kd.R_reads' HO544.out).1; omega) | simpa using h_) (seg := [.int .i64 t555, .int .i64 t556]) (j := 4) hcl44 hcc44 (show 6 ≤ 6 from by decide) (x' := (⟨(rd_T62 t542 1).f0, (rd_T62 t542 1).f1, (⟨(rd_T62 t542 1).f2.f0, (rd_T62 t542 1).f2.f1⟩ : S36), (⟨t555, t556⟩ : S36)⟩ : S62)) (k62_mkM _ _ _ (⟨(rd_T62 t542 1).f0, (rd_T62 t542 1).f1, (⟨(rd_T62 t542 1).f2.f0, (rd_T62 t542 1).f2.f1⟩ : S36), (⟨t555, t556⟩ : S36)⟩ : S62) ) (fun _ hk => hk)).1
     rw [← Ny557.out] at HP44
     have HQ44 := Aside0.mk HP44
     clear hcl44 hcc44 hfr44 hM44 HP44
     refine hK.out _ _ ⟨bc_ BK550 0, bc_ BK550 1⟩ (fun hHeld => ?_)
     clear hK K
     refine norm_ (a' := ?_) ?_ ?_
     rotate_left
     ·show Act.put _ (some 33) _ = _
      simp only [Act.put, List.setIfInBounds_toArray, List.set_cons_zero, List.set_cons_succ, i64_w, i32_w]
      rfl
     refine pure_ (i := 3) (N := some 34) (v := ?_) (a' := ?_) (bm_ 6 15) rfl rfl (by kernel_rfl) (fun _ _ _ h => h) (Or.inl ⟨by rfl, ?_⟩) ?_ ?_
     rotate_left
     ·intro w'
      go_simp
      with_reducible rfl
     rotate_left
     ·exact pt_
     refine pure_ (i := 4) (N := some 35) (v := ?_) (a' := ?_) (bm_ 6 31) rfl rfl (by kernel_rfl) (fun _ _ _ h => h) (Or.inl ⟨by rfl, ?_⟩) ?_ ?_
     rotate_left
     ·intro w'
      go_simp
      with_reducible rfl
     rotate_left
     ·exact pt_
     refine last_ (i := 5) (N := none) (bm_ 6 63) rfl rfl (by kernel_rfl) (by decide) (fun K hK => ?_)
     refine skip_ (w1 := ?_) (by rfl) rfl ?_ ?_
     rotate_left
     ·go_simp
      rfl
     refine hK.out _ _ ?_
     clear hK K
     refine done_ (by kernel_rfl) ?_
     go_upto_region 7 with (fail)
     go_cut [43] (fun v43 wc => ∃ (kq : Nat) (x43_13 : Bool), v43 = .bool x43_13 ∧ Aside0 (cottonpadlaw06_ExitsExamples.j0 kq x43_13 y553 t533 y554 t539 = some r) ∧ Aside0 (kq ≤ k) ∧ Aside0 (Kd.R k62 62 wc w.heap.size (fun k_ => some k_ ≠ ((.slice (some ⟨go10, 0, none⟩) t536.length co27) : Value).ownBlock ∧ some k_ ≠ ((.slice (some ⟨go13, 0, none⟩) t542.length co31) : Value).ownBlock) (.slice (some ⟨go8, 0, none⟩) t530.length co22) y553) ∧ Aside0 (Kd.R k81 81 wc w.heap.size (fun k_ => some k_ ≠ ((.slice Ao30 t539.length co30) : Value).ownBlock ∧ some k_ ≠ ((.slice Ao33 t545.length co33) : Value).ownBlock) (.slice Ao26 t533.length co26) t533) ∧ Aside0 (Kd.R k62 62 wc w.heap.size (fun k_ => some k_ ≠ ((.slice (some ⟨go8, 0, none⟩) t530.length co22) : Value).ownBlock ∧ some k_ ≠ ((.slice (some ⟨go13, 0, none⟩) t542.length co31) : Value).ownBlock) (.slice (some ⟨go10, 0, none⟩) t536.length co27) y554) ∧ Aside0 (Kd.R k81 81 wc w.heap.size (fun k_ => some k_ ≠ ((.slice Ao26 t533.length co26) : Value).ownBlock ∧ some k_ ≠ ((.slice Ao33 t545.length co33) : Value).ownBlock) (.slice Ao30 t539.length co30) t539) ∧ Aside0 (Kd.R k62 62 wc w.heap.size (fun k_ => some k_ ≠ ((.slice (some ⟨go8, 0, none⟩) t530.length co22) : Value).ownBlock ∧ some k_ ≠ ((.slice (some ⟨go10, 0, none⟩) t536.length co27) : Value).ownBlock) (.slice (some ⟨go13, 0, none⟩) t542.length co31) y557) ∧ Aside0 (Kd.R k81 81 wc w.heap.size (fun k_ => some k_ ≠ ((.slice Ao26 t533.length co26) : Value).ownBlock ∧ some k_ ≠ ((.slice Ao30 t539.length co30) : Value).ownBlock) (.slice Ao33 t545.length co33) t545) ∧ Aside0 (wc.heap[gb548]? = some (.cells #[(.slice (some ⟨go8, 0, none⟩) t530.length co22), (.slice Ao26 t533.length co26)] 25 (0, 0))) ∧ Aside0 (wc.heap[gb549]? = some (.cells #[(.slice (some ⟨go10, 0, none⟩) t536.length co27), (.slice Ao30 t539.length co30)] 25 (0, 0))) ∧ Aside0 (wc.heap[gb550]? = some (.cells #[(.slice (some ⟨go13, 0, none⟩) t542.length co31), (.slice Ao33 t545.length co33)] 25 (0, 0))) ∧ Aside0 (Below w.heap.size w wc))
     case first =>
      have H := HC14.out
      clear HC14
      replace H := Option.bind_eq_some_iff.mp H
      obtain ⟨t558, A450, H⟩ := H
      replace H : (if t558 = true then ((cottonpadlaw06_safe.f y557 t545 0 (-1) 1).bind fun t559 => (cottonpadlaw06_ExitsExamples.j0 k (!t559) y553 t533 y554 t539)) else (cottonpadlaw06_ExitsExamples.j0 k true y553 t533 y554 t539)) = some r := H
      have A45 := Aside0.mk A450
      clear A450
      by_cases c46 : t558 = true
      ·subst c46
       have H1 : ((cottonpadlaw06_safe.f y557 t545 0 (-1) 1).bind fun t559 => (cottonpadlaw06_ExitsExamples.j0 k (!t559) y553 t533 y554 t539)) = some r := by rw [if_pos rfl] at H; exact H
       clear H
       have H := H1
       clear H1
       replace H := Option.bind_eq_some_iff.mp H
       obtain ⟨t559, A470, H⟩ := H
       replace H : (cottonpadlaw06_ExitsExamples.j0 k (!t559) y553 t533 y554 t539) = some r := H
       have A47 := Aside0.mk A470
       clear A470
       have H' := Aside0.mk H
       clear H
       have hnb48 := NB548_549.out
       have hnc48 := NB549_548.out
       have hnb49 := NB548_550.out
       have hnc49 := NB550_548.out
       have hcz50_0 : w43.cell? ⟨gb548, 0, none⟩ = some (.slice (some ⟨go8, 0, none⟩) t530.length co22) := bc_ BK548 0
       have hcz50_1 : w43.cell? ⟨gb548, 1, none⟩ = some (.slice Ao26 t533.length co26) := bc_ BK548 1
       have hfz50_0 := blk_frozen BK548.out 0
       have hfz50_1 := blk_frozen BK548.out 1
       go_wp2_with (first | ((with_reducible refine gate_callee (f := 33) rfl ?_); refine goesL_ (some 37) rfl rfl Tryd.func33 (by kernel_rfl) rfl #[.agg #[.slice (some ⟨go8, 0, none⟩) y553.length co22, .slice Ao26 t533.length co26], .int .u8 1, .int .i64 (-1), .int .i64 1] rfl (by (try simp only [List.map_toArray, List.map_cons, List.map_nil]); first | done | (rw [show y553.length = t530.length from (Kd.R_reads' HO532.out).1.symm] <;> rfl) | rfl | (simp only [List.length_drop, List.length_take]; rfl)) ?_; (with_reducible refine (cottonpadlaw06_safe.calls _ _ y553 _ _ t533 1 (-1) 1 true _ ?side5 ?side1 ?side2 ?side3 ?side4 A45.out).mono ?_); (case side1 => refine (Kd.R_reads' (e := 62) (base := w.heap.size) (ok := fun k_ => (some k_ ≠ (.slice (some ⟨go13, 0, none⟩) t542.length co31 : Value).ownBlock ∧ some k_ ≠ (.slice (some ⟨go10, 0, none⟩) t536.length co27 : Value).ownBlock)) (n := t530.length) (c := co22) ?_).2.2; exact (by (with_reducible repeat (first | apply Kd.R_alloc | apply Kd.R_drewN | apply Kd.R_drew)); exact (Kd.R_mono (Kd.R_far (p := ⟨go13, 11, none⟩) (Kd.R_far (p := ⟨go13, 10, none⟩) (Kd.R_mono HO532.out (fun k_ hk => (⟨hk, fun e_ => hk.1 (by rw [e_]; rfl)⟩ : _ ∧ k_ ≠ go13))) (fun _ hk => hk.2) (.int .i64 t555)) (fun _ hk => hk.2) (.int .i64 t556)) (fun _ h_ => h_.1)))); (case side2 => rw [show y553.length = t530.length from (Kd.R_reads' HO532.out).1.symm]; exact (Kd.R_reads' HO532.out).2.1); (case side3 => refine (Kd.R_reads' (e := 81) (base := w.heap.size) (ok := fun k_ => (some k_ ≠ (.slice Ao30 t539.length co30 : Value).ownBlock ∧ some k_ ≠ (.slice Ao33 t545.length co33 : Value).ownBlock)) (n := t533.length) (c := co26) ?_).2.2; exact (by (with_reducible repeat (first | apply Kd.R_alloc | apply Kd.R_drewN | apply Kd.R_drew)); exact (Kd.R_mono (Kd.R_far (p := ⟨go13, 11, none⟩) (Kd.R_far (p := ⟨go13, 10, none⟩) (Kd.R_types HO535.out GG13.out (by decide)) (fun _ hk => hk.2) (.int .i64 t555)) (fun _ hk => hk.2) (.int .i64 t556)) (fun _ h_ => h_.1)))); (case side4 => exact (Kd.R_reads' HO535.out).2.1); (case side5 => exact Globs.below HG.out (by repeat (first | (with_reducible first | exact HB.out | apply below_alloc | apply pw_below_drewN | apply below_drew1 | refine below_set ?_ GB13.out | refine below_set ?_ GB13.out | refine below_set ?_ GE548.out | refine below_set ?_ GE549.out | refine below_set ?_ GE550.out) | exact HB.out))); rintro e w51 ⟨rfl, hb⟩; refine ⟨_, rfl, ?_⟩; replace HO532 := Aside0.mk (Kd.R_below (by (with_reducible repeat (first | apply Kd.R_alloc | apply Kd.R_drewN | apply Kd.R_drew)); exact (Kd.R_mono (Kd.R_far (p := ⟨go13, 11, none⟩) (Kd.R_far (p := ⟨go13, 10, none⟩) (Kd.R_mono HO532.out (fun k_ hk => (⟨hk, fun e_ => hk.1 (by rw [e_]; rfl)⟩ : _ ∧ k_ ≠ go13))) (fun _ hk => hk.2) (.int .i64 t555)) (fun _ hk => hk.2) (.int .i64 t556)) (fun _ h_ => h_.1))) hb); replace HO535 := Aside0.mk (Kd.R_below (by (with_reducible repeat (first | apply Kd.R_alloc | apply Kd.R_drewN | apply Kd.R_drew)); exact (Kd.R_mono (Kd.R_far (p := ⟨go13, 11, none⟩) (Kd.R_far (p := ⟨go13, 10, none⟩) (Kd.R_types HO535.out GG13.out (by decide)) (fun _ hk => hk.2) (.int .i64 t555)) (fun _ hk => hk.2) (.int .i64 t556)) (fun _ h_ => h_.1))) hb); replace HO538 := Aside0.mk (Kd.R_below (by (with_reducible repeat (first | apply Kd.R_alloc | apply Kd.R_drewN | apply Kd.R_drew)); exact (Kd.R_mono (Kd.R_far (p := ⟨go13, 11, none⟩) (Kd.R_far (p := ⟨go13, 10, none⟩) (Kd.R_mono HO538.out (fun k_ hk => (⟨hk, fun e_ => hk.2 (by rw [e_]; rfl)⟩ : _ ∧ k_ ≠ go13))) (fun _ hk => hk.2) (.int .i64 t555)) (fun _ hk => hk.2) (.int .i64 t556)) (fun _ h_ => h_.1))) hb); replace HO541 := Aside0.mk (Kd.R_below (by (with_reducible repeat (first | apply Kd.R_alloc | apply Kd.R_drewN | apply Kd.R_drew)); exact (Kd.R_mono (Kd.R_far (p := ⟨go13, 11, none⟩) (Kd.R_far (p := ⟨go13, 10, none⟩) (Kd.R_types HO541.out GG13.out (by decide)) (fun _ hk => hk.2) (.int .i64 t555)) (fun _ hk => hk.2) (.int .i64 t556)) (fun _ h_ => h_.1))) hb); replace HO547 := Aside0.mk (Kd.R_below (by (with_reducible repeat (first | apply Kd.R_alloc | apply Kd.R_drewN | apply Kd.R_drew)); exact (Kd.R_mono (Kd.R_far (p := ⟨go13, 11, none⟩) (Kd.R_far (p := ⟨go13, 10, none⟩) (Kd.R_types HO547.out GG13.out (by decide)) (fun _ hk => hk.2) (.int .i64 t555)) (fun _ hk => hk.2) (.int .i64 t556)) (fun _ h_ => h_.1))) hb); replace BK548 := Aside0.mk (blk_below (g := gb548) (o := .cells #[.slice (some ⟨go8, 0, none⟩) t530.length co22, .slice Ao26 t533.length co26] 25 (0, 0)) (by refine bx_ ?_; refine blk_far ?_ (by have h_ := Kd.R_ne HO544.out BK548.out (by decide); intro e_; exact h_ (by rw [e_]; rfl)) _; refine bx_ ?_; refine blk_far ?_ (by have h_ := Kd.R_ne HO544.out BK548.out (by decide); intro e_; exact h_ (by rw [e_]; rfl)) _; refine bx_ ?_; exact BK548.out) hb); replace BK549 := Aside0.mk (blk_below (g := gb549) (o := .cells #[.slice (some ⟨go10, 0, none⟩) t536.length co27, .slice Ao30 t539.length co30] 25 (0, 0)) (by refine bx_ ?_; refine blk_far ?_ (by have h_ := Kd.R_ne HO544.out BK549.out (by decide); intro e_; exact h_ (by rw [e_]; rfl)) _; refine bx_ ?_; refine blk_far ?_ (by have h_ := Kd.R_ne HO544.out BK549.out (by decide); intro e_; exact h_ (by rw [e_]; rfl)) _; refine bx_ ?_; exact BK549.out) hb); replace BK550 := Aside0.mk (blk_below (g := gb550) (o := .cells #[.slice (some ⟨go13, 0, none⟩) t542.length co31, .slice Ao33 t545.length co33] 25 (0, 0)) (by refine bx_ ?_; refine blk_far ?_ (by have h_ := Kd.R_ne HO544.out BK550.out (by decide); intro e_; exact h_ (by rw [e_]; rfl)) _; refine bx_ ?_; refine blk_far ?_ (by have h_ := Kd.R_ne HO544.out BK550.out (by decide); intro e_; exact h_ (by rw [e_]; rfl)) _; refine bx_ ?_; exact BK550.out) hb); replace HO544 := Aside0.mk (Kd.R_below (by (with_reducible repeat (first | apply Kd.R_alloc | apply Kd.R_drewN | apply Kd.R_drew)); exact HQ44.out) hb); replace HB := Aside0.mk (below_step (by repeat (first | (with_reducible first | exact HB.out | apply below_alloc | apply pw_below_drewN | apply below_drew1 | refine below_set ?_ GB13.out | refine below_set ?_ GB13.out | refine below_set ?_ GE548.out | refine below_set ?_ GE549.out | refine below_set ?_ GE550.out) | exact HB.out)) hb); (try clear hb); (try clear hb2); (try clear hk); (try clear hi); have hnb52 := NB550_549.out; have hnc52 := NB549_550.out; have hcz53_0 : w51.cell? ⟨gb550, 0, none⟩ = some (.slice (some ⟨go13, 0, none⟩) t542.length co31) := bc_ BK550 0; have hcz53_1 : w51.cell? ⟨gb550, 1, none⟩ = some (.slice Ao33 t545.length co33) := bc_ BK550 1; have hfz53_0 := blk_frozen BK550.out 0; have hfz53_1 := blk_frozen BK550.out 1) | (go_at_call 33; refine calls_of_args (args' := #[.agg #[.slice (some ⟨go13, 0, none⟩) y557.length co31, .slice Ao33 t545.length co33], .int .u8 0, .int .i64 (-1), .int .i64 1]) (by first | (rw [show y557.length = t542.length from (Kd.R_reads' HO544.out).1.symm] <;> rfl) | rfl) ?_; (with_reducible refine (cottonpadlaw06_safe.calls _ _ y557 _ _ t545 0 (-1) 1 t559 _ ?side5 ?side1 ?side2 ?side3 ?side4 A47.out).mono ?_); (case side1 => exact kd_ (Kd.R_reads' HO544.out).2.2); (case side2 => rw [show y557.length = t542.length from (Kd.R_reads' HO544.out).1.symm]; exact (Kd.R_reads' HO544.out).2.1); (case side3 => exact kd_ (Kd.R_reads' HO547.out).2.2); (case side4 => exact (Kd.R_reads' HO547.out).2.1); (case side5 => exact Globs.below HG.out (be3_ HB GE548 GE549 GE550)); rintro e w54 ⟨rfl, hb⟩; replace HO532 := rb_ HO532 hb; replace HO535 := rb_ HO535 hb; replace HO538 := rb_ HO538 hb; replace HO541 := rb_ HO541 hb; replace HO544 := rb_ HO544 hb; replace HO547 := rb_ HO547 hb; replace BK548 := bb_ BK548 hb; replace BK549 := bb_ BK549 hb; replace BK550 := bb_ BK550 hb; replace HB := bs3_ HB GE548 GE549 GE550 hb; (try clear hb); (try clear hb2); (try clear hk); (try clear hi)))
       go_meet
       case rel => exact ⟨_, (!t559), (by first | rfl | (simp; done) | (simp [*]; done)), H', ⟨by first | omega | exact Nat.le_refl _⟩, ⟨by (with_reducible repeat (first | apply Kd.R_alloc | apply Kd.R_drewN | apply Kd.R_drew)); exact Kd.R_mono HO532.out (fun _ hk => ⟨hk.2, hk.1⟩)⟩, ⟨by (with_reducible repeat (first | apply Kd.R_alloc | apply Kd.R_drewN | apply Kd.R_drew)); exact HO535.out⟩, ⟨by (with_reducible repeat (first | apply Kd.R_alloc | apply Kd.R_drewN | apply Kd.R_drew)); exact HO538.out⟩, ⟨by (with_reducible repeat (first | apply Kd.R_alloc | apply Kd.R_drewN | apply Kd.R_drew)); exact HO541.out⟩, ⟨by (with_reducible repeat (first | apply Kd.R_alloc | apply Kd.R_drewN | apply Kd.R_drew)); exact HO544.out⟩, ⟨by (with_reducible repeat (first | apply Kd.R_alloc | apply Kd.R_drewN | apply Kd.R_drew)); exact HO547.out⟩, ⟨by refine bx_ ?_; exact BK548.out⟩, ⟨by refine bx_ ?_; exact BK549.out⟩, ⟨by refine bx_ ?_; exact BK550.out⟩, ⟨be3_ HB GE548 GE549 GE550⟩⟩
      ·replace c46 := Bool.eq_false_iff.mpr c46
       subst c46
       have H1 : (cottonpadlaw06_ExitsExamples.j0 k true y553 t533 y554 t539) = some r := by rw [if_neg (show ¬ (false = true) by decide)] at H; exact H
       clear H
       have H := H1
       clear H1
       exact absurd H (by rw [HRT.out]; cases k <;> simp [cottonpadlaw06_ExitsExamples.j0])
     case rest =>
      clear HC14
      try clear c1
      try clear p1
      try clear q1
      try clear hx1
      try clear qi1
      try clear hf1
      try clear c2
      try clear p2
      try clear c3
      try clear c4
      try clear hx4
      try clear hf4
      try clear c5
      try clear c7
      try clear c7b0
      try clear c7b1
      try clear c8
      try clear p8
      try clear q8
      try clear hx8
      try clear qi8
      try clear hf8
      try clear c9
      try clear c9b0
      try clear c9b1
      try clear c10
      try clear p10
      try clear q10
      try clear hx10
      try clear qi10
      try clear hf10
      try clear c12
      try clear c12b0
      try clear c12b1
      try clear c13
      try clear p13
      try clear q13
      try clear hx13
      try clear qi13
      try clear hf13
      try clear c23
      try clear c24
      try clear c28
      try clear c31
      try clear c32
      try clear c33
      try clear c37
      try clear c40
      try clear hx40
      try clear hf40
      try clear c44
      try clear c46
      try clear c48
      try clear c49
      try clear c52
      try clear hcz25_0
      try clear hcz25_1
      try clear hcz29_0
      try clear hcz29_1
      try clear hcz32_0
      try clear hcz32_1
      try clear hcz39_0
      try clear hcz39_1
      try clear hcz50_0
      try clear hcz50_1
      try clear hcz53_0
      try clear hcz53_1
      try clear hfz25_0
      try clear hfz25_1
      try clear hfz29_0
      try clear hfz29_1
      try clear hfz32_0
      try clear hfz32_1
      try clear hfz39_0
      try clear hfz39_1
      try clear hfz50_0
      try clear hfz50_1
      try clear hfz53_0
      try clear hfz53_1
      try clear hx10_0
      try clear hx10_1
      try clear hx10_2
      try clear hx10_3
      try clear hx10_4
      try clear hx10_5
      try clear hx13_0
      try clear hx13_1
      try clear hx13_2
      try clear hx13_3
      try clear hx13_4
      try clear hx13_5
      try clear hx40_0
      try clear hx8_0
      try clear hx8_1
      try clear hx8_2
      try clear hx8_3
      try clear hx8_4
      try clear hx8_5
      try clear p10
      try clear p13
      try clear p8
      try clear q10
      try clear q13
      try clear q8
      obtain ⟨kq, x43_13, rfl, HA, HJ13, HO_549000, HO_549001, HO_550000, HO_550001, HO_551000, HO_551001, BK548, BK549, BK550, HB⟩ := hcut
      have hl549000_13 := (Kd.R_reads' HO_549000.out).1
      rw [hl549000_13] at HO_549000
      (try simp only [hl549000_13])
      (try simp only [hl549000_13] at BK548)
      (try simp only [hl549000_13] at BK549)
      (try simp only [hl549000_13] at BK550)
      (try simp only [hl549000_13] at HO_549001)
      (try simp only [hl549000_13] at HO_550000)
      (try simp only [hl549000_13] at HO_550001)
      (try simp only [hl549000_13] at HO_551000)
      (try simp only [hl549000_13] at HO_551001)
      have hl550000_13 := (Kd.R_reads' HO_550000.out).1
      rw [hl550000_13] at HO_550000
      (try simp only [hl550000_13])
      (try simp only [hl550000_13] at BK548)
      (try simp only [hl550000_13] at BK549)
      (try simp only [hl550000_13] at BK550)
      (try simp only [hl550000_13] at HO_549000)
      (try simp only [hl550000_13] at HO_549001)
      (try simp only [hl550000_13] at HO_550001)
      (try simp only [hl550000_13] at HO_551000)
      (try simp only [hl550000_13] at HO_551001)
      have hl551000_13 := (Kd.R_reads' HO_551000.out).1
      rw [hl551000_13] at HO_551000
      (try simp only [hl551000_13])
      (try simp only [hl551000_13] at BK548)
      (try simp only [hl551000_13] at BK549)
      (try simp only [hl551000_13] at BK550)
      (try simp only [hl551000_13] at HO_549000)
      (try simp only [hl551000_13] at HO_549001)
      (try simp only [hl551000_13] at HO_550000)
      (try simp only [hl551000_13] at HO_550001)
      (try simp only [hl551000_13] at HO_551001)
      cases kq with
      | zero => exact absurd HA.out (by simp [cottonpadlaw06_ExitsExamples.j0])
      | succ kj13 =>
       have H := HA.out
       clear HA
       simp only [cottonpadlaw06_ExitsExamples.j0] at H
       by_cases c55 : x43_13 = true
       ·subst c55
        have H1 : (some false) = some r := by rw [if_pos rfl] at H; exact H
        clear H
        have H := H1
        clear H1
        exact absurd (H.trans (congrArg some HRT.out)) (by simp)
       ·replace c55 := Bool.eq_false_iff.mpr c55
        subst c55
        have H1 : ((cottonpadlaw06_people.f).bind fun t560 => (if 2 < (t560.length : Int) then ((cottonpadlaw06_building.f).bind fun bt564 => ((cottonpadlaw06_people.f).bind fun t570 => ((exits_Leaves.f bt564.1 bt564.2 t570 2).bind fun bt573 => ((cottonpadlaw06_people.f).bind fun t577 => ((exits_Out.f y554 t539 t577).bind fun bt580 => ((cottonpadlaw06_building.f).bind fun bt584 => ((cottonpadlaw06_people.f).bind fun t590 => ((cottonpadlaw06_span.f 100 100).bind fun bt593 => ((exits_More.f bt584.1 bt584.2 t590 2 bt593.1 bt593.2 0 0).bind fun bt595 => ((cottonpadlaw06_people.f).bind fun t597 => ((cottonpadlaw06_walker.f).bind fun bt600 => ((exits_More.f y553 t533 t597 bt600.1 bt600.2.1 bt600.2.2.1 bt600.2.2.2.1 bt600.2.2.2.2).bind fun bt605 => ((cottonpadlaw06_building.f).bind fun bt607 => ((exits_Out.f bt607.1 bt607.2 ([] : List (S48))).bind fun bt613 => (if bt573.2 = 2 then (if bt580.2.2 = 60 then (if bt595.2 = 2 then (if bt605.2 = 8 then (if bt613.2.2 = 0 then (if (bt613.1 == 0 && (bt613.2.1 == 0)) = true then ((cottonpadlaw06_building.f).bind fun bt617 => ((exits_Check.f bt617.1 bt617.2 (t560.set (2 : Int).toNat (⟨(rd_T48 t560 2).f0, (⟨99, (rd_T48 t560 2).f1.f1⟩ : S36), (⟨(rd_T48 t560 2).f2.f0, (rd_T48 t560 2).f2.f1⟩ : S36)⟩ : S48))).bind fun t623 => (some (t623 == 61)))) else (some false)) else (some false)) else (some false)) else (some false)) else (some false)) else (some false)))))))))))))))) else (none))) = some r := by rw [if_neg (show ¬ (false = true) by decide)] at H; exact H
        clear H
        have H := H1
        clear H1
        replace H := Option.bind_eq_some_iff.mp H
        obtain ⟨t560, A560, H⟩ := H
        replace H : (if 2 < (t560.length : Int) then ((cottonpadlaw06_building.f).bind fun bt564 => ((cottonpadlaw06_people.f).bind fun t570 => ((exits_Leaves.f bt564.1 bt564.2 t570 2).bind fun bt573 => ((cottonpadlaw06_people.f).bind fun t577 => ((exits_Out.f y554 t539 t577).bind fun bt580 => ((cottonpadlaw06_building.f).bind fun bt584 => ((cottonpadlaw06_people.f).bind fun t590 => ((cottonpadlaw06_span.f 100 100).bind fun bt593 => ((exits_More.f bt584.1 bt584.2 t590 2 bt593.1 bt593.2 0 0).bind fun bt595 => ((cottonpadlaw06_people.f).bind fun t597 => ((cottonpadlaw06_walker.f).bind fun bt600 => ((exits_More.f y553 t533 t597 bt600.1 bt600.2.1 bt600.2.2.1 bt600.2.2.2.1 bt600.2.2.2.2).bind fun bt605 => ((cottonpadlaw06_building.f).bind fun bt607 => ((exits_Out.f bt607.1 bt607.2 ([] : List (S48))).bind fun bt613 => (if bt573.2 = 2 then (if bt580.2.2 = 60 then (if bt595.2 = 2 then (if bt605.2 = 8 then (if bt613.2.2 = 0 then (if (bt613.1 == 0 && (bt613.2.1 == 0)) = true then ((cottonpadlaw06_building.f).bind fun bt617 => ((exits_Check.f bt617.1 bt617.2 (t560.set (2 : Int).toNat (⟨(rd_T48 t560 2).f0, (⟨99, (rd_T48 t560 2).f1.f1⟩ : S36), (⟨(rd_T48 t560 2).f2.f0, (rd_T48 t560 2).f2.f1⟩ : S36)⟩ : S48))).bind fun t623 => (some (t623 == 61)))) else (some false)) else (some false)) else (some false)) else (some false)) else (some false)) else (some false)))))))))))))))) else (none)) = some r := H
        have A56 := Aside0.mk A560
        clear A560
        by_cases c57 : 2 < (t560.length : Int)
        ·rw [if_pos c57] at H
         have c57b0 : decide (2 < (t560.length : Int)) = true := decide_eq_true c57
         have c57b1 : decide (2 < t560.length) = true := decide_eq_true (by omega)
         clear c57
         obtain ⟨y563, hy563⟩ : ∃ y_ : List (S48), y_ = (t560.set (2 : Int).toNat (⟨(rd_T48 t560 2).f0, (⟨99, (rd_T48 t560 2).f1.f1⟩ : S36), (⟨(rd_T48 t560 2).f2.f0, (rd_T48 t560 2).f2.f1⟩ : S36)⟩ : S48)) := ⟨_, rfl⟩
         replace H : ((cottonpadlaw06_building.f).bind fun bt564 => ((cottonpadlaw06_people.f).bind fun t570 => ((exits_Leaves.f bt564.1 bt564.2 t570 2).bind fun bt573 => ((cottonpadlaw06_people.f).bind fun t577 => ((exits_Out.f y554 t539 t577).bind fun bt580 => ((cottonpadlaw06_building.f).bind fun bt584 => ((cottonpadlaw06_people.f).bind fun t590 => ((cottonpadlaw06_span.f 100 100).bind fun bt593 => ((exits_More.f bt584.1 bt584.2 t590 2 bt593.1 bt593.2 0 0).bind fun bt595 => ((cottonpadlaw06_people.f).bind fun t597 => ((cottonpadlaw06_walker.f).bind fun bt600 => ((exits_More.f y553 t533 t597 bt600.1 bt600.2.1 bt600.2.2.1 bt600.2.2.2.1 bt600.2.2.2.2).bind fun bt605 => ((cottonpadlaw06_building.f).bind fun bt607 => ((exits_Out.f bt607.1 bt607.2 ([] : List (S48))).bind fun bt613 => (if bt573.2 = 2 then (if bt580.2.2 = 60 then (if bt595.2 = 2 then (if bt605.2 = 8 then (if bt613.2.2 = 0 then (if (bt613.1 == 0 && (bt613.2.1 == 0)) = true then ((cottonpadlaw06_building.f).bind fun bt617 => ((exits_Check.f bt617.1 bt617.2 y563).bind fun t623 => (some (t623 == 61)))) else (some false)) else (some false)) else (some false)) else (some false)) else (some false)) else (some false)))))))))))))))) = some r := by first | (rw [hy563]; with_reducible exact H) | (have H2_ := (Option.bind_some _ _).symm.trans H; rw [hy563]; with_reducible exact H2_) | (have H2_ := (Option.bind_some _ _).symm.trans H; with_reducible exact H2_) | with_reducible exact H | (rw [hy563]; exact H) | exact H
         have Ny563 := Aside0.mk hy563
         clear hy563
         replace H := Option.bind_eq_some_iff.mp H
         obtain ⟨⟨t564, t567⟩, A590, H⟩ := H
         replace H : ((cottonpadlaw06_people.f).bind fun t570 => ((exits_Leaves.f t564 t567 t570 2).bind fun bt573 => ((cottonpadlaw06_people.f).bind fun t577 => ((exits_Out.f y554 t539 t577).bind fun bt580 => ((cottonpadlaw06_building.f).bind fun bt584 => ((cottonpadlaw06_people.f).bind fun t590 => ((cottonpadlaw06_span.f 100 100).bind fun bt593 => ((exits_More.f bt584.1 bt584.2 t590 2 bt593.1 bt593.2 0 0).bind fun bt595 => ((cottonpadlaw06_people.f).bind fun t597 => ((cottonpadlaw06_walker.f).bind fun bt600 => ((exits_More.f y553 t533 t597 bt600.1 bt600.2.1 bt600.2.2.1 bt600.2.2.2.1 bt600.2.2.2.2).bind fun bt605 => ((cottonpadlaw06_building.f).bind fun bt607 => ((exits_Out.f bt607.1 bt607.2 ([] : List (S48))).bind fun bt613 => (if bt573.2 = 2 then (if bt580.2.2 = 60 then (if bt595.2 = 2 then (if bt605.2 = 8 then (if bt613.2.2 = 0 then (if (bt613.1 == 0 && (bt613.2.1 == 0)) = true then ((cottonpadlaw06_building.f).bind fun bt617 => ((exits_Check.f bt617.1 bt617.2 y563).bind fun t623 => (some (t623 == 61)))) else (some false)) else (some false)) else (some false)) else (some false)) else (some false)) else (some false))))))))))))))) = some r := H
         have A59 := Aside0.mk A590
         clear A590
         replace H := Option.bind_eq_some_iff.mp H
         obtain ⟨t570, A600, H⟩ := H
         replace H : ((exits_Leaves.f t564 t567 t570 2).bind fun bt573 => ((cottonpadlaw06_people.f).bind fun t577 => ((exits_Out.f y554 t539 t577).bind fun bt580 => ((cottonpadlaw06_building.f).bind fun bt584 => ((cottonpadlaw06_people.f).bind fun t590 => ((cottonpadlaw06_span.f 100 100).bind fun bt593 => ((exits_More.f bt584.1 bt584.2 t590 2 bt593.1 bt593.2 0 0).bind fun bt595 => ((cottonpadlaw06_people.f).bind fun t597 => ((cottonpadlaw06_walker.f).bind fun bt600 => ((exits_More.f y553 t533 t597 bt600.1 bt600.2.1 bt600.2.2.1 bt600.2.2.2.1 bt600.2.2.2.2).bind fun bt605 => ((cottonpadlaw06_building.f).bind fun bt607 => ((exits_Out.f bt607.1 bt607.2 ([] : List (S48))).bind fun bt613 => (if bt573.2 = 2 then (if bt580.2.2 = 60 then (if bt595.2 = 2 then (if bt605.2 = 8 then (if bt613.2.2 = 0 then (if (bt613.1 == 0 && (bt613.2.1 == 0)) = true then ((cottonpadlaw06_building.f).bind fun bt617 => ((exits_Check.f bt617.1 bt617.2 y563).bind fun t623 => (some (t623 == 61)))) else (some false)) else (some false)) else (some false)) else (some false)) else (some false)) else (some false)))))))))))))) = some r := H
         have A60 := Aside0.mk A600
         clear A600
         replace H := Option.bind_eq_some_iff.mp H
         obtain ⟨⟨t573, t576⟩, A610, H⟩ := H
         replace H : ((cottonpadlaw06_people.f).bind fun t577 => ((exits_Out.f y554 t539 t577).bind fun bt580 => ((cottonpadlaw06_building.f).bind fun bt584 => ((cottonpadlaw06_people.f).bind fun t590 => ((cottonpadlaw06_span.f 100 100).bind fun bt593 => ((exits_More.f bt584.1 bt584.2 t590 2 bt593.1 bt593.2 0 0).bind fun bt595 => ((cottonpadlaw06_people.f).bind fun t597 => ((cottonpadlaw06_walker.f).bind fun bt600 => ((exits_More.f y553 t533 t597 bt600.1 bt600.2.1 bt600.2.2.1 bt600.2.2.2.1 bt600.2.2.2.2).bind fun bt605 => ((cottonpadlaw06_building.f).bind fun bt607 => ((exits_Out.f bt607.1 bt607.2 ([] : List (S48))).bind fun bt613 => (if t576 = 2 then (if bt580.2.2 = 60 then (if bt595.2 = 2 then (if bt605.2 = 8 then (if bt613.2.2 = 0 then (if (bt613.1 == 0 && (bt613.2.1 == 0)) = true then ((cottonpadlaw06_building.f).bind fun bt617 => ((exits_Check.f bt617.1 bt617.2 y563).bind fun t623 => (some (t623 == 61)))) else (some false)) else (some false)) else (some false)) else (some false)) else (some false)) else (some false))))))))))))) = some r := H
         have A61 := Aside0.mk A610
         clear A610
         replace H := Option.bind_eq_some_iff.mp H
         obtain ⟨t577, A620, H⟩ := H
         replace H : ((exits_Out.f y554 t539 t577).bind fun bt580 => ((cottonpadlaw06_building.f).bind fun bt584 => ((cottonpadlaw06_people.f).bind fun t590 => ((cottonpadlaw06_span.f 100 100).bind fun bt593 => ((exits_More.f bt584.1 bt584.2 t590 2 bt593.1 bt593.2 0 0).bind fun bt595 => ((cottonpadlaw06_people.f).bind fun t597 => ((cottonpadlaw06_walker.f).bind fun bt600 => ((exits_More.f y553 t533 t597 bt600.1 bt600.2.1 bt600.2.2.1 bt600.2.2.2.1 bt600.2.2.2.2).bind fun bt605 => ((cottonpadlaw06_building.f).bind fun bt607 => ((exits_Out.f bt607.1 bt607.2 ([] : List (S48))).bind fun bt613 => (if t576 = 2 then (if bt580.2.2 = 60 then (if bt595.2 = 2 then (if bt605.2 = 8 then (if bt613.2.2 = 0 then (if (bt613.1 == 0 && (bt613.2.1 == 0)) = true then ((cottonpadlaw06_building.f).bind fun bt617 => ((exits_Check.f bt617.1 bt617.2 y563).bind fun t623 => (some (t623 == 61)))) else (some false)) else (some false)) else (some false)) else (some false)) else (some false)) else (some false)))))))))))) = some r := H
         have A62 := Aside0.mk A620
         clear A620
         replace H := Option.bind_eq_some_iff.mp H
         obtain ⟨⟨t580, t581, t582⟩, A630, H⟩ := H
         replace H : ((cottonpadlaw06_building.f).bind fun bt584 => ((cottonpadlaw06_people.f).bind fun t590 => ((cottonpadlaw06_span.f 100 100).bind fun bt593 => ((exits_More.f bt584.1 bt584.2 t590 2 bt593.1 bt593.2 0 0).bind fun bt595 => ((cottonpadlaw06_people.f).bind fun t597 => ((cottonpadlaw06_walker.f).bind fun bt600 => ((exits_More.f y553 t533 t597 bt600.1 bt600.2.1 bt600.2.2.1 bt600.2.2.2.1 bt600.2.2.2.2).bind fun bt605 => ((cottonpadlaw06_building.f).bind fun bt607 => ((exits_Out.f bt607.1 bt607.2 ([] : List (S48))).bind fun bt613 => (if t576 = 2 then (if t582 = 60 then (if bt595.2 = 2 then (if bt605.2 = 8 then (if bt613.2.2 = 0 then (if (bt613.1 == 0 && (bt613.2.1 == 0)) = true then ((cottonpadlaw06_building.f).bind fun bt617 => ((exits_Check.f bt617.1 bt617.2 y563).bind fun t623 => (some (t623 == 61)))) else (some false)) else (some false)) else (some false)) else (some false)) else (some false)) else (some false))))))))))) = some r := H
         have A63 := Aside0.mk A630
         clear A630
         replace H := Option.bind_eq_some_iff.mp H
         obtain ⟨⟨t584, t587⟩, A640, H⟩ := H
         replace H : ((cottonpadlaw06_people.f).bind fun t590 => ((cottonpadlaw06_span.f 100 100).bind fun bt593 => ((exits_More.f t584 t587 t590 2 bt593.1 bt593.2 0 0).bind fun bt595 => ((cottonpadlaw06_people.f).bind fun t597 => ((cottonpadlaw06_walker.f).bind fun bt600 => ((exits_More.f y553 t533 t597 bt600.1 bt600.2.1 bt600.2.2.1 bt600.2.2.2.1 bt600.2.2.2.2).bind fun bt605 => ((cottonpadlaw06_building.f).bind fun bt607 => ((exits_Out.f bt607.1 bt607.2 ([] : List (S48))).bind fun bt613 => (if t576 = 2 then (if t582 = 60 then (if bt595.2 = 2 then (if bt605.2 = 8 then (if bt613.2.2 = 0 then (if (bt613.1 == 0 && (bt613.2.1 == 0)) = true then ((cottonpadlaw06_building.f).bind fun bt617 => ((exits_Check.f bt617.1 bt617.2 y563).bind fun t623 => (some (t623 == 61)))) else (some false)) else (some false)) else (some false)) else (some false)) else (some false)) else (some false)))))))))) = some r := H
         have A64 := Aside0.mk A640
         clear A640
         replace H := Option.bind_eq_some_iff.mp H
         obtain ⟨t590, A650, H⟩ := H
         replace H : ((cottonpadlaw06_span.f 100 100).bind fun bt593 => ((exits_More.f t584 t587 t590 2 bt593.1 bt593.2 0 0).bind fun bt595 => ((cottonpadlaw06_people.f).bind fun t597 => ((cottonpadlaw06_walker.f).bind fun bt600 => ((exits_More.f y553 t533 t597 bt600.1 bt600.2.1 bt600.2.2.1 bt600.2.2.2.1 bt600.2.2.2.2).bind fun bt605 => ((cottonpadlaw06_building.f).bind fun bt607 => ((exits_Out.f bt607.1 bt607.2 ([] : List (S48))).bind fun bt613 => (if t576 = 2 then (if t582 = 60 then (if bt595.2 = 2 then (if bt605.2 = 8 then (if bt613.2.2 = 0 then (if (bt613.1 == 0 && (bt613.2.1 == 0)) = true then ((cottonpadlaw06_building.f).bind fun bt617 => ((exits_Check.f bt617.1 bt617.2 y563).bind fun t623 => (some (t623 == 61)))) else (some false)) else (some false)) else (some false)) else (some false)) else (some false)) else (some false))))))))) = some r := H
         have A65 := Aside0.mk A650
         clear A650
         replace H := Option.bind_eq_some_iff.mp H
         obtain ⟨⟨t593, t594⟩, A660, H⟩ := H
         replace H : ((exits_More.f t584 t587 t590 2 t593 t594 0 0).bind fun bt595 => ((cottonpadlaw06_people.f).bind fun t597 => ((cottonpadlaw06_walker.f).bind fun bt600 => ((exits_More.f y553 t533 t597 bt600.1 bt600.2.1 bt600.2.2.1 bt600.2.2.2.1 bt600.2.2.2.2).bind fun bt605 => ((cottonpadlaw06_building.f).bind fun bt607 => ((exits_Out.f bt607.1 bt607.2 ([] : List (S48))).bind fun bt613 => (if t576 = 2 then (if t582 = 60 then (if bt595.2 = 2 then (if bt605.2 = 8 then (if bt613.2.2 = 0 then (if (bt613.1 == 0 && (bt613.2.1 == 0)) = true then ((cottonpadlaw06_building.f).bind fun bt617 => ((exits_Check.f bt617.1 bt617.2 y563).bind fun t623 => (some (t623 == 61)))) else (some false)) else (some false)) else (some false)) else (some false)) else (some false)) else (some false)))))))) = some r := H
         have A66 := Aside0.mk A660
         clear A660
         replace H := Option.bind_eq_some_iff.mp H
         obtain ⟨⟨t595, t596⟩, A670, H⟩ := H
         replace H : ((cottonpadlaw06_people.f).bind fun t597 => ((cottonpadlaw06_walker.f).bind fun bt600 => ((exits_More.f y553 t533 t597 bt600.1 bt600.2.1 bt600.2.2.1 bt600.2.2.2.1 bt600.2.2.2.2).bind fun bt605 => ((cottonpadlaw06_building.f).bind fun bt607 => ((exits_Out.f bt607.1 bt607.2 ([] : List (S48))).bind fun bt613 => (if t576 = 2 then (if t582 = 60 then (if t596 = 2 then (if bt605.2 = 8 then (if bt613.2.2 = 0 then (if (bt613.1 == 0 && (bt613.2.1 == 0)) = true then ((cottonpadlaw06_building.f).bind fun bt617 => ((exits_Check.f bt617.1 bt617.2 y563).bind fun t623 => (some (t623 == 61)))) else (some false)) else (some false)) else (some false)) else (some false)) else (some false)) else (some false))))))) = some r := H
         have A67 := Aside0.mk A670
         clear A670
         replace H := Option.bind_eq_some_iff.mp H
         obtain ⟨t597, A680, H⟩ := H
         replace H : ((cottonpadlaw06_walker.f).bind fun bt600 => ((exits_More.f y553 t533 t597 bt600.1 bt600.2.1 bt600.2.2.1 bt600.2.2.2.1 bt600.2.2.2.2).bind fun bt605 => ((cottonpadlaw06_building.f).bind fun bt607 => ((exits_Out.f bt607.1 bt607.2 ([] : List (S48))).bind fun bt613 => (if t576 = 2 then (if t582 = 60 then (if t596 = 2 then (if bt605.2 = 8 then (if bt613.2.2 = 0 then (if (bt613.1 == 0 && (bt613.2.1 == 0)) = true then ((cottonpadlaw06_building.f).bind fun bt617 => ((exits_Check.f bt617.1 bt617.2 y563).bind fun t623 => (some (t623 == 61)))) else (some false)) else (some false)) else (some false)) else (some false)) else (some false)) else (some false)))))) = some r := H
         have A68 := Aside0.mk A680
         clear A680
         replace H := Option.bind_eq_some_iff.mp H
         obtain ⟨⟨t600, t601, t602, t603, t604⟩, A690, H⟩ := H
         replace H : ((exits_More.f y553 t533 t597 t600 t601 t602 t603 t604).bind fun bt605 => ((cottonpadlaw06_building.f).bind fun bt607 => ((exits_Out.f bt607.1 bt607.2 ([] : List (S48))).bind fun bt613 => (if t576 = 2 then (if t582 = 60 then (if t596 = 2 then (if bt605.2 = 8 then (if bt613.2.2 = 0 then (if (bt613.1 == 0 && (bt613.2.1 == 0)) = true then ((cottonpadlaw06_building.f).bind fun bt617 => ((exits_Check.f bt617.1 bt617.2 y563).bind fun t623 => (some (t623 == 61)))) else (some false)) else (some false)) else (some false)) else (some false)) else (some false)) else (some false))))) = some r := H
         have A69 := Aside0.mk A690
         clear A690
         replace H := Option.bind_eq_some_iff.mp H
         obtain ⟨⟨t605, t606⟩, A700, H⟩ := H
         replace H : ((cottonpadlaw06_building.f).bind fun bt607 => ((exits_Out.f bt607.1 bt607.2 ([] : List (S48))).bind fun bt613 => (if t576 = 2 then (if t582 = 60 then (if t596 = 2 then (if t606 = 8 then (if bt613.2.2 = 0 then (if (bt613.1 == 0 && (bt613.2.1 == 0)) = true then ((cottonpadlaw06_building.f).bind fun bt617 => ((exits_Check.f bt617.1 bt617.2 y563).bind fun t623 => (some (t623 == 61)))) else (some false)) else (some false)) else (some false)) else (some false)) else (some false)) else (some false)))) = some r := H
         have A70 := Aside0.mk A700
         clear A700
         replace H := Option.bind_eq_some_iff.mp H
         obtain ⟨⟨t607, t610⟩, A710, H⟩ := H
         replace H : ((exits_Out.f t607 t610 ([] : List (S48))).bind fun bt613 => (if t576 = 2 then (if t582 = 60 then (if t596 = 2 then (if t606 = 8 then (if bt613.2.2 = 0 then (if (bt613.1 == 0 && (bt613.2.1 == 0)) = true then ((cottonpadlaw06_building.f).bind fun bt617 => ((exits_Check.f bt617.1 bt617.2 y563).bind fun t623 => (some (t623 == 61)))) else (some false)) else (some false)) else (some false)) else (some false)) else (some false)) else (some false))) = some r := H
         have A71 := Aside0.mk A710
         clear A710
         replace H := Option.bind_eq_some_iff.mp H
         obtain ⟨⟨t613, t614, t615⟩, A720, H⟩ := H
         replace H : (if t576 = 2 then (if t582 = 60 then (if t596 = 2 then (if t606 = 8 then (if t615 = 0 then (if (t613 == 0 && (t614 == 0)) = true then ((cottonpadlaw06_building.f).bind fun bt617 => ((exits_Check.f bt617.1 bt617.2 y563).bind fun t623 => (some (t623 == 61)))) else (some false)) else (some false)) else (some false)) else (some false)) else (some false)) else (some false)) = some r := H
         have A72 := Aside0.mk A720
         clear A720
         by_cases c73 : t576 = 2
         ·rw [if_pos c73] at H
          have c73b0 : (t576 == 2) = true := beq_iff_eq.mpr c73
          have c73b1 : (t576 != 2) = false := bne_eq_false_iff_eq.mpr c73
          clear c73
          by_cases c74 : t582 = 60
          ·rw [if_pos c74] at H
           have c74b0 : (t582 == 60) = true := beq_iff_eq.mpr c74
           have c74b1 : (t582 != 60) = false := bne_eq_false_iff_eq.mpr c74
           clear c74
           by_cases c75 : t596 = 2
           ·rw [if_pos c75] at H
            have c75b0 : (t596 == 2) = true := beq_iff_eq.mpr c75
            have c75b1 : (t596 != 2) = false := bne_eq_false_iff_eq.mpr c75
            clear c75
            by_cases c76 : t606 = 8
            ·rw [if_pos c76] at H
             have c76b0 : (t606 == 8) = true := beq_iff_eq.mpr c76
             have c76b1 : (t606 != 8) = false := bne_eq_false_iff_eq.mpr c76
             clear c76
             by_cases c77 : t615 = 0
             ·rw [if_pos c77] at H
              have c77b0 : (t615 == 0) = true := beq_iff_eq.mpr c77
              have c77b1 : (t615 != 0) = false := bne_eq_false_iff_eq.mpr c77
              clear c77
              by_cases c78 : (t613 == 0 && (t614 == 0)) = true
              ·rw [if_pos c78] at H
               have c78b0 : (t613 == 0 && (t614 == 0)) = true := c78
               (try (have c78b1 : decide (t613 = 0 && (t614 == 0)) = true := by simpa using c78))
               (try (have c78b2 : (t613 == 0 && (t614 == 0)) = true := by simpa using c78))
               clear c78
               replace H := Option.bind_eq_some_iff.mp H
               obtain ⟨⟨t617, t620⟩, A790, H⟩ := H
               replace H : ((exits_Check.f t617 t620 y563).bind fun t623 => (some (t623 == 61))) = some r := H
               have A79 := Aside0.mk A790
               clear A790
               replace H := Option.bind_eq_some_iff.mp H
               obtain ⟨t623, A800, H⟩ := H
               replace H : (some (t623 == 61)) = some r := H
               have A80 := Aside0.mk A800
               clear A800
               obtain rfl := Option.some.inj H
               try go_wp2_with (first | ((with_reducible refine gate_callee (f := 34) rfl ?_); refine goesL_ (some 44) rfl rfl Tryd.func34 (by kernel_rfl) rfl #[] rfl ls_ ?_; (with_reducible refine (cottonpadlaw06_people.calls  t560 _ A56.out).mono ?_); rintro e w81 ⟨v561, rfl, ho0, hb⟩; refine ⟨_, rfl, ?_⟩; replace HO_549000 := rb_ HO_549000 hb; replace HO_549001 := rb_ HO_549001 hb; replace HO_550000 := rb_ HO_550000 hb; replace HO_550001 := rb_ HO_550001 hb; replace HO_551000 := rb_ HO_551000 hb; replace HO_551001 := rb_ HO_551001 hb; have HO562 := Aside0.mk (Kd.R_lower ho0 (below_size (be3_ HB GE548 GE549 GE550))); replace BK548 := bb_ BK548 hb; replace BK549 := bb_ BK549 hb; replace BK550 := bb_ BK550 hb; replace HB := bs3_ HB GE548 GE549 GE550 hb; (try clear hb); (try clear hb2); (try clear hk); (try clear hi); (try clear ho0); have p58 : 0 ≤ (2 : Int) := (by omega); have q58 : (2 : Int) < ((t560.length : Int) : Int) := of_decide_eq_true as_; have qi58 : (2 < t560.length) = True := eq_true (by omega); obtain ⟨go58, co58, eo58, gb58, gl58, cl58, HG58⟩ := Kd.R_form HO562.out (by omega); (first | cases eo58 | (injection eo58 with ea_ en_ ec_; (first | subst ea_ | (injection ea_ with ea_; subst ea_)); subst ec_; clear en_)); have GB58 := Aside0.mk gb58; have GG58 := Aside0.mk HG58; clear gb58 gl58 HG58; obtain ⟨ce58, hcl58, hM58, hcc58, hfr58⟩ := Kd.R_elem HO562.out z48 (2 : Int) p58 q58; obtain rfl := k48_openM hM58; have hx58_0 : w81.cell? ⟨go58, (2 : Int).toNat * 5, none⟩ = some (.int .i64 ((rd_T48 t560 2).f0)) := hcc58 0 _ rfl; have hx58_1 : w81.cell? ⟨go58, (2 : Int).toNat * 5 + 1, none⟩ = some (.int .i64 ((rd_T48 t560 2).f1.f0)) := hcc58 1 _ rfl; have hx58_2 : w81.cell? ⟨go58, (2 : Int).toNat * 5 + 2, none⟩ = some (.int .i64 ((rd_T48 t560 2).f1.f1)) := hcc58 2 _ rfl; have hx58_3 : w81.cell? ⟨go58, (2 : Int).toNat * 5 + 3, none⟩ = some (.int .i64 ((rd_T48 t560 2).f2.f0)) := hcc58 3 _ rfl; have hx58_4 : w81.cell? ⟨go58, (2 : Int).toNat * 5 + 4, none⟩ = some (.int .i64 ((rd_T48 t560 2).f2.f1)) := hcc58 4 _ rfl; have hf58_0 : w81.frozen? ⟨go58, (2 : Int).toNat * 5, none⟩ = false := hfr58 0; have hf58_1 : w81.frozen? ⟨go58, (2 : Int).toNat * 5 + 1, none⟩ = false := hfr58 1; have hf58_2 : w81.frozen? ⟨go58, (2 : Int).toNat * 5 + 2, none⟩ = false := hfr58 2; have hf58_3 : w81.frozen? ⟨go58, (2 : Int).toNat * 5 + 3, none⟩ = false := hfr58 3; have hf58_4 : w81.frozen? ⟨go58, (2 : Int).toNat * 5 + 4, none⟩ = false := hfr58 4; clear hcl58 hcc58 hfr58 hM58; (try rw [show ((2 : Int)).toNat = 2 from rfl] at hx58_0); (try simp only [Nat.reduceMul, Nat.zero_mul, Nat.zero_add, Nat.reduceAdd] at hx58_0); (try rw [show ((2 : Int)).toNat = 2 from rfl] at hf58_0); (try simp only [Nat.reduceMul, Nat.zero_mul, Nat.zero_add, Nat.reduceAdd] at hf58_0); (try rw [show ((2 : Int)).toNat = 2 from rfl] at hx58_1); (try simp only [Nat.reduceMul, Nat.zero_mul, Nat.zero_add, Nat.reduceAdd] at hx58_1); (try rw [show ((2 : Int)).toNat = 2 from rfl] at hf58_1); (try simp only [Nat.reduceMul, Nat.zero_mul, Nat.zero_add, Nat.reduceAdd] at hf58_1); (try rw [show ((2 : Int)).toNat = 2 from rfl] at hx58_2); (try simp only [Nat.reduceMul, Nat.zero_mul, Nat.zero_add, Nat.reduceAdd] at hx58_2); (try rw [show ((2 : Int)).toNat = 2 from rfl] at hf58_2); (try simp only [Nat.reduceMul, Nat.zero_mul, Nat.zero_add, Nat.reduceAdd] at hf58_2); (try rw [show ((2 : Int)).toNat = 2 from rfl] at hx58_3); (try simp only [Nat.reduceMul, Nat.zero_mul, Nat.zero_add, Nat.reduceAdd] at hx58_3); (try rw [show ((2 : Int)).toNat = 2 from rfl] at hf58_3); (try simp only [Nat.reduceMul, Nat.zero_mul, Nat.zero_add, Nat.reduceAdd] at hf58_3); (try rw [show ((2 : Int)).toNat = 2 from rfl] at hx58_4); (try simp only [Nat.reduceMul, Nat.zero_mul, Nat.zero_add, Nat.reduceAdd] at hx58_4); (try rw [show ((2 : Int)).toNat = 2 from rfl] at hf58_4); (try simp only [Nat.reduceMul, Nat.zero_mul, Nat.zero_add, Nat.reduceAdd] at hf58_4); replace p58 := eq_true p58; replace q58 := eq_true q58; have HX82 := Aside0.mk (show Kd.R k48 48 w81 w.heap.size (fun _ => True) (.slice (some ⟨go58, 0, none⟩) t560.length co58) t560 from (ro_ HO562)); obtain ⟨ce82, hcl82, hM82, hcc82, hfr82⟩ := Kd.R_elem HX82.out z48 (2 : Int) (by omega) (by have h_ : (2 : Int) < ((t560.length : Int) : Int) := of_decide_eq_true as_; first | exact h_ | (have e_ := (Kd.R_reads' HO562.out).1; omega) | simpa using h_); obtain rfl := k48_openM hM82; have HP82 := Kd.R_seg HX82.out (2 : Int) (by omega) (by have h_ : (2 : Int) < ((t560.length : Int) : Int) := of_decide_eq_true as_; first | exact h_ | (have e_ := (Kd.R_reads' HO562.out).1; omega) | simpa using h_) (seg := [.int .i64 99]) (j := 1) hcl82 hcc82 (show 2 ≤ 5 from by decide) (x' := (⟨(rd_T48 t560 2).f0, (⟨99, (rd_T48 t560 2).f1.f1⟩ : S36), (⟨(rd_T48 t560 2).f2.f0, (rd_T48 t560 2).f2.f1⟩ : S36)⟩ : S48)) (k48_mkM _ _ _ (⟨(rd_T48 t560 2).f0, (⟨99, (rd_T48 t560 2).f1.f1⟩ : S36), (⟨(rd_T48 t560 2).f2.f0, (rd_T48 t560 2).f2.f1⟩ : S36)⟩ : S48) ) (fun _ hk => hk); have hx82_1 := hcc82 1 _ rfl; (try simp only [show (k48).sz = 5 from rfl, Nat.mul_one, Nat.add_zero] at hx82_1); (try rw [show ((2 : Int)).toNat = 2 from rfl] at hx82_1); (try simp only [Nat.reduceMul, Nat.zero_mul, Nat.zero_add, Nat.reduceAdd] at hx82_1); have hf82_1 := hfr82 1; (try simp only [show (k48).sz = 5 from rfl, Nat.mul_one, Nat.add_zero] at hf82_1); (try rw [show ((2 : Int)).toNat = 2 from rfl] at hf82_1); (try simp only [Nat.reduceMul, Nat.zero_mul, Nat.zero_add, Nat.reduceAdd] at hf82_1); clear hcl82 hcc82 hfr82 hM82) | ((with_reducible refine gate_store (t := 3) (p := 48) rfl ?_); refine store_event (t := 3) (p := 48) (v := ?vo_w83) (w1 := (w81.setCell ⟨go58, 11, none⟩ (.int .i64 99))) ?hg ?ho ?hn ?hr ?_; (case ho => rfl); (case hg => rfl); (case hn => rfl); (case hr => exact gs_); intro w83 hw; have hg : w81.grownBy w83 (some go58) := (by rw [hw]; exact HP82.2); have hp_ : Kd.R k48 48 w83 w.heap.size (fun _ => True) (.slice (some ⟨go58, 0, none⟩) t560.length co58) y563 := (by rw [hw, Ny563.out]; exact HP82.1); clear HP82; replace HO_549000 := Aside0.mk (Kd.R_over' (v := (.slice (some ⟨go58, 0, none⟩) t560.length co58)) (ro_ HO_549000) (Kd.R_typed HO562.out) (by decide) hg); replace HO_549001 := Aside0.mk (Kd.R_over' (v := (.slice (some ⟨go58, 0, none⟩) t560.length co58)) (ro_ HO_549001) (Kd.R_typed HO562.out) (by decide) hg); replace HO_550000 := Aside0.mk (Kd.R_over' (v := (.slice (some ⟨go58, 0, none⟩) t560.length co58)) (ro_ HO_550000) (Kd.R_typed HO562.out) (by decide) hg); replace HO_550001 := Aside0.mk (Kd.R_over' (v := (.slice (some ⟨go58, 0, none⟩) t560.length co58)) (ro_ HO_550001) (Kd.R_typed HO562.out) (by decide) hg); replace HO_551000 := Aside0.mk (Kd.R_over' (v := (.slice (some ⟨go58, 0, none⟩) t560.length co58)) (ro_ HO_551000) (Kd.R_typed HO562.out) (by decide) hg); replace HO_551001 := Aside0.mk (Kd.R_over' (v := (.slice (some ⟨go58, 0, none⟩) t560.length co58)) (ro_ HO_551001) (Kd.R_typed HO562.out) (by decide) hg); replace BK548 := Aside0.mk (blk_grown (g := gb548) (o := .cells #[.slice (some ⟨go8, 0, none⟩) y553.length co22, .slice Ao26 t533.length co26] 25 (0, 0)) (bk_ BK548) hg (Kd.R_ne HO562.out BK548.out (by decide))); replace BK549 := Aside0.mk (blk_grown (g := gb549) (o := .cells #[.slice (some ⟨go10, 0, none⟩) y554.length co27, .slice Ao30 t539.length co30] 25 (0, 0)) (bk_ BK549) hg (Kd.R_ne HO562.out BK549.out (by decide))); replace BK550 := Aside0.mk (blk_grown (g := gb550) (o := .cells #[.slice (some ⟨go13, 0, none⟩) y557.length co31, .slice Ao33 t545.length co33] 25 (0, 0)) (bk_ BK550) hg (Kd.R_ne HO562.out BK550.out (by decide))); replace HO562 := Aside0.mk (hp_); replace HB := Aside0.mk ((by rw [hw]; exact below_set (HB.out) GB58.out : Below w.heap.size w w83)); clear hg hw hp_) | ((with_reducible refine gate_callee (f := 31) rfl ?_); refine goesL_ (some 50) rfl rfl Tryd.func31 (by kernel_rfl) rfl #[] rfl ls_ ?_; (with_reducible refine (cottonpadlaw06_building.calls  t564 t567 _ A59.out).mono ?_); rintro e w84 ⟨v565, v568, rfl, ho0, ho1, hb⟩; refine ⟨_, rfl, ?_⟩; replace HO562 := rb_ HO562 hb; have HO566 := Aside0.mk (Kd.R_lower (Kd.R_new' (Kd.R_new' (Kd.R_new' ho0 (Kd.R_lt (ro_ HO_549000))) (Kd.R_lt (ro_ HO_550000))) (Kd.R_lt (ro_ HO_551000))) (below_size (be3_ HB GE548 GE549 GE550))); replace HO_549000 := Aside0.mk (Kd.R_elder' (ro_ HO_549000) (Kd.R_base ho0) hb); replace HO_550000 := Aside0.mk (Kd.R_elder' (ro_ HO_550000) (Kd.R_base ho0) hb); replace HO_551000 := Aside0.mk (Kd.R_elder' (ro_ HO_551000) (Kd.R_base ho0) hb); have HO569 := Aside0.mk (Kd.R_lower (Kd.R_new' (Kd.R_new' (Kd.R_new' ho1 (Kd.R_lt (ro_ HO_549001))) (Kd.R_lt (ro_ HO_550001))) (Kd.R_lt (ro_ HO_551001))) (below_size (be3_ HB GE548 GE549 GE550))); replace HO_549001 := Aside0.mk (Kd.R_elder' (ro_ HO_549001) (Kd.R_base ho1) hb); replace HO_550001 := Aside0.mk (Kd.R_elder' (ro_ HO_550001) (Kd.R_base ho1) hb); replace HO_551001 := Aside0.mk (Kd.R_elder' (ro_ HO_551001) (Kd.R_base ho1) hb); replace BK548 := bb_ BK548 hb; replace BK549 := bb_ BK549 hb; replace BK550 := bb_ BK550 hb; replace HB := bs3_ HB GE548 GE549 GE550 hb; (try clear hb); (try clear hb2); (try clear hk); (try clear hi); (try clear ho0); (try clear ho1)) | ((with_reducible refine gate_callee (f := 34) rfl ?_); refine goesL_ (some 51) rfl rfl Tryd.func34 (by kernel_rfl) rfl #[] rfl ls_ ?_; (with_reducible refine (cottonpadlaw06_people.calls  t570 _ A60.out).mono ?_); rintro e w85 ⟨v571, rfl, ho0, hb⟩; refine ⟨_, rfl, ?_⟩; replace HO_549000 := rb_ HO_549000 hb; replace HO_549001 := rb_ HO_549001 hb; replace HO_550000 := rb_ HO_550000 hb; replace HO_550001 := rb_ HO_550001 hb; replace HO_551000 := rb_ HO_551000 hb; replace HO_551001 := rb_ HO_551001 hb; replace HO566 := rb_ HO566 hb; replace HO569 := rb_ HO569 hb; have HO572 := Aside0.mk (Kd.R_lower (Kd.R_new' ho0 (Kd.R_lt (ro_ HO562))) (below_size (be3_ HB GE548 GE549 GE550))); replace HO562 := Aside0.mk (Kd.R_elder' (ro_ HO562) (Kd.R_base ho0) hb); replace BK548 := bb_ BK548 hb; replace BK549 := bb_ BK549 hb; replace BK550 := bb_ BK550 hb; replace HB := bs3_ HB GE548 GE549 GE550 hb; (try clear hb); (try clear hb2); (try clear hk); (try clear hi); (try clear ho0); obtain ⟨Ao86, co86, eo86⟩ := Kd.R_slice HO566.out; subst eo86; obtain ⟨Ao87, co87, eo87⟩ := Kd.R_slice HO569.out; subst eo87; obtain ⟨Ao88, co88, eo88⟩ := Kd.R_slice HO572.out; subst eo88) | ((with_reducible refine gate_callee (f := 17) rfl ?_); refine goesL_ (some 52) rfl rfl Tryd.func17 (by kernel_rfl) rfl #[.agg #[.slice Ao86 t564.length co86, .slice Ao87 t567.length co87], .slice Ao88 t570.length co88, .int .i64 2] rfl ls_ ?_; (with_reducible refine (exits_Leaves.calls _ _ t564 _ _ t567 _ _ t570 2 t573 t576 _ ?side7 ?side1 ?side2 ?side3 ?side4 ?side5 ?side6 A61.out).mono ?_); (case side1 => exact kd_ (Kd.R_reads' HO566.out).2.2); (case side2 => exact (Kd.R_reads' HO566.out).2.1); (case side3 => exact kd_ (Kd.R_reads' HO569.out).2.2); (case side4 => exact (Kd.R_reads' HO569.out).2.1); (case side5 => exact kd_ (Kd.R_reads' HO572.out).2.2); (case side6 => exact (Kd.R_reads' HO572.out).2.1); (case side7 => exact GlobsE.below HG.out.1 (be3_ HB GE548 GE549 GE550)); rintro e w89 ⟨v574, rfl, ho0, hb⟩; refine ⟨_, rfl, ?_⟩; replace HO_549000 := rb_ HO_549000 hb; replace HO_549001 := rb_ HO_549001 hb; replace HO_550000 := rb_ HO_550000 hb; replace HO_550001 := rb_ HO_550001 hb; replace HO_551000 := rb_ HO_551000 hb; replace HO_551001 := rb_ HO_551001 hb; replace HO562 := rb_ HO562 hb; replace HO566 := rb_ HO566 hb; replace HO569 := rb_ HO569 hb; replace HO572 := rb_ HO572 hb; have HO575 := Aside0.mk (Kd.R_lower ho0 (below_size (be3_ HB GE548 GE549 GE550))); replace BK548 := bb_ BK548 hb; replace BK549 := bb_ BK549 hb; replace BK550 := bb_ BK550 hb; replace HB := bs3_ HB GE548 GE549 GE550 hb; (try clear hb); (try clear hb2); (try clear hk); (try clear hi); (try clear ho0)))
               replace HO_549000 := Aside0.mk (Kd.R_drew HO_549000.out)
               replace HO_549001 := Aside0.mk (Kd.R_drew HO_549001.out)
               replace HO_550000 := Aside0.mk (Kd.R_drew HO_550000.out)
               replace HO_550001 := Aside0.mk (Kd.R_drew HO_550001.out)
               replace HO_551000 := Aside0.mk (Kd.R_drew HO_551000.out)
               replace HO_551001 := Aside0.mk (Kd.R_drew HO_551001.out)
               replace HO562 := Aside0.mk (Kd.R_drew HO562.out)
               replace HO566 := Aside0.mk (Kd.R_drew HO566.out)
               replace HO569 := Aside0.mk (Kd.R_drew HO569.out)
               replace HO572 := Aside0.mk (Kd.R_drew HO572.out)
               replace HO575 := Aside0.mk (Kd.R_drew HO575.out)
               replace BK548 := Aside0.mk (blk_drew BK548.out)
               replace BK549 := Aside0.mk (blk_drew BK549.out)
               replace BK550 := Aside0.mk (blk_drew BK550.out)
               replace HB := Aside0.mk (below_drew1 HB.out)
               refine start_ (n := 9) (S := fun w' => w'.cell? ⟨gb549, 0, none⟩ = some (.slice (some ⟨go10, 0, none⟩) y554.length co27) ∧ w'.cell? ⟨gb549, 1, none⟩ = some (.slice Ao30 t539.length co30)) (ds := []) (bm_ 9 0) (by kernel_rfl) rfl rfl ⟨bc_ BK549 0, bc_ BK549 1⟩ (fun hHeld => ?_); refine with_tabW cottonpadlaw06_ExitsExamples.tab12 cottonpadlaw06_ExitsExamples.bits12 (fun HT_ HW_ => ?_)
               generalize w89.drew = w90 at HO_549000 HO_549001 HO_550000 HO_550001 HO_551000 HO_551001 HO562 HO566 HO569 HO572 HO575 BK548 BK549 BK550 HB hHeld ⊢
               refine take_ (i := 0) (N := some 56) (v := ?_) (a' := ?_) (bm_ 9 1) rfl rfl (take_ofW HT_.out HW_.out (by kernel_rfl)) (fun _ _ _ h => h) (Or.inl ⟨by rfl, ?_⟩) hHeld ?_ ?_
               rotate_left
               ·rintro w' ⟨s0, s1⟩
                go_simp
                with_reducible rfl
               rotate_left
               ·exact pt_
               refine join_ (σ := Value × Nat) 2 (bm_ 9 127) (fun s_ => [(57, s_.1), (58, .tuple #[.agg #[.int .i64 t580, .int .i64 t581], .int .i64 t582]), (7, .pointer (some ⟨s_.2, 0, none⟩)), (55, .tuple #[.agg #[.int .i64 t580, .int .i64 t581], .int .i64 t582]), (59, .agg #[.int .i64 t580, .int .i64 t581]), (60, .int .i64 t582)]) (fun s_ w' => (w'.cell? ⟨gb549, 0, none⟩ = some (.slice (some ⟨go10, 0, none⟩) y554.length co27) ∧ w'.cell? ⟨gb549, 1, none⟩ = some (.slice Ao30 t539.length co30)) ∧ (Kd.R k48 48 w' w.heap.size (fun k_ => some k_ ≠ (.slice Ao88 t570.length co88 : Value).ownBlock ∧ some k_ ≠ (s_.1 : Value).ownBlock) (.slice (some ⟨go58, 0, none⟩) t560.length co58) y563) ∧ (Kd.R k62 62 w' w.heap.size (fun k_ => some k_ ≠ (.slice (some ⟨go8, 0, none⟩) y553.length co22 : Value).ownBlock ∧ some k_ ≠ (.slice (some ⟨go10, 0, none⟩) y554.length co27 : Value).ownBlock ∧ some k_ ≠ (.slice (some ⟨go13, 0, none⟩) y557.length co31 : Value).ownBlock) (.slice Ao86 t564.length co86) t564) ∧ (Kd.R k81 81 w' w.heap.size (fun k_ => some k_ ≠ (.slice Ao26 t533.length co26 : Value).ownBlock ∧ some k_ ≠ (.slice Ao30 t539.length co30 : Value).ownBlock ∧ some k_ ≠ (.slice Ao33 t545.length co33 : Value).ownBlock) (.slice Ao87 t567.length co87) t567) ∧ (Kd.R k48 48 w' w.heap.size (fun k_ => some k_ ≠ (.slice (some ⟨go58, 0, none⟩) t560.length co58 : Value).ownBlock ∧ some k_ ≠ (s_.1 : Value).ownBlock) (.slice Ao88 t570.length co88) t570) ∧ (Kd.R k36 36 w' w.heap.size (fun k_ => k_ ≠ s_.2) v574 t573) ∧ (Kd.R k48 48 w' w.heap.size (fun k_ => some k_ ≠ (.slice (some ⟨go58, 0, none⟩) t560.length co58 : Value).ownBlock ∧ some k_ ≠ (.slice Ao88 t570.length co88 : Value).ownBlock) s_.1 t577) ∧ (Kd.R k62 62 w' w.heap.size (fun k_ => some k_ ≠ (.slice Ao86 t564.length co86 : Value).ownBlock ∧ some k_ ≠ (.slice (some ⟨go10, 0, none⟩) y554.length co27 : Value).ownBlock ∧ some k_ ≠ (.slice (some ⟨go13, 0, none⟩) y557.length co31 : Value).ownBlock) (.slice (some ⟨go8, 0, none⟩) y553.length co22) y553) ∧ (Kd.R k81 81 w' w.heap.size (fun k_ => some k_ ≠ (.slice Ao87 t567.length co87 : Value).ownBlock ∧ some k_ ≠ (.slice Ao30 t539.length co30 : Value).ownBlock ∧ some k_ ≠ (.slice Ao33 t545.length co33 : Value).ownBlock) (.slice Ao26 t533.length co26) t533) ∧ (Kd.R k62 62 w' w.heap.size (fun k_ => some k_ ≠ (.slice Ao86 t564.length co86 : Value).ownBlock ∧ some k_ ≠ (.slice (some ⟨go8, 0, none⟩) y553.length co22 : Value).ownBlock ∧ some k_ ≠ (.slice (some ⟨go13, 0, none⟩) y557.length co31 : Value).ownBlock) (.slice (some ⟨go10, 0, none⟩) y554.length co27) y554) ∧ (Kd.R k81 81 w' w.heap.size (fun k_ => some k_ ≠ (.slice Ao87 t567.length co87 : Value).ownBlock ∧ some k_ ≠ (.slice Ao26 t533.length co26 : Value).ownBlock ∧ some k_ ≠ (.slice Ao33 t545.length co33 : Value).ownBlock) (.slice Ao30 t539.length co30) t539) ∧ (Kd.R k62 62 w' w.heap.size (fun k_ => some k_ ≠ (.slice Ao86 t564.length co86 : Value).ownBlock ∧ some k_ ≠ (.slice (some ⟨go8, 0, none⟩) y553.length co22 : Value).ownBlock ∧ some k_ ≠ (.slice (some ⟨go10, 0, none⟩) y554.length co27 : Value).ownBlock) (.slice (some ⟨go13, 0, none⟩) y557.length co31) y557) ∧ (Kd.R k81 81 w' w.heap.size (fun k_ => some k_ ≠ (.slice Ao87 t567.length co87 : Value).ownBlock ∧ some k_ ≠ (.slice Ao26 t533.length co26 : Value).ownBlock ∧ some k_ ≠ (.slice Ao30 t539.length co30 : Value).ownBlock) (.slice Ao33 t545.length co33) t545) ∧ (w'.heap[gb548]? = some (.cells #[.slice (some ⟨go8, 0, none⟩) y553.length co22, .slice Ao26 t533.length co26] 25 (0, 0))) ∧ (w'.heap[gb549]? = some (.cells #[.slice (some ⟨go10, 0, none⟩) y554.length co27, .slice Ao30 t539.length co30] 25 (0, 0))) ∧ (w'.heap[gb550]? = some (.cells #[.slice (some ⟨go13, 0, none⟩) y557.length co31, .slice Ao33 t545.length co33] 25 (0, 0))) ∧ (w'.heap[s_.2]? = some (.cells #[.int .i64 0, .int .i64 0] 36 (0, 0))) ∧ (w.heap.size ≤ s_.2) ∧ (w.heap.size ≤ s_.2) ∧ (gb548 ≠ s_.2) ∧ (s_.2 ≠ gb548) ∧ (gb549 ≠ s_.2) ∧ (s_.2 ≠ gb549) ∧ (gb550 ≠ s_.2) ∧ (s_.2 ≠ gb550) ∧ (Below w.heap.size w w')) ?_ ?_
               rotate_left
               ·intro hCont
                refine two_ (i := 1) (j := 6) (Ni := some 57) (Nj := some 7) (bm_ 9 3) (bm_ 9 65) rfl rfl rfl rfl (two_of HT_.out (by kernel_rfl)) (by decide) (by decide) (fun K hK => ?_) (fun K hK => ?_)
                ·skip
                 refine goes_ Tryd.func34 (by kernel_rfl) rfl #[] (by rfl) rfl rfl ls_ ?_
                 with_reducible refine (cottonpadlaw06_people.calls  t577 _ A62.out).mono ?_
                 rintro e w91 ⟨v578, rfl, ho0, hb⟩
                 refine ⟨_, rfl, ?_⟩
                 replace HO_549000 := rb_ HO_549000 hb
                 replace HO_549001 := rb_ HO_549001 hb
                 replace HO_550000 := rb_ HO_550000 hb
                 replace HO_550001 := rb_ HO_550001 hb
                 replace HO_551000 := rb_ HO_551000 hb
                 replace HO_551001 := rb_ HO_551001 hb
                 replace HO566 := rb_ HO566 hb
                 replace HO569 := rb_ HO569 hb
                 replace HO575 := rb_ HO575 hb
                 have HO579 := Aside0.mk (Kd.R_lower (Kd.R_new' (Kd.R_new' ho0 (Kd.R_lt (ro_ HO562))) (Kd.R_lt (ro_ HO572))) (below_size (be3_ HB GE548 GE549 GE550)))
                 replace HO562 := Aside0.mk (Kd.R_elder' (ro_ HO562) (Kd.R_base ho0) hb)
                 replace HO572 := Aside0.mk (Kd.R_elder' (ro_ HO572) (Kd.R_base ho0) hb)
                 replace BK548 := bb_ BK548 hb
                 replace BK549 := bb_ BK549 hb
                 replace BK550 := bb_ BK550 hb
                 replace HB := bs3_ HB GE548 GE549 GE550 hb
                 (try clear hb)
                 (try clear hb2)
                 (try clear hk)
                 (try clear hi)
                 (try clear ho0)
                 obtain ⟨Ao92, co92, eo92⟩ := Kd.R_slice HO579.out
                 (first | subst eo92 | (injection eo92 with f1_ f2_ f3_; have f4_ := f1_.symm; have f5_ := f3_.symm; clear f1_ f2_ f3_; subst f4_; subst f5_))
                 refine hK.out _ _ ⟨bc_ BK549 0, bc_ BK549 1⟩ (fun hHeld => ?_)
                 clear hK K
                 refine norm_ (a' := ?_) ?_ ?_
                 rotate_left
                 ·show Act.put _ (some 57) _ = _
                  simp only [Act.put, List.setIfInBounds_toArray, List.set_cons_zero, List.set_cons_succ, i64_w, i32_w]
                  rfl
                 refine two_ (i := 2) (j := 6) (Ni := some 58) (Nj := some 7) (bm_ 9 7) (bm_ 9 67) rfl rfl rfl rfl (two_of HT_.out (by kernel_rfl)) (by decide) (by decide) (fun K hK => ?_) (fun K hK => ?_)
                 ·skip
                  refine goes_ Tryd.func19 (by kernel_rfl) rfl #[.agg #[.slice (some ⟨go10, 0, none⟩) y554.length co27, .slice Ao30 t539.length co30], .slice Ao92 t577.length co92] (by rfl) rfl rfl ls_ ?_
                  with_reducible refine (exits_Out.calls _ _ y554 _ _ t539 _ _ t577 t580 t581 t582 _ ?side7 ?side1 ?side2 ?side3 ?side4 ?side5 ?side6 A63.out).mono ?_
                  (case side1 => exact kd_ (Kd.R_reads' HO_550000.out).2.2)
                  (case side2 => exact (Kd.R_reads' HO_550000.out).2.1)
                  (case side3 => exact kd_ (Kd.R_reads' HO_550001.out).2.2)
                  (case side4 => exact (Kd.R_reads' HO_550001.out).2.1)
                  (case side5 => exact kd_ (Kd.R_reads' HO579.out).2.2)
                  (case side6 => exact (Kd.R_reads' HO579.out).2.1)
                  (case side7 => exact GlobsE.below HG.out.1 (be3_ HB GE548 GE549 GE550))
                  rintro e w93 ⟨rfl, hb⟩
                  refine ⟨_, rfl, ?_⟩
                  replace HO_549000 := rb_ HO_549000 hb
                  replace HO_549001 := rb_ HO_549001 hb
                  replace HO_550000 := rb_ HO_550000 hb
                  replace HO_550001 := rb_ HO_550001 hb
                  replace HO_551000 := rb_ HO_551000 hb
                  replace HO_551001 := rb_ HO_551001 hb
                  replace HO562 := rb_ HO562 hb
                  replace HO566 := rb_ HO566 hb
                  replace HO569 := rb_ HO569 hb
                  replace HO572 := rb_ HO572 hb
                  replace HO575 := rb_ HO575 hb
                  replace HO579 := rb_ HO579 hb
                  replace BK548 := bb_ BK548 hb
                  replace BK549 := bb_ BK549 hb
                  replace BK550 := bb_ BK550 hb
                  replace HB := bs3_ HB GE548 GE549 GE550 hb
                  (try clear hb)
                  (try clear hb2)
                  (try clear hk)
                  (try clear hi)
                  refine hK.out _ _ ⟨bc_ BK549 0, bc_ BK549 1⟩ (fun hHeld => ?_)
                  clear hK K
                  refine norm_ (a' := ?_) ?_ ?_
                  rotate_left
                  ·show Act.put _ (some 58) _ = _
                   simp only [Act.put, List.setIfInBounds_toArray, List.set_cons_zero, List.set_cons_succ, i64_w, i32_w]
                   rfl
                  refine pure_ (i := 3) (N := some 55) (v := ?_) (a' := ?_) (bm_ 9 15) rfl rfl (any_of HT_.out (by kernel_rfl)) (fun _ _ _ h => h) (Or.inl ⟨by rfl, ?_⟩) ?_ ?_
                  rotate_left
                  ·intro w'
                   go_simp
                   with_reducible rfl
                  rotate_left
                  ·exact pt_
                  refine pure_ (i := 4) (N := some 59) (v := ?_) (a' := ?_) (bm_ 9 31) rfl rfl (any_of HT_.out (by kernel_rfl)) (fun _ _ _ h => h) (Or.inl ⟨by rfl, ?_⟩) ?_ ?_
                  rotate_left
                  ·intro w'
                   go_simp
                   with_reducible rfl
                  rotate_left
                  ·exact pt_
                  refine pure_ (i := 5) (N := some 60) (v := ?_) (a' := ?_) (bm_ 9 63) rfl rfl (any_of HT_.out (by kernel_rfl)) (fun _ _ _ h => h) (Or.inl ⟨by rfl, ?_⟩) ?_ ?_
                  rotate_left
                  ·intro w'
                   go_simp
                   with_reducible rfl
                  rotate_left
                  ·exact pt_
                  refine one_ (i := 6) (N := some 7) (bm_ 9 127) rfl rfl (one_of HT_.out (by kernel_rfl)) (by decide) (fun K hK => ?_)
                  refine box_step ?hg (N := 7) ?hd (cs := #[.int .i64 0, .int .i64 0]) (t := 36) ?hr ?_; (case hd => rfl); (case hg => rfl); (case hr => exact gs_)
                  intro gb583 hg w94 hbox hb
                  replace HO_549000 := rb_ HO_549000 hb
                  replace HO_549001 := rb_ HO_549001 hb
                  replace HO_550000 := rb_ HO_550000 hb
                  replace HO_550001 := rb_ HO_550001 hb
                  replace HO_551000 := rb_ HO_551000 hb
                  replace HO_551001 := rb_ HO_551001 hb
                  replace HO562 := rb_ HO562 hb
                  replace HO566 := rb_ HO566 hb
                  replace HO569 := rb_ HO569 hb
                  replace HO572 := rb_ HO572 hb
                  replace HO575 := Aside0.mk (Kd.R_below (Kd.R_elderB (ro_ HO575) gb583 (Nat.le_of_eq hg.symm)) hb)
                  replace HO579 := rb_ HO579 hb
                  have BK583 := Aside0.mk (hbox)
                  have GW583 := hl_ hg (be3_ HB GE548 GE549 GE550)
                  have GE583 := hl_ hg (be3_ HB GE548 GE549 GE550)
                  replace HB := bs3_ HB GE548 GE549 GE550 hb
                  have NB548_583 := Aside0.mk ((by rw [hg]; exact Nat.ne_of_lt (blk_lt (bk_ BK548)) : gb548 ≠ gb583))
                  have NB583_548 := Aside0.mk ((by rw [hg]; exact Nat.ne_of_gt (blk_lt (bk_ BK548)) : gb583 ≠ gb548))
                  replace BK548 := bb_ BK548 hb
                  have NB549_583 := Aside0.mk ((by rw [hg]; exact Nat.ne_of_lt (blk_lt (bk_ BK549)) : gb549 ≠ gb583))
                  have NB583_549 := Aside0.mk ((by rw [hg]; exact Nat.ne_of_gt (blk_lt (bk_ BK549)) : gb583 ≠ gb549))
                  replace BK549 := bb_ BK549 hb
                  have NB550_583 := Aside0.mk ((by rw [hg]; exact Nat.ne_of_lt (blk_lt (bk_ BK550)) : gb550 ≠ gb583))
                  have NB583_550 := Aside0.mk ((by rw [hg]; exact Nat.ne_of_gt (blk_lt (bk_ BK550)) : gb583 ≠ gb550))
                  replace BK550 := bb_ BK550 hb
                  clear hb hbox hg
                  refine hK.out _ _ ⟨bc_ BK549 0, bc_ BK549 1⟩ (fun hHeld => ?_)
                  clear hK K
                  refine norm_ (a' := ?_) ?_ ?_
                  rotate_left
                  ·show Act.put _ (some 7) _ = _
                   simp only [Act.put, List.setIfInBounds_toArray, List.set_cons_zero, List.set_cons_succ, i64_w, i32_w]
                   rfl
                  exact norm_ (by simp only [putAll, Act.put, List.setIfInBounds_toArray, List.set_cons_zero, List.set_cons_succ]) (hCont (.slice Ao92 t577.length co92, gb583) _ ⟨hHeld, (by (with_reducible repeat (first | apply Kd.R_alloc | apply Kd.R_drewN | apply Kd.R_drew)); exact Kd.R_mono HO562.out (fun _ hk => ⟨hk.1.2, hk.2⟩)), (by (with_reducible repeat (first | apply Kd.R_alloc | apply Kd.R_drewN | apply Kd.R_drew)); exact Kd.R_mono HO566.out (fun _ hk => ⟨hk.1.1.2, ⟨hk.1.2, hk.2⟩⟩)), (by (with_reducible repeat (first | apply Kd.R_alloc | apply Kd.R_drewN | apply Kd.R_drew)); exact Kd.R_mono HO569.out (fun _ hk => ⟨hk.1.1.2, ⟨hk.1.2, hk.2⟩⟩)), (by (with_reducible repeat (first | apply Kd.R_alloc | apply Kd.R_drewN | apply Kd.R_drew)); exact Kd.R_mono HO572.out (fun _ hk => ⟨hk.1.2, hk.2⟩)), (by (with_reducible repeat (first | apply Kd.R_alloc | apply Kd.R_drewN | apply Kd.R_drew)); exact Kd.R_mono HO575.out (fun _ hk => hk.2)), (by (with_reducible repeat (first | apply Kd.R_alloc | apply Kd.R_drewN | apply Kd.R_drew)); exact Kd.R_mono HO579.out (fun _ hk => ⟨hk.1.2, hk.2⟩)), (by (with_reducible repeat (first | apply Kd.R_alloc | apply Kd.R_drewN | apply Kd.R_drew)); exact Kd.R_mono HO_549000.out (fun _ hk => ⟨hk.2, ⟨hk.1.1, hk.1.2⟩⟩)), (by (with_reducible repeat (first | apply Kd.R_alloc | apply Kd.R_drewN | apply Kd.R_drew)); exact Kd.R_mono HO_549001.out (fun _ hk => ⟨hk.2, ⟨hk.1.1, hk.1.2⟩⟩)), (by (with_reducible repeat (first | apply Kd.R_alloc | apply Kd.R_drewN | apply Kd.R_drew)); exact Kd.R_mono HO_550000.out (fun _ hk => ⟨hk.2, ⟨hk.1.1, hk.1.2⟩⟩)), (by (with_reducible repeat (first | apply Kd.R_alloc | apply Kd.R_drewN | apply Kd.R_drew)); exact Kd.R_mono HO_550001.out (fun _ hk => ⟨hk.2, ⟨hk.1.1, hk.1.2⟩⟩)), (by (with_reducible repeat (first | apply Kd.R_alloc | apply Kd.R_drewN | apply Kd.R_drew)); exact Kd.R_mono HO_551000.out (fun _ hk => ⟨hk.2, ⟨hk.1.1, hk.1.2⟩⟩)), (by (with_reducible repeat (first | apply Kd.R_alloc | apply Kd.R_drewN | apply Kd.R_drew)); exact Kd.R_mono HO_551001.out (fun _ hk => ⟨hk.2, ⟨hk.1.1, hk.1.2⟩⟩)), (bk_ BK548), (bk_ BK549), (bk_ BK550), (bk_ BK583), GW583.out, GE583.out, NB548_583.out, NB583_548.out, NB549_583.out, NB583_549.out, NB550_583.out, NB583_550.out, (by repeat (first | (with_reducible first | exact HB.out | apply below_alloc | apply pw_below_drewN | apply below_drew1 | refine below_set ?_ GE548.out | refine below_set ?_ GE549.out | refine below_set ?_ GE550.out | refine below_set ?_ GE583.out) | exact HB.out))⟩)
                 ·skip
                  refine box_step ?hg (N := 7) ?hd (cs := #[.int .i64 0, .int .i64 0]) (t := 36) ?hr ?_; (case hd => rfl); (case hg => rfl); (case hr => exact gs_)
                  intro gb583 hg w92 hbox hb
                  replace HO_549000 := rb_ HO_549000 hb
                  replace HO_549001 := rb_ HO_549001 hb
                  replace HO_550000 := rb_ HO_550000 hb
                  replace HO_550001 := rb_ HO_550001 hb
                  replace HO_551000 := rb_ HO_551000 hb
                  replace HO_551001 := rb_ HO_551001 hb
                  replace HO562 := rb_ HO562 hb
                  replace HO566 := rb_ HO566 hb
                  replace HO569 := rb_ HO569 hb
                  replace HO572 := rb_ HO572 hb
                  replace HO575 := Aside0.mk (Kd.R_below (Kd.R_elderB (ro_ HO575) gb583 (Nat.le_of_eq hg.symm)) hb)
                  replace HO579 := rb_ HO579 hb
                  have BK583 := Aside0.mk (hbox)
                  have GW583 := hl_ hg (be3_ HB GE548 GE549 GE550)
                  have GE583 := hl_ hg (be3_ HB GE548 GE549 GE550)
                  replace HB := bs3_ HB GE548 GE549 GE550 hb
                  have NB548_583 := Aside0.mk ((by rw [hg]; exact Nat.ne_of_lt (blk_lt (bk_ BK548)) : gb548 ≠ gb583))
                  have NB583_548 := Aside0.mk ((by rw [hg]; exact Nat.ne_of_gt (blk_lt (bk_ BK548)) : gb583 ≠ gb548))
                  replace BK548 := bb_ BK548 hb
                  have NB549_583 := Aside0.mk ((by rw [hg]; exact Nat.ne_of_lt (blk_lt (bk_ BK549)) : gb549 ≠ gb583))
                  have NB583_549 := Aside0.mk ((by rw [hg]; exact Nat.ne_of_gt (blk_lt (bk_ BK549)) : gb583 ≠ gb549))
                  replace BK549 := bb_ BK549 hb
                  have NB550_583 := Aside0.mk ((by rw [hg]; exact Nat.ne_of_lt (blk_lt (bk_ BK550)) : gb550 ≠ gb583))
                  have NB583_550 := Aside0.mk ((by rw [hg]; exact Nat.ne_of_gt (blk_lt (bk_ BK550)) : gb583 ≠ gb550))
                  replace BK550 := bb_ BK550 hb
                  clear hb hbox hg
                  obtain ⟨Ao93, co93, eo93⟩ := Kd.R_slice HO579.out
                  (first | subst eo93 | (injection eo93 with f1_ f2_ f3_; have f4_ := f1_.symm; have f5_ := f3_.symm; clear f1_ f2_ f3_; subst f4_; subst f5_))
                  refine hK.out _ _ ⟨bc_ BK549 0, bc_ BK549 1⟩ (fun hHeld => ?_)
                  clear hK K
                  refine norm_ (a' := ?_) ?_ ?_
                  rotate_left
                  ·show Act.put _ (some 7) _ = _
                   simp only [Act.put, List.setIfInBounds_toArray, List.set_cons_zero, List.set_cons_succ, i64_w, i32_w]
                   rfl
                  refine one_ (i := 2) (N := some 58) (bm_ 9 71) rfl rfl (one_of HT_.out (by kernel_rfl)) (by decide) (fun K hK => ?_)
                  refine goes_ Tryd.func19 (by kernel_rfl) rfl #[.agg #[.slice (some ⟨go10, 0, none⟩) y554.length co27, .slice Ao30 t539.length co30], .slice Ao93 t577.length co93] (by rfl) rfl rfl ls_ ?_
                  with_reducible refine (exits_Out.calls _ _ y554 _ _ t539 _ _ t577 t580 t581 t582 _ ?side7 ?side1 ?side2 ?side3 ?side4 ?side5 ?side6 A63.out).mono ?_
                  (case side1 => exact kd_ (Kd.R_reads' HO_550000.out).2.2)
                  (case side2 => exact (Kd.R_reads' HO_550000.out).2.1)
                  (case side3 => exact kd_ (Kd.R_reads' HO_550001.out).2.2)
                  (case side4 => exact (Kd.R_reads' HO_550001.out).2.1)
                  (case side5 => exact kd_ (Kd.R_reads' HO579.out).2.2)
                  (case side6 => exact (Kd.R_reads' HO579.out).2.1)
                  (case side7 => exact GlobsE.below HG.out.1 (by repeat (first | (with_reducible first | exact HB.out | apply below_alloc | apply pw_below_drewN | apply below_drew1 | refine below_set ?_ GE548.out | refine below_set ?_ GE549.out | refine below_set ?_ GE550.out | refine below_set ?_ GE583.out) | exact HB.out)))
                  rintro e w94 ⟨rfl, hb⟩
                  refine ⟨_, rfl, ?_⟩
                  replace HO_549000 := rb_ HO_549000 hb
                  replace HO_549001 := rb_ HO_549001 hb
                  replace HO_550000 := rb_ HO_550000 hb
                  replace HO_550001 := rb_ HO_550001 hb
                  replace HO_551000 := rb_ HO_551000 hb
                  replace HO_551001 := rb_ HO_551001 hb
                  replace HO562 := rb_ HO562 hb
                  replace HO566 := rb_ HO566 hb
                  replace HO569 := rb_ HO569 hb
                  replace HO572 := rb_ HO572 hb
                  replace HO575 := rb_ HO575 hb
                  replace HO579 := rb_ HO579 hb
                  replace BK548 := bb_ BK548 hb
                  replace BK549 := bb_ BK549 hb
                  replace BK550 := bb_ BK550 hb
                  replace BK583 := bb_ BK583 hb
                  replace HB := Aside0.mk (below_step (by repeat (first | (with_reducible first | exact HB.out | apply below_alloc | apply pw_below_drewN | apply below_drew1 | refine below_set ?_ GE548.out | refine below_set ?_ GE549.out | refine below_set ?_ GE550.out | refine below_set ?_ GE583.out) | exact HB.out)) hb)
                  (try clear hb)
                  (try clear hb2)
                  (try clear hk)
                  (try clear hi)
                  refine hK.out _ _ ⟨bc_ BK549 0, bc_ BK549 1⟩ (fun hHeld => ?_)
                  clear hK K
                  refine norm_ (a' := ?_) ?_ ?_
                  rotate_left
                  ·show Act.put _ (some 58) _ = _
                   simp only [Act.put, List.setIfInBounds_toArray, List.set_cons_zero, List.set_cons_succ, i64_w, i32_w]
                   rfl
                  refine pure_ (i := 3) (N := some 55) (v := ?_) (a' := ?_) (bm_ 9 79) rfl rfl (any_of HT_.out (by kernel_rfl)) (fun _ _ _ h => h) (Or.inl ⟨by rfl, ?_⟩) ?_ ?_
                  rotate_left
                  ·intro w'
                   go_simp
                   with_reducible rfl
                  rotate_left
                  ·exact pt_
                  refine pure_ (i := 4) (N := some 59) (v := ?_) (a' := ?_) (bm_ 9 95) rfl rfl (any_of HT_.out (by kernel_rfl)) (fun _ _ _ h => h) (Or.inl ⟨by rfl, ?_⟩) ?_ ?_
                  rotate_left
                  ·intro w'
                   go_simp
                   with_reducible rfl
                  rotate_left
                  ·exact pt_
                  refine pure_ (i := 5) (N := some 60) (v := ?_) (a' := ?_) (bm_ 9 127) rfl rfl (any_of HT_.out (by kernel_rfl)) (fun _ _ _ h => h) (Or.inl ⟨by rfl, ?_⟩) ?_ ?_
                  rotate_left
                  ·intro w'
                   go_simp
                   with_reducible rfl
                  rotate_left
                  ·exact pt_
                  exact norm_ (by simp only [putAll, Act.put, List.setIfInBounds_toArray, List.set_cons_zero, List.set_cons_succ]) (hCont (.slice Ao93 t577.length co93, gb583) _ ⟨hHeld, (by (with_reducible repeat (first | apply Kd.R_alloc | apply Kd.R_drewN | apply Kd.R_drew)); exact Kd.R_mono HO562.out (fun _ hk => ⟨hk.1.2, hk.2⟩)), (by (with_reducible repeat (first | apply Kd.R_alloc | apply Kd.R_drewN | apply Kd.R_drew)); exact Kd.R_mono HO566.out (fun _ hk => ⟨hk.1.1.2, ⟨hk.1.2, hk.2⟩⟩)), (by (with_reducible repeat (first | apply Kd.R_alloc | apply Kd.R_drewN | apply Kd.R_drew)); exact Kd.R_mono HO569.out (fun _ hk => ⟨hk.1.1.2, ⟨hk.1.2, hk.2⟩⟩)), (by (with_reducible repeat (first | apply Kd.R_alloc | apply Kd.R_drewN | apply Kd.R_drew)); exact Kd.R_mono HO572.out (fun _ hk => ⟨hk.1.2, hk.2⟩)), (by (with_reducible repeat (first | apply Kd.R_alloc | apply Kd.R_drewN | apply Kd.R_drew)); exact Kd.R_mono HO575.out (fun _ hk => hk.2)), (by (with_reducible repeat (first | apply Kd.R_alloc | apply Kd.R_drewN | apply Kd.R_drew)); exact Kd.R_mono HO579.out (fun _ hk => ⟨hk.1.2, hk.2⟩)), (by (with_reducible repeat (first | apply Kd.R_alloc | apply Kd.R_drewN | apply Kd.R_drew)); exact Kd.R_mono HO_549000.out (fun _ hk => ⟨hk.2, ⟨hk.1.1, hk.1.2⟩⟩)), (by (with_reducible repeat (first | apply Kd.R_alloc | apply Kd.R_drewN | apply Kd.R_drew)); exact Kd.R_mono HO_549001.out (fun _ hk => ⟨hk.2, ⟨hk.1.1, hk.1.2⟩⟩)), (by (with_reducible repeat (first | apply Kd.R_alloc | apply Kd.R_drewN | apply Kd.R_drew)); exact Kd.R_mono HO_550000.out (fun _ hk => ⟨hk.2, ⟨hk.1.1, hk.1.2⟩⟩)), (by (with_reducible repeat (first | apply Kd.R_alloc | apply Kd.R_drewN | apply Kd.R_drew)); exact Kd.R_mono HO_550001.out (fun _ hk => ⟨hk.2, ⟨hk.1.1, hk.1.2⟩⟩)), (by (with_reducible repeat (first | apply Kd.R_alloc | apply Kd.R_drewN | apply Kd.R_drew)); exact Kd.R_mono HO_551000.out (fun _ hk => ⟨hk.2, ⟨hk.1.1, hk.1.2⟩⟩)), (by (with_reducible repeat (first | apply Kd.R_alloc | apply Kd.R_drewN | apply Kd.R_drew)); exact Kd.R_mono HO_551001.out (fun _ hk => ⟨hk.2, ⟨hk.1.1, hk.1.2⟩⟩)), (bk_ BK548), (bk_ BK549), (bk_ BK550), (bk_ BK583), GW583.out, GE583.out, NB548_583.out, NB583_548.out, NB549_583.out, NB583_549.out, NB550_583.out, NB583_550.out, (by repeat (first | (with_reducible first | exact HB.out | apply below_alloc | apply pw_below_drewN | apply below_drew1 | refine below_set ?_ GE548.out | refine below_set ?_ GE549.out | refine below_set ?_ GE550.out | refine below_set ?_ GE583.out) | exact HB.out))⟩)
                ·skip
                 refine box_step ?hg (N := 7) ?hd (cs := #[.int .i64 0, .int .i64 0]) (t := 36) ?hr ?_; (case hd => rfl); (case hg => rfl); (case hr => exact gs_)
                 intro gb583 hg w91 hbox hb
                 replace HO_549000 := rb_ HO_549000 hb
                 replace HO_549001 := rb_ HO_549001 hb
                 replace HO_550000 := rb_ HO_550000 hb
                 replace HO_550001 := rb_ HO_550001 hb
                 replace HO_551000 := rb_ HO_551000 hb
                 replace HO_551001 := rb_ HO_551001 hb
                 replace HO562 := rb_ HO562 hb
                 replace HO566 := rb_ HO566 hb
                 replace HO569 := rb_ HO569 hb
                 replace HO572 := rb_ HO572 hb
                 replace HO575 := Aside0.mk (Kd.R_below (Kd.R_elderB (ro_ HO575) gb583 (Nat.le_of_eq hg.symm)) hb)
                 have BK583 := Aside0.mk (hbox)
                 have GW583 := hl_ hg (be3_ HB GE548 GE549 GE550)
                 have GE583 := hl_ hg (be3_ HB GE548 GE549 GE550)
                 replace HB := bs3_ HB GE548 GE549 GE550 hb
                 have NB548_583 := Aside0.mk ((by rw [hg]; exact Nat.ne_of_lt (blk_lt (bk_ BK548)) : gb548 ≠ gb583))
                 have NB583_548 := Aside0.mk ((by rw [hg]; exact Nat.ne_of_gt (blk_lt (bk_ BK548)) : gb583 ≠ gb548))
                 replace BK548 := bb_ BK548 hb
                 have NB549_583 := Aside0.mk ((by rw [hg]; exact Nat.ne_of_lt (blk_lt (bk_ BK549)) : gb549 ≠ gb583))
                 have NB583_549 := Aside0.mk ((by rw [hg]; exact Nat.ne_of_gt (blk_lt (bk_ BK549)) : gb583 ≠ gb549))
                 replace BK549 := bb_ BK549 hb
                 have NB550_583 := Aside0.mk ((by rw [hg]; exact Nat.ne_of_lt (blk_lt (bk_ BK550)) : gb550 ≠ gb583))
                 have NB583_550 := Aside0.mk ((by rw [hg]; exact Nat.ne_of_gt (blk_lt (bk_ BK550)) : gb583 ≠ gb550))
                 replace BK550 := bb_ BK550 hb
                 clear hb hbox hg
                 refine hK.out _ _ ⟨bc_ BK549 0, bc_ BK549 1⟩ (fun hHeld => ?_)
                 clear hK K
                 refine norm_ (a' := ?_) ?_ ?_
                 rotate_left
                 ·show Act.put _ (some 7) _ = _
                  simp only [Act.put, List.setIfInBounds_toArray, List.set_cons_zero, List.set_cons_succ, i64_w, i32_w]
                  rfl
                 refine one_ (i := 1) (N := some 57) (bm_ 9 67) rfl rfl (one_of HT_.out (by kernel_rfl)) (by decide) (fun K hK => ?_)
                 refine goes_ Tryd.func34 (by kernel_rfl) rfl #[] (by rfl) rfl rfl ls_ ?_
                 with_reducible refine (cottonpadlaw06_people.calls  t577 _ A62.out).mono ?_
                 rintro e w92 ⟨v578, rfl, ho0, hb⟩
                 refine ⟨_, rfl, ?_⟩
                 replace HO_549000 := rb_ HO_549000 hb
                 replace HO_549001 := rb_ HO_549001 hb
                 replace HO_550000 := rb_ HO_550000 hb
                 replace HO_550001 := rb_ HO_550001 hb
                 replace HO_551000 := rb_ HO_551000 hb
                 replace HO_551001 := rb_ HO_551001 hb
                 replace HO566 := rb_ HO566 hb
                 replace HO569 := rb_ HO569 hb
                 replace HO575 := rb_ HO575 hb
                 have HO579 := Aside0.mk (Kd.R_lower (Kd.R_new' (Kd.R_new' ho0 (Kd.R_lt (ro_ HO562))) (Kd.R_lt (ro_ HO572))) (below_size (by repeat (first | (with_reducible first | exact HB.out | apply below_alloc | apply pw_below_drewN | apply below_drew1 | refine below_set ?_ GE548.out | refine below_set ?_ GE549.out | refine below_set ?_ GE550.out | refine below_set ?_ GE583.out) | exact HB.out))))
                 replace HO562 := Aside0.mk (Kd.R_elder' (ro_ HO562) (Kd.R_base ho0) hb)
                 replace HO572 := Aside0.mk (Kd.R_elder' (ro_ HO572) (Kd.R_base ho0) hb)
                 replace BK548 := bb_ BK548 hb
                 replace BK549 := bb_ BK549 hb
                 replace BK550 := bb_ BK550 hb
                 replace BK583 := bb_ BK583 hb
                 replace HB := Aside0.mk (below_step (by repeat (first | (with_reducible first | exact HB.out | apply below_alloc | apply pw_below_drewN | apply below_drew1 | refine below_set ?_ GE548.out | refine below_set ?_ GE549.out | refine below_set ?_ GE550.out | refine below_set ?_ GE583.out) | exact HB.out)) hb)
                 (try clear hb)
                 (try clear hb2)
                 (try clear hk)
                 (try clear hi)
                 (try clear ho0)
                 obtain ⟨Ao93, co93, eo93⟩ := Kd.R_slice HO579.out
                 (first | subst eo93 | (injection eo93 with f1_ f2_ f3_; have f4_ := f1_.symm; have f5_ := f3_.symm; clear f1_ f2_ f3_; subst f4_; subst f5_))
                 refine hK.out _ _ ⟨bc_ BK549 0, bc_ BK549 1⟩ (fun hHeld => ?_)
                 clear hK K
                 refine norm_ (a' := ?_) ?_ ?_
                 rotate_left
                 ·show Act.put _ (some 57) _ = _
                  simp only [Act.put, List.setIfInBounds_toArray, List.set_cons_zero, List.set_cons_succ, i64_w, i32_w]
                  rfl
                 refine one_ (i := 2) (N := some 58) (bm_ 9 71) rfl rfl (one_of HT_.out (by kernel_rfl)) (by decide) (fun K hK => ?_)
                 refine goes_ Tryd.func19 (by kernel_rfl) rfl #[.agg #[.slice (some ⟨go10, 0, none⟩) y554.length co27, .slice Ao30 t539.length co30], .slice Ao93 t577.length co93] (by rfl) rfl rfl ls_ ?_
                 with_reducible refine (exits_Out.calls _ _ y554 _ _ t539 _ _ t577 t580 t581 t582 _ ?side7 ?side1 ?side2 ?side3 ?side4 ?side5 ?side6 A63.out).mono ?_
                 (case side1 => exact kd_ (Kd.R_reads' HO_550000.out).2.2)
                 (case side2 => exact (Kd.R_reads' HO_550000.out).2.1)
                 (case side3 => exact kd_ (Kd.R_reads' HO_550001.out).2.2)
                 (case side4 => exact (Kd.R_reads' HO_550001.out).2.1)
                 (case side5 => exact kd_ (Kd.R_reads' HO579.out).2.2)
                 (case side6 => exact (Kd.R_reads' HO579.out).2.1)
                 (case side7 => exact GlobsE.below HG.out.1 (by repeat (first | (with_reducible first | exact HB.out | apply below_alloc | apply pw_below_drewN | apply below_drew1 | refine below_set ?_ GE548.out | refine below_set ?_ GE549.out | refine below_set ?_ GE550.out | refine below_set ?_ GE583.out) | exact HB.out)))
                 rintro e w94 ⟨rfl, hb⟩
                 refine ⟨_, rfl, ?_⟩
                 replace HO_549000 := rb_ HO_549000 hb
                 replace HO_549001 := rb_ HO_549001 hb
                 replace HO_550000 := rb_ HO_550000 hb
                 replace HO_550001 := rb_ HO_550001 hb
                 replace HO_551000 := rb_ HO_551000 hb
                 replace HO_551001 := rb_ HO_551001 hb
                 replace HO562 := rb_ HO562 hb
                 replace HO566 := rb_ HO566 hb
                 replace HO569 := rb_ HO569 hb
                 replace HO572 := rb_ HO572 hb
                 replace HO575 := rb_ HO575 hb
                 replace HO579 := rb_ HO579 hb
                 replace BK548 := bb_ BK548 hb
                 replace BK549 := bb_ BK549 hb
                 replace BK550 := bb_ BK550 hb
                 replace BK583 := bb_ BK583 hb
                 replace HB := Aside0.mk (below_step (by repeat (first | (with_reducible first | exact HB.out | apply below_alloc | apply pw_below_drewN | apply below_drew1 | refine below_set ?_ GE548.out | refine below_set ?_ GE549.out | refine below_set ?_ GE550.out | refine below_set ?_ GE583.out) | exact HB.out)) hb)
                 (try clear hb)
                 (try clear hb2)
                 (try clear hk)
                 (try clear hi)
                 refine hK.out _ _ ⟨bc_ BK549 0, bc_ BK549 1⟩ (fun hHeld => ?_)
                 clear hK K
                 refine norm_ (a' := ?_) ?_ ?_
                 rotate_left
                 ·show Act.put _ (some 58) _ = _
                  simp only [Act.put, List.setIfInBounds_toArray, List.set_cons_zero, List.set_cons_succ, i64_w, i32_w]
                  rfl
                 refine pure_ (i := 3) (N := some 55) (v := ?_) (a' := ?_) (bm_ 9 79) rfl rfl (any_of HT_.out (by kernel_rfl)) (fun _ _ _ h => h) (Or.inl ⟨by rfl, ?_⟩) ?_ ?_
                 rotate_left
                 ·intro w'
                  go_simp
                  with_reducible rfl
                 rotate_left
                 ·exact pt_
                 refine pure_ (i := 4) (N := some 59) (v := ?_) (a' := ?_) (bm_ 9 95) rfl rfl (any_of HT_.out (by kernel_rfl)) (fun _ _ _ h => h) (Or.inl ⟨by rfl, ?_⟩) ?_ ?_
                 rotate_left
                 ·intro w'
                  go_simp
                  with_reducible rfl
                 rotate_left
                 ·exact pt_
                 refine pure_ (i := 5) (N := some 60) (v := ?_) (a' := ?_) (bm_ 9 127) rfl rfl (any_of HT_.out (by kernel_rfl)) (fun _ _ _ h => h) (Or.inl ⟨by rfl, ?_⟩) ?_ ?_
                 rotate_left
                 ·intro w'
                  go_simp
                  with_reducible rfl
                 rotate_left
                 ·exact pt_
                 exact norm_ (by simp only [putAll, Act.put, List.setIfInBounds_toArray, List.set_cons_zero, List.set_cons_succ]) (hCont (.slice Ao93 t577.length co93, gb583) _ ⟨hHeld, (by (with_reducible repeat (first | apply Kd.R_alloc | apply Kd.R_drewN | apply Kd.R_drew)); exact Kd.R_mono HO562.out (fun _ hk => ⟨hk.1.2, hk.2⟩)), (by (with_reducible repeat (first | apply Kd.R_alloc | apply Kd.R_drewN | apply Kd.R_drew)); exact Kd.R_mono HO566.out (fun _ hk => ⟨hk.1.1.2, ⟨hk.1.2, hk.2⟩⟩)), (by (with_reducible repeat (first | apply Kd.R_alloc | apply Kd.R_drewN | apply Kd.R_drew)); exact Kd.R_mono HO569.out (fun _ hk => ⟨hk.1.1.2, ⟨hk.1.2, hk.2⟩⟩)), (by (with_reducible repeat (first | apply Kd.R_alloc | apply Kd.R_drewN | apply Kd.R_drew)); exact Kd.R_mono HO572.out (fun _ hk => ⟨hk.1.2, hk.2⟩)), (by (with_reducible repeat (first | apply Kd.R_alloc | apply Kd.R_drewN | apply Kd.R_drew)); exact Kd.R_mono HO575.out (fun _ hk => hk.2)), (by (with_reducible repeat (first | apply Kd.R_alloc | apply Kd.R_drewN | apply Kd.R_drew)); exact Kd.R_mono HO579.out (fun _ hk => ⟨hk.1.2, hk.2⟩)), (by (with_reducible repeat (first | apply Kd.R_alloc | apply Kd.R_drewN | apply Kd.R_drew)); exact Kd.R_mono HO_549000.out (fun _ hk => ⟨hk.2, ⟨hk.1.1, hk.1.2⟩⟩)), (by (with_reducible repeat (first | apply Kd.R_alloc | apply Kd.R_drewN | apply Kd.R_drew)); exact Kd.R_mono HO_549001.out (fun _ hk => ⟨hk.2, ⟨hk.1.1, hk.1.2⟩⟩)), (by (with_reducible repeat (first | apply Kd.R_alloc | apply Kd.R_drewN | apply Kd.R_drew)); exact Kd.R_mono HO_550000.out (fun _ hk => ⟨hk.2, ⟨hk.1.1, hk.1.2⟩⟩)), (by (with_reducible repeat (first | apply Kd.R_alloc | apply Kd.R_drewN | apply Kd.R_drew)); exact Kd.R_mono HO_550001.out (fun _ hk => ⟨hk.2, ⟨hk.1.1, hk.1.2⟩⟩)), (by (with_reducible repeat (first | apply Kd.R_alloc | apply Kd.R_drewN | apply Kd.R_drew)); exact Kd.R_mono HO_551000.out (fun _ hk => ⟨hk.2, ⟨hk.1.1, hk.1.2⟩⟩)), (by (with_reducible repeat (first | apply Kd.R_alloc | apply Kd.R_drewN | apply Kd.R_drew)); exact Kd.R_mono HO_551001.out (fun _ hk => ⟨hk.2, ⟨hk.1.1, hk.1.2⟩⟩)), (bk_ BK548), (bk_ BK549), (bk_ BK550), (bk_ BK583), GW583.out, GE583.out, NB548_583.out, NB583_548.out, NB549_583.out, NB583_549.out, NB550_583.out, NB583_550.out, (by repeat (first | (with_reducible first | exact HB.out | apply below_alloc | apply pw_below_drewN | apply below_drew1 | refine below_set ?_ GE548.out | refine below_set ?_ GE549.out | refine below_set ?_ GE550.out | refine below_set ?_ GE583.out) | exact HB.out))⟩)
               rintro ⟨v578, gb583⟩ w95 ⟨hS_, h0_, h1_, h2_, h3_, h4_, h5_, h6_, h7_, h8_, h9_, h10_, h11_, h12_, h13_, h14_, h15_, h16_, h17_, h18_, h19_, h20_, h21_, h22_, h23_, h24_⟩
               replace HO562 : Aside0 (Kd.R k48 48 w95 w.heap.size (fun k_ => some k_ ≠ (.slice Ao88 t570.length co88 : Value).ownBlock ∧ some k_ ≠ (v578 : Value).ownBlock) (.slice (some ⟨go58, 0, none⟩) t560.length co58) y563) := ⟨h0_⟩
               replace HO566 : Aside0 (Kd.R k62 62 w95 w.heap.size (fun k_ => some k_ ≠ (.slice (some ⟨go8, 0, none⟩) y553.length co22 : Value).ownBlock ∧ some k_ ≠ (.slice (some ⟨go10, 0, none⟩) y554.length co27 : Value).ownBlock ∧ some k_ ≠ (.slice (some ⟨go13, 0, none⟩) y557.length co31 : Value).ownBlock) (.slice Ao86 t564.length co86) t564) := ⟨h1_⟩
               replace HO569 : Aside0 (Kd.R k81 81 w95 w.heap.size (fun k_ => some k_ ≠ (.slice Ao26 t533.length co26 : Value).ownBlock ∧ some k_ ≠ (.slice Ao30 t539.length co30 : Value).ownBlock ∧ some k_ ≠ (.slice Ao33 t545.length co33 : Value).ownBlock) (.slice Ao87 t567.length co87) t567) := ⟨h2_⟩
               replace HO572 : Aside0 (Kd.R k48 48 w95 w.heap.size (fun k_ => some k_ ≠ (.slice (some ⟨go58, 0, none⟩) t560.length co58 : Value).ownBlock ∧ some k_ ≠ (v578 : Value).ownBlock) (.slice Ao88 t570.length co88) t570) := ⟨h3_⟩
               replace HO575 : Aside0 (Kd.R k36 36 w95 w.heap.size (fun k_ => k_ ≠ gb583) v574 t573) := ⟨h4_⟩
               have HO579 : Aside0 (Kd.R k48 48 w95 w.heap.size (fun k_ => some k_ ≠ (.slice (some ⟨go58, 0, none⟩) t560.length co58 : Value).ownBlock ∧ some k_ ≠ (.slice Ao88 t570.length co88 : Value).ownBlock) v578 t577) := ⟨h5_⟩
               replace HO_549000 : Aside0 (Kd.R k62 62 w95 w.heap.size (fun k_ => some k_ ≠ (.slice Ao86 t564.length co86 : Value).ownBlock ∧ some k_ ≠ (.slice (some ⟨go10, 0, none⟩) y554.length co27 : Value).ownBlock ∧ some k_ ≠ (.slice (some ⟨go13, 0, none⟩) y557.length co31 : Value).ownBlock) (.slice (some ⟨go8, 0, none⟩) y553.length co22) y553) := ⟨h6_⟩
               replace HO_549001 : Aside0 (Kd.R k81 81 w95 w.heap.size (fun k_ => some k_ ≠ (.slice Ao87 t567.length co87 : Value).ownBlock ∧ some k_ ≠ (.slice Ao30 t539.length co30 : Value).ownBlock ∧ some k_ ≠ (.slice Ao33 t545.length co33 : Value).ownBlock) (.slice Ao26 t533.length co26) t533) := ⟨h7_⟩
               replace HO_550000 : Aside0 (Kd.R k62 62 w95 w.heap.size (fun k_ => some k_ ≠ (.slice Ao86 t564.length co86 : Value).ownBlock ∧ some k_ ≠ (.slice (some ⟨go8, 0, none⟩) y553.length co22 : Value).ownBlock ∧ some k_ ≠ (.slice (some ⟨go13, 0, none⟩) y557.length co31 : Value).ownBlock) (.slice (some ⟨go10, 0, none⟩) y554.length co27) y554) := ⟨h8_⟩
               replace HO_550001 : Aside0 (Kd.R k81 81 w95 w.heap.size (fun k_ => some k_ ≠ (.slice Ao87 t567.length co87 : Value).ownBlock ∧ some k_ ≠ (.slice Ao26 t533.length co26 : Value).ownBlock ∧ some k_ ≠ (.slice Ao33 t545.length co33 : Value).ownBlock) (.slice Ao30 t539.length co30) t539) := ⟨h9_⟩
               replace HO_551000 : Aside0 (Kd.R k62 62 w95 w.heap.size (fun k_ => some k_ ≠ (.slice Ao86 t564.length co86 : Value).ownBlock ∧ some k_ ≠ (.slice (some ⟨go8, 0, none⟩) y553.length co22 : Value).ownBlock ∧ some k_ ≠ (.slice (some ⟨go10, 0, none⟩) y554.length co27 : Value).ownBlock) (.slice (some ⟨go13, 0, none⟩) y557.length co31) y557) := ⟨h10_⟩
               replace HO_551001 : Aside0 (Kd.R k81 81 w95 w.heap.size (fun k_ => some k_ ≠ (.slice Ao87 t567.length co87 : Value).ownBlock ∧ some k_ ≠ (.slice Ao26 t533.length co26 : Value).ownBlock ∧ some k_ ≠ (.slice Ao30 t539.length co30 : Value).ownBlock) (.slice Ao33 t545.length co33) t545) := ⟨h11_⟩
               replace BK548 : Aside0 (w95.heap[gb548]? = some (.cells #[.slice (some ⟨go8, 0, none⟩) y553.length co22, .slice Ao26 t533.length co26] 25 (0, 0))) := ⟨h12_⟩
               replace BK549 : Aside0 (w95.heap[gb549]? = some (.cells #[.slice (some ⟨go10, 0, none⟩) y554.length co27, .slice Ao30 t539.length co30] 25 (0, 0))) := ⟨h13_⟩
               replace BK550 : Aside0 (w95.heap[gb550]? = some (.cells #[.slice (some ⟨go13, 0, none⟩) y557.length co31, .slice Ao33 t545.length co33] 25 (0, 0))) := ⟨h14_⟩
               have BK583 : Aside0 (w95.heap[gb583]? = some (.cells #[.int .i64 0, .int .i64 0] 36 (0, 0))) := ⟨h15_⟩
               have GW583 : Aside0 (w.heap.size ≤ gb583) := ⟨h16_⟩
               have GE583 : Aside0 (w.heap.size ≤ gb583) := ⟨h17_⟩
               have NB548_583 : Aside0 (gb548 ≠ gb583) := ⟨h18_⟩
               have NB583_548 : Aside0 (gb583 ≠ gb548) := ⟨h19_⟩
               have NB549_583 : Aside0 (gb549 ≠ gb583) := ⟨h20_⟩
               have NB583_549 : Aside0 (gb583 ≠ gb549) := ⟨h21_⟩
               have NB550_583 : Aside0 (gb550 ≠ gb583) := ⟨h22_⟩
               have NB583_550 : Aside0 (gb583 ≠ gb550) := ⟨h23_⟩
               replace HB : Aside0 (Below w.heap.size w w95) := ⟨h24_⟩
               clear h0_ h1_ h2_ h3_ h4_ h5_ h6_ h7_ h8_ h9_ h10_ h11_ h12_ h13_ h14_ h15_ h16_ h17_ h18_ h19_ h20_ h21_ h22_ h23_ h24_
               have hHeld : w95.cell? ⟨gb549, 0, none⟩ = some (.slice (some ⟨go10, 0, none⟩) y554.length co27) ∧ w95.cell? ⟨gb549, 1, none⟩ = some (.slice Ao30 t539.length co30) := hS_
               refine norm_ (a' := ?_) ?_ ?_
               rotate_left
               ·simp only [putAll, Act.put, List.setIfInBounds_toArray, List.set_cons_zero, List.set_cons_succ]
                rfl
               refine one_ (i := 7) (N := none) (bm_ 9 255) rfl rfl (one_of HT_.out (by kernel_rfl)) (by decide) (fun K hK => ?_)
               have hs96 : w95.cell? ⟨gb583, 0, none⟩ = some (.int .i64 0) := bc_ BK583 0
               have hfs96 := blk_frozen BK583.out 0
               have hns96_0 := NB548_583.out
               have hns96_1 := NB549_583.out
               have hns96_2 := NB550_583.out
               have hms96_0 := NB583_548.out
               have hms96_1 := NB583_549.out
               have hms96_2 := NB583_550.out
               have hs97 : w95.cell? ⟨gb583, 1, none⟩ = some (.int .i64 0) := bc_ BK583 1
               have hfs97 := blk_frozen BK583.out 1
               have hns97_0 := NB548_583.out
               have hns97_1 := NB549_583.out
               have hns97_2 := NB550_583.out
               have hms97_0 := NB583_548.out
               have hms97_1 := NB583_549.out
               have hms97_2 := NB583_550.out
               refine skip_ (w1 := ?_) (by rfl) rfl ?_ ?_
               rotate_left
               ·go_simp
                rfl
               refine hK.out _ _ ⟨((cell_far (p := ⟨gb583, _, none⟩) NB549_583.out _).trans (((cell_far (p := ⟨gb583, _, none⟩) NB549_583.out _).trans (hHeld.1)))), ((cell_far (p := ⟨gb583, _, none⟩) NB549_583.out _).trans (((cell_far (p := ⟨gb583, _, none⟩) NB549_583.out _).trans (hHeld.2))))⟩ (fun hHeld => ?_)
               clear hK K
               refine pure_ (i := 8) (N := some 8) (v := ?_) (a' := ?_) (bm_ 9 511) rfl rfl (any_of HT_.out (by kernel_rfl)) (fun _ _ _ h => h) (Or.inl ⟨by rfl, ?_⟩) ?_ ?_
               rotate_left
               ·intro w'
                go_simp
                with_reducible rfl
               rotate_left
               ·exact pt_
               refine done_ (done_of HT_.out (by kernel_rfl)) ?_
               try go_wp2_with (first | ((with_reducible refine gate_callee (f := 31) rfl ?_); refine goesL_ (some 62) rfl rfl Tryd.func31 (by kernel_rfl) rfl #[] rfl ls_ ?_; (with_reducible refine (cottonpadlaw06_building.calls  t584 t587 _ A64.out).mono ?_); rintro e w98 ⟨v585, v588, rfl, ho0, ho1, hb⟩; refine ⟨_, rfl, ?_⟩; replace HO562 := Aside0.mk (Kd.R_below (by (with_reducible repeat (first | apply Kd.R_alloc | apply Kd.R_drewN | apply Kd.R_drew)); exact (Kd.R_mono (Kd.R_far (p := ⟨gb583, 1, none⟩) (Kd.R_far (p := ⟨gb583, 0, none⟩) (Kd.R_types HO562.out BK583.out (by decide)) (fun _ hk => hk.2) (.int .i64 t580)) (fun _ hk => hk.2) (.int .i64 t581)) (fun _ h_ => h_.1))) hb); replace HO572 := Aside0.mk (Kd.R_below (by (with_reducible repeat (first | apply Kd.R_alloc | apply Kd.R_drewN | apply Kd.R_drew)); exact (Kd.R_mono (Kd.R_far (p := ⟨gb583, 1, none⟩) (Kd.R_far (p := ⟨gb583, 0, none⟩) (Kd.R_types HO572.out BK583.out (by decide)) (fun _ hk => hk.2) (.int .i64 t580)) (fun _ hk => hk.2) (.int .i64 t581)) (fun _ h_ => h_.1))) hb); replace HO575 := Aside0.mk (Kd.R_below (by (with_reducible repeat (first | apply Kd.R_alloc | apply Kd.R_drewN | apply Kd.R_drew)); exact (Kd.R_mono (Kd.R_far (p := ⟨gb583, 1, none⟩) (Kd.R_far (p := ⟨gb583, 0, none⟩) (Kd.R_mono HO575.out (fun k_ hk => (⟨hk, hk⟩ : _ ∧ k_ ≠ gb583))) (fun _ hk => hk.2) (.int .i64 t580)) (fun _ hk => hk.2) (.int .i64 t581)) (fun _ h_ => h_.1))) hb); replace HO579 := Aside0.mk (Kd.R_below (by (with_reducible repeat (first | apply Kd.R_alloc | apply Kd.R_drewN | apply Kd.R_drew)); exact (Kd.R_mono (Kd.R_far (p := ⟨gb583, 1, none⟩) (Kd.R_far (p := ⟨gb583, 0, none⟩) (Kd.R_types HO579.out BK583.out (by decide)) (fun _ hk => hk.2) (.int .i64 t580)) (fun _ hk => hk.2) (.int .i64 t581)) (fun _ h_ => h_.1))) hb); have HO586 := Aside0.mk (Kd.R_lower (Kd.R_new' (Kd.R_new' (Kd.R_new' (Kd.R_new' ho0 (Kd.R_lt (by (with_reducible repeat (first | apply Kd.R_alloc | apply Kd.R_drewN | apply Kd.R_drew)); exact (Kd.R_mono (Kd.R_far (p := ⟨gb583, 1, none⟩) (Kd.R_far (p := ⟨gb583, 0, none⟩) (Kd.R_types HO_549000.out BK583.out (by decide)) (fun _ hk => hk.2) (.int .i64 t580)) (fun _ hk => hk.2) (.int .i64 t581)) (fun _ h_ => h_.1))))) (Kd.R_lt (by (with_reducible repeat (first | apply Kd.R_alloc | apply Kd.R_drewN | apply Kd.R_drew)); exact (Kd.R_mono (Kd.R_far (p := ⟨gb583, 1, none⟩) (Kd.R_far (p := ⟨gb583, 0, none⟩) (Kd.R_types HO_550000.out BK583.out (by decide)) (fun _ hk => hk.2) (.int .i64 t580)) (fun _ hk => hk.2) (.int .i64 t581)) (fun _ h_ => h_.1))))) (Kd.R_lt (by (with_reducible repeat (first | apply Kd.R_alloc | apply Kd.R_drewN | apply Kd.R_drew)); exact (Kd.R_mono (Kd.R_far (p := ⟨gb583, 1, none⟩) (Kd.R_far (p := ⟨gb583, 0, none⟩) (Kd.R_types HO_551000.out BK583.out (by decide)) (fun _ hk => hk.2) (.int .i64 t580)) (fun _ hk => hk.2) (.int .i64 t581)) (fun _ h_ => h_.1))))) (Kd.R_lt (by (with_reducible repeat (first | apply Kd.R_alloc | apply Kd.R_drewN | apply Kd.R_drew)); exact (Kd.R_mono (Kd.R_far (p := ⟨gb583, 1, none⟩) (Kd.R_far (p := ⟨gb583, 0, none⟩) (Kd.R_types HO566.out BK583.out (by decide)) (fun _ hk => hk.2) (.int .i64 t580)) (fun _ hk => hk.2) (.int .i64 t581)) (fun _ h_ => h_.1))))) (below_size (by repeat (first | (with_reducible first | exact HB.out | apply below_alloc | apply pw_below_drewN | apply below_drew1 | refine below_set ?_ GE548.out | refine below_set ?_ GE549.out | refine below_set ?_ GE550.out | refine below_set ?_ GE583.out) | exact HB.out)))); replace HO_549000 := Aside0.mk (Kd.R_elder' (by (with_reducible repeat (first | apply Kd.R_alloc | apply Kd.R_drewN | apply Kd.R_drew)); exact (Kd.R_mono (Kd.R_far (p := ⟨gb583, 1, none⟩) (Kd.R_far (p := ⟨gb583, 0, none⟩) (Kd.R_types HO_549000.out BK583.out (by decide)) (fun _ hk => hk.2) (.int .i64 t580)) (fun _ hk => hk.2) (.int .i64 t581)) (fun _ h_ => h_.1))) (Kd.R_base ho0) hb); replace HO_550000 := Aside0.mk (Kd.R_elder' (by (with_reducible repeat (first | apply Kd.R_alloc | apply Kd.R_drewN | apply Kd.R_drew)); exact (Kd.R_mono (Kd.R_far (p := ⟨gb583, 1, none⟩) (Kd.R_far (p := ⟨gb583, 0, none⟩) (Kd.R_types HO_550000.out BK583.out (by decide)) (fun _ hk => hk.2) (.int .i64 t580)) (fun _ hk => hk.2) (.int .i64 t581)) (fun _ h_ => h_.1))) (Kd.R_base ho0) hb); replace HO_551000 := Aside0.mk (Kd.R_elder' (by (with_reducible repeat (first | apply Kd.R_alloc | apply Kd.R_drewN | apply Kd.R_drew)); exact (Kd.R_mono (Kd.R_far (p := ⟨gb583, 1, none⟩) (Kd.R_far (p := ⟨gb583, 0, none⟩) (Kd.R_types HO_551000.out BK583.out (by decide)) (fun _ hk => hk.2) (.int .i64 t580)) (fun _ hk => hk.2) (.int .i64 t581)) (fun _ h_ => h_.1))) (Kd.R_base ho0) hb); replace HO566 := Aside0.mk (Kd.R_elder' (by (with_reducible repeat (first | apply Kd.R_alloc | apply Kd.R_drewN | apply Kd.R_drew)); exact (Kd.R_mono (Kd.R_far (p := ⟨gb583, 1, none⟩) (Kd.R_far (p := ⟨gb583, 0, none⟩) (Kd.R_types HO566.out BK583.out (by decide)) (fun _ hk => hk.2) (.int .i64 t580)) (fun _ hk => hk.2) (.int .i64 t581)) (fun _ h_ => h_.1))) (Kd.R_base ho0) hb); have HO589 := Aside0.mk (Kd.R_lower (Kd.R_new' (Kd.R_new' (Kd.R_new' (Kd.R_new' ho1 (Kd.R_lt (by (with_reducible repeat (first | apply Kd.R_alloc | apply Kd.R_drewN | apply Kd.R_drew)); exact (Kd.R_mono (Kd.R_far (p := ⟨gb583, 1, none⟩) (Kd.R_far (p := ⟨gb583, 0, none⟩) (Kd.R_types HO_549001.out BK583.out (by decide)) (fun _ hk => hk.2) (.int .i64 t580)) (fun _ hk => hk.2) (.int .i64 t581)) (fun _ h_ => h_.1))))) (Kd.R_lt (by (with_reducible repeat (first | apply Kd.R_alloc | apply Kd.R_drewN | apply Kd.R_drew)); exact (Kd.R_mono (Kd.R_far (p := ⟨gb583, 1, none⟩) (Kd.R_far (p := ⟨gb583, 0, none⟩) (Kd.R_types HO_550001.out BK583.out (by decide)) (fun _ hk => hk.2) (.int .i64 t580)) (fun _ hk => hk.2) (.int .i64 t581)) (fun _ h_ => h_.1))))) (Kd.R_lt (by (with_reducible repeat (first | apply Kd.R_alloc | apply Kd.R_drewN | apply Kd.R_drew)); exact (Kd.R_mono (Kd.R_far (p := ⟨gb583, 1, none⟩) (Kd.R_far (p := ⟨gb583, 0, none⟩) (Kd.R_types HO_551001.out BK583.out (by decide)) (fun _ hk => hk.2) (.int .i64 t580)) (fun _ hk => hk.2) (.int .i64 t581)) (fun _ h_ => h_.1))))) (Kd.R_lt (by (with_reducible repeat (first | apply Kd.R_alloc | apply Kd.R_drewN | apply Kd.R_drew)); exact (Kd.R_mono (Kd.R_far (p := ⟨gb583, 1, none⟩) (Kd.R_far (p := ⟨gb583, 0, none⟩) (Kd.R_types HO569.out BK583.out (by decide)) (fun _ hk => hk.2) (.int .i64 t580)) (fun _ hk => hk.2) (.int .i64 t581)) (fun _ h_ => h_.1))))) (below_size (by repeat (first | (with_reducible first | exact HB.out | apply below_alloc | apply pw_below_drewN | apply below_drew1 | refine below_set ?_ GE548.out | refine below_set ?_ GE549.out | refine below_set ?_ GE550.out | refine below_set ?_ GE583.out) | exact HB.out)))); replace HO_549001 := Aside0.mk (Kd.R_elder' (by (with_reducible repeat (first | apply Kd.R_alloc | apply Kd.R_drewN | apply Kd.R_drew)); exact (Kd.R_mono (Kd.R_far (p := ⟨gb583, 1, none⟩) (Kd.R_far (p := ⟨gb583, 0, none⟩) (Kd.R_types HO_549001.out BK583.out (by decide)) (fun _ hk => hk.2) (.int .i64 t580)) (fun _ hk => hk.2) (.int .i64 t581)) (fun _ h_ => h_.1))) (Kd.R_base ho1) hb); replace HO_550001 := Aside0.mk (Kd.R_elder' (by (with_reducible repeat (first | apply Kd.R_alloc | apply Kd.R_drewN | apply Kd.R_drew)); exact (Kd.R_mono (Kd.R_far (p := ⟨gb583, 1, none⟩) (Kd.R_far (p := ⟨gb583, 0, none⟩) (Kd.R_types HO_550001.out BK583.out (by decide)) (fun _ hk => hk.2) (.int .i64 t580)) (fun _ hk => hk.2) (.int .i64 t581)) (fun _ h_ => h_.1))) (Kd.R_base ho1) hb); replace HO_551001 := Aside0.mk (Kd.R_elder' (by (with_reducible repeat (first | apply Kd.R_alloc | apply Kd.R_drewN | apply Kd.R_drew)); exact (Kd.R_mono (Kd.R_far (p := ⟨gb583, 1, none⟩) (Kd.R_far (p := ⟨gb583, 0, none⟩) (Kd.R_types HO_551001.out BK583.out (by decide)) (fun _ hk => hk.2) (.int .i64 t580)) (fun _ hk => hk.2) (.int .i64 t581)) (fun _ h_ => h_.1))) (Kd.R_base ho1) hb); replace HO569 := Aside0.mk (Kd.R_elder' (by (with_reducible repeat (first | apply Kd.R_alloc | apply Kd.R_drewN | apply Kd.R_drew)); exact (Kd.R_mono (Kd.R_far (p := ⟨gb583, 1, none⟩) (Kd.R_far (p := ⟨gb583, 0, none⟩) (Kd.R_types HO569.out BK583.out (by decide)) (fun _ hk => hk.2) (.int .i64 t580)) (fun _ hk => hk.2) (.int .i64 t581)) (fun _ h_ => h_.1))) (Kd.R_base ho1) hb); replace BK548 := Aside0.mk (blk_below (g := gb548) (o := .cells #[.slice (some ⟨go8, 0, none⟩) y553.length co22, .slice Ao26 t533.length co26] 25 (0, 0)) (by refine bx_ ?_; refine blk_far ?_ NB548_583.out _; refine bx_ ?_; refine blk_far ?_ NB548_583.out _; refine bx_ ?_; exact BK548.out) hb); replace BK549 := Aside0.mk (blk_below (g := gb549) (o := .cells #[.slice (some ⟨go10, 0, none⟩) y554.length co27, .slice Ao30 t539.length co30] 25 (0, 0)) (by refine bx_ ?_; refine blk_far ?_ NB549_583.out _; refine bx_ ?_; refine blk_far ?_ NB549_583.out _; refine bx_ ?_; exact BK549.out) hb); replace BK550 := Aside0.mk (blk_below (g := gb550) (o := .cells #[.slice (some ⟨go13, 0, none⟩) y557.length co31, .slice Ao33 t545.length co33] 25 (0, 0)) (by refine bx_ ?_; refine blk_far ?_ NB550_583.out _; refine bx_ ?_; refine blk_far ?_ NB550_583.out _; refine bx_ ?_; exact BK550.out) hb); replace BK583 := Aside0.mk (blk_below (g := gb583) (o := .cells #[.int .i64 t580, .int .i64 t581] 36 (0, 0)) (by refine bx_ ?_; refine blk_put (cs := #[.int .i64 t580, .int .i64 0]) ?_ 1 _ rfl; refine bx_ ?_; refine blk_put (cs := #[.int .i64 0, .int .i64 0]) ?_ 0 _ rfl; refine bx_ ?_; exact BK583.out) hb); replace HB := Aside0.mk (below_step (by repeat (first | (with_reducible first | exact HB.out | apply below_alloc | apply pw_below_drewN | apply below_drew1 | refine below_set ?_ GE548.out | refine below_set ?_ GE549.out | refine below_set ?_ GE550.out | refine below_set ?_ GE583.out) | exact HB.out)) hb); (try clear hb); (try clear hb2); (try clear hk); (try clear hi); (try clear ho0); (try clear ho1)) | ((with_reducible refine gate_callee (f := 34) rfl ?_); refine goesL_ (some 63) rfl rfl Tryd.func34 (by kernel_rfl) rfl #[] rfl ls_ ?_; (with_reducible refine (cottonpadlaw06_people.calls  t590 _ A65.out).mono ?_); rintro e w99 ⟨v591, rfl, ho0, hb⟩; refine ⟨_, rfl, ?_⟩; replace HO_549000 := rb_ HO_549000 hb; replace HO_549001 := rb_ HO_549001 hb; replace HO_550000 := rb_ HO_550000 hb; replace HO_550001 := rb_ HO_550001 hb; replace HO_551000 := rb_ HO_551000 hb; replace HO_551001 := rb_ HO_551001 hb; replace HO566 := rb_ HO566 hb; replace HO569 := rb_ HO569 hb; replace HO575 := rb_ HO575 hb; replace HO586 := rb_ HO586 hb; replace HO589 := rb_ HO589 hb; have HO592 := Aside0.mk (Kd.R_lower (Kd.R_new' (Kd.R_new' (Kd.R_new' ho0 (Kd.R_lt (ro_ HO562))) (Kd.R_lt (ro_ HO572))) (Kd.R_lt (ro_ HO579))) (below_size (by repeat (first | (with_reducible first | exact HB.out | apply below_alloc | apply pw_below_drewN | apply below_drew1 | refine below_set ?_ GE548.out | refine below_set ?_ GE549.out | refine below_set ?_ GE550.out | refine below_set ?_ GE583.out) | exact HB.out)))); replace HO562 := Aside0.mk (Kd.R_elder' (ro_ HO562) (Kd.R_base ho0) hb); replace HO572 := Aside0.mk (Kd.R_elder' (ro_ HO572) (Kd.R_base ho0) hb); replace HO579 := Aside0.mk (Kd.R_elder' (ro_ HO579) (Kd.R_base ho0) hb); replace BK548 := bb_ BK548 hb; replace BK549 := bb_ BK549 hb; replace BK550 := bb_ BK550 hb; replace BK583 := bb_ BK583 hb; replace HB := Aside0.mk (below_step (by repeat (first | (with_reducible first | exact HB.out | apply below_alloc | apply pw_below_drewN | apply below_drew1 | refine below_set ?_ GE548.out | refine below_set ?_ GE549.out | refine below_set ?_ GE550.out | refine below_set ?_ GE583.out) | exact HB.out)) hb); (try clear hb); (try clear hb2); (try clear hk); (try clear hi); (try clear ho0)) | ((with_reducible refine gate_callee (f := 32) rfl ?_); refine goesL_ (some 64) rfl rfl Tryd.func32 (by kernel_rfl) rfl #[.int .i64 100, .int .i64 100] rfl ls_ ?_; (with_reducible refine (cottonpadlaw06_span.calls 100 100 t593 t594 _ A66.out).mono ?_); rintro e w100 ⟨rfl, hb⟩; refine ⟨_, rfl, ?_⟩; replace HO_549000 := rb_ HO_549000 hb; replace HO_549001 := rb_ HO_549001 hb; replace HO_550000 := rb_ HO_550000 hb; replace HO_550001 := rb_ HO_550001 hb; replace HO_551000 := rb_ HO_551000 hb; replace HO_551001 := rb_ HO_551001 hb; replace HO562 := rb_ HO562 hb; replace HO566 := rb_ HO566 hb; replace HO569 := rb_ HO569 hb; replace HO572 := rb_ HO572 hb; replace HO575 := rb_ HO575 hb; replace HO579 := rb_ HO579 hb; replace HO586 := rb_ HO586 hb; replace HO589 := rb_ HO589 hb; replace HO592 := rb_ HO592 hb; replace BK548 := bb_ BK548 hb; replace BK549 := bb_ BK549 hb; replace BK550 := bb_ BK550 hb; replace BK583 := bb_ BK583 hb; replace HB := Aside0.mk (below_step (by repeat (first | (with_reducible first | exact HB.out | apply below_alloc | apply pw_below_drewN | apply below_drew1 | refine below_set ?_ GE548.out | refine below_set ?_ GE549.out | refine below_set ?_ GE550.out | refine below_set ?_ GE583.out) | exact HB.out)) hb); (try clear hb); (try clear hb2); (try clear hk); (try clear hi); obtain ⟨Ao101, co101, eo101⟩ := Kd.R_slice HO586.out; subst eo101; obtain ⟨Ao102, co102, eo102⟩ := Kd.R_slice HO589.out; subst eo102; obtain ⟨Ao103, co103, eo103⟩ := Kd.R_slice HO592.out; subst eo103) | ((with_reducible refine gate_callee (f := 28) rfl ?_); refine goesL_ (some 66) rfl rfl Tryd.func28 (by kernel_rfl) rfl #[.agg #[.slice Ao101 t584.length co101, .slice Ao102 t587.length co102], .slice Ao103 t590.length co103, .agg #[.int .i64 2, .int .i64 t593, .int .i64 t594, .int .i64 0, .int .i64 0]] rfl ls_ ?_; (with_reducible refine (exits_More.calls _ _ t584 _ _ t587 _ _ t590 2 t593 t594 0 0 t595 t596 _ ?side7 ?side1 ?side2 ?side3 ?side4 ?side5 ?side6 A67.out).mono ?_); (case side1 => exact kd_ (Kd.R_reads' HO586.out).2.2); (case side2 => exact (Kd.R_reads' HO586.out).2.1); (case side3 => exact kd_ (Kd.R_reads' HO589.out).2.2); (case side4 => exact (Kd.R_reads' HO589.out).2.1); (case side5 => exact kd_ (Kd.R_reads' HO592.out).2.2); (case side6 => exact (Kd.R_reads' HO592.out).2.1); (case side7 => exact Globs.below HG.out (by repeat (first | (with_reducible first | exact HB.out | apply below_alloc | apply pw_below_drewN | apply below_drew1 | refine below_set ?_ GE548.out | refine below_set ?_ GE549.out | refine below_set ?_ GE550.out | refine below_set ?_ GE583.out) | exact HB.out))); rintro e w104 ⟨rfl, hb⟩; refine ⟨_, rfl, ?_⟩; replace HO_549000 := rb_ HO_549000 hb; replace HO_549001 := rb_ HO_549001 hb; replace HO_550000 := rb_ HO_550000 hb; replace HO_550001 := rb_ HO_550001 hb; replace HO_551000 := rb_ HO_551000 hb; replace HO_551001 := rb_ HO_551001 hb; replace HO562 := rb_ HO562 hb; replace HO566 := rb_ HO566 hb; replace HO569 := rb_ HO569 hb; replace HO572 := rb_ HO572 hb; replace HO575 := rb_ HO575 hb; replace HO579 := rb_ HO579 hb; replace HO586 := rb_ HO586 hb; replace HO589 := rb_ HO589 hb; replace HO592 := rb_ HO592 hb; replace BK548 := bb_ BK548 hb; replace BK549 := bb_ BK549 hb; replace BK550 := bb_ BK550 hb; replace BK583 := bb_ BK583 hb; replace HB := Aside0.mk (below_step (by repeat (first | (with_reducible first | exact HB.out | apply below_alloc | apply pw_below_drewN | apply below_drew1 | refine below_set ?_ GE548.out | refine below_set ?_ GE549.out | refine below_set ?_ GE550.out | refine below_set ?_ GE583.out) | exact HB.out)) hb); (try clear hb); (try clear hb2); (try clear hk); (try clear hi)))
               replace HO_549000 := Aside0.mk (Kd.R_drew HO_549000.out)
               replace HO_549001 := Aside0.mk (Kd.R_drew HO_549001.out)
               replace HO_550000 := Aside0.mk (Kd.R_drew HO_550000.out)
               replace HO_550001 := Aside0.mk (Kd.R_drew HO_550001.out)
               replace HO_551000 := Aside0.mk (Kd.R_drew HO_551000.out)
               replace HO_551001 := Aside0.mk (Kd.R_drew HO_551001.out)
               replace HO562 := Aside0.mk (Kd.R_drew HO562.out)
               replace HO566 := Aside0.mk (Kd.R_drew HO566.out)
               replace HO569 := Aside0.mk (Kd.R_drew HO569.out)
               replace HO572 := Aside0.mk (Kd.R_drew HO572.out)
               replace HO575 := Aside0.mk (Kd.R_drew HO575.out)
               replace HO579 := Aside0.mk (Kd.R_drew HO579.out)
               replace HO586 := Aside0.mk (Kd.R_drew HO586.out)
               replace HO589 := Aside0.mk (Kd.R_drew HO589.out)
               replace HO592 := Aside0.mk (Kd.R_drew HO592.out)
               replace BK548 := Aside0.mk (blk_drew BK548.out)
               replace BK549 := Aside0.mk (blk_drew BK549.out)
               replace BK550 := Aside0.mk (blk_drew BK550.out)
               replace BK583 := Aside0.mk (blk_drew BK583.out)
               replace HB := Aside0.mk (below_drew1 HB.out)
               refine start_ (n := 9) (S := fun w' => w'.cell? ⟨gb548, 0, none⟩ = some (.slice (some ⟨go8, 0, none⟩) y553.length co22) ∧ w'.cell? ⟨gb548, 1, none⟩ = some (.slice Ao26 t533.length co26)) (ds := []) (bm_ 9 0) (by kernel_rfl) rfl rfl ⟨bc_ BK548 0, bc_ BK548 1⟩ (fun hHeld => ?_); refine with_tabW cottonpadlaw06_ExitsExamples.tab14 cottonpadlaw06_ExitsExamples.bits14 (fun HT_ HW_ => ?_)
               generalize w104.drew = w105 at HO_549000 HO_549001 HO_550000 HO_550001 HO_551000 HO_551001 HO562 HO566 HO569 HO572 HO575 HO579 HO586 HO589 HO592 BK548 BK549 BK550 BK583 HB hHeld ⊢
               refine take_ (i := 0) (N := some 70) (v := ?_) (a' := ?_) (bm_ 9 1) rfl rfl (take_ofW HT_.out HW_.out (by kernel_rfl)) (fun _ _ _ h => h) (Or.inl ⟨by rfl, ?_⟩) hHeld ?_ ?_
               rotate_left
               ·rintro w' ⟨s0, s1⟩
                go_simp
                with_reducible rfl
               rotate_left
               ·exact pt_
               refine one_ (i := 1) (N := some 71) (bm_ 9 3) rfl rfl (one_of HT_.out (by kernel_rfl)) (by decide) (fun K hK => ?_)
               refine goes_ Tryd.func34 (by kernel_rfl) rfl #[] (by rfl) rfl rfl ls_ ?_
               with_reducible refine (cottonpadlaw06_people.calls  t597 _ A68.out).mono ?_
               rintro e w106 ⟨v598, rfl, ho0, hb⟩
               refine ⟨_, rfl, ?_⟩
               replace HO_549000 := rb_ HO_549000 hb
               replace HO_549001 := rb_ HO_549001 hb
               replace HO_550000 := rb_ HO_550000 hb
               replace HO_550001 := rb_ HO_550001 hb
               replace HO_551000 := rb_ HO_551000 hb
               replace HO_551001 := rb_ HO_551001 hb
               replace HO566 := rb_ HO566 hb
               replace HO569 := rb_ HO569 hb
               replace HO575 := rb_ HO575 hb
               replace HO586 := rb_ HO586 hb
               replace HO589 := rb_ HO589 hb
               have HO599 := Aside0.mk (Kd.R_lower (Kd.R_new' (Kd.R_new' (Kd.R_new' (Kd.R_new' ho0 (Kd.R_lt (ro_ HO562))) (Kd.R_lt (ro_ HO572))) (Kd.R_lt (ro_ HO579))) (Kd.R_lt (ro_ HO592))) (below_size (by repeat (first | (with_reducible first | exact HB.out | apply below_alloc | apply pw_below_drewN | apply below_drew1 | refine below_set ?_ GE548.out | refine below_set ?_ GE549.out | refine below_set ?_ GE550.out | refine below_set ?_ GE583.out) | exact HB.out))))
               replace HO562 := Aside0.mk (Kd.R_elder' (ro_ HO562) (Kd.R_base ho0) hb)
               replace HO572 := Aside0.mk (Kd.R_elder' (ro_ HO572) (Kd.R_base ho0) hb)
               replace HO579 := Aside0.mk (Kd.R_elder' (ro_ HO579) (Kd.R_base ho0) hb)
               replace HO592 := Aside0.mk (Kd.R_elder' (ro_ HO592) (Kd.R_base ho0) hb)
               replace BK548 := bb_ BK548 hb
               replace BK549 := bb_ BK549 hb
               replace BK550 := bb_ BK550 hb
               replace BK583 := bb_ BK583 hb
               replace HB := Aside0.mk (below_step (by repeat (first | (with_reducible first | exact HB.out | apply below_alloc | apply pw_below_drewN | apply below_drew1 | refine below_set ?_ GE548.out | refine below_set ?_ GE549.out | refine below_set ?_ GE550.out | refine below_set ?_ GE583.out) | exact HB.out)) hb)
               (try clear hb)
               (try clear hb2)
               (try clear hk)
               (try clear hi)
               (try clear ho0)
               refine hK.out _ _ ⟨bc_ BK548 0, bc_ BK548 1⟩ (fun hHeld => ?_)
               clear hK K
               refine norm_ (a' := ?_) ?_ ?_
               rotate_left
               ·show Act.put _ (some 71) _ = _
                simp only [Act.put, List.setIfInBounds_toArray, List.set_cons_zero, List.set_cons_succ, i64_w, i32_w]
                rfl
               refine one_ (i := 2) (N := some 72) (bm_ 9 7) rfl rfl (one_of HT_.out (by kernel_rfl)) (by decide) (fun K hK => ?_)
               refine goes_ Tryd.func35 (by kernel_rfl) rfl #[] (by rfl) rfl rfl ls_ ?_
               with_reducible refine (cottonpadlaw06_walker.calls  t600 t601 t602 t603 t604 _ A69.out).mono ?_
               rintro e w107 ⟨rfl, hb⟩
               refine ⟨_, rfl, ?_⟩
               replace HO_549000 := rb_ HO_549000 hb
               replace HO_549001 := rb_ HO_549001 hb
               replace HO_550000 := rb_ HO_550000 hb
               replace HO_550001 := rb_ HO_550001 hb
               replace HO_551000 := rb_ HO_551000 hb
               replace HO_551001 := rb_ HO_551001 hb
               replace HO562 := rb_ HO562 hb
               replace HO566 := rb_ HO566 hb
               replace HO569 := rb_ HO569 hb
               replace HO572 := rb_ HO572 hb
               replace HO575 := rb_ HO575 hb
               replace HO579 := rb_ HO579 hb
               replace HO586 := rb_ HO586 hb
               replace HO589 := rb_ HO589 hb
               replace HO592 := rb_ HO592 hb
               replace HO599 := rb_ HO599 hb
               replace BK548 := bb_ BK548 hb
               replace BK549 := bb_ BK549 hb
               replace BK550 := bb_ BK550 hb
               replace BK583 := bb_ BK583 hb
               replace HB := Aside0.mk (below_step (by repeat (first | (with_reducible first | exact HB.out | apply below_alloc | apply pw_below_drewN | apply below_drew1 | refine below_set ?_ GE548.out | refine below_set ?_ GE549.out | refine below_set ?_ GE550.out | refine below_set ?_ GE583.out) | exact HB.out)) hb)
               (try clear hb)
               (try clear hb2)
               (try clear hk)
               (try clear hi)
               obtain ⟨Ao108, co108, eo108⟩ := Kd.R_slice HO599.out
               (first | subst eo108 | (injection eo108 with f1_ f2_ f3_; have f4_ := f1_.symm; have f5_ := f3_.symm; clear f1_ f2_ f3_; subst f4_; subst f5_))
               refine hK.out _ _ ⟨bc_ BK548 0, bc_ BK548 1⟩ (fun hHeld => ?_)
               clear hK K
               refine norm_ (a' := ?_) ?_ ?_
               rotate_left
               ·show Act.put _ (some 72) _ = _
                simp only [Act.put, List.setIfInBounds_toArray, List.set_cons_zero, List.set_cons_succ, i64_w, i32_w]
                rfl
               refine one_ (i := 3) (N := some 73) (bm_ 9 15) rfl rfl (one_of HT_.out (by kernel_rfl)) (by decide) (fun K hK => ?_)
               refine goes_ Tryd.func28 (by kernel_rfl) rfl #[.agg #[.slice (some ⟨go8, 0, none⟩) y553.length co22, .slice Ao26 t533.length co26], .slice Ao108 t597.length co108, .agg #[.int .i64 t600, .int .i64 t601, .int .i64 t602, .int .i64 t603, .int .i64 t604]] (by rfl) rfl rfl ls_ ?_
               with_reducible refine (exits_More.calls _ _ y553 _ _ t533 _ _ t597 t600 t601 t602 t603 t604 t605 t606 _ ?side7 ?side1 ?side2 ?side3 ?side4 ?side5 ?side6 A70.out).mono ?_
               (case side1 => exact kd_ (Kd.R_reads' HO_549000.out).2.2)
               (case side2 => exact (Kd.R_reads' HO_549000.out).2.1)
               (case side3 => exact kd_ (Kd.R_reads' HO_549001.out).2.2)
               (case side4 => exact (Kd.R_reads' HO_549001.out).2.1)
               (case side5 => exact kd_ (Kd.R_reads' HO599.out).2.2)
               (case side6 => exact (Kd.R_reads' HO599.out).2.1)
               (case side7 => exact Globs.below HG.out (by repeat (first | (with_reducible first | exact HB.out | apply below_alloc | apply pw_below_drewN | apply below_drew1 | refine below_set ?_ GE548.out | refine below_set ?_ GE549.out | refine below_set ?_ GE550.out | refine below_set ?_ GE583.out) | exact HB.out)))
               rintro e w109 ⟨rfl, hb⟩
               refine ⟨_, rfl, ?_⟩
               replace HO_549000 := rb_ HO_549000 hb
               replace HO_549001 := rb_ HO_549001 hb
               replace HO_550000 := rb_ HO_550000 hb
               replace HO_550001 := rb_ HO_550001 hb
               replace HO_551000 := rb_ HO_551000 hb
               replace HO_551001 := rb_ HO_551001 hb
               replace HO562 := rb_ HO562 hb
               replace HO566 := rb_ HO566 hb
               replace HO569 := rb_ HO569 hb
               replace HO572 := rb_ HO572 hb
               replace HO575 := rb_ HO575 hb
               replace HO579 := rb_ HO579 hb
               replace HO586 := rb_ HO586 hb
               replace HO589 := rb_ HO589 hb
               replace HO592 := rb_ HO592 hb
               replace HO599 := rb_ HO599 hb
               replace BK548 := bb_ BK548 hb
               replace BK549 := bb_ BK549 hb
               replace BK550 := bb_ BK550 hb
               replace BK583 := bb_ BK583 hb
               replace HB := Aside0.mk (below_step (by repeat (first | (with_reducible first | exact HB.out | apply below_alloc | apply pw_below_drewN | apply below_drew1 | refine below_set ?_ GE548.out | refine below_set ?_ GE549.out | refine below_set ?_ GE550.out | refine below_set ?_ GE583.out) | exact HB.out)) hb)
               (try clear hb)
               (try clear hb2)
               (try clear hk)
               (try clear hi)
               refine hK.out _ _ ⟨bc_ BK548 0, bc_ BK548 1⟩ (fun hHeld => ?_)
               clear hK K
               refine norm_ (a' := ?_) ?_ ?_
               rotate_left
               ·show Act.put _ (some 73) _ = _
                simp only [Act.put, List.setIfInBounds_toArray, List.set_cons_zero, List.set_cons_succ, i64_w, i32_w]
                rfl
               refine pure_ (i := 4) (N := some 69) (v := ?_) (a' := ?_) (bm_ 9 31) rfl rfl (any_of HT_.out (by kernel_rfl)) (fun _ _ _ h => h) (Or.inl ⟨by rfl, ?_⟩) ?_ ?_
               rotate_left
               ·intro w'
                go_simp
                with_reducible rfl
               rotate_left
               ·exact pt_
               refine pure_ (i := 5) (N := some 74) (v := ?_) (a' := ?_) (bm_ 9 63) rfl rfl (any_of HT_.out (by kernel_rfl)) (fun _ _ _ h => h) (Or.inl ⟨by rfl, ?_⟩) ?_ ?_
               rotate_left
               ·intro w'
                go_simp
                with_reducible rfl
               rotate_left
               ·exact pt_
               refine pure_ (i := 6) (N := some 75) (v := ?_) (a' := ?_) (bm_ 9 127) rfl rfl (any_of HT_.out (by kernel_rfl)) (fun _ _ _ h => h) (Or.inl ⟨by rfl, ?_⟩) ?_ ?_
               rotate_left
               ·intro w'
                go_simp
                with_reducible rfl
               rotate_left
               ·exact pt_
               refine pure_ (i := 7) (N := some 11) (v := ?_) (a' := ?_) (bm_ 9 255) rfl rfl (any_of HT_.out (by kernel_rfl)) (fun _ _ _ h => h) (Or.inl ⟨by rfl, ?_⟩) ?_ ?_
               rotate_left
               ·intro w'
                go_simp
                with_reducible rfl
               rotate_left
               ·exact pt_
               refine pure_ (i := 8) (N := some 12) (v := ?_) (a' := ?_) (bm_ 9 511) rfl rfl (any_of HT_.out (by kernel_rfl)) (fun _ _ _ h => h) (Or.inl ⟨by rfl, ?_⟩) ?_ ?_
               rotate_left
               ·intro w'
                go_simp
                with_reducible rfl
               rotate_left
               ·exact pt_
               refine done_ (done_of HT_.out (by kernel_rfl)) ?_
               try go_wp2_with (first | ((with_reducible refine gate_callee (f := 31) rfl ?_); refine goesL_ (some 77) rfl rfl Tryd.func31 (by kernel_rfl) rfl #[] rfl ls_ ?_; (with_reducible refine (cottonpadlaw06_building.calls  t607 t610 _ A71.out).mono ?_); rintro e w110 ⟨v608, v611, rfl, ho0, ho1, hb⟩; refine ⟨_, rfl, ?_⟩; replace HO562 := rb_ HO562 hb; replace HO572 := rb_ HO572 hb; replace HO575 := rb_ HO575 hb; replace HO579 := rb_ HO579 hb; replace HO592 := rb_ HO592 hb; replace HO599 := rb_ HO599 hb; have HO609 := Aside0.mk (Kd.R_lower (Kd.R_new' (Kd.R_new' (Kd.R_new' (Kd.R_new' (Kd.R_new' ho0 (Kd.R_lt (ro_ HO_549000))) (Kd.R_lt (ro_ HO_550000))) (Kd.R_lt (ro_ HO_551000))) (Kd.R_lt (ro_ HO566))) (Kd.R_lt (ro_ HO586))) (below_size (by repeat (first | (with_reducible first | exact HB.out | apply below_alloc | apply pw_below_drewN | apply below_drew1 | refine below_set ?_ GE548.out | refine below_set ?_ GE549.out | refine below_set ?_ GE550.out | refine below_set ?_ GE583.out) | exact HB.out)))); replace HO_549000 := Aside0.mk (Kd.R_elder' (ro_ HO_549000) (Kd.R_base ho0) hb); replace HO_550000 := Aside0.mk (Kd.R_elder' (ro_ HO_550000) (Kd.R_base ho0) hb); replace HO_551000 := Aside0.mk (Kd.R_elder' (ro_ HO_551000) (Kd.R_base ho0) hb); replace HO566 := Aside0.mk (Kd.R_elder' (ro_ HO566) (Kd.R_base ho0) hb); replace HO586 := Aside0.mk (Kd.R_elder' (ro_ HO586) (Kd.R_base ho0) hb); have HO612 := Aside0.mk (Kd.R_lower (Kd.R_new' (Kd.R_new' (Kd.R_new' (Kd.R_new' (Kd.R_new' ho1 (Kd.R_lt (ro_ HO_549001))) (Kd.R_lt (ro_ HO_550001))) (Kd.R_lt (ro_ HO_551001))) (Kd.R_lt (ro_ HO569))) (Kd.R_lt (ro_ HO589))) (below_size (by repeat (first | (with_reducible first | exact HB.out | apply below_alloc | apply pw_below_drewN | apply below_drew1 | refine below_set ?_ GE548.out | refine below_set ?_ GE549.out | refine below_set ?_ GE550.out | refine below_set ?_ GE583.out) | exact HB.out)))); replace HO_549001 := Aside0.mk (Kd.R_elder' (ro_ HO_549001) (Kd.R_base ho1) hb); replace HO_550001 := Aside0.mk (Kd.R_elder' (ro_ HO_550001) (Kd.R_base ho1) hb); replace HO_551001 := Aside0.mk (Kd.R_elder' (ro_ HO_551001) (Kd.R_base ho1) hb); replace HO569 := Aside0.mk (Kd.R_elder' (ro_ HO569) (Kd.R_base ho1) hb); replace HO589 := Aside0.mk (Kd.R_elder' (ro_ HO589) (Kd.R_base ho1) hb); replace BK548 := bb_ BK548 hb; replace BK549 := bb_ BK549 hb; replace BK550 := bb_ BK550 hb; replace BK583 := bb_ BK583 hb; replace HB := Aside0.mk (below_step (by repeat (first | (with_reducible first | exact HB.out | apply below_alloc | apply pw_below_drewN | apply below_drew1 | refine below_set ?_ GE548.out | refine below_set ?_ GE549.out | refine below_set ?_ GE550.out | refine below_set ?_ GE583.out) | exact HB.out)) hb); (try clear hb); (try clear hb2); (try clear hk); (try clear hi); (try clear ho0); (try clear ho1); obtain ⟨Ao111, co111, eo111⟩ := Kd.R_slice HO609.out; subst eo111; obtain ⟨Ao112, co112, eo112⟩ := Kd.R_slice HO612.out; subst eo112) | ((with_reducible refine gate_callee (f := 19) rfl ?_); refine goesL_ (some 78) rfl rfl Tryd.func19 (by kernel_rfl) rfl #[.agg #[.slice Ao111 t607.length co111, .slice Ao112 t610.length co112], .slice none 0 0] rfl ls_ ?_; (refine (exits_Out.calls _ _ t607 _ _ t610 _ _ ([] : List (S48)) t613 t614 t615 _ ?side7 ?side1 ?side2 ?side3 ?side4 ?side5 ?side6 A72.out).mono ?_); (case side1 => exact kd_ (Kd.R_reads' HO609.out).2.2); (case side2 => exact (Kd.R_reads' HO609.out).2.1); (case side3 => exact kd_ (Kd.R_reads' HO612.out).2.2); (case side4 => exact (Kd.R_reads' HO612.out).2.1); (case side5 => exact Kd.C_nil _ _); (case side6 => exact Nat.le_refl _); (case side7 => exact GlobsE.below HG.out.1 (by repeat (first | (with_reducible first | exact HB.out | apply below_alloc | apply pw_below_drewN | apply below_drew1 | refine below_set ?_ GE548.out | refine below_set ?_ GE549.out | refine below_set ?_ GE550.out | refine below_set ?_ GE583.out) | exact HB.out))); rintro e w113 ⟨rfl, hb⟩; refine ⟨_, rfl, ?_⟩; replace HO_549000 := rb_ HO_549000 hb; replace HO_549001 := rb_ HO_549001 hb; replace HO_550000 := rb_ HO_550000 hb; replace HO_550001 := rb_ HO_550001 hb; replace HO_551000 := rb_ HO_551000 hb; replace HO_551001 := rb_ HO_551001 hb; replace HO562 := rb_ HO562 hb; replace HO566 := rb_ HO566 hb; replace HO569 := rb_ HO569 hb; replace HO572 := rb_ HO572 hb; replace HO575 := rb_ HO575 hb; replace HO579 := rb_ HO579 hb; replace HO586 := rb_ HO586 hb; replace HO589 := rb_ HO589 hb; replace HO592 := rb_ HO592 hb; replace HO599 := rb_ HO599 hb; replace HO609 := rb_ HO609 hb; replace HO612 := rb_ HO612 hb; replace BK548 := bb_ BK548 hb; replace BK549 := bb_ BK549 hb; replace BK550 := bb_ BK550 hb; replace BK583 := bb_ BK583 hb; replace HB := Aside0.mk (below_step (by repeat (first | (with_reducible first | exact HB.out | apply below_alloc | apply pw_below_drewN | apply below_drew1 | refine below_set ?_ GE548.out | refine below_set ?_ GE549.out | refine below_set ?_ GE550.out | refine below_set ?_ GE583.out) | exact HB.out)) hb); (try clear hb); (try clear hb2); (try clear hk); (try clear hi)) | ((with_reducible refine gate_dst (N := 13) rfl ?_); refine box_event ?hg (N := 13) ?hd (cs := #[.int .i64 0, .int .i64 0]) (t := 36) ?hr ?_; (case hd => rfl); (case hg => rfl); (case hr => exact gs_); intro gb616 hg w114 hbox hb; replace HO_549000 := rb_ HO_549000 hb; replace HO_549001 := rb_ HO_549001 hb; replace HO_550000 := rb_ HO_550000 hb; replace HO_550001 := rb_ HO_550001 hb; replace HO_551000 := rb_ HO_551000 hb; replace HO_551001 := rb_ HO_551001 hb; replace HO562 := rb_ HO562 hb; replace HO566 := rb_ HO566 hb; replace HO569 := rb_ HO569 hb; replace HO572 := rb_ HO572 hb; replace HO575 := Aside0.mk (Kd.R_below (Kd.R_elderB (ro_ HO575) gb616 (Nat.le_of_eq hg.symm)) hb); replace HO579 := rb_ HO579 hb; replace HO586 := rb_ HO586 hb; replace HO589 := rb_ HO589 hb; replace HO592 := rb_ HO592 hb; replace HO599 := rb_ HO599 hb; replace HO609 := rb_ HO609 hb; replace HO612 := rb_ HO612 hb; have BK616 := Aside0.mk (hbox); have GW616 := Aside0.mk ((by rw [hg]; exact (below_size (by repeat (first | (with_reducible first | exact HB.out | apply below_alloc | apply pw_below_drewN | apply below_drew1 | refine below_set ?_ GE548.out | refine below_set ?_ GE549.out | refine below_set ?_ GE550.out | refine below_set ?_ GE583.out) | exact HB.out))) : w.heap.size ≤ gb616)); have GE616 := Aside0.mk ((by rw [hg]; exact (below_size (by repeat (first | (with_reducible first | exact HB.out | apply below_alloc | apply pw_below_drewN | apply below_drew1 | refine below_set ?_ GE548.out | refine below_set ?_ GE549.out | refine below_set ?_ GE550.out | refine below_set ?_ GE583.out) | exact HB.out))) : w.heap.size ≤ gb616)); replace HB := Aside0.mk (below_step (by repeat (first | (with_reducible first | exact HB.out | apply below_alloc | apply pw_below_drewN | apply below_drew1 | refine below_set ?_ GE548.out | refine below_set ?_ GE549.out | refine below_set ?_ GE550.out | refine below_set ?_ GE583.out) | exact HB.out)) hb); have NB548_616 := Aside0.mk ((by rw [hg]; exact Nat.ne_of_lt (blk_lt (bk_ BK548)) : gb548 ≠ gb616)); have NB616_548 := Aside0.mk ((by rw [hg]; exact Nat.ne_of_gt (blk_lt (bk_ BK548)) : gb616 ≠ gb548)); replace BK548 := bb_ BK548 hb; have NB549_616 := Aside0.mk ((by rw [hg]; exact Nat.ne_of_lt (blk_lt (bk_ BK549)) : gb549 ≠ gb616)); have NB616_549 := Aside0.mk ((by rw [hg]; exact Nat.ne_of_gt (blk_lt (bk_ BK549)) : gb616 ≠ gb549)); replace BK549 := bb_ BK549 hb; have NB550_616 := Aside0.mk ((by rw [hg]; exact Nat.ne_of_lt (blk_lt (bk_ BK550)) : gb550 ≠ gb616)); have NB616_550 := Aside0.mk ((by rw [hg]; exact Nat.ne_of_gt (blk_lt (bk_ BK550)) : gb616 ≠ gb550)); replace BK550 := bb_ BK550 hb; have NB583_616 := Aside0.mk ((by rw [hg]; exact Nat.ne_of_lt (blk_lt (bk_ BK583)) : gb583 ≠ gb616)); have NB616_583 := Aside0.mk ((by rw [hg]; exact Nat.ne_of_gt (blk_lt (bk_ BK583)) : gb616 ≠ gb583)); replace BK583 := bb_ BK583 hb; clear hb hbox hg; have hnb115 := NB616_548.out; have hnc115 := NB548_616.out; have hnb116 := NB616_549.out; have hnc116 := NB549_616.out; have hnb117 := NB616_550.out; have hnc117 := NB550_616.out; have hnb118 := NB616_583.out; have hnc118 := NB583_616.out; have hcz119_0 : w114.cell? ⟨gb616, 0, none⟩ = some (.int .i64 0) := bc_ BK616 0; have hcz119_1 : w114.cell? ⟨gb616, 1, none⟩ = some (.int .i64 0) := bc_ BK616 1; have hfz119_0 := blk_frozen BK616.out 0; have hfz119_1 := blk_frozen BK616.out 1) | (go_at_call 31; (with_reducible refine (cottonpadlaw06_building.calls  t617 t620 _ A79.out).mono ?_); rintro e w120 ⟨v618, v621, rfl, ho0, ho1, hb⟩; replace HO562 := Aside0.mk (Kd.R_below (by (with_reducible repeat (first | apply Kd.R_alloc | apply Kd.R_drewN | apply Kd.R_drew)); exact (Kd.R_mono (Kd.R_far (p := ⟨gb616, 1, none⟩) (Kd.R_far (p := ⟨gb616, 0, none⟩) (Kd.R_types HO562.out BK616.out (by decide)) (fun _ hk => hk.2) (.int .i64 t613)) (fun _ hk => hk.2) (.int .i64 t614)) (fun _ h_ => h_.1))) hb); replace HO572 := Aside0.mk (Kd.R_below (by (with_reducible repeat (first | apply Kd.R_alloc | apply Kd.R_drewN | apply Kd.R_drew)); exact (Kd.R_mono (Kd.R_far (p := ⟨gb616, 1, none⟩) (Kd.R_far (p := ⟨gb616, 0, none⟩) (Kd.R_types HO572.out BK616.out (by decide)) (fun _ hk => hk.2) (.int .i64 t613)) (fun _ hk => hk.2) (.int .i64 t614)) (fun _ h_ => h_.1))) hb); replace HO575 := Aside0.mk (Kd.R_below (by (with_reducible repeat (first | apply Kd.R_alloc | apply Kd.R_drewN | apply Kd.R_drew)); exact (Kd.R_mono (Kd.R_far (p := ⟨gb616, 1, none⟩) (Kd.R_far (p := ⟨gb616, 0, none⟩) (Kd.R_mono HO575.out (fun k_ hk => (⟨hk, hk.2⟩ : _ ∧ k_ ≠ gb616))) (fun _ hk => hk.2) (.int .i64 t613)) (fun _ hk => hk.2) (.int .i64 t614)) (fun _ h_ => h_.1))) hb); replace HO579 := Aside0.mk (Kd.R_below (by (with_reducible repeat (first | apply Kd.R_alloc | apply Kd.R_drewN | apply Kd.R_drew)); exact (Kd.R_mono (Kd.R_far (p := ⟨gb616, 1, none⟩) (Kd.R_far (p := ⟨gb616, 0, none⟩) (Kd.R_types HO579.out BK616.out (by decide)) (fun _ hk => hk.2) (.int .i64 t613)) (fun _ hk => hk.2) (.int .i64 t614)) (fun _ h_ => h_.1))) hb); replace HO592 := Aside0.mk (Kd.R_below (by (with_reducible repeat (first | apply Kd.R_alloc | apply Kd.R_drewN | apply Kd.R_drew)); exact (Kd.R_mono (Kd.R_far (p := ⟨gb616, 1, none⟩) (Kd.R_far (p := ⟨gb616, 0, none⟩) (Kd.R_types HO592.out BK616.out (by decide)) (fun _ hk => hk.2) (.int .i64 t613)) (fun _ hk => hk.2) (.int .i64 t614)) (fun _ h_ => h_.1))) hb); replace HO599 := Aside0.mk (Kd.R_below (by (with_reducible repeat (first | apply Kd.R_alloc | apply Kd.R_drewN | apply Kd.R_drew)); exact (Kd.R_mono (Kd.R_far (p := ⟨gb616, 1, none⟩) (Kd.R_far (p := ⟨gb616, 0, none⟩) (Kd.R_types HO599.out BK616.out (by decide)) (fun _ hk => hk.2) (.int .i64 t613)) (fun _ hk => hk.2) (.int .i64 t614)) (fun _ h_ => h_.1))) hb); have HO619 := Aside0.mk (Kd.R_lower (Kd.R_new' (Kd.R_new' (Kd.R_new' (Kd.R_new' (Kd.R_new' (Kd.R_new' ho0 (Kd.R_lt (by (with_reducible repeat (first | apply Kd.R_alloc | apply Kd.R_drewN | apply Kd.R_drew)); exact (Kd.R_mono (Kd.R_far (p := ⟨gb616, 1, none⟩) (Kd.R_far (p := ⟨gb616, 0, none⟩) (Kd.R_types HO_549000.out BK616.out (by decide)) (fun _ hk => hk.2) (.int .i64 t613)) (fun _ hk => hk.2) (.int .i64 t614)) (fun _ h_ => h_.1))))) (Kd.R_lt (by (with_reducible repeat (first | apply Kd.R_alloc | apply Kd.R_drewN | apply Kd.R_drew)); exact (Kd.R_mono (Kd.R_far (p := ⟨gb616, 1, none⟩) (Kd.R_far (p := ⟨gb616, 0, none⟩) (Kd.R_types HO_550000.out BK616.out (by decide)) (fun _ hk => hk.2) (.int .i64 t613)) (fun _ hk => hk.2) (.int .i64 t614)) (fun _ h_ => h_.1))))) (Kd.R_lt (by (with_reducible repeat (first | apply Kd.R_alloc | apply Kd.R_drewN | apply Kd.R_drew)); exact (Kd.R_mono (Kd.R_far (p := ⟨gb616, 1, none⟩) (Kd.R_far (p := ⟨gb616, 0, none⟩) (Kd.R_types HO_551000.out BK616.out (by decide)) (fun _ hk => hk.2) (.int .i64 t613)) (fun _ hk => hk.2) (.int .i64 t614)) (fun _ h_ => h_.1))))) (Kd.R_lt (by (with_reducible repeat (first | apply Kd.R_alloc | apply Kd.R_drewN | apply Kd.R_drew)); exact (Kd.R_mono (Kd.R_far (p := ⟨gb616, 1, none⟩) (Kd.R_far (p := ⟨gb616, 0, none⟩) (Kd.R_types HO566.out BK616.out (by decide)) (fun _ hk => hk.2) (.int .i64 t613)) (fun _ hk => hk.2) (.int .i64 t614)) (fun _ h_ => h_.1))))) (Kd.R_lt (by (with_reducible repeat (first | apply Kd.R_alloc | apply Kd.R_drewN | apply Kd.R_drew)); exact (Kd.R_mono (Kd.R_far (p := ⟨gb616, 1, none⟩) (Kd.R_far (p := ⟨gb616, 0, none⟩) (Kd.R_types HO586.out BK616.out (by decide)) (fun _ hk => hk.2) (.int .i64 t613)) (fun _ hk => hk.2) (.int .i64 t614)) (fun _ h_ => h_.1))))) (Kd.R_lt (by (with_reducible repeat (first | apply Kd.R_alloc | apply Kd.R_drewN | apply Kd.R_drew)); exact (Kd.R_mono (Kd.R_far (p := ⟨gb616, 1, none⟩) (Kd.R_far (p := ⟨gb616, 0, none⟩) (Kd.R_types HO609.out BK616.out (by decide)) (fun _ hk => hk.2) (.int .i64 t613)) (fun _ hk => hk.2) (.int .i64 t614)) (fun _ h_ => h_.1))))) (below_size (by repeat (first | (with_reducible first | exact HB.out | apply below_alloc | apply pw_below_drewN | apply below_drew1 | refine below_set ?_ GE548.out | refine below_set ?_ GE549.out | refine below_set ?_ GE550.out | refine below_set ?_ GE583.out | refine below_set ?_ GE616.out) | exact HB.out)))); replace HO_549000 := Aside0.mk (Kd.R_elder' (by (with_reducible repeat (first | apply Kd.R_alloc | apply Kd.R_drewN | apply Kd.R_drew)); exact (Kd.R_mono (Kd.R_far (p := ⟨gb616, 1, none⟩) (Kd.R_far (p := ⟨gb616, 0, none⟩) (Kd.R_types HO_549000.out BK616.out (by decide)) (fun _ hk => hk.2) (.int .i64 t613)) (fun _ hk => hk.2) (.int .i64 t614)) (fun _ h_ => h_.1))) (Kd.R_base ho0) hb); replace HO_550000 := Aside0.mk (Kd.R_elder' (by (with_reducible repeat (first | apply Kd.R_alloc | apply Kd.R_drewN | apply Kd.R_drew)); exact (Kd.R_mono (Kd.R_far (p := ⟨gb616, 1, none⟩) (Kd.R_far (p := ⟨gb616, 0, none⟩) (Kd.R_types HO_550000.out BK616.out (by decide)) (fun _ hk => hk.2) (.int .i64 t613)) (fun _ hk => hk.2) (.int .i64 t614)) (fun _ h_ => h_.1))) (Kd.R_base ho0) hb); replace HO_551000 := Aside0.mk (Kd.R_elder' (by (with_reducible repeat (first | apply Kd.R_alloc | apply Kd.R_drewN | apply Kd.R_drew)); exact (Kd.R_mono (Kd.R_far (p := ⟨gb616, 1, none⟩) (Kd.R_far (p := ⟨gb616, 0, none⟩) (Kd.R_types HO_551000.out BK616.out (by decide)) (fun _ hk => hk.2) (.int .i64 t613)) (fun _ hk => hk.2) (.int .i64 t614)) (fun _ h_ => h_.1))) (Kd.R_base ho0) hb); replace HO566 := Aside0.mk (Kd.R_elder' (by (with_reducible repeat (first | apply Kd.R_alloc | apply Kd.R_drewN | apply Kd.R_drew)); exact (Kd.R_mono (Kd.R_far (p := ⟨gb616, 1, none⟩) (Kd.R_far (p := ⟨gb616, 0, none⟩) (Kd.R_types HO566.out BK616.out (by decide)) (fun _ hk => hk.2) (.int .i64 t613)) (fun _ hk => hk.2) (.int .i64 t614)) (fun _ h_ => h_.1))) (Kd.R_base ho0) hb); replace HO586 := Aside0.mk (Kd.R_elder' (by (with_reducible repeat (first | apply Kd.R_alloc | apply Kd.R_drewN | apply Kd.R_drew)); exact (Kd.R_mono (Kd.R_far (p := ⟨gb616, 1, none⟩) (Kd.R_far (p := ⟨gb616, 0, none⟩) (Kd.R_types HO586.out BK616.out (by decide)) (fun _ hk => hk.2) (.int .i64 t613)) (fun _ hk => hk.2) (.int .i64 t614)) (fun _ h_ => h_.1))) (Kd.R_base ho0) hb); replace HO609 := Aside0.mk (Kd.R_elder' (by (with_reducible repeat (first | apply Kd.R_alloc | apply Kd.R_drewN | apply Kd.R_drew)); exact (Kd.R_mono (Kd.R_far (p := ⟨gb616, 1, none⟩) (Kd.R_far (p := ⟨gb616, 0, none⟩) (Kd.R_types HO609.out BK616.out (by decide)) (fun _ hk => hk.2) (.int .i64 t613)) (fun _ hk => hk.2) (.int .i64 t614)) (fun _ h_ => h_.1))) (Kd.R_base ho0) hb); have HO622 := Aside0.mk (Kd.R_lower (Kd.R_new' (Kd.R_new' (Kd.R_new' (Kd.R_new' (Kd.R_new' (Kd.R_new' ho1 (Kd.R_lt (by (with_reducible repeat (first | apply Kd.R_alloc | apply Kd.R_drewN | apply Kd.R_drew)); exact (Kd.R_mono (Kd.R_far (p := ⟨gb616, 1, none⟩) (Kd.R_far (p := ⟨gb616, 0, none⟩) (Kd.R_types HO_549001.out BK616.out (by decide)) (fun _ hk => hk.2) (.int .i64 t613)) (fun _ hk => hk.2) (.int .i64 t614)) (fun _ h_ => h_.1))))) (Kd.R_lt (by (with_reducible repeat (first | apply Kd.R_alloc | apply Kd.R_drewN | apply Kd.R_drew)); exact (Kd.R_mono (Kd.R_far (p := ⟨gb616, 1, none⟩) (Kd.R_far (p := ⟨gb616, 0, none⟩) (Kd.R_types HO_550001.out BK616.out (by decide)) (fun _ hk => hk.2) (.int .i64 t613)) (fun _ hk => hk.2) (.int .i64 t614)) (fun _ h_ => h_.1))))) (Kd.R_lt (by (with_reducible repeat (first | apply Kd.R_alloc | apply Kd.R_drewN | apply Kd.R_drew)); exact (Kd.R_mono (Kd.R_far (p := ⟨gb616, 1, none⟩) (Kd.R_far (p := ⟨gb616, 0, none⟩) (Kd.R_types HO_551001.out BK616.out (by decide)) (fun _ hk => hk.2) (.int .i64 t613)) (fun _ hk => hk.2) (.int .i64 t614)) (fun _ h_ => h_.1))))) (Kd.R_lt (by (with_reducible repeat (first | apply Kd.R_alloc | apply Kd.R_drewN | apply Kd.R_drew)); exact (Kd.R_mono (Kd.R_far (p := ⟨gb616, 1, none⟩) (Kd.R_far (p := ⟨gb616, 0, none⟩) (Kd.R_types HO569.out BK616.out (by decide)) (fun _ hk => hk.2) (.int .i64 t613)) (fun _ hk => hk.2) (.int .i64 t614)) (fun _ h_ => h_.1))))) (Kd.R_lt (by (with_reducible repeat (first | apply Kd.R_alloc | apply Kd.R_drewN | apply Kd.R_drew)); exact (Kd.R_mono (Kd.R_far (p := ⟨gb616, 1, none⟩) (Kd.R_far (p := ⟨gb616, 0, none⟩) (Kd.R_types HO589.out BK616.out (by decide)) (fun _ hk => hk.2) (.int .i64 t613)) (fun _ hk => hk.2) (.int .i64 t614)) (fun _ h_ => h_.1))))) (Kd.R_lt (by (with_reducible repeat (first | apply Kd.R_alloc | apply Kd.R_drewN | apply Kd.R_drew)); exact (Kd.R_mono (Kd.R_far (p := ⟨gb616, 1, none⟩) (Kd.R_far (p := ⟨gb616, 0, none⟩) (Kd.R_types HO612.out BK616.out (by decide)) (fun _ hk => hk.2) (.int .i64 t613)) (fun _ hk => hk.2) (.int .i64 t614)) (fun _ h_ => h_.1))))) (below_size (by repeat (first | (with_reducible first | exact HB.out | apply below_alloc | apply pw_below_drewN | apply below_drew1 | refine below_set ?_ GE548.out | refine below_set ?_ GE549.out | refine below_set ?_ GE550.out | refine below_set ?_ GE583.out | refine below_set ?_ GE616.out) | exact HB.out)))); replace HO_549001 := Aside0.mk (Kd.R_elder' (by (with_reducible repeat (first | apply Kd.R_alloc | apply Kd.R_drewN | apply Kd.R_drew)); exact (Kd.R_mono (Kd.R_far (p := ⟨gb616, 1, none⟩) (Kd.R_far (p := ⟨gb616, 0, none⟩) (Kd.R_types HO_549001.out BK616.out (by decide)) (fun _ hk => hk.2) (.int .i64 t613)) (fun _ hk => hk.2) (.int .i64 t614)) (fun _ h_ => h_.1))) (Kd.R_base ho1) hb); replace HO_550001 := Aside0.mk (Kd.R_elder' (by (with_reducible repeat (first | apply Kd.R_alloc | apply Kd.R_drewN | apply Kd.R_drew)); exact (Kd.R_mono (Kd.R_far (p := ⟨gb616, 1, none⟩) (Kd.R_far (p := ⟨gb616, 0, none⟩) (Kd.R_types HO_550001.out BK616.out (by decide)) (fun _ hk => hk.2) (.int .i64 t613)) (fun _ hk => hk.2) (.int .i64 t614)) (fun _ h_ => h_.1))) (Kd.R_base ho1) hb); replace HO_551001 := Aside0.mk (Kd.R_elder' (by (with_reducible repeat (first | apply Kd.R_alloc | apply Kd.R_drewN | apply Kd.R_drew)); exact (Kd.R_mono (Kd.R_far (p := ⟨gb616, 1, none⟩) (Kd.R_far (p := ⟨gb616, 0, none⟩) (Kd.R_types HO_551001.out BK616.out (by decide)) (fun _ hk => hk.2) (.int .i64 t613)) (fun _ hk => hk.2) (.int .i64 t614)) (fun _ h_ => h_.1))) (Kd.R_base ho1) hb); replace HO569 := Aside0.mk (Kd.R_elder' (by (with_reducible repeat (first | apply Kd.R_alloc | apply Kd.R_drewN | apply Kd.R_drew)); exact (Kd.R_mono (Kd.R_far (p := ⟨gb616, 1, none⟩) (Kd.R_far (p := ⟨gb616, 0, none⟩) (Kd.R_types HO569.out BK616.out (by decide)) (fun _ hk => hk.2) (.int .i64 t613)) (fun _ hk => hk.2) (.int .i64 t614)) (fun _ h_ => h_.1))) (Kd.R_base ho1) hb); replace HO589 := Aside0.mk (Kd.R_elder' (by (with_reducible repeat (first | apply Kd.R_alloc | apply Kd.R_drewN | apply Kd.R_drew)); exact (Kd.R_mono (Kd.R_far (p := ⟨gb616, 1, none⟩) (Kd.R_far (p := ⟨gb616, 0, none⟩) (Kd.R_types HO589.out BK616.out (by decide)) (fun _ hk => hk.2) (.int .i64 t613)) (fun _ hk => hk.2) (.int .i64 t614)) (fun _ h_ => h_.1))) (Kd.R_base ho1) hb); replace HO612 := Aside0.mk (Kd.R_elder' (by (with_reducible repeat (first | apply Kd.R_alloc | apply Kd.R_drewN | apply Kd.R_drew)); exact (Kd.R_mono (Kd.R_far (p := ⟨gb616, 1, none⟩) (Kd.R_far (p := ⟨gb616, 0, none⟩) (Kd.R_types HO612.out BK616.out (by decide)) (fun _ hk => hk.2) (.int .i64 t613)) (fun _ hk => hk.2) (.int .i64 t614)) (fun _ h_ => h_.1))) (Kd.R_base ho1) hb); replace BK548 := Aside0.mk (blk_below (g := gb548) (o := .cells #[.slice (some ⟨go8, 0, none⟩) y553.length co22, .slice Ao26 t533.length co26] 25 (0, 0)) (by refine bx_ ?_; refine blk_far ?_ NB548_616.out _; refine bx_ ?_; refine blk_far ?_ NB548_616.out _; refine bx_ ?_; exact BK548.out) hb); replace BK549 := Aside0.mk (blk_below (g := gb549) (o := .cells #[.slice (some ⟨go10, 0, none⟩) y554.length co27, .slice Ao30 t539.length co30] 25 (0, 0)) (by refine bx_ ?_; refine blk_far ?_ NB549_616.out _; refine bx_ ?_; refine blk_far ?_ NB549_616.out _; refine bx_ ?_; exact BK549.out) hb); replace BK550 := Aside0.mk (blk_below (g := gb550) (o := .cells #[.slice (some ⟨go13, 0, none⟩) y557.length co31, .slice Ao33 t545.length co33] 25 (0, 0)) (by refine bx_ ?_; refine blk_far ?_ NB550_616.out _; refine bx_ ?_; refine blk_far ?_ NB550_616.out _; refine bx_ ?_; exact BK550.out) hb); replace BK583 := Aside0.mk (blk_below (g := gb583) (o := .cells #[.int .i64 t580, .int .i64 t581] 36 (0, 0)) (by refine bx_ ?_; refine blk_far ?_ NB583_616.out _; refine bx_ ?_; refine blk_far ?_ NB583_616.out _; refine bx_ ?_; exact BK583.out) hb); replace BK616 := Aside0.mk (blk_below (g := gb616) (o := .cells #[.int .i64 t613, .int .i64 t614] 36 (0, 0)) (by refine bx_ ?_; refine blk_put (cs := #[.int .i64 t613, .int .i64 0]) ?_ 1 _ rfl; refine bx_ ?_; refine blk_put (cs := #[.int .i64 0, .int .i64 0]) ?_ 0 _ rfl; refine bx_ ?_; exact BK616.out) hb); replace HB := Aside0.mk (below_step (by repeat (first | (with_reducible first | exact HB.out | apply below_alloc | apply pw_below_drewN | apply below_drew1 | refine below_set ?_ GE548.out | refine below_set ?_ GE549.out | refine below_set ?_ GE550.out | refine below_set ?_ GE583.out | refine below_set ?_ GE616.out) | exact HB.out)) hb); (try clear hb); (try clear hb2); (try clear hk); (try clear hi); (try clear ho0); (try clear ho1); obtain ⟨Ao121, co121, eo121⟩ := Kd.R_slice HO619.out; subst eo121; obtain ⟨Ao122, co122, eo122⟩ := Kd.R_slice HO622.out; subst eo122) | (go_at_call 21; refine calls_of_args (args' := #[.agg #[.slice Ao121 t617.length co121, .slice Ao122 t620.length co122], .slice (some ⟨go58, 0, none⟩) y563.length co58]) (by first | (rw [show y563.length = t560.length from (Kd.R_reads' HO562.out).1.symm] <;> rfl) | rfl) ?_; (with_reducible refine (exits_Check.calls _ _ t617 _ _ t620 _ _ y563 t623 _ ?side1 ?side2 ?side3 ?side4 ?side5 ?side6 A80.out).mono ?_); (case side1 => exact kd_ (Kd.R_reads' HO619.out).2.2); (case side2 => exact (Kd.R_reads' HO619.out).2.1); (case side3 => exact kd_ (Kd.R_reads' HO622.out).2.2); (case side4 => exact (Kd.R_reads' HO622.out).2.1); (case side5 => exact kd_ (Kd.R_reads' HO562.out).2.2); (case side6 => rw [show y563.length = t560.length from (Kd.R_reads' HO562.out).1.symm]; exact (Kd.R_reads' HO562.out).2.1); rintro e w123 ⟨rfl, hb⟩; replace HO_549000 := rb_ HO_549000 hb; replace HO_549001 := rb_ HO_549001 hb; replace HO_550000 := rb_ HO_550000 hb; replace HO_550001 := rb_ HO_550001 hb; replace HO_551000 := rb_ HO_551000 hb; replace HO_551001 := rb_ HO_551001 hb; replace HO562 := rb_ HO562 hb; replace HO566 := rb_ HO566 hb; replace HO569 := rb_ HO569 hb; replace HO572 := rb_ HO572 hb; replace HO575 := rb_ HO575 hb; replace HO579 := rb_ HO579 hb; replace HO586 := rb_ HO586 hb; replace HO589 := rb_ HO589 hb; replace HO592 := rb_ HO592 hb; replace HO599 := rb_ HO599 hb; replace HO609 := rb_ HO609 hb; replace HO612 := rb_ HO612 hb; replace HO619 := rb_ HO619 hb; replace HO622 := rb_ HO622 hb; replace BK548 := bb_ BK548 hb; replace BK549 := bb_ BK549 hb; replace BK550 := bb_ BK550 hb; replace BK583 := bb_ BK583 hb; replace BK616 := bb_ BK616 hb; replace HB := Aside0.mk (below_step (by repeat (first | (with_reducible first | exact HB.out | apply below_alloc | apply pw_below_drewN | apply below_drew1 | refine below_set ?_ GE548.out | refine below_set ?_ GE549.out | refine below_set ?_ GE550.out | refine below_set ?_ GE583.out | refine below_set ?_ GE616.out) | exact HB.out)) hb); (try clear hb); (try clear hb2); (try clear hk); (try clear hi)))
               go_ret
               exact ⟨rf_, by repeat (first | (with_reducible first | exact HB.out | apply below_alloc | apply pw_below_drewN | apply below_drew1 | refine below_set ?_ GE548.out | refine below_set ?_ GE549.out | refine below_set ?_ GE550.out | refine below_set ?_ GE583.out | refine below_set ?_ GE616.out) | exact HB.out)⟩
              ·rw [if_neg c78] at H
               have c78b0 : (t613 == 0 && (t614 == 0)) = false := by simpa using c78
               (try (have c78b1 : decide (t613 = 0 && (t614 == 0)) = false := by simpa using c78))
               (try (have c78b2 : (t613 == 0 && (t614 == 0)) = false := by simpa using c78))
               (try (have c78b3 : ¬ (t613 = 0 && (t614 == 0)) := by simpa using c78))
               clear c78
               exact absurd (H.trans (congrArg some HRT.out)) (by simp)
             ·rw [if_neg c77] at H
              have c77b0 : (t615 == 0) = false := beq_eq_false_iff_ne.mpr c77
              have c77b1 : (t615 != 0) = true := bne_iff_ne.mpr c77
              exact absurd (H.trans (congrArg some HRT.out)) (by simp)
            ·rw [if_neg c76] at H
             have c76b0 : (t606 == 8) = false := beq_eq_false_iff_ne.mpr c76
             have c76b1 : (t606 != 8) = true := bne_iff_ne.mpr c76
             exact absurd (H.trans (congrArg some HRT.out)) (by simp)
           ·rw [if_neg c75] at H
            have c75b0 : (t596 == 2) = false := beq_eq_false_iff_ne.mpr c75
            have c75b1 : (t596 != 2) = true := bne_iff_ne.mpr c75
            exact absurd (H.trans (congrArg some HRT.out)) (by simp)
          ·rw [if_neg c74] at H
           have c74b0 : (t582 == 60) = false := beq_eq_false_iff_ne.mpr c74
           have c74b1 : (t582 != 60) = true := bne_iff_ne.mpr c74
           exact absurd (H.trans (congrArg some HRT.out)) (by simp)
         ·rw [if_neg c73] at H
          have c73b0 : (t576 == 2) = false := beq_eq_false_iff_ne.mpr c73
          have c73b1 : (t576 != 2) = true := bne_iff_ne.mpr c73
          exact absurd (H.trans (congrArg some HRT.out)) (by simp)
        ·rw [if_neg c57] at H
         exact absurd H (by simp)
    ·rw [if_neg c12] at H
     exact absurd H (by simp)
   ·rw [if_neg c9] at H
    exact absurd H (by simp)
  ·rw [if_neg c7] at H
   exact absurd H (by simp)
 ·replace c2 := Bool.eq_false_iff.mpr c2
  subst c2
  have H1 : (some false) = some r := by rw [if_neg (show ¬ (false = true) by decide)] at H; exact H
  clear H
  have H := H1
  clear H1
  exact absurd (H.trans (congrArg some HRT.out)) (by simp)

end Go.Proofs.YtdeaccbolnlgpaaDoor.X
