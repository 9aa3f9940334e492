import Derived.Test.YtdeaccbolnlgpaaDoorX0
import Derived.Test.YtdeaccbolnlgpaaDoorXE1
import Derived.Test.YtdeaccbolnlgpaaDoorXN23
import Derived.Test.YtdeaccbolnlgpaaDoorXNB
import Derived.Test.YtdeaccbolnlgpaaDoorXN33
import Derived.Test.YtdeaccbolnlgpaaDoorXG
import Derived.Test.YtdeaccbolnlgpaaDoorXHL
import Derived.Test.YtdeaccbolnlgpaaDoorXHMore
import Derived.Test.YtdeaccbolnlgpaaDoorXHO
namespace Go.Proofs.YtdeaccbolnlgpaaDoor.X
open Go.RowKit Go.Proofs.YtdeaccbolnlgpaaDoorW.PrintWords Go.Proofs.YtdeaccbolnlgpaaDoorW.PrintLast Go.Proofs.YtdeaccbolnlgpaaDoorW.PrintMore
attribute [local go_sem] max2_int min2_int max_two min_two max_three min_three max_four min_four   -- for this text's walks alone
set_option linter.unusedVariables false
set_option linter.unusedSimpArgs false

attribute [local go_sem high] eqA36
/-! ### cottonpadlaw06_alive: function 30 -/
def cottonpadlaw06_alive.f (k : Nat)  : Option (Bool) := (cottonpadlaw06_building.f).bind fun bt438 => ((cottonpadlaw06_people.f).bind fun t444 => ((exits_Leaves.f bt438.1 bt438.2 t444 0).bind fun bt447 => ((cottonpadlaw06_building.f).bind fun bt451 => ((cottonpadlaw06_people.f).bind fun t457 => ((exits_Leaves.f bt451.1 bt451.2 t457 1).bind fun bt460 => ((cottonpadlaw06_building.f).bind fun bt464 => ((cottonpadlaw06_people.f).bind fun t470 => ((exits_Out.f bt464.1 bt464.2 t470).bind fun bt473 => ((cottonpadlaw06_building.f).bind fun bt477 => ((cottonpadlaw06_people.f).bind fun t483 => ((cottonpadlaw06_walker.f).bind fun bt486 => ((exits_More.f bt477.1 bt477.2 t483 bt486.1 bt486.2.1 bt486.2.2.1 bt486.2.2.2.1 bt486.2.2.2.2).bind fun bt491 => ((cottonpadlaw06_building.f).bind fun bt493 => (if 0 < (bt493.2.length : Int) then (if bt447.2 = 0 then ((cottonpadlaw06_span.f 30 40).bind fun bt501 => ((cottonpadlaw06_span.f 32 42).bind fun bt503 => ((cottonpadref06_SameSpans.f k bt447.1 (([(⟨bt501.1, bt501.2⟩ : S36), (⟨bt503.1, bt503.2⟩ : S36)] : List (S36)))).bind fun t508 => (if t508 = true then (if bt460.2 = 0 then ((cottonpadlaw06_span.f 33 36).bind fun bt509 => ((cottonpadlaw06_span.f 36 45).bind fun bt511 => ((cottonpadlaw06_span.f 39 48).bind fun bt513 => ((cottonpadref06_SameSpans.f k bt460.1 (([(⟨bt509.1, bt509.2⟩ : S36), (⟨bt511.1, bt511.2⟩ : S36), (⟨bt513.1, bt513.2⟩ : S36)] : List (S36)))).bind fun t518 => (if t518 = true then (if bt473.2.2 = 0 then ((cottonpadlaw06_span.f 39 48).bind fun bt519 => (if (bt473.1 == bt519.1 && (bt473.2.1 == bt519.2)) = true then (if bt491.2 = 0 then (if bt491.1 = 7 then ((cottonpadlaw06_building.f).bind fun bt521 => ((cottonpadlaw06_safe.f bt521.1 bt521.2 2 (-1) (-1)).bind fun t527 => (if t527 = true then ((cottonpadlaw06_safe.f bt493.1 (bt493.2.set (0 : Int).toNat (⟨(rd_T81 bt493.2 0).f0, (rd_T81 bt493.2 0).f1, (⟨27, (rd_T81 bt493.2 0).f2.f1⟩ : S36)⟩ : S81)) 1 0 (-1)).bind fun t528 => (some t528)) else (some false)))) else (some false)) else (some false)) else (some false))) else (some false)) else (some false)))))) else (some false)) else (some false))))) else (some false)) else (none)))))))))))))))
theorem cottonpadlaw06_alive.mono : ∀ k, LeO (cottonpadlaw06_alive.f k ) (cottonpadlaw06_alive.f (k + 1) ) := by
 intro  k
 unfold cottonpadlaw06_alive.f
 repeat' (with_reducible first | exact cottonpadref06_SameSpans.mono .. | exact LeO.refl .. | exact LeO.none .. | refine LeO.ite ?_ ?_ | refine LeO.bind ?_ (fun _ => ?_))
def cottonpadlaw06_alive.T7 : Bool × List (List Nat × List Nat) := (true, [([], []), ([0], [0]), ([1], [1]), ([2], [2]), ([2, 2], [2]), ([4, 2], [2]), ([4, 5, 2], [2, 4, 5]), ([3, 6, 5, 2], [2, 3, 6]), ([2, 7], [2, 7]), ([8, 7], [8]), ([9], [9]), ([10, 9], [9, 10]), ([9, 11], [9, 11]), ([12, 9], [12]), ([13], [13]), ([13, 13], [13]), ([15, 13], [13]), ([16, 13], [13]), ([15, 16, 17, 13], [13, 15, 16, 17]), ([14, 18, 17, 13], [13, 14, 18]), ([13, 19], [13, 19]), ([20, 19], [20]), ([21], [21]), ([22, 21], [21, 22]), ([21, 23], [21, 23]), ([24, 21], [24]), ([25], [25]), ([25, 25], [25]), ([26, 27, 25], [25, 26, 27]), ([25, 28], [25, 28]), ([29, 27], [29]), ([30], [30]), ([31, 30], [30, 31]), ([30, 32], [30, 32]), ([33, 30], [33]), ([34], [34]), ([35, 34], [34, 35]), ([34, 36], [34, 36]), ([37, 34], [37]), ([38, 38], [38]), ([39, 39, 38], [38, 39]), ([38, 40], [38, 40]), ([41, 40], [41]), ([42], [42]), ([43, 42, 42], [42, 43]), ([42, 44], [42, 44]), ([45, 44, 0, 1, 2, 3, 4, 5, 6, 7, 8, 9, 10, 11, 12, 13, 14, 15, 16, 17, 18, 19, 20, 21, 22, 23, 24, 25, 26, 27, 28, 29, 30, 31, 32, 33, 34, 35, 36, 37, 38, 39, 40, 41, 42, 43, 44, 45], [45])])
def cottonpadlaw06_alive.B7 : List Nat := [0, 1, 3, 7, 7, 23, 55, 127, 255, 511, 1023, 2047, 4095, 8191, 16383, 16383, 49151, 114687, 245759, 524287, 1048575, 2097151, 4194303, 8388607, 16777215, 33554431, 67108863, 67108863, 268435455, 536870911, 1073741823, 2147483647, 4294967295, 8589934591, 17179869183, 34359738367, 68719476735, 137438953471, 274877906943, 549755813887, 1099511627775, 2199023255551, 4398046511103, 8796093022207, 17592186044415, 35184372088831, 70368744177663]
theorem cottonpadlaw06_alive.tab7 : rtab .any (opsOf Tryd.f30 7) = cottonpadlaw06_alive.T7 := by kernel_rfl
theorem cottonpadlaw06_alive.bits7 : waitsOk cottonpadlaw06_alive.T7.2 cottonpadlaw06_alive.B7 = true := by kernel_rfl
set_option maxHeartbeats 8000000 in
set_option maxRecDepth 100000 in
theorem cottonpadlaw06_alive.calls (k : Nat)  (r : Bool) (w : World) (hG : Globs w) (hrt : r = true) (h : cottonpadlaw06_alive.f k  = some r) :
  Calls Tryd.prog 30 #[] w fun e w' => e = .returned (.bool r) ∧ Below w.heap.size w w' := by
 have hu36 := Tryd.underlying36
 have hu25 := Tryd.underlying25
 have HB := Aside0.mk (Below.refl w.heap.size w)
 have HG := Aside0.mk hG
 clear hG
 have HRT := Aside0.mk hrt
 clear hrt
 have H : ((cottonpadlaw06_building.f).bind fun bt438 => ((cottonpadlaw06_people.f).bind fun t444 => ((exits_Leaves.f bt438.1 bt438.2 t444 0).bind fun bt447 => ((cottonpadlaw06_building.f).bind fun bt451 => ((cottonpadlaw06_people.f).bind fun t457 => ((exits_Leaves.f bt451.1 bt451.2 t457 1).bind fun bt460 => ((cottonpadlaw06_building.f).bind fun bt464 => ((cottonpadlaw06_people.f).bind fun t470 => ((exits_Out.f bt464.1 bt464.2 t470).bind fun bt473 => ((cottonpadlaw06_building.f).bind fun bt477 => ((cottonpadlaw06_people.f).bind fun t483 => ((cottonpadlaw06_walker.f).bind fun bt486 => ((exits_More.f bt477.1 bt477.2 t483 bt486.1 bt486.2.1 bt486.2.2.1 bt486.2.2.2.1 bt486.2.2.2.2).bind fun bt491 => ((cottonpadlaw06_building.f).bind fun bt493 => (if 0 < (bt493.2.length : Int) then (if bt447.2 = 0 then ((cottonpadlaw06_span.f 30 40).bind fun bt501 => ((cottonpadlaw06_span.f 32 42).bind fun bt503 => ((cottonpadref06_SameSpans.f k bt447.1 (([(⟨bt501.1, bt501.2⟩ : S36), (⟨bt503.1, bt503.2⟩ : S36)] : List (S36)))).bind fun t508 => (if t508 = true then (if bt460.2 = 0 then ((cottonpadlaw06_span.f 33 36).bind fun bt509 => ((cottonpadlaw06_span.f 36 45).bind fun bt511 => ((cottonpadlaw06_span.f 39 48).bind fun bt513 => ((cottonpadref06_SameSpans.f k bt460.1 (([(⟨bt509.1, bt509.2⟩ : S36), (⟨bt511.1, bt511.2⟩ : S36), (⟨bt513.1, bt513.2⟩ : S36)] : List (S36)))).bind fun t518 => (if t518 = true then (if bt473.2.2 = 0 then ((cottonpadlaw06_span.f 39 48).bind fun bt519 => (if (bt473.1 == bt519.1 && (bt473.2.1 == bt519.2)) = true then (if bt491.2 = 0 then (if bt491.1 = 7 then ((cottonpadlaw06_building.f).bind fun bt521 => ((cottonpadlaw06_safe.f bt521.1 bt521.2 2 (-1) (-1)).bind fun t527 => (if t527 = true then ((cottonpadlaw06_safe.f bt493.1 (bt493.2.set (0 : Int).toNat (⟨(rd_T81 bt493.2 0).f0, (rd_T81 bt493.2 0).f1, (⟨27, (rd_T81 bt493.2 0).f2.f1⟩ : S36)⟩ : S81)) 1 0 (-1)).bind fun t528 => (some t528)) else (some false)))) else (some false)) else (some false)) else (some false))) else (some false)) else (some false)))))) else (some false)) else (some false))))) else (some false)) else (none)))))))))))))))) = some r := h
 clear h
 replace H := Option.bind_eq_some_iff.mp H
 obtain ⟨⟨t438, t441⟩, A10, H⟩ := H
 replace H : ((cottonpadlaw06_people.f).bind fun t444 => ((exits_Leaves.f t438 t441 t444 0).bind fun bt447 => ((cottonpadlaw06_building.f).bind fun bt451 => ((cottonpadlaw06_people.f).bind fun t457 => ((exits_Leaves.f bt451.1 bt451.2 t457 1).bind fun bt460 => ((cottonpadlaw06_building.f).bind fun bt464 => ((cottonpadlaw06_people.f).bind fun t470 => ((exits_Out.f bt464.1 bt464.2 t470).bind fun bt473 => ((cottonpadlaw06_building.f).bind fun bt477 => ((cottonpadlaw06_people.f).bind fun t483 => ((cottonpadlaw06_walker.f).bind fun bt486 => ((exits_More.f bt477.1 bt477.2 t483 bt486.1 bt486.2.1 bt486.2.2.1 bt486.2.2.2.1 bt486.2.2.2.2).bind fun bt491 => ((cottonpadlaw06_building.f).bind fun bt493 => (if 0 < (bt493.2.length : Int) then (if bt447.2 = 0 then ((cottonpadlaw06_span.f 30 40).bind fun bt501 => ((cottonpadlaw06_span.f 32 42).bind fun bt503 => ((cottonpadref06_SameSpans.f k bt447.1 (([(⟨bt501.1, bt501.2⟩ : S36), (⟨bt503.1, bt503.2⟩ : S36)] : List (S36)))).bind fun t508 => (if t508 = true then (if bt460.2 = 0 then ((cottonpadlaw06_span.f 33 36).bind fun bt509 => ((cottonpadlaw06_span.f 36 45).bind fun bt511 => ((cottonpadlaw06_span.f 39 48).bind fun bt513 => ((cottonpadref06_SameSpans.f k bt460.1 (([(⟨bt509.1, bt509.2⟩ : S36), (⟨bt511.1, bt511.2⟩ : S36), (⟨bt513.1, bt513.2⟩ : S36)] : List (S36)))).bind fun t518 => (if t518 = true then (if bt473.2.2 = 0 then ((cottonpadlaw06_span.f 39 48).bind fun bt519 => (if (bt473.1 == bt519.1 && (bt473.2.1 == bt519.2)) = true then (if bt491.2 = 0 then (if bt491.1 = 7 then ((cottonpadlaw06_building.f).bind fun bt521 => ((cottonpadlaw06_safe.f bt521.1 bt521.2 2 (-1) (-1)).bind fun t527 => (if t527 = true then ((cottonpadlaw06_safe.f bt493.1 (bt493.2.set (0 : Int).toNat (⟨(rd_T81 bt493.2 0).f0, (rd_T81 bt493.2 0).f1, (⟨27, (rd_T81 bt493.2 0).f2.f1⟩ : S36)⟩ : S81)) 1 0 (-1)).bind fun t528 => (some t528)) else (some false)))) else (some false)) else (some false)) else (some false))) else (some false)) else (some false)))))) else (some false)) else (some false))))) else (some false)) else (none))))))))))))))) = some r := H
 have A1 := Aside0.mk A10
 clear A10
 replace H := Option.bind_eq_some_iff.mp H
 obtain ⟨t444, A20, H⟩ := H
 replace H : ((exits_Leaves.f t438 t441 t444 0).bind fun bt447 => ((cottonpadlaw06_building.f).bind fun bt451 => ((cottonpadlaw06_people.f).bind fun t457 => ((exits_Leaves.f bt451.1 bt451.2 t457 1).bind fun bt460 => ((cottonpadlaw06_building.f).bind fun bt464 => ((cottonpadlaw06_people.f).bind fun t470 => ((exits_Out.f bt464.1 bt464.2 t470).bind fun bt473 => ((cottonpadlaw06_building.f).bind fun bt477 => ((cottonpadlaw06_people.f).bind fun t483 => ((cottonpadlaw06_walker.f).bind fun bt486 => ((exits_More.f bt477.1 bt477.2 t483 bt486.1 bt486.2.1 bt486.2.2.1 bt486.2.2.2.1 bt486.2.2.2.2).bind fun bt491 => ((cottonpadlaw06_building.f).bind fun bt493 => (if 0 < (bt493.2.length : Int) then (if bt447.2 = 0 then ((cottonpadlaw06_span.f 30 40).bind fun bt501 => ((cottonpadlaw06_span.f 32 42).bind fun bt503 => ((cottonpadref06_SameSpans.f k bt447.1 (([(⟨bt501.1, bt501.2⟩ : S36), (⟨bt503.1, bt503.2⟩ : S36)] : List (S36)))).bind fun t508 => (if t508 = true then (if bt460.2 = 0 then ((cottonpadlaw06_span.f 33 36).bind fun bt509 => ((cottonpadlaw06_span.f 36 45).bind fun bt511 => ((cottonpadlaw06_span.f 39 48).bind fun bt513 => ((cottonpadref06_SameSpans.f k bt460.1 (([(⟨bt509.1, bt509.2⟩ : S36), (⟨bt511.1, bt511.2⟩ : S36), (⟨bt513.1, bt513.2⟩ : S36)] : List (S36)))).bind fun t518 => (if t518 = true then (if bt473.2.2 = 0 then ((cottonpadlaw06_span.f 39 48).bind fun bt519 => (if (bt473.1 == bt519.1 && (bt473.2.1 == bt519.2)) = true then (if bt491.2 = 0 then (if bt491.1 = 7 then ((cottonpadlaw06_building.f).bind fun bt521 => ((cottonpadlaw06_safe.f bt521.1 bt521.2 2 (-1) (-1)).bind fun t527 => (if t527 = true then ((cottonpadlaw06_safe.f bt493.1 (bt493.2.set (0 : Int).toNat (⟨(rd_T81 bt493.2 0).f0, (rd_T81 bt493.2 0).f1, (⟨27, (rd_T81 bt493.2 0).f2.f1⟩ : S36)⟩ : S81)) 1 0 (-1)).bind fun t528 => (some t528)) else (some false)))) else (some false)) else (some false)) else (some false))) else (some false)) else (some false)))))) else (some false)) else (some false))))) else (some false)) else (none)))))))))))))) = some r := H
 have A2 := Aside0.mk A20
 clear A20
 replace H := Option.bind_eq_some_iff.mp H
 obtain ⟨⟨t447, t450⟩, A30, H⟩ := H
 replace H : ((cottonpadlaw06_building.f).bind fun bt451 => ((cottonpadlaw06_people.f).bind fun t457 => ((exits_Leaves.f bt451.1 bt451.2 t457 1).bind fun bt460 => ((cottonpadlaw06_building.f).bind fun bt464 => ((cottonpadlaw06_people.f).bind fun t470 => ((exits_Out.f bt464.1 bt464.2 t470).bind fun bt473 => ((cottonpadlaw06_building.f).bind fun bt477 => ((cottonpadlaw06_people.f).bind fun t483 => ((cottonpadlaw06_walker.f).bind fun bt486 => ((exits_More.f bt477.1 bt477.2 t483 bt486.1 bt486.2.1 bt486.2.2.1 bt486.2.2.2.1 bt486.2.2.2.2).bind fun bt491 => ((cottonpadlaw06_building.f).bind fun bt493 => (if 0 < (bt493.2.length : Int) then (if t450 = 0 then ((cottonpadlaw06_span.f 30 40).bind fun bt501 => ((cottonpadlaw06_span.f 32 42).bind fun bt503 => ((cottonpadref06_SameSpans.f k t447 (([(⟨bt501.1, bt501.2⟩ : S36), (⟨bt503.1, bt503.2⟩ : S36)] : List (S36)))).bind fun t508 => (if t508 = true then (if bt460.2 = 0 then ((cottonpadlaw06_span.f 33 36).bind fun bt509 => ((cottonpadlaw06_span.f 36 45).bind fun bt511 => ((cottonpadlaw06_span.f 39 48).bind fun bt513 => ((cottonpadref06_SameSpans.f k bt460.1 (([(⟨bt509.1, bt509.2⟩ : S36), (⟨bt511.1, bt511.2⟩ : S36), (⟨bt513.1, bt513.2⟩ : S36)] : List (S36)))).bind fun t518 => (if t518 = true then (if bt473.2.2 = 0 then ((cottonpadlaw06_span.f 39 48).bind fun bt519 => (if (bt473.1 == bt519.1 && (bt473.2.1 == bt519.2)) = true then (if bt491.2 = 0 then (if bt491.1 = 7 then ((cottonpadlaw06_building.f).bind fun bt521 => ((cottonpadlaw06_safe.f bt521.1 bt521.2 2 (-1) (-1)).bind fun t527 => (if t527 = true then ((cottonpadlaw06_safe.f bt493.1 (bt493.2.set (0 : Int).toNat (⟨(rd_T81 bt493.2 0).f0, (rd_T81 bt493.2 0).f1, (⟨27, (rd_T81 bt493.2 0).f2.f1⟩ : S36)⟩ : S81)) 1 0 (-1)).bind fun t528 => (some t528)) else (some false)))) else (some false)) else (some false)) else (some false))) else (some false)) else (some false)))))) else (some false)) else (some false))))) else (some false)) else (none))))))))))))) = some r := H
 have A3 := Aside0.mk A30
 clear A30
 replace H := Option.bind_eq_some_iff.mp H
 obtain ⟨⟨t451, t454⟩, A40, H⟩ := H
 replace H : ((cottonpadlaw06_people.f).bind fun t457 => ((exits_Leaves.f t451 t454 t457 1).bind fun bt460 => ((cottonpadlaw06_building.f).bind fun bt464 => ((cottonpadlaw06_people.f).bind fun t470 => ((exits_Out.f bt464.1 bt464.2 t470).bind fun bt473 => ((cottonpadlaw06_building.f).bind fun bt477 => ((cottonpadlaw06_people.f).bind fun t483 => ((cottonpadlaw06_walker.f).bind fun bt486 => ((exits_More.f bt477.1 bt477.2 t483 bt486.1 bt486.2.1 bt486.2.2.1 bt486.2.2.2.1 bt486.2.2.2.2).bind fun bt491 => ((cottonpadlaw06_building.f).bind fun bt493 => (if 0 < (bt493.2.length : Int) then (if t450 = 0 then ((cottonpadlaw06_span.f 30 40).bind fun bt501 => ((cottonpadlaw06_span.f 32 42).bind fun bt503 => ((cottonpadref06_SameSpans.f k t447 (([(⟨bt501.1, bt501.2⟩ : S36), (⟨bt503.1, bt503.2⟩ : S36)] : List (S36)))).bind fun t508 => (if t508 = true then (if bt460.2 = 0 then ((cottonpadlaw06_span.f 33 36).bind fun bt509 => ((cottonpadlaw06_span.f 36 45).bind fun bt511 => ((cottonpadlaw06_span.f 39 48).bind fun bt513 => ((cottonpadref06_SameSpans.f k bt460.1 (([(⟨bt509.1, bt509.2⟩ : S36), (⟨bt511.1, bt511.2⟩ : S36), (⟨bt513.1, bt513.2⟩ : S36)] : List (S36)))).bind fun t518 => (if t518 = true then (if bt473.2.2 = 0 then ((cottonpadlaw06_span.f 39 48).bind fun bt519 => (if (bt473.1 == bt519.1 && (bt473.2.1 == bt519.2)) = true then (if bt491.2 = 0 then (if bt491.1 = 7 then ((cottonpadlaw06_building.f).bind fun bt521 => ((cottonpadlaw06_safe.f bt521.1 bt521.2 2 (-1) (-1)).bind fun t527 => (if t527 = true then ((cottonpadlaw06_safe.f bt493.1 (bt493.2.set (0 : Int).toNat (⟨(rd_T81 bt493.2 0).f0, (rd_T81 bt493.2 0).f1, (⟨27, (rd_T81 bt493.2 0).f2.f1⟩ : S36)⟩ : S81)) 1 0 (-1)).bind fun t528 => (some t528)) else (some false)))) else (some false)) else (some false)) else (some false))) else (some false)) else (some false)))))) else (some false)) else (some false))))) else (some false)) else (none)))))))))))) = some r := H
 have A4 := Aside0.mk A40
 clear A40
 replace H := Option.bind_eq_some_iff.mp H
 obtain ⟨t457, A50, H⟩ := H
 replace H : ((exits_Leaves.f t451 t454 t457 1).bind fun bt460 => ((cottonpadlaw06_building.f).bind fun bt464 => ((cottonpadlaw06_people.f).bind fun t470 => ((exits_Out.f bt464.1 bt464.2 t470).bind fun bt473 => ((cottonpadlaw06_building.f).bind fun bt477 => ((cottonpadlaw06_people.f).bind fun t483 => ((cottonpadlaw06_walker.f).bind fun bt486 => ((exits_More.f bt477.1 bt477.2 t483 bt486.1 bt486.2.1 bt486.2.2.1 bt486.2.2.2.1 bt486.2.2.2.2).bind fun bt491 => ((cottonpadlaw06_building.f).bind fun bt493 => (if 0 < (bt493.2.length : Int) then (if t450 = 0 then ((cottonpadlaw06_span.f 30 40).bind fun bt501 => ((cottonpadlaw06_span.f 32 42).bind fun bt503 => ((cottonpadref06_SameSpans.f k t447 (([(⟨bt501.1, bt501.2⟩ : S36), (⟨bt503.1, bt503.2⟩ : S36)] : List (S36)))).bind fun t508 => (if t508 = true then (if bt460.2 = 0 then ((cottonpadlaw06_span.f 33 36).bind fun bt509 => ((cottonpadlaw06_span.f 36 45).bind fun bt511 => ((cottonpadlaw06_span.f 39 48).bind fun bt513 => ((cottonpadref06_SameSpans.f k bt460.1 (([(⟨bt509.1, bt509.2⟩ : S36), (⟨bt511.1, bt511.2⟩ : S36), (⟨bt513.1, bt513.2⟩ : S36)] : List (S36)))).bind fun t518 => (if t518 = true then (if bt473.2.2 = 0 then ((cottonpadlaw06_span.f 39 48).bind fun bt519 => (if (bt473.1 == bt519.1 && (bt473.2.1 == bt519.2)) = true then (if bt491.2 = 0 then (if bt491.1 = 7 then ((cottonpadlaw06_building.f).bind fun bt521 => ((cottonpadlaw06_safe.f bt521.1 bt521.2 2 (-1) (-1)).bind fun t527 => (if t527 = true then ((cottonpadlaw06_safe.f bt493.1 (bt493.2.set (0 : Int).toNat (⟨(rd_T81 bt493.2 0).f0, (rd_T81 bt493.2 0).f1, (⟨27, (rd_T81 bt493.2 0).f2.f1⟩ : S36)⟩ : S81)) 1 0 (-1)).bind fun t528 => (some t528)) else (some false)))) else (some false)) else (some false)) else (some false))) else (some false)) else (some false)))))) else (some false)) else (some false))))) else (some false)) else (none))))))))))) = some r := H
 have A5 := Aside0.mk A50
 clear A50
 replace H := Option.bind_eq_some_iff.mp H
 obtain ⟨⟨t460, t463⟩, A60, H⟩ := H
 replace H : ((cottonpadlaw06_building.f).bind fun bt464 => ((cottonpadlaw06_people.f).bind fun t470 => ((exits_Out.f bt464.1 bt464.2 t470).bind fun bt473 => ((cottonpadlaw06_building.f).bind fun bt477 => ((cottonpadlaw06_people.f).bind fun t483 => ((cottonpadlaw06_walker.f).bind fun bt486 => ((exits_More.f bt477.1 bt477.2 t483 bt486.1 bt486.2.1 bt486.2.2.1 bt486.2.2.2.1 bt486.2.2.2.2).bind fun bt491 => ((cottonpadlaw06_building.f).bind fun bt493 => (if 0 < (bt493.2.length : Int) then (if t450 = 0 then ((cottonpadlaw06_span.f 30 40).bind fun bt501 => ((cottonpadlaw06_span.f 32 42).bind fun bt503 => ((cottonpadref06_SameSpans.f k t447 (([(⟨bt501.1, bt501.2⟩ : S36), (⟨bt503.1, bt503.2⟩ : S36)] : List (S36)))).bind fun t508 => (if t508 = true then (if t463 = 0 then ((cottonpadlaw06_span.f 33 36).bind fun bt509 => ((cottonpadlaw06_span.f 36 45).bind fun bt511 => ((cottonpadlaw06_span.f 39 48).bind fun bt513 => ((cottonpadref06_SameSpans.f k t460 (([(⟨bt509.1, bt509.2⟩ : S36), (⟨bt511.1, bt511.2⟩ : S36), (⟨bt513.1, bt513.2⟩ : S36)] : List (S36)))).bind fun t518 => (if t518 = true then (if bt473.2.2 = 0 then ((cottonpadlaw06_span.f 39 48).bind fun bt519 => (if (bt473.1 == bt519.1 && (bt473.2.1 == bt519.2)) = true then (if bt491.2 = 0 then (if bt491.1 = 7 then ((cottonpadlaw06_building.f).bind fun bt521 => ((cottonpadlaw06_safe.f bt521.1 bt521.2 2 (-1) (-1)).bind fun t527 => (if t527 = true then ((cottonpadlaw06_safe.f bt493.1 (bt493.2.set (0 : Int).toNat (⟨(rd_T81 bt493.2 0).f0, (rd_T81 bt493.2 0).f1, (⟨27, (rd_T81 bt493.2 0).f2.f1⟩ : S36)⟩ : S81)) 1 0 (-1)).bind fun t528 => (some t528)) else (some false)))) else (some false)) else (some false)) else (some false))) else (some false)) else (some false)))))) else (some false)) else (some false))))) else (some false)) else (none)))))))))) = some r := H
 have A6 := Aside0.mk A60
 clear A60
 replace H := Option.bind_eq_some_iff.mp H
 obtain ⟨⟨t464, t467⟩, A70, H⟩ := H
 replace H : ((cottonpadlaw06_people.f).bind fun t470 => ((exits_Out.f t464 t467 t470).bind fun bt473 => ((cottonpadlaw06_building.f).bind fun bt477 => ((cottonpadlaw06_people.f).bind fun t483 => ((cottonpadlaw06_walker.f).bind fun bt486 => ((exits_More.f bt477.1 bt477.2 t483 bt486.1 bt486.2.1 bt486.2.2.1 bt486.2.2.2.1 bt486.2.2.2.2).bind fun bt491 => ((cottonpadlaw06_building.f).bind fun bt493 => (if 0 < (bt493.2.length : Int) then (if t450 = 0 then ((cottonpadlaw06_span.f 30 40).bind fun bt501 => ((cottonpadlaw06_span.f 32 42).bind fun bt503 => ((cottonpadref06_SameSpans.f k t447 (([(⟨bt501.1, bt501.2⟩ : S36), (⟨bt503.1, bt503.2⟩ : S36)] : List (S36)))).bind fun t508 => (if t508 = true then (if t463 = 0 then ((cottonpadlaw06_span.f 33 36).bind fun bt509 => ((cottonpadlaw06_span.f 36 45).bind fun bt511 => ((cottonpadlaw06_span.f 39 48).bind fun bt513 => ((cottonpadref06_SameSpans.f k t460 (([(⟨bt509.1, bt509.2⟩ : S36), (⟨bt511.1, bt511.2⟩ : S36), (⟨bt513.1, bt513.2⟩ : S36)] : List (S36)))).bind fun t518 => (if t518 = true then (if bt473.2.2 = 0 then ((cottonpadlaw06_span.f 39 48).bind fun bt519 => (if (bt473.1 == bt519.1 && (bt473.2.1 == bt519.2)) = true then (if bt491.2 = 0 then (if bt491.1 = 7 then ((cottonpadlaw06_building.f).bind fun bt521 => ((cottonpadlaw06_safe.f bt521.1 bt521.2 2 (-1) (-1)).bind fun t527 => (if t527 = true then ((cottonpadlaw06_safe.f bt493.1 (bt493.2.set (0 : Int).toNat (⟨(rd_T81 bt493.2 0).f0, (rd_T81 bt493.2 0).f1, (⟨27, (rd_T81 bt493.2 0).f2.f1⟩ : S36)⟩ : S81)) 1 0 (-1)).bind fun t528 => (some t528)) else (some false)))) else (some false)) else (some false)) else (some false))) else (some false)) else (some false)))))) else (some false)) else (some false))))) else (some false)) else (none))))))))) = some r := H
 have A7 := Aside0.mk A70
 clear A70
 replace H := Option.bind_eq_some_iff.mp H
 obtain ⟨t470, A80, H⟩ := H
 replace H : ((exits_Out.f t464 t467 t470).bind fun bt473 => ((cottonpadlaw06_building.f).bind fun bt477 => ((cottonpadlaw06_people.f).bind fun t483 => ((cottonpadlaw06_walker.f).bind fun bt486 => ((exits_More.f bt477.1 bt477.2 t483 bt486.1 bt486.2.1 bt486.2.2.1 bt486.2.2.2.1 bt486.2.2.2.2).bind fun bt491 => ((cottonpadlaw06_building.f).bind fun bt493 => (if 0 < (bt493.2.length : Int) then (if t450 = 0 then ((cottonpadlaw06_span.f 30 40).bind fun bt501 => ((cottonpadlaw06_span.f 32 42).bind fun bt503 => ((cottonpadref06_SameSpans.f k t447 (([(⟨bt501.1, bt501.2⟩ : S36), (⟨bt503.1, bt503.2⟩ : S36)] : List (S36)))).bind fun t508 => (if t508 = true then (if t463 = 0 then ((cottonpadlaw06_span.f 33 36).bind fun bt509 => ((cottonpadlaw06_span.f 36 45).bind fun bt511 => ((cottonpadlaw06_span.f 39 48).bind fun bt513 => ((cottonpadref06_SameSpans.f k t460 (([(⟨bt509.1, bt509.2⟩ : S36), (⟨bt511.1, bt511.2⟩ : S36), (⟨bt513.1, bt513.2⟩ : S36)] : List (S36)))).bind fun t518 => (if t518 = true then (if bt473.2.2 = 0 then ((cottonpadlaw06_span.f 39 48).bind fun bt519 => (if (bt473.1 == bt519.1 && (bt473.2.1 == bt519.2)) = true then (if bt491.2 = 0 then (if bt491.1 = 7 then ((cottonpadlaw06_building.f).bind fun bt521 => ((cottonpadlaw06_safe.f bt521.1 bt521.2 2 (-1) (-1)).bind fun t527 => (if t527 = true then ((cottonpadlaw06_safe.f bt493.1 (bt493.2.set (0 : Int).toNat (⟨(rd_T81 bt493.2 0).f0, (rd_T81 bt493.2 0).f1, (⟨27, (rd_T81 bt493.2 0).f2.f1⟩ : S36)⟩ : S81)) 1 0 (-1)).bind fun t528 => (some t528)) else (some false)))) else (some false)) else (some false)) else (some false))) else (some false)) else (some false)))))) else (some false)) else (some false))))) else (some false)) else (none)))))))) = some r := H
 have A8 := Aside0.mk A80
 clear A80
 replace H := Option.bind_eq_some_iff.mp H
 obtain ⟨⟨t473, t474, t475⟩, A90, H⟩ := H
 replace H : ((cottonpadlaw06_building.f).bind fun bt477 => ((cottonpadlaw06_people.f).bind fun t483 => ((cottonpadlaw06_walker.f).bind fun bt486 => ((exits_More.f bt477.1 bt477.2 t483 bt486.1 bt486.2.1 bt486.2.2.1 bt486.2.2.2.1 bt486.2.2.2.2).bind fun bt491 => ((cottonpadlaw06_building.f).bind fun bt493 => (if 0 < (bt493.2.length : Int) then (if t450 = 0 then ((cottonpadlaw06_span.f 30 40).bind fun bt501 => ((cottonpadlaw06_span.f 32 42).bind fun bt503 => ((cottonpadref06_SameSpans.f k t447 (([(⟨bt501.1, bt501.2⟩ : S36), (⟨bt503.1, bt503.2⟩ : S36)] : List (S36)))).bind fun t508 => (if t508 = true then (if t463 = 0 then ((cottonpadlaw06_span.f 33 36).bind fun bt509 => ((cottonpadlaw06_span.f 36 45).bind fun bt511 => ((cottonpadlaw06_span.f 39 48).bind fun bt513 => ((cottonpadref06_SameSpans.f k t460 (([(⟨bt509.1, bt509.2⟩ : S36), (⟨bt511.1, bt511.2⟩ : S36), (⟨bt513.1, bt513.2⟩ : S36)] : List (S36)))).bind fun t518 => (if t518 = true then (if t475 = 0 then ((cottonpadlaw06_span.f 39 48).bind fun bt519 => (if (t473 == bt519.1 && (t474 == bt519.2)) = true then (if bt491.2 = 0 then (if bt491.1 = 7 then ((cottonpadlaw06_building.f).bind fun bt521 => ((cottonpadlaw06_safe.f bt521.1 bt521.2 2 (-1) (-1)).bind fun t527 => (if t527 = true then ((cottonpadlaw06_safe.f bt493.1 (bt493.2.set (0 : Int).toNat (⟨(rd_T81 bt493.2 0).f0, (rd_T81 bt493.2 0).f1, (⟨27, (rd_T81 bt493.2 0).f2.f1⟩ : S36)⟩ : S81)) 1 0 (-1)).bind fun t528 => (some t528)) else (some false)))) else (some false)) else (some false)) else (some false))) else (some false)) else (some false)))))) else (some false)) else (some false))))) else (some false)) else (none))))))) = some r := H
 have A9 := Aside0.mk A90
 clear A90
 replace H := Option.bind_eq_some_iff.mp H
 obtain ⟨⟨t477, t480⟩, A100, H⟩ := H
 replace H : ((cottonpadlaw06_people.f).bind fun t483 => ((cottonpadlaw06_walker.f).bind fun bt486 => ((exits_More.f t477 t480 t483 bt486.1 bt486.2.1 bt486.2.2.1 bt486.2.2.2.1 bt486.2.2.2.2).bind fun bt491 => ((cottonpadlaw06_building.f).bind fun bt493 => (if 0 < (bt493.2.length : Int) then (if t450 = 0 then ((cottonpadlaw06_span.f 30 40).bind fun bt501 => ((cottonpadlaw06_span.f 32 42).bind fun bt503 => ((cottonpadref06_SameSpans.f k t447 (([(⟨bt501.1, bt501.2⟩ : S36), (⟨bt503.1, bt503.2⟩ : S36)] : List (S36)))).bind fun t508 => (if t508 = true then (if t463 = 0 then ((cottonpadlaw06_span.f 33 36).bind fun bt509 => ((cottonpadlaw06_span.f 36 45).bind fun bt511 => ((cottonpadlaw06_span.f 39 48).bind fun bt513 => ((cottonpadref06_SameSpans.f k t460 (([(⟨bt509.1, bt509.2⟩ : S36), (⟨bt511.1, bt511.2⟩ : S36), (⟨bt513.1, bt513.2⟩ : S36)] : List (S36)))).bind fun t518 => (if t518 = true then (if t475 = 0 then ((cottonpadlaw06_span.f 39 48).bind fun bt519 => (if (t473 == bt519.1 && (t474 == bt519.2)) = true then (if bt491.2 = 0 then (if bt491.1 = 7 then ((cottonpadlaw06_building.f).bind fun bt521 => ((cottonpadlaw06_safe.f bt521.1 bt521.2 2 (-1) (-1)).bind fun t527 => (if t527 = true then ((cottonpadlaw06_safe.f bt493.1 (bt493.2.set (0 : Int).toNat (⟨(rd_T81 bt493.2 0).f0, (rd_T81 bt493.2 0).f1, (⟨27, (rd_T81 bt493.2 0).f2.f1⟩ : S36)⟩ : S81)) 1 0 (-1)).bind fun t528 => (some t528)) else (some false)))) else (some false)) else (some false)) else (some false))) else (some false)) else (some false)))))) else (some false)) else (some false))))) else (some false)) else (none)))))) = some r := H
 have A10 := Aside0.mk A100
 clear A100
 replace H := Option.bind_eq_some_iff.mp H
 obtain ⟨t483, A110, H⟩ := H
 replace H : ((cottonpadlaw06_walker.f).bind fun bt486 => ((exits_More.f t477 t480 t483 bt486.1 bt486.2.1 bt486.2.2.1 bt486.2.2.2.1 bt486.2.2.2.2).bind fun bt491 => ((cottonpadlaw06_building.f).bind fun bt493 => (if 0 < (bt493.2.length : Int) then (if t450 = 0 then ((cottonpadlaw06_span.f 30 40).bind fun bt501 => ((cottonpadlaw06_span.f 32 42).bind fun bt503 => ((cottonpadref06_SameSpans.f k t447 (([(⟨bt501.1, bt501.2⟩ : S36), (⟨bt503.1, bt503.2⟩ : S36)] : List (S36)))).bind fun t508 => (if t508 = true then (if t463 = 0 then ((cottonpadlaw06_span.f 33 36).bind fun bt509 => ((cottonpadlaw06_span.f 36 45).bind fun bt511 => ((cottonpadlaw06_span.f 39 48).bind fun bt513 => ((cottonpadref06_SameSpans.f k t460 (([(⟨bt509.1, bt509.2⟩ : S36), (⟨bt511.1, bt511.2⟩ : S36), (⟨bt513.1, bt513.2⟩ : S36)] : List (S36)))).bind fun t518 => (if t518 = true then (if t475 = 0 then ((cottonpadlaw06_span.f 39 48).bind fun bt519 => (if (t473 == bt519.1 && (t474 == bt519.2)) = true then (if bt491.2 = 0 then (if bt491.1 = 7 then ((cottonpadlaw06_building.f).bind fun bt521 => ((cottonpadlaw06_safe.f bt521.1 bt521.2 2 (-1) (-1)).bind fun t527 => (if t527 = true then ((cottonpadlaw06_safe.f bt493.1 (bt493.2.set (0 : Int).toNat (⟨(rd_T81 bt493.2 0).f0, (rd_T81 bt493.2 0).f1, (⟨27, (rd_T81 bt493.2 0).f2.f1⟩ : S36)⟩ : S81)) 1 0 (-1)).bind fun t528 => (some t528)) else (some false)))) else (some false)) else (some false)) else (some false))) else (some false)) else (some false)))))) else (some false)) else (some false))))) else (some false)) else (none))))) = some r := H
 have A11 := Aside0.mk A110
 clear A110
 replace H := Option.bind_eq_some_iff.mp H
 obtain ⟨⟨t486, t487, t488, t489, t490⟩, A120, H⟩ := H
 replace H : ((exits_More.f t477 t480 t483 t486 t487 t488 t489 t490).bind fun bt491 => ((cottonpadlaw06_building.f).bind fun bt493 => (if 0 < (bt493.2.length : Int) then (if t450 = 0 then ((cottonpadlaw06_span.f 30 40).bind fun bt501 => ((cottonpadlaw06_span.f 32 42).bind fun bt503 => ((cottonpadref06_SameSpans.f k t447 (([(⟨bt501.1, bt501.2⟩ : S36), (⟨bt503.1, bt503.2⟩ : S36)] : List (S36)))).bind fun t508 => (if t508 = true then (if t463 = 0 then ((cottonpadlaw06_span.f 33 36).bind fun bt509 => ((cottonpadlaw06_span.f 36 45).bind fun bt511 => ((cottonpadlaw06_span.f 39 48).bind fun bt513 => ((cottonpadref06_SameSpans.f k t460 (([(⟨bt509.1, bt509.2⟩ : S36), (⟨bt511.1, bt511.2⟩ : S36), (⟨bt513.1, bt513.2⟩ : S36)] : List (S36)))).bind fun t518 => (if t518 = true then (if t475 = 0 then ((cottonpadlaw06_span.f 39 48).bind fun bt519 => (if (t473 == bt519.1 && (t474 == bt519.2)) = true then (if bt491.2 = 0 then (if bt491.1 = 7 then ((cottonpadlaw06_building.f).bind fun bt521 => ((cottonpadlaw06_safe.f bt521.1 bt521.2 2 (-1) (-1)).bind fun t527 => (if t527 = true then ((cottonpadlaw06_safe.f bt493.1 (bt493.2.set (0 : Int).toNat (⟨(rd_T81 bt493.2 0).f0, (rd_T81 bt493.2 0).f1, (⟨27, (rd_T81 bt493.2 0).f2.f1⟩ : S36)⟩ : S81)) 1 0 (-1)).bind fun t528 => (some t528)) else (some false)))) else (some false)) else (some false)) else (some false))) else (some false)) else (some false)))))) else (some false)) else (some false))))) else (some false)) else (none)))) = some r := H
 have A12 := Aside0.mk A120
 clear A120
 replace H := Option.bind_eq_some_iff.mp H
 obtain ⟨⟨t491, t492⟩, A130, H⟩ := H
 replace H : ((cottonpadlaw06_building.f).bind fun bt493 => (if 0 < (bt493.2.length : Int) then (if t450 = 0 then ((cottonpadlaw06_span.f 30 40).bind fun bt501 => ((cottonpadlaw06_span.f 32 42).bind fun bt503 => ((cottonpadref06_SameSpans.f k t447 (([(⟨bt501.1, bt501.2⟩ : S36), (⟨bt503.1, bt503.2⟩ : S36)] : List (S36)))).bind fun t508 => (if t508 = true then (if t463 = 0 then ((cottonpadlaw06_span.f 33 36).bind fun bt509 => ((cottonpadlaw06_span.f 36 45).bind fun bt511 => ((cottonpadlaw06_span.f 39 48).bind fun bt513 => ((cottonpadref06_SameSpans.f k t460 (([(⟨bt509.1, bt509.2⟩ : S36), (⟨bt511.1, bt511.2⟩ : S36), (⟨bt513.1, bt513.2⟩ : S36)] : List (S36)))).bind fun t518 => (if t518 = true then (if t475 = 0 then ((cottonpadlaw06_span.f 39 48).bind fun bt519 => (if (t473 == bt519.1 && (t474 == bt519.2)) = true then (if t492 = 0 then (if t491 = 7 then ((cottonpadlaw06_building.f).bind fun bt521 => ((cottonpadlaw06_safe.f bt521.1 bt521.2 2 (-1) (-1)).bind fun t527 => (if t527 = true then ((cottonpadlaw06_safe.f bt493.1 (bt493.2.set (0 : Int).toNat (⟨(rd_T81 bt493.2 0).f0, (rd_T81 bt493.2 0).f1, (⟨27, (rd_T81 bt493.2 0).f2.f1⟩ : S36)⟩ : S81)) 1 0 (-1)).bind fun t528 => (some t528)) else (some false)))) else (some false)) else (some false)) else (some false))) else (some false)) else (some false)))))) else (some false)) else (some false))))) else (some false)) else (none))) = some r := H
 have A13 := Aside0.mk A130
 clear A130
 replace H := Option.bind_eq_some_iff.mp H
 obtain ⟨⟨t493, t496⟩, A140, H⟩ := H
 replace H : (if 0 < (t496.length : Int) then (if t450 = 0 then ((cottonpadlaw06_span.f 30 40).bind fun bt501 => ((cottonpadlaw06_span.f 32 42).bind fun bt503 => ((cottonpadref06_SameSpans.f k t447 (([(⟨bt501.1, bt501.2⟩ : S36), (⟨bt503.1, bt503.2⟩ : S36)] : List (S36)))).bind fun t508 => (if t508 = true then (if t463 = 0 then ((cottonpadlaw06_span.f 33 36).bind fun bt509 => ((cottonpadlaw06_span.f 36 45).bind fun bt511 => ((cottonpadlaw06_span.f 39 48).bind fun bt513 => ((cottonpadref06_SameSpans.f k t460 (([(⟨bt509.1, bt509.2⟩ : S36), (⟨bt511.1, bt511.2⟩ : S36), (⟨bt513.1, bt513.2⟩ : S36)] : List (S36)))).bind fun t518 => (if t518 = true then (if t475 = 0 then ((cottonpadlaw06_span.f 39 48).bind fun bt519 => (if (t473 == bt519.1 && (t474 == bt519.2)) = true then (if t492 = 0 then (if t491 = 7 then ((cottonpadlaw06_building.f).bind fun bt521 => ((cottonpadlaw06_safe.f bt521.1 bt521.2 2 (-1) (-1)).bind fun t527 => (if t527 = true then ((cottonpadlaw06_safe.f t493 (t496.set (0 : Int).toNat (⟨(rd_T81 t496 0).f0, (rd_T81 t496 0).f1, (⟨27, (rd_T81 t496 0).f2.f1⟩ : S36)⟩ : S81)) 1 0 (-1)).bind fun t528 => (some t528)) else (some false)))) else (some false)) else (some false)) else (some false))) else (some false)) else (some false)))))) else (some false)) else (some false))))) else (some false)) else (none)) = some r := H
 have A14 := Aside0.mk A140
 clear A140
 by_cases c15 : 0 < (t496.length : Int)
 ·rw [if_pos c15] at H
  have c15b0 : decide (0 < (t496.length : Int)) = true := decide_eq_true c15
  have c15b1 : decide (0 < t496.length) = true := decide_eq_true (by omega)
  clear c15
  obtain ⟨y500, hy500⟩ : ∃ y_ : List (S81), y_ = (t496.set (0 : Int).toNat (⟨(rd_T81 t496 0).f0, (rd_T81 t496 0).f1, (⟨27, (rd_T81 t496 0).f2.f1⟩ : S36)⟩ : S81)) := ⟨_, rfl⟩
  replace H : (if t450 = 0 then ((cottonpadlaw06_span.f 30 40).bind fun bt501 => ((cottonpadlaw06_span.f 32 42).bind fun bt503 => ((cottonpadref06_SameSpans.f k t447 (([(⟨bt501.1, bt501.2⟩ : S36), (⟨bt503.1, bt503.2⟩ : S36)] : List (S36)))).bind fun t508 => (if t508 = true then (if t463 = 0 then ((cottonpadlaw06_span.f 33 36).bind fun bt509 => ((cottonpadlaw06_span.f 36 45).bind fun bt511 => ((cottonpadlaw06_span.f 39 48).bind fun bt513 => ((cottonpadref06_SameSpans.f k t460 (([(⟨bt509.1, bt509.2⟩ : S36), (⟨bt511.1, bt511.2⟩ : S36), (⟨bt513.1, bt513.2⟩ : S36)] : List (S36)))).bind fun t518 => (if t518 = true then (if t475 = 0 then ((cottonpadlaw06_span.f 39 48).bind fun bt519 => (if (t473 == bt519.1 && (t474 == bt519.2)) = true then (if t492 = 0 then (if t491 = 7 then ((cottonpadlaw06_building.f).bind fun bt521 => ((cottonpadlaw06_safe.f bt521.1 bt521.2 2 (-1) (-1)).bind fun t527 => (if t527 = true then ((cottonpadlaw06_safe.f t493 y500 1 0 (-1)).bind fun t528 => (some t528)) else (some false)))) else (some false)) else (some false)) else (some false))) else (some false)) else (some false)))))) else (some false)) else (some false))))) else (some false)) = some r := by first | (rw [hy500]; with_reducible exact H) | (have H2_ := (Option.bind_some _ _).symm.trans H; rw [hy500]; with_reducible exact H2_) | (have H2_ := (Option.bind_some _ _).symm.trans H; with_reducible exact H2_) | with_reducible exact H | (rw [hy500]; exact H) | exact H
  have Ny500 := Aside0.mk hy500
  clear hy500
  by_cases c17 : t450 = 0
  ·rw [if_pos c17] at H
   have c17b0 : (t450 == 0) = true := beq_iff_eq.mpr c17
   have c17b1 : (t450 != 0) = false := bne_eq_false_iff_eq.mpr c17
   clear c17
   replace H := Option.bind_eq_some_iff.mp H
   obtain ⟨⟨t501, t502⟩, A180, H⟩ := H
   replace H : ((cottonpadlaw06_span.f 32 42).bind fun bt503 => ((cottonpadref06_SameSpans.f k t447 (([(⟨t501, t502⟩ : S36), (⟨bt503.1, bt503.2⟩ : S36)] : List (S36)))).bind fun t508 => (if t508 = true then (if t463 = 0 then ((cottonpadlaw06_span.f 33 36).bind fun bt509 => ((cottonpadlaw06_span.f 36 45).bind fun bt511 => ((cottonpadlaw06_span.f 39 48).bind fun bt513 => ((cottonpadref06_SameSpans.f k t460 (([(⟨bt509.1, bt509.2⟩ : S36), (⟨bt511.1, bt511.2⟩ : S36), (⟨bt513.1, bt513.2⟩ : S36)] : List (S36)))).bind fun t518 => (if t518 = true then (if t475 = 0 then ((cottonpadlaw06_span.f 39 48).bind fun bt519 => (if (t473 == bt519.1 && (t474 == bt519.2)) = true then (if t492 = 0 then (if t491 = 7 then ((cottonpadlaw06_building.f).bind fun bt521 => ((cottonpadlaw06_safe.f bt521.1 bt521.2 2 (-1) (-1)).bind fun t527 => (if t527 = true then ((cottonpadlaw06_safe.f t493 y500 1 0 (-1)).bind fun t528 => (some t528)) else (some false)))) else (some false)) else (some false)) else (some false))) else (some false)) else (some false)))))) else (some false)) else (some false)))) = some r := H
   have A18 := Aside0.mk A180
   clear A180
   replace H := Option.bind_eq_some_iff.mp H
   obtain ⟨⟨t503, t504⟩, A190, H⟩ := H
   replace H : ((cottonpadref06_SameSpans.f k t447 (([(⟨t501, t502⟩ : S36), (⟨t503, t504⟩ : S36)] : List (S36)))).bind fun t508 => (if t508 = true then (if t463 = 0 then ((cottonpadlaw06_span.f 33 36).bind fun bt509 => ((cottonpadlaw06_span.f 36 45).bind fun bt511 => ((cottonpadlaw06_span.f 39 48).bind fun bt513 => ((cottonpadref06_SameSpans.f k t460 (([(⟨bt509.1, bt509.2⟩ : S36), (⟨bt511.1, bt511.2⟩ : S36), (⟨bt513.1, bt513.2⟩ : S36)] : List (S36)))).bind fun t518 => (if t518 = true then (if t475 = 0 then ((cottonpadlaw06_span.f 39 48).bind fun bt519 => (if (t473 == bt519.1 && (t474 == bt519.2)) = true then (if t492 = 0 then (if t491 = 7 then ((cottonpadlaw06_building.f).bind fun bt521 => ((cottonpadlaw06_safe.f bt521.1 bt521.2 2 (-1) (-1)).bind fun t527 => (if t527 = true then ((cottonpadlaw06_safe.f t493 y500 1 0 (-1)).bind fun t528 => (some t528)) else (some false)))) else (some false)) else (some false)) else (some false))) else (some false)) else (some false)))))) else (some false)) else (some false))) = some r := H
   have A19 := Aside0.mk A190
   clear A190
   obtain ⟨y505, hy505⟩ : ∃ y_ : List (S36), y_ = (([(⟨t501, t502⟩ : S36), (⟨t503, t504⟩ : S36)] : List (S36))) := ⟨_, rfl⟩
   replace H : ((cottonpadref06_SameSpans.f k t447 y505).bind fun t508 => (if t508 = true then (if t463 = 0 then ((cottonpadlaw06_span.f 33 36).bind fun bt509 => ((cottonpadlaw06_span.f 36 45).bind fun bt511 => ((cottonpadlaw06_span.f 39 48).bind fun bt513 => ((cottonpadref06_SameSpans.f k t460 (([(⟨bt509.1, bt509.2⟩ : S36), (⟨bt511.1, bt511.2⟩ : S36), (⟨bt513.1, bt513.2⟩ : S36)] : List (S36)))).bind fun t518 => (if t518 = true then (if t475 = 0 then ((cottonpadlaw06_span.f 39 48).bind fun bt519 => (if (t473 == bt519.1 && (t474 == bt519.2)) = true then (if t492 = 0 then (if t491 = 7 then ((cottonpadlaw06_building.f).bind fun bt521 => ((cottonpadlaw06_safe.f bt521.1 bt521.2 2 (-1) (-1)).bind fun t527 => (if t527 = true then ((cottonpadlaw06_safe.f t493 y500 1 0 (-1)).bind fun t528 => (some t528)) else (some false)))) else (some false)) else (some false)) else (some false))) else (some false)) else (some false)))))) else (some false)) else (some false))) = some r := by first | (rw [hy505]; with_reducible exact H) | (have H2_ := (Option.bind_some _ _).symm.trans H; rw [hy505]; with_reducible exact H2_) | (have H2_ := (Option.bind_some _ _).symm.trans H; with_reducible exact H2_) | with_reducible exact H | (rw [hy505]; exact H) | exact H
   have Ny505 := Aside0.mk hy505
   clear hy505
   replace H := Option.bind_eq_some_iff.mp H
   obtain ⟨t508, A200, H⟩ := H
   replace H : (if t508 = true then (if t463 = 0 then ((cottonpadlaw06_span.f 33 36).bind fun bt509 => ((cottonpadlaw06_span.f 36 45).bind fun bt511 => ((cottonpadlaw06_span.f 39 48).bind fun bt513 => ((cottonpadref06_SameSpans.f k t460 (([(⟨bt509.1, bt509.2⟩ : S36), (⟨bt511.1, bt511.2⟩ : S36), (⟨bt513.1, bt513.2⟩ : S36)] : List (S36)))).bind fun t518 => (if t518 = true then (if t475 = 0 then ((cottonpadlaw06_span.f 39 48).bind fun bt519 => (if (t473 == bt519.1 && (t474 == bt519.2)) = true then (if t492 = 0 then (if t491 = 7 then ((cottonpadlaw06_building.f).bind fun bt521 => ((cottonpadlaw06_safe.f bt521.1 bt521.2 2 (-1) (-1)).bind fun t527 => (if t527 = true then ((cottonpadlaw06_safe.f t493 y500 1 0 (-1)).bind fun t528 => (some t528)) else (some false)))) else (some false)) else (some false)) else (some false))) else (some false)) else (some false)))))) else (some false)) else (some false)) = some r := H
   have A20 := Aside0.mk A200
   clear A200
   by_cases c21 : t508 = true
   ·subst c21
    have H1 : (if t463 = 0 then ((cottonpadlaw06_span.f 33 36).bind fun bt509 => ((cottonpadlaw06_span.f 36 45).bind fun bt511 => ((cottonpadlaw06_span.f 39 48).bind fun bt513 => ((cottonpadref06_SameSpans.f k t460 (([(⟨bt509.1, bt509.2⟩ : S36), (⟨bt511.1, bt511.2⟩ : S36), (⟨bt513.1, bt513.2⟩ : S36)] : List (S36)))).bind fun t518 => (if t518 = true then (if t475 = 0 then ((cottonpadlaw06_span.f 39 48).bind fun bt519 => (if (t473 == bt519.1 && (t474 == bt519.2)) = true then (if t492 = 0 then (if t491 = 7 then ((cottonpadlaw06_building.f).bind fun bt521 => ((cottonpadlaw06_safe.f bt521.1 bt521.2 2 (-1) (-1)).bind fun t527 => (if t527 = true then ((cottonpadlaw06_safe.f t493 y500 1 0 (-1)).bind fun t528 => (some t528)) else (some false)))) else (some false)) else (some false)) else (some false))) else (some false)) else (some false)))))) else (some false)) = some r := by rw [if_pos rfl] at H; exact H
    clear H
    have H := H1
    clear H1
    by_cases c22 : t463 = 0
    ·rw [if_pos c22] at H
     have c22b0 : (t463 == 0) = true := beq_iff_eq.mpr c22
     have c22b1 : (t463 != 0) = false := bne_eq_false_iff_eq.mpr c22
     clear c22
     replace H := Option.bind_eq_some_iff.mp H
     obtain ⟨⟨t509, t510⟩, A230, H⟩ := H
     replace H : ((cottonpadlaw06_span.f 36 45).bind fun bt511 => ((cottonpadlaw06_span.f 39 48).bind fun bt513 => ((cottonpadref06_SameSpans.f k t460 (([(⟨t509, t510⟩ : S36), (⟨bt511.1, bt511.2⟩ : S36), (⟨bt513.1, bt513.2⟩ : S36)] : List (S36)))).bind fun t518 => (if t518 = true then (if t475 = 0 then ((cottonpadlaw06_span.f 39 48).bind fun bt519 => (if (t473 == bt519.1 && (t474 == bt519.2)) = true then (if t492 = 0 then (if t491 = 7 then ((cottonpadlaw06_building.f).bind fun bt521 => ((cottonpadlaw06_safe.f bt521.1 bt521.2 2 (-1) (-1)).bind fun t527 => (if t527 = true then ((cottonpadlaw06_safe.f t493 y500 1 0 (-1)).bind fun t528 => (some t528)) else (some false)))) else (some false)) else (some false)) else (some false))) else (some false)) else (some false))))) = some r := H
     have A23 := Aside0.mk A230
     clear A230
     replace H := Option.bind_eq_some_iff.mp H
     obtain ⟨⟨t511, t512⟩, A240, H⟩ := H
     replace H : ((cottonpadlaw06_span.f 39 48).bind fun bt513 => ((cottonpadref06_SameSpans.f k t460 (([(⟨t509, t510⟩ : S36), (⟨t511, t512⟩ : S36), (⟨bt513.1, bt513.2⟩ : S36)] : List (S36)))).bind fun t518 => (if t518 = true then (if t475 = 0 then ((cottonpadlaw06_span.f 39 48).bind fun bt519 => (if (t473 == bt519.1 && (t474 == bt519.2)) = true then (if t492 = 0 then (if t491 = 7 then ((cottonpadlaw06_building.f).bind fun bt521 => ((cottonpadlaw06_safe.f bt521.1 bt521.2 2 (-1) (-1)).bind fun t527 => (if t527 = true then ((cottonpadlaw06_safe.f t493 y500 1 0 (-1)).bind fun t528 => (some t528)) else (some false)))) else (some false)) else (some false)) else (some false))) else (some false)) else (some false)))) = some r := H
     have A24 := Aside0.mk A240
     clear A240
     replace H := Option.bind_eq_some_iff.mp H
     obtain ⟨⟨t513, t514⟩, A250, H⟩ := H
     replace H : ((cottonpadref06_SameSpans.f k t460 (([(⟨t509, t510⟩ : S36), (⟨t511, t512⟩ : S36), (⟨t513, t514⟩ : S36)] : List (S36)))).bind fun t518 => (if t518 = true then (if t475 = 0 then ((cottonpadlaw06_span.f 39 48).bind fun bt519 => (if (t473 == bt519.1 && (t474 == bt519.2)) = true then (if t492 = 0 then (if t491 = 7 then ((cottonpadlaw06_building.f).bind fun bt521 => ((cottonpadlaw06_safe.f bt521.1 bt521.2 2 (-1) (-1)).bind fun t527 => (if t527 = true then ((cottonpadlaw06_safe.f t493 y500 1 0 (-1)).bind fun t528 => (some t528)) else (some false)))) else (some false)) else (some false)) else (some false))) else (some false)) else (some false))) = some r := H
     have A25 := Aside0.mk A250
     clear A250
     obtain ⟨y515, hy515⟩ : ∃ y_ : List (S36), y_ = (([(⟨t509, t510⟩ : S36), (⟨t511, t512⟩ : S36), (⟨t513, t514⟩ : S36)] : List (S36))) := ⟨_, rfl⟩
     replace H : ((cottonpadref06_SameSpans.f k t460 y515).bind fun t518 => (if t518 = true then (if t475 = 0 then ((cottonpadlaw06_span.f 39 48).bind fun bt519 => (if (t473 == bt519.1 && (t474 == bt519.2)) = true then (if t492 = 0 then (if t491 = 7 then ((cottonpadlaw06_building.f).bind fun bt521 => ((cottonpadlaw06_safe.f bt521.1 bt521.2 2 (-1) (-1)).bind fun t527 => (if t527 = true then ((cottonpadlaw06_safe.f t493 y500 1 0 (-1)).bind fun t528 => (some t528)) else (some false)))) else (some false)) else (some false)) else (some false))) else (some false)) else (some false))) = some r := by first | (rw [hy515]; with_reducible exact H) | (have H2_ := (Option.bind_some _ _).symm.trans H; rw [hy515]; with_reducible exact H2_) | (have H2_ := (Option.bind_some _ _).symm.trans H; with_reducible exact H2_) | with_reducible exact H | (rw [hy515]; exact H) | exact H
     have Ny515 := Aside0.mk hy515
     clear hy515
     replace H := Option.bind_eq_some_iff.mp H
     obtain ⟨t518, A260, H⟩ := H
     replace H : (if t518 = true then (if t475 = 0 then ((cottonpadlaw06_span.f 39 48).bind fun bt519 => (if (t473 == bt519.1 && (t474 == bt519.2)) = true then (if t492 = 0 then (if t491 = 7 then ((cottonpadlaw06_building.f).bind fun bt521 => ((cottonpadlaw06_safe.f bt521.1 bt521.2 2 (-1) (-1)).bind fun t527 => (if t527 = true then ((cottonpadlaw06_safe.f t493 y500 1 0 (-1)).bind fun t528 => (some t528)) else (some false)))) else (some false)) else (some false)) else (some false))) else (some false)) else (some false)) = some r := H
     have A26 := Aside0.mk A260
     clear A260
     by_cases c27 : t518 = true
     ·subst c27
      have H1 : (if t475 = 0 then ((cottonpadlaw06_span.f 39 48).bind fun bt519 => (if (t473 == bt519.1 && (t474 == bt519.2)) = true then (if t492 = 0 then (if t491 = 7 then ((cottonpadlaw06_building.f).bind fun bt521 => ((cottonpadlaw06_safe.f bt521.1 bt521.2 2 (-1) (-1)).bind fun t527 => (if t527 = true then ((cottonpadlaw06_safe.f t493 y500 1 0 (-1)).bind fun t528 => (some t528)) else (some false)))) else (some false)) else (some false)) else (some false))) else (some false)) = some r := by rw [if_pos rfl] at H; exact H
      clear H
      have H := H1
      clear H1
      by_cases c28 : t475 = 0
      ·rw [if_pos c28] at H
       have c28b0 : (t475 == 0) = true := beq_iff_eq.mpr c28
       have c28b1 : (t475 != 0) = false := bne_eq_false_iff_eq.mpr c28
       clear c28
       replace H := Option.bind_eq_some_iff.mp H
       obtain ⟨⟨t519, t520⟩, A290, H⟩ := H
       replace H : (if (t473 == t519 && (t474 == t520)) = true then (if t492 = 0 then (if t491 = 7 then ((cottonpadlaw06_building.f).bind fun bt521 => ((cottonpadlaw06_safe.f bt521.1 bt521.2 2 (-1) (-1)).bind fun t527 => (if t527 = true then ((cottonpadlaw06_safe.f t493 y500 1 0 (-1)).bind fun t528 => (some t528)) else (some false)))) else (some false)) else (some false)) else (some false)) = some r := H
       have A29 := Aside0.mk A290
       clear A290
       by_cases c30 : (t473 == t519 && (t474 == t520)) = true
       ·rw [if_pos c30] at H
        have c30b0 : (t473 == t519 && (t474 == t520)) = true := c30
        (try (have c30b1 : decide (t473 = t519 && (t474 == t520)) = true := by simpa using c30))
        (try (have c30b2 : (t473 == t519 && (t474 == t520)) = true := by simpa using c30))
        clear c30
        by_cases c31 : t492 = 0
        ·rw [if_pos c31] at H
         have c31b0 : (t492 == 0) = true := beq_iff_eq.mpr c31
         have c31b1 : (t492 != 0) = false := bne_eq_false_iff_eq.mpr c31
         clear c31
         by_cases c32 : t491 = 7
         ·rw [if_pos c32] at H
          have c32b0 : (t491 == 7) = true := beq_iff_eq.mpr c32
          have c32b1 : (t491 != 7) = false := bne_eq_false_iff_eq.mpr c32
          clear c32
          replace H := Option.bind_eq_some_iff.mp H
          obtain ⟨⟨t521, t524⟩, A330, H⟩ := H
          replace H : ((cottonpadlaw06_safe.f t521 t524 2 (-1) (-1)).bind fun t527 => (if t527 = true then ((cottonpadlaw06_safe.f t493 y500 1 0 (-1)).bind fun t528 => (some t528)) else (some false))) = some r := H
          have A33 := Aside0.mk A330
          clear A330
          replace H := Option.bind_eq_some_iff.mp H
          obtain ⟨t527, A340, H⟩ := H
          replace H : (if t527 = true then ((cottonpadlaw06_safe.f t493 y500 1 0 (-1)).bind fun t528 => (some t528)) else (some false)) = some r := H
          have A34 := Aside0.mk A340
          clear A340
          by_cases c35 : t527 = true
          ·subst c35
           have H1 : ((cottonpadlaw06_safe.f t493 y500 1 0 (-1)).bind fun t528 => (some t528)) = some r := by rw [if_pos rfl] at H; exact H
           clear H
           have H := H1
           clear H1
           replace H := Option.bind_eq_some_iff.mp H
           obtain ⟨t528, A360, H⟩ := H
           replace H : (some t528) = some r := H
           have A36 := Aside0.mk A360
           clear A360
           obtain rfl := Option.some.inj H
           go_enter Tryd.func30, Tryd.ntmps30
           try go_wp2_with (first | ((with_reducible refine gate_callee (f := 31) rfl ?_); refine goesL_ (some 11) rfl rfl Tryd.func31 (by kernel_rfl) rfl #[] rfl ls_ ?_; (with_reducible refine (cottonpadlaw06_building.calls  t438 t441 _ A1.out).mono ?_); rintro e w37 ⟨v439, v442, rfl, ho0, ho1, hb⟩; refine ⟨_, rfl, ?_⟩; have HO440 := Aside0.mk (Kd.R_lower ho0 (below_size (be_ HB))); have HO443 := Aside0.mk (Kd.R_lower ho1 (below_size (be_ HB))); replace HB := bs_ HB hb; (try clear hb); (try clear hb2); (try clear hk); (try clear hi); (try clear ho0); (try clear ho1)) | ((with_reducible refine gate_callee (f := 34) rfl ?_); refine goesL_ (some 12) rfl rfl Tryd.func34 (by kernel_rfl) rfl #[] rfl ls_ ?_; (with_reducible refine (cottonpadlaw06_people.calls  t444 _ A2.out).mono ?_); rintro e w38 ⟨v445, rfl, ho0, hb⟩; refine ⟨_, rfl, ?_⟩; replace HO440 := rb_ HO440 hb; replace HO443 := rb_ HO443 hb; have HO446 := Aside0.mk (Kd.R_lower ho0 (below_size (be_ HB))); replace HB := bs_ HB hb; (try clear hb); (try clear hb2); (try clear hk); (try clear hi); (try clear ho0); obtain ⟨Ao39, co39, eo39⟩ := Kd.R_slice HO440.out; subst eo39; obtain ⟨Ao40, co40, eo40⟩ := Kd.R_slice HO443.out; subst eo40; obtain ⟨Ao41, co41, eo41⟩ := Kd.R_slice HO446.out; subst eo41) | ((with_reducible refine gate_callee (f := 17) rfl ?_); refine goesL_ (some 13) rfl rfl Tryd.func17 (by kernel_rfl) rfl #[.agg #[.slice Ao39 t438.length co39, .slice Ao40 t441.length co40], .slice Ao41 t444.length co41, .int .i64 0] rfl ls_ ?_; (with_reducible refine (exits_Leaves.calls _ _ t438 _ _ t441 _ _ t444 0 t447 t450 _ ?side7 ?side1 ?side2 ?side3 ?side4 ?side5 ?side6 A3.out).mono ?_); (case side1 => exact kd_ (Kd.R_reads' HO440.out).2.2); (case side2 => exact (Kd.R_reads' HO440.out).2.1); (case side3 => exact kd_ (Kd.R_reads' HO443.out).2.2); (case side4 => exact (Kd.R_reads' HO443.out).2.1); (case side5 => exact kd_ (Kd.R_reads' HO446.out).2.2); (case side6 => exact (Kd.R_reads' HO446.out).2.1); (case side7 => exact GlobsE.below HG.out.1 (be_ HB)); rintro e w42 ⟨v448, rfl, ho0, hb⟩; refine ⟨_, rfl, ?_⟩; replace HO440 := rb_ HO440 hb; replace HO443 := rb_ HO443 hb; replace HO446 := rb_ HO446 hb; have HO449 := Aside0.mk (Kd.R_lower ho0 (below_size (be_ HB))); replace HB := bs_ HB hb; (try clear hb); (try clear hb2); (try clear hk); (try clear hi); (try clear ho0)) | ((with_reducible refine gate_callee (f := 31) rfl ?_); refine goesL_ (some 17) rfl rfl Tryd.func31 (by kernel_rfl) rfl #[] rfl ls_ ?_; (with_reducible refine (cottonpadlaw06_building.calls  t451 t454 _ A4.out).mono ?_); rintro e w43 ⟨v452, v455, rfl, ho0, ho1, hb⟩; refine ⟨_, rfl, ?_⟩; replace HO446 := rb_ HO446 hb; replace HO449 := rb_ HO449 hb; have HO453 := Aside0.mk (Kd.R_lower (Kd.R_new' ho0 (Kd.R_lt (ro_ HO440))) (below_size (be_ HB))); replace HO440 := Aside0.mk (Kd.R_elder' (ro_ HO440) (Kd.R_base ho0) hb); have HO456 := Aside0.mk (Kd.R_lower (Kd.R_new' ho1 (Kd.R_lt (ro_ HO443))) (below_size (be_ HB))); replace HO443 := Aside0.mk (Kd.R_elder' (ro_ HO443) (Kd.R_base ho1) hb); replace HB := bs_ HB hb; (try clear hb); (try clear hb2); (try clear hk); (try clear hi); (try clear ho0); (try clear ho1)) | ((with_reducible refine gate_callee (f := 34) rfl ?_); refine goesL_ (some 18) rfl rfl Tryd.func34 (by kernel_rfl) rfl #[] rfl ls_ ?_; (with_reducible refine (cottonpadlaw06_people.calls  t457 _ A5.out).mono ?_); rintro e w44 ⟨v458, rfl, ho0, hb⟩; refine ⟨_, rfl, ?_⟩; replace HO440 := rb_ HO440 hb; replace HO443 := rb_ HO443 hb; replace HO449 := rb_ HO449 hb; replace HO453 := rb_ HO453 hb; replace HO456 := rb_ HO456 hb; have HO459 := Aside0.mk (Kd.R_lower (Kd.R_new' ho0 (Kd.R_lt (ro_ HO446))) (below_size (be_ HB))); replace HO446 := Aside0.mk (Kd.R_elder' (ro_ HO446) (Kd.R_base ho0) hb); replace HB := bs_ HB hb; (try clear hb); (try clear hb2); (try clear hk); (try clear hi); (try clear ho0); obtain ⟨Ao45, co45, eo45⟩ := Kd.R_slice HO453.out; subst eo45; obtain ⟨Ao46, co46, eo46⟩ := Kd.R_slice HO456.out; subst eo46; obtain ⟨Ao47, co47, eo47⟩ := Kd.R_slice HO459.out; subst eo47) | ((with_reducible refine gate_callee (f := 17) rfl ?_); refine goesL_ (some 19) rfl rfl Tryd.func17 (by kernel_rfl) rfl #[.agg #[.slice Ao45 t451.length co45, .slice Ao46 t454.length co46], .slice Ao47 t457.length co47, .int .i64 1] rfl ls_ ?_; (with_reducible refine (exits_Leaves.calls _ _ t451 _ _ t454 _ _ t457 1 t460 t463 _ ?side7 ?side1 ?side2 ?side3 ?side4 ?side5 ?side6 A6.out).mono ?_); (case side1 => exact kd_ (Kd.R_reads' HO453.out).2.2); (case side2 => exact (Kd.R_reads' HO453.out).2.1); (case side3 => exact kd_ (Kd.R_reads' HO456.out).2.2); (case side4 => exact (Kd.R_reads' HO456.out).2.1); (case side5 => exact kd_ (Kd.R_reads' HO459.out).2.2); (case side6 => exact (Kd.R_reads' HO459.out).2.1); (case side7 => exact GlobsE.below HG.out.1 (be_ HB)); rintro e w48 ⟨v461, rfl, ho0, hb⟩; refine ⟨_, rfl, ?_⟩; replace HO440 := rb_ HO440 hb; replace HO443 := rb_ HO443 hb; replace HO446 := rb_ HO446 hb; replace HO453 := rb_ HO453 hb; replace HO456 := rb_ HO456 hb; replace HO459 := rb_ HO459 hb; have HO462 := Aside0.mk (Kd.R_lower (Kd.R_new' ho0 (Kd.R_lt (ro_ HO449))) (below_size (be_ HB))); replace HO449 := Aside0.mk (Kd.R_elder' (ro_ HO449) (Kd.R_base ho0) hb); replace HB := bs_ HB hb; (try clear hb); (try clear hb2); (try clear hk); (try clear hi); (try clear ho0)) | ((with_reducible refine gate_callee (f := 31) rfl ?_); refine goesL_ (some 23) rfl rfl Tryd.func31 (by kernel_rfl) rfl #[] rfl ls_ ?_; (with_reducible refine (cottonpadlaw06_building.calls  t464 t467 _ A7.out).mono ?_); rintro e w49 ⟨v465, v468, rfl, ho0, ho1, hb⟩; refine ⟨_, rfl, ?_⟩; replace HO446 := rb_ HO446 hb; replace HO449 := rb_ HO449 hb; replace HO459 := rb_ HO459 hb; replace HO462 := rb_ HO462 hb; have HO466 := Aside0.mk (Kd.R_lower (Kd.R_new' (Kd.R_new' ho0 (Kd.R_lt (ro_ HO440))) (Kd.R_lt (ro_ HO453))) (below_size (be_ HB))); replace HO440 := Aside0.mk (Kd.R_elder' (ro_ HO440) (Kd.R_base ho0) hb); replace HO453 := Aside0.mk (Kd.R_elder' (ro_ HO453) (Kd.R_base ho0) hb); have HO469 := Aside0.mk (Kd.R_lower (Kd.R_new' (Kd.R_new' ho1 (Kd.R_lt (ro_ HO443))) (Kd.R_lt (ro_ HO456))) (below_size (be_ HB))); replace HO443 := Aside0.mk (Kd.R_elder' (ro_ HO443) (Kd.R_base ho1) hb); replace HO456 := Aside0.mk (Kd.R_elder' (ro_ HO456) (Kd.R_base ho1) hb); replace HB := bs_ HB hb; (try clear hb); (try clear hb2); (try clear hk); (try clear hi); (try clear ho0); (try clear ho1)) | ((with_reducible refine gate_callee (f := 34) rfl ?_); refine goesL_ (some 24) rfl rfl Tryd.func34 (by kernel_rfl) rfl #[] rfl ls_ ?_; (with_reducible refine (cottonpadlaw06_people.calls  t470 _ A8.out).mono ?_); rintro e w50 ⟨v471, rfl, ho0, hb⟩; refine ⟨_, rfl, ?_⟩; replace HO440 := rb_ HO440 hb; replace HO443 := rb_ HO443 hb; replace HO449 := rb_ HO449 hb; replace HO453 := rb_ HO453 hb; replace HO456 := rb_ HO456 hb; replace HO462 := rb_ HO462 hb; replace HO466 := rb_ HO466 hb; replace HO469 := rb_ HO469 hb; have HO472 := Aside0.mk (Kd.R_lower (Kd.R_new' (Kd.R_new' ho0 (Kd.R_lt (ro_ HO446))) (Kd.R_lt (ro_ HO459))) (below_size (be_ HB))); replace HO446 := Aside0.mk (Kd.R_elder' (ro_ HO446) (Kd.R_base ho0) hb); replace HO459 := Aside0.mk (Kd.R_elder' (ro_ HO459) (Kd.R_base ho0) hb); replace HB := bs_ HB hb; (try clear hb); (try clear hb2); (try clear hk); (try clear hi); (try clear ho0); obtain ⟨Ao51, co51, eo51⟩ := Kd.R_slice HO466.out; subst eo51; obtain ⟨Ao52, co52, eo52⟩ := Kd.R_slice HO469.out; subst eo52; obtain ⟨Ao53, co53, eo53⟩ := Kd.R_slice HO472.out; subst eo53) | ((with_reducible refine gate_callee (f := 19) rfl ?_); refine goesL_ (some 25) rfl rfl Tryd.func19 (by kernel_rfl) rfl #[.agg #[.slice Ao51 t464.length co51, .slice Ao52 t467.length co52], .slice Ao53 t470.length co53] rfl ls_ ?_; (with_reducible refine (exits_Out.calls _ _ t464 _ _ t467 _ _ t470 t473 t474 t475 _ ?side7 ?side1 ?side2 ?side3 ?side4 ?side5 ?side6 A9.out).mono ?_); (case side1 => exact kd_ (Kd.R_reads' HO466.out).2.2); (case side2 => exact (Kd.R_reads' HO466.out).2.1); (case side3 => exact kd_ (Kd.R_reads' HO469.out).2.2); (case side4 => exact (Kd.R_reads' HO469.out).2.1); (case side5 => exact kd_ (Kd.R_reads' HO472.out).2.2); (case side6 => exact (Kd.R_reads' HO472.out).2.1); (case side7 => exact GlobsE.below HG.out.1 (be_ HB)); rintro e w54 ⟨rfl, hb⟩; refine ⟨_, rfl, ?_⟩; replace HO440 := rb_ HO440 hb; replace HO443 := rb_ HO443 hb; replace HO446 := rb_ HO446 hb; replace HO449 := rb_ HO449 hb; replace HO453 := rb_ HO453 hb; replace HO456 := rb_ HO456 hb; replace HO459 := rb_ HO459 hb; replace HO462 := rb_ HO462 hb; replace HO466 := rb_ HO466 hb; replace HO469 := rb_ HO469 hb; replace HO472 := rb_ HO472 hb; replace HB := bs_ HB hb; (try clear hb); (try clear hb2); (try clear hk); (try clear hi)) | ((with_reducible refine gate_dst (N := 5) rfl ?_); (try (refine gate_guard (by rfl) ?_; dsimp only)); refine box_event ?hg (N := 5) ?hd (cs := #[.int .i64 0, .int .i64 0]) (t := 36) ?hr ?_; (case hd => rfl); (case hg => rfl); (case hr => exact gs_); intro gb476 hg w55 hbox hb; replace HO440 := rb_ HO440 hb; replace HO443 := rb_ HO443 hb; replace HO446 := rb_ HO446 hb; replace HO449 := Aside0.mk (Kd.R_below (Kd.R_elderB (ro_ HO449) gb476 (Nat.le_of_eq hg.symm)) hb); replace HO453 := rb_ HO453 hb; replace HO456 := rb_ HO456 hb; replace HO459 := rb_ HO459 hb; replace HO462 := Aside0.mk (Kd.R_below (Kd.R_elderB (ro_ HO462) gb476 (Nat.le_of_eq hg.symm)) hb); replace HO466 := rb_ HO466 hb; replace HO469 := rb_ HO469 hb; replace HO472 := rb_ HO472 hb; have BK476 := Aside0.mk (hbox); have GW476 := hl_ hg (be_ HB); have GE476 := hl_ hg (be_ HB); replace HB := bs_ HB hb; clear hb hbox hg; have hcz56_0 : w55.cell? ⟨gb476, 0, none⟩ = some (.int .i64 0) := bc_ BK476 0; have hcz56_1 : w55.cell? ⟨gb476, 1, none⟩ = some (.int .i64 0) := bc_ BK476 1; have hfz56_0 := blk_frozen BK476.out 0; have hfz56_1 := blk_frozen BK476.out 1) | ((with_reducible refine gate_callee (f := 31) rfl ?_); refine goesL_ (some 29) rfl rfl Tryd.func31 (by kernel_rfl) rfl #[] rfl ls_ ?_; (with_reducible refine (cottonpadlaw06_building.calls  t477 t480 _ A10.out).mono ?_); rintro e w57 ⟨v478, v481, rfl, ho0, ho1, hb⟩; refine ⟨_, rfl, ?_⟩; replace HO446 := Aside0.mk (Kd.R_below (by (with_reducible repeat (first | apply Kd.R_alloc | apply Kd.R_drewN | apply Kd.R_drew)); exact (Kd.R_mono (Kd.R_far (p := ⟨gb476, 1, none⟩) (Kd.R_far (p := ⟨gb476, 0, none⟩) (Kd.R_types HO446.out BK476.out (by decide)) (fun _ hk => hk.2) (.int .i64 t473)) (fun _ hk => hk.2) (.int .i64 t474)) (fun _ h_ => h_.1))) hb); replace HO449 := Aside0.mk (Kd.R_below (by (with_reducible repeat (first | apply Kd.R_alloc | apply Kd.R_drewN | apply Kd.R_drew)); exact (Kd.R_mono (Kd.R_far (p := ⟨gb476, 1, none⟩) (Kd.R_far (p := ⟨gb476, 0, none⟩) (Kd.R_mono HO449.out (fun k_ hk => (⟨hk, hk.2⟩ : _ ∧ k_ ≠ gb476))) (fun _ hk => hk.2) (.int .i64 t473)) (fun _ hk => hk.2) (.int .i64 t474)) (fun _ h_ => h_.1))) hb); replace HO459 := Aside0.mk (Kd.R_below (by (with_reducible repeat (first | apply Kd.R_alloc | apply Kd.R_drewN | apply Kd.R_drew)); exact (Kd.R_mono (Kd.R_far (p := ⟨gb476, 1, none⟩) (Kd.R_far (p := ⟨gb476, 0, none⟩) (Kd.R_types HO459.out BK476.out (by decide)) (fun _ hk => hk.2) (.int .i64 t473)) (fun _ hk => hk.2) (.int .i64 t474)) (fun _ h_ => h_.1))) hb); replace HO462 := Aside0.mk (Kd.R_below (by (with_reducible repeat (first | apply Kd.R_alloc | apply Kd.R_drewN | apply Kd.R_drew)); exact (Kd.R_mono (Kd.R_far (p := ⟨gb476, 1, none⟩) (Kd.R_far (p := ⟨gb476, 0, none⟩) (Kd.R_mono HO462.out (fun k_ hk => (⟨hk, hk.2⟩ : _ ∧ k_ ≠ gb476))) (fun _ hk => hk.2) (.int .i64 t473)) (fun _ hk => hk.2) (.int .i64 t474)) (fun _ h_ => h_.1))) hb); replace HO472 := Aside0.mk (Kd.R_below (by (with_reducible repeat (first | apply Kd.R_alloc | apply Kd.R_drewN | apply Kd.R_drew)); exact (Kd.R_mono (Kd.R_far (p := ⟨gb476, 1, none⟩) (Kd.R_far (p := ⟨gb476, 0, none⟩) (Kd.R_types HO472.out BK476.out (by decide)) (fun _ hk => hk.2) (.int .i64 t473)) (fun _ hk => hk.2) (.int .i64 t474)) (fun _ h_ => h_.1))) hb); have HO479 := Aside0.mk (Kd.R_lower (Kd.R_new' (Kd.R_new' (Kd.R_new' ho0 (Kd.R_lt (by (with_reducible repeat (first | apply Kd.R_alloc | apply Kd.R_drewN | apply Kd.R_drew)); exact (Kd.R_mono (Kd.R_far (p := ⟨gb476, 1, none⟩) (Kd.R_far (p := ⟨gb476, 0, none⟩) (Kd.R_types HO440.out BK476.out (by decide)) (fun _ hk => hk.2) (.int .i64 t473)) (fun _ hk => hk.2) (.int .i64 t474)) (fun _ h_ => h_.1))))) (Kd.R_lt (by (with_reducible repeat (first | apply Kd.R_alloc | apply Kd.R_drewN | apply Kd.R_drew)); exact (Kd.R_mono (Kd.R_far (p := ⟨gb476, 1, none⟩) (Kd.R_far (p := ⟨gb476, 0, none⟩) (Kd.R_types HO453.out BK476.out (by decide)) (fun _ hk => hk.2) (.int .i64 t473)) (fun _ hk => hk.2) (.int .i64 t474)) (fun _ h_ => h_.1))))) (Kd.R_lt (by (with_reducible repeat (first | apply Kd.R_alloc | apply Kd.R_drewN | apply Kd.R_drew)); exact (Kd.R_mono (Kd.R_far (p := ⟨gb476, 1, none⟩) (Kd.R_far (p := ⟨gb476, 0, none⟩) (Kd.R_types HO466.out BK476.out (by decide)) (fun _ hk => hk.2) (.int .i64 t473)) (fun _ hk => hk.2) (.int .i64 t474)) (fun _ h_ => h_.1))))) (below_size (be1_ HB GE476))); replace HO440 := Aside0.mk (Kd.R_elder' (by (with_reducible repeat (first | apply Kd.R_alloc | apply Kd.R_drewN | apply Kd.R_drew)); exact (Kd.R_mono (Kd.R_far (p := ⟨gb476, 1, none⟩) (Kd.R_far (p := ⟨gb476, 0, none⟩) (Kd.R_types HO440.out BK476.out (by decide)) (fun _ hk => hk.2) (.int .i64 t473)) (fun _ hk => hk.2) (.int .i64 t474)) (fun _ h_ => h_.1))) (Kd.R_base ho0) hb); replace HO453 := Aside0.mk (Kd.R_elder' (by (with_reducible repeat (first | apply Kd.R_alloc | apply Kd.R_drewN | apply Kd.R_drew)); exact (Kd.R_mono (Kd.R_far (p := ⟨gb476, 1, none⟩) (Kd.R_far (p := ⟨gb476, 0, none⟩) (Kd.R_types HO453.out BK476.out (by decide)) (fun _ hk => hk.2) (.int .i64 t473)) (fun _ hk => hk.2) (.int .i64 t474)) (fun _ h_ => h_.1))) (Kd.R_base ho0) hb); replace HO466 := Aside0.mk (Kd.R_elder' (by (with_reducible repeat (first | apply Kd.R_alloc | apply Kd.R_drewN | apply Kd.R_drew)); exact (Kd.R_mono (Kd.R_far (p := ⟨gb476, 1, none⟩) (Kd.R_far (p := ⟨gb476, 0, none⟩) (Kd.R_types HO466.out BK476.out (by decide)) (fun _ hk => hk.2) (.int .i64 t473)) (fun _ hk => hk.2) (.int .i64 t474)) (fun _ h_ => h_.1))) (Kd.R_base ho0) hb); have HO482 := Aside0.mk (Kd.R_lower (Kd.R_new' (Kd.R_new' (Kd.R_new' ho1 (Kd.R_lt (by (with_reducible repeat (first | apply Kd.R_alloc | apply Kd.R_drewN | apply Kd.R_drew)); exact (Kd.R_mono (Kd.R_far (p := ⟨gb476, 1, none⟩) (Kd.R_far (p := ⟨gb476, 0, none⟩) (Kd.R_types HO443.out BK476.out (by decide)) (fun _ hk => hk.2) (.int .i64 t473)) (fun _ hk => hk.2) (.int .i64 t474)) (fun _ h_ => h_.1))))) (Kd.R_lt (by (with_reducible repeat (first | apply Kd.R_alloc | apply Kd.R_drewN | apply Kd.R_drew)); exact (Kd.R_mono (Kd.R_far (p := ⟨gb476, 1, none⟩) (Kd.R_far (p := ⟨gb476, 0, none⟩) (Kd.R_types HO456.out BK476.out (by decide)) (fun _ hk => hk.2) (.int .i64 t473)) (fun _ hk => hk.2) (.int .i64 t474)) (fun _ h_ => h_.1))))) (Kd.R_lt (by (with_reducible repeat (first | apply Kd.R_alloc | apply Kd.R_drewN | apply Kd.R_drew)); exact (Kd.R_mono (Kd.R_far (p := ⟨gb476, 1, none⟩) (Kd.R_far (p := ⟨gb476, 0, none⟩) (Kd.R_types HO469.out BK476.out (by decide)) (fun _ hk => hk.2) (.int .i64 t473)) (fun _ hk => hk.2) (.int .i64 t474)) (fun _ h_ => h_.1))))) (below_size (be1_ HB GE476))); replace HO443 := Aside0.mk (Kd.R_elder' (by (with_reducible repeat (first | apply Kd.R_alloc | apply Kd.R_drewN | apply Kd.R_drew)); exact (Kd.R_mono (Kd.R_far (p := ⟨gb476, 1, none⟩) (Kd.R_far (p := ⟨gb476, 0, none⟩) (Kd.R_types HO443.out BK476.out (by decide)) (fun _ hk => hk.2) (.int .i64 t473)) (fun _ hk => hk.2) (.int .i64 t474)) (fun _ h_ => h_.1))) (Kd.R_base ho1) hb); replace HO456 := Aside0.mk (Kd.R_elder' (by (with_reducible repeat (first | apply Kd.R_alloc | apply Kd.R_drewN | apply Kd.R_drew)); exact (Kd.R_mono (Kd.R_far (p := ⟨gb476, 1, none⟩) (Kd.R_far (p := ⟨gb476, 0, none⟩) (Kd.R_types HO456.out BK476.out (by decide)) (fun _ hk => hk.2) (.int .i64 t473)) (fun _ hk => hk.2) (.int .i64 t474)) (fun _ h_ => h_.1))) (Kd.R_base ho1) hb); replace HO469 := Aside0.mk (Kd.R_elder' (by (with_reducible repeat (first | apply Kd.R_alloc | apply Kd.R_drewN | apply Kd.R_drew)); exact (Kd.R_mono (Kd.R_far (p := ⟨gb476, 1, none⟩) (Kd.R_far (p := ⟨gb476, 0, none⟩) (Kd.R_types HO469.out BK476.out (by decide)) (fun _ hk => hk.2) (.int .i64 t473)) (fun _ hk => hk.2) (.int .i64 t474)) (fun _ h_ => h_.1))) (Kd.R_base ho1) hb); replace BK476 := Aside0.mk (blk_below (g := gb476) (o := .cells #[.int .i64 t473, .int .i64 t474] 36 (0, 0)) (by refine bx_ ?_; refine blk_put (cs := #[.int .i64 t473, .int .i64 0]) ?_ 1 _ rfl; refine bx_ ?_; refine blk_put (cs := #[.int .i64 0, .int .i64 0]) ?_ 0 _ rfl; refine bx_ ?_; exact BK476.out) hb); replace HB := bs1_ HB GE476 hb; (try clear hb); (try clear hb2); (try clear hk); (try clear hi); (try clear ho0); (try clear ho1)) | ((with_reducible refine gate_callee (f := 34) rfl ?_); refine goesL_ (some 30) rfl rfl Tryd.func34 (by kernel_rfl) rfl #[] rfl ls_ ?_; (with_reducible refine (cottonpadlaw06_people.calls  t483 _ A11.out).mono ?_); rintro e w58 ⟨v484, rfl, ho0, hb⟩; refine ⟨_, rfl, ?_⟩; replace HO440 := rb_ HO440 hb; replace HO443 := rb_ HO443 hb; replace HO449 := rb_ HO449 hb; replace HO453 := rb_ HO453 hb; replace HO456 := rb_ HO456 hb; replace HO462 := rb_ HO462 hb; replace HO466 := rb_ HO466 hb; replace HO469 := rb_ HO469 hb; replace HO479 := rb_ HO479 hb; replace HO482 := rb_ HO482 hb; have HO485 := Aside0.mk (Kd.R_lower (Kd.R_new' (Kd.R_new' (Kd.R_new' ho0 (Kd.R_lt (ro_ HO446))) (Kd.R_lt (ro_ HO459))) (Kd.R_lt (ro_ HO472))) (below_size (be1_ HB GE476))); replace HO446 := Aside0.mk (Kd.R_elder' (ro_ HO446) (Kd.R_base ho0) hb); replace HO459 := Aside0.mk (Kd.R_elder' (ro_ HO459) (Kd.R_base ho0) hb); replace HO472 := Aside0.mk (Kd.R_elder' (ro_ HO472) (Kd.R_base ho0) hb); replace BK476 := bb_ BK476 hb; replace HB := bs1_ HB GE476 hb; (try clear hb); (try clear hb2); (try clear hk); (try clear hi); (try clear ho0)) | ((with_reducible refine gate_callee (f := 35) rfl ?_); refine goesL_ (some 31) rfl rfl Tryd.func35 (by kernel_rfl) rfl #[] rfl ls_ ?_; (with_reducible refine (cottonpadlaw06_walker.calls  t486 t487 t488 t489 t490 _ A12.out).mono ?_); rintro e w59 ⟨rfl, hb⟩; refine ⟨_, rfl, ?_⟩; replace HO440 := rb_ HO440 hb; replace HO443 := rb_ HO443 hb; replace HO446 := rb_ HO446 hb; replace HO449 := rb_ HO449 hb; replace HO453 := rb_ HO453 hb; replace HO456 := rb_ HO456 hb; replace HO459 := rb_ HO459 hb; replace HO462 := rb_ HO462 hb; replace HO466 := rb_ HO466 hb; replace HO469 := rb_ HO469 hb; replace HO472 := rb_ HO472 hb; replace HO479 := rb_ HO479 hb; replace HO482 := rb_ HO482 hb; replace HO485 := rb_ HO485 hb; replace BK476 := bb_ BK476 hb; replace HB := bs1_ HB GE476 hb; (try clear hb); (try clear hb2); (try clear hk); (try clear hi); obtain ⟨Ao60, co60, eo60⟩ := Kd.R_slice HO479.out; subst eo60; obtain ⟨Ao61, co61, eo61⟩ := Kd.R_slice HO482.out; subst eo61; obtain ⟨Ao62, co62, eo62⟩ := Kd.R_slice HO485.out; subst eo62) | ((with_reducible refine gate_callee (f := 28) rfl ?_); refine goesL_ (some 32) rfl rfl Tryd.func28 (by kernel_rfl) rfl #[.agg #[.slice Ao60 t477.length co60, .slice Ao61 t480.length co61], .slice Ao62 t483.length co62, .agg #[.int .i64 t486, .int .i64 t487, .int .i64 t488, .int .i64 t489, .int .i64 t490]] rfl ls_ ?_; (with_reducible refine (exits_More.calls _ _ t477 _ _ t480 _ _ t483 t486 t487 t488 t489 t490 t491 t492 _ ?side7 ?side1 ?side2 ?side3 ?side4 ?side5 ?side6 A13.out).mono ?_); (case side1 => exact kd_ (Kd.R_reads' HO479.out).2.2); (case side2 => exact (Kd.R_reads' HO479.out).2.1); (case side3 => exact kd_ (Kd.R_reads' HO482.out).2.2); (case side4 => exact (Kd.R_reads' HO482.out).2.1); (case side5 => exact kd_ (Kd.R_reads' HO485.out).2.2); (case side6 => exact (Kd.R_reads' HO485.out).2.1); (case side7 => exact Globs.below HG.out (be1_ HB GE476)); rintro e w63 ⟨rfl, hb⟩; refine ⟨_, rfl, ?_⟩; replace HO440 := rb_ HO440 hb; replace HO443 := rb_ HO443 hb; replace HO446 := rb_ HO446 hb; replace HO449 := rb_ HO449 hb; replace HO453 := rb_ HO453 hb; replace HO456 := rb_ HO456 hb; replace HO459 := rb_ HO459 hb; replace HO462 := rb_ HO462 hb; replace HO466 := rb_ HO466 hb; replace HO469 := rb_ HO469 hb; replace HO472 := rb_ HO472 hb; replace HO479 := rb_ HO479 hb; replace HO482 := rb_ HO482 hb; replace HO485 := rb_ HO485 hb; replace BK476 := bb_ BK476 hb; replace HB := bs1_ HB GE476 hb; (try clear hb); (try clear hb2); (try clear hk); (try clear hi)) | ((with_reducible refine gate_callee (f := 31) rfl ?_); refine goesL_ (some 35) rfl rfl Tryd.func31 (by kernel_rfl) rfl #[] rfl ls_ ?_; (with_reducible refine (cottonpadlaw06_building.calls  t493 t496 _ A14.out).mono ?_); rintro e w64 ⟨v494, v497, rfl, ho0, ho1, hb⟩; refine ⟨_, rfl, ?_⟩; replace HO446 := rb_ HO446 hb; replace HO449 := rb_ HO449 hb; replace HO459 := rb_ HO459 hb; replace HO462 := rb_ HO462 hb; replace HO472 := rb_ HO472 hb; replace HO485 := rb_ HO485 hb; have HO495 := Aside0.mk (Kd.R_lower (Kd.R_new' (Kd.R_new' (Kd.R_new' (Kd.R_new' ho0 (Kd.R_lt (ro_ HO440))) (Kd.R_lt (ro_ HO453))) (Kd.R_lt (ro_ HO466))) (Kd.R_lt (ro_ HO479))) (below_size (be1_ HB GE476))); replace HO440 := Aside0.mk (Kd.R_elder' (ro_ HO440) (Kd.R_base ho0) hb); replace HO453 := Aside0.mk (Kd.R_elder' (ro_ HO453) (Kd.R_base ho0) hb); replace HO466 := Aside0.mk (Kd.R_elder' (ro_ HO466) (Kd.R_base ho0) hb); replace HO479 := Aside0.mk (Kd.R_elder' (ro_ HO479) (Kd.R_base ho0) hb); have HO498 := Aside0.mk (Kd.R_lower (Kd.R_new' (Kd.R_new' (Kd.R_new' (Kd.R_new' ho1 (Kd.R_lt (ro_ HO443))) (Kd.R_lt (ro_ HO456))) (Kd.R_lt (ro_ HO469))) (Kd.R_lt (ro_ HO482))) (below_size (be1_ HB GE476))); replace HO443 := Aside0.mk (Kd.R_elder' (ro_ HO443) (Kd.R_base ho1) hb); replace HO456 := Aside0.mk (Kd.R_elder' (ro_ HO456) (Kd.R_base ho1) hb); replace HO469 := Aside0.mk (Kd.R_elder' (ro_ HO469) (Kd.R_base ho1) hb); replace HO482 := Aside0.mk (Kd.R_elder' (ro_ HO482) (Kd.R_base ho1) hb); replace BK476 := bb_ BK476 hb; replace HB := bs1_ HB GE476 hb; (try clear hb); (try clear hb2); (try clear hk); (try clear hi); (try clear ho0); (try clear ho1)) | ((with_reducible refine gate_dst (N := 9) rfl ?_); (try (refine gate_guard (by rfl) ?_; dsimp only)); refine box_event ?hg (N := 9) ?hd (cs := #[.slice none 0 0, .slice none 0 0]) (t := 25) ?hr ?_; (case hd => rfl); (case hg => rfl); (case hr => exact gs_); intro gb499 hg w65 hbox hb; replace HO440 := rb_ HO440 hb; replace HO443 := rb_ HO443 hb; replace HO446 := rb_ HO446 hb; replace HO449 := rb_ HO449 hb; replace HO453 := rb_ HO453 hb; replace HO456 := rb_ HO456 hb; replace HO459 := rb_ HO459 hb; replace HO462 := rb_ HO462 hb; replace HO466 := rb_ HO466 hb; replace HO469 := rb_ HO469 hb; replace HO472 := rb_ HO472 hb; replace HO479 := rb_ HO479 hb; replace HO482 := rb_ HO482 hb; replace HO485 := rb_ HO485 hb; replace HO495 := rb_ HO495 hb; replace HO498 := rb_ HO498 hb; have BK499 := Aside0.mk (hbox); have GW499 := hl_ hg (be1_ HB GE476); have GE499 := hl_ hg (be1_ HB GE476); replace HB := bs1_ HB GE476 hb; have NB476_499 := Aside0.mk ((by rw [hg]; exact Nat.ne_of_lt (blk_lt (bk_ BK476)) : gb476 ≠ gb499)); have NB499_476 := Aside0.mk ((by rw [hg]; exact Nat.ne_of_gt (blk_lt (bk_ BK476)) : gb499 ≠ gb476)); replace BK476 := bb_ BK476 hb; clear hb hbox hg; obtain ⟨Ao66, co66, eo66⟩ := Kd.R_slice HO495.out; subst eo66; have hnb67 := NB499_476.out; have hnc67 := NB476_499.out; have hcz68_0 : w65.cell? ⟨gb499, 0, none⟩ = some (.slice none 0 0) := bc_ BK499 0; have hcz68_1 : w65.cell? ⟨gb499, 1, none⟩ = some (.slice none 0 0) := bc_ BK499 1; have hfz68_0 := blk_frozen BK499.out 0; have hfz68_1 := blk_frozen BK499.out 1; obtain ⟨Ao69, co69, eo69⟩ := Kd.R_slice HO498.out; subst eo69) | ((with_reducible refine gate_store (t := 25) (p := 9) rfl ?_); refine store_event (t := 25) (p := 9) (v := ?vo_w70) (w1 := ((w65.setCell ⟨gb499, 0, none⟩ (.slice Ao66 t493.length co66)).setCell ⟨gb499, 1, none⟩ (.slice Ao69 t496.length co69))) ?hg ?ho ?hn ?hr ?_; (case ho => rfl); (case hg => rfl); (case hn => rfl); (case hr => exact gs_); intro w70 hw; replace HO440 : Aside0 (Kd.R k62 62 w70 w.heap.size (fun k_ => some k_ ≠ (.slice Ao45 t451.length co45 : Value).ownBlock ∧ some k_ ≠ (.slice Ao51 t464.length co51 : Value).ownBlock ∧ some k_ ≠ (.slice Ao60 t477.length co60 : Value).ownBlock ∧ some k_ ≠ (.slice Ao66 t493.length co66 : Value).ownBlock) (.slice Ao39 t438.length co39) t438) := ⟨(by rw [hw]; exact (by refine rx_ ?_; exact Kd.R_mono (Kd.R_far (p := ⟨gb499, 1, none⟩) (Kd.R_far (p := ⟨gb499, 0, none⟩) (Kd.R_types HO440.out BK499.out (by decide)) (fun _ hk => hk.2) (.slice Ao66 t493.length co66)) (fun _ hk => hk.2) (.slice Ao69 t496.length co69)) (fun _ hk => ⟨hk.1.1.1.1.2, ⟨hk.1.1.1.2, ⟨hk.1.1.2, hk.1.2⟩⟩⟩)))⟩; replace HO443 : Aside0 (Kd.R k81 81 w70 w.heap.size (fun k_ => some k_ ≠ (.slice Ao46 t454.length co46 : Value).ownBlock ∧ some k_ ≠ (.slice Ao52 t467.length co52 : Value).ownBlock ∧ some k_ ≠ (.slice Ao61 t480.length co61 : Value).ownBlock ∧ some k_ ≠ (.slice Ao69 t496.length co69 : Value).ownBlock) (.slice Ao40 t441.length co40) t441) := ⟨(by rw [hw]; exact (by refine rx_ ?_; exact Kd.R_mono (Kd.R_far (p := ⟨gb499, 1, none⟩) (Kd.R_far (p := ⟨gb499, 0, none⟩) (Kd.R_types HO443.out BK499.out (by decide)) (fun _ hk => hk.2) (.slice Ao66 t493.length co66)) (fun _ hk => hk.2) (.slice Ao69 t496.length co69)) (fun _ hk => ⟨hk.1.1.1.1.2, ⟨hk.1.1.1.2, ⟨hk.1.1.2, hk.1.2⟩⟩⟩)))⟩; replace HO446 : Aside0 (Kd.R k48 48 w70 w.heap.size (fun k_ => some k_ ≠ (.slice Ao47 t457.length co47 : Value).ownBlock ∧ some k_ ≠ (.slice Ao53 t470.length co53 : Value).ownBlock ∧ some k_ ≠ (.slice Ao62 t483.length co62 : Value).ownBlock) (.slice Ao41 t444.length co41) t444) := ⟨(by rw [hw]; exact (by refine rx_ ?_; exact Kd.R_mono (Kd.R_far (p := ⟨gb499, 1, none⟩) (Kd.R_far (p := ⟨gb499, 0, none⟩) (Kd.R_types HO446.out BK499.out (by decide)) (fun _ hk => hk.2) (.slice Ao66 t493.length co66)) (fun _ hk => hk.2) (.slice Ao69 t496.length co69)) (fun _ hk => ⟨hk.1.1.1.2, ⟨hk.1.1.2, hk.1.2⟩⟩)))⟩; replace HO449 : Aside0 (Kd.R k36 36 w70 w.heap.size (fun k_ => some k_ ≠ (v461 : Value).ownBlock ∧ k_ ≠ gb476) v448 t447) := ⟨(by rw [hw]; exact (by refine rx_ ?_; exact Kd.R_mono (Kd.R_far (p := ⟨gb499, 1, none⟩) (Kd.R_far (p := ⟨gb499, 0, none⟩) (Kd.R_types HO449.out BK499.out (by decide)) (fun _ hk => hk.2) (.slice Ao66 t493.length co66)) (fun _ hk => hk.2) (.slice Ao69 t496.length co69)) (fun _ hk => ⟨hk.1.1.2, hk.1.2⟩)))⟩; replace HO453 : Aside0 (Kd.R k62 62 w70 w.heap.size (fun k_ => some k_ ≠ (.slice Ao39 t438.length co39 : Value).ownBlock ∧ some k_ ≠ (.slice Ao51 t464.length co51 : Value).ownBlock ∧ some k_ ≠ (.slice Ao60 t477.length co60 : Value).ownBlock ∧ some k_ ≠ (.slice Ao66 t493.length co66 : Value).ownBlock) (.slice Ao45 t451.length co45) t451) := ⟨(by rw [hw]; exact (by refine rx_ ?_; exact Kd.R_mono (Kd.R_far (p := ⟨gb499, 1, none⟩) (Kd.R_far (p := ⟨gb499, 0, none⟩) (Kd.R_types HO453.out BK499.out (by decide)) (fun _ hk => hk.2) (.slice Ao66 t493.length co66)) (fun _ hk => hk.2) (.slice Ao69 t496.length co69)) (fun _ hk => ⟨hk.1.1.1.1.2, ⟨hk.1.1.1.2, ⟨hk.1.1.2, hk.1.2⟩⟩⟩)))⟩; replace HO456 : Aside0 (Kd.R k81 81 w70 w.heap.size (fun k_ => some k_ ≠ (.slice Ao40 t441.length co40 : Value).ownBlock ∧ some k_ ≠ (.slice Ao52 t467.length co52 : Value).ownBlock ∧ some k_ ≠ (.slice Ao61 t480.length co61 : Value).ownBlock ∧ some k_ ≠ (.slice Ao69 t496.length co69 : Value).ownBlock) (.slice Ao46 t454.length co46) t454) := ⟨(by rw [hw]; exact (by refine rx_ ?_; exact Kd.R_mono (Kd.R_far (p := ⟨gb499, 1, none⟩) (Kd.R_far (p := ⟨gb499, 0, none⟩) (Kd.R_types HO456.out BK499.out (by decide)) (fun _ hk => hk.2) (.slice Ao66 t493.length co66)) (fun _ hk => hk.2) (.slice Ao69 t496.length co69)) (fun _ hk => ⟨hk.1.1.1.1.2, ⟨hk.1.1.1.2, ⟨hk.1.1.2, hk.1.2⟩⟩⟩)))⟩; replace HO459 : Aside0 (Kd.R k48 48 w70 w.heap.size (fun k_ => some k_ ≠ (.slice Ao41 t444.length co41 : Value).ownBlock ∧ some k_ ≠ (.slice Ao53 t470.length co53 : Value).ownBlock ∧ some k_ ≠ (.slice Ao62 t483.length co62 : Value).ownBlock) (.slice Ao47 t457.length co47) t457) := ⟨(by rw [hw]; exact (by refine rx_ ?_; exact Kd.R_mono (Kd.R_far (p := ⟨gb499, 1, none⟩) (Kd.R_far (p := ⟨gb499, 0, none⟩) (Kd.R_types HO459.out BK499.out (by decide)) (fun _ hk => hk.2) (.slice Ao66 t493.length co66)) (fun _ hk => hk.2) (.slice Ao69 t496.length co69)) (fun _ hk => ⟨hk.1.1.1.2, ⟨hk.1.1.2, hk.1.2⟩⟩)))⟩; replace HO462 : Aside0 (Kd.R k36 36 w70 w.heap.size (fun k_ => some k_ ≠ (v448 : Value).ownBlock ∧ k_ ≠ gb476) v461 t460) := ⟨(by rw [hw]; exact (by refine rx_ ?_; exact Kd.R_mono (Kd.R_far (p := ⟨gb499, 1, none⟩) (Kd.R_far (p := ⟨gb499, 0, none⟩) (Kd.R_types HO462.out BK499.out (by decide)) (fun _ hk => hk.2) (.slice Ao66 t493.length co66)) (fun _ hk => hk.2) (.slice Ao69 t496.length co69)) (fun _ hk => ⟨hk.1.1.2, hk.1.2⟩)))⟩; replace HO466 : Aside0 (Kd.R k62 62 w70 w.heap.size (fun k_ => some k_ ≠ (.slice Ao39 t438.length co39 : Value).ownBlock ∧ some k_ ≠ (.slice Ao45 t451.length co45 : Value).ownBlock ∧ some k_ ≠ (.slice Ao60 t477.length co60 : Value).ownBlock ∧ some k_ ≠ (.slice Ao66 t493.length co66 : Value).ownBlock) (.slice Ao51 t464.length co51) t464) := ⟨(by rw [hw]; exact (by refine rx_ ?_; exact Kd.R_mono (Kd.R_far (p := ⟨gb499, 1, none⟩) (Kd.R_far (p := ⟨gb499, 0, none⟩) (Kd.R_types HO466.out BK499.out (by decide)) (fun _ hk => hk.2) (.slice Ao66 t493.length co66)) (fun _ hk => hk.2) (.slice Ao69 t496.length co69)) (fun _ hk => ⟨hk.1.1.1.1.2, ⟨hk.1.1.1.2, ⟨hk.1.1.2, hk.1.2⟩⟩⟩)))⟩; replace HO469 : Aside0 (Kd.R k81 81 w70 w.heap.size (fun k_ => some k_ ≠ (.slice Ao40 t441.length co40 : Value).ownBlock ∧ some k_ ≠ (.slice Ao46 t454.length co46 : Value).ownBlock ∧ some k_ ≠ (.slice Ao61 t480.length co61 : Value).ownBlock ∧ some k_ ≠ (.slice Ao69 t496.length co69 : Value).ownBlock) (.slice Ao52 t467.length co52) t467) := ⟨(by rw [hw]; exact (by refine rx_ ?_; exact Kd.R_mono (Kd.R_far (p := ⟨gb499, 1, none⟩) (Kd.R_far (p := ⟨gb499, 0, none⟩) (Kd.R_types HO469.out BK499.out (by decide)) (fun _ hk => hk.2) (.slice Ao66 t493.length co66)) (fun _ hk => hk.2) (.slice Ao69 t496.length co69)) (fun _ hk => ⟨hk.1.1.1.1.2, ⟨hk.1.1.1.2, ⟨hk.1.1.2, hk.1.2⟩⟩⟩)))⟩; replace HO472 : Aside0 (Kd.R k48 48 w70 w.heap.size (fun k_ => some k_ ≠ (.slice Ao41 t444.length co41 : Value).ownBlock ∧ some k_ ≠ (.slice Ao47 t457.length co47 : Value).ownBlock ∧ some k_ ≠ (.slice Ao62 t483.length co62 : Value).ownBlock) (.slice Ao53 t470.length co53) t470) := ⟨(by rw [hw]; exact (by refine rx_ ?_; exact Kd.R_mono (Kd.R_far (p := ⟨gb499, 1, none⟩) (Kd.R_far (p := ⟨gb499, 0, none⟩) (Kd.R_types HO472.out BK499.out (by decide)) (fun _ hk => hk.2) (.slice Ao66 t493.length co66)) (fun _ hk => hk.2) (.slice Ao69 t496.length co69)) (fun _ hk => ⟨hk.1.1.1.2, ⟨hk.1.1.2, hk.1.2⟩⟩)))⟩; replace HO479 : Aside0 (Kd.R k62 62 w70 w.heap.size (fun k_ => some k_ ≠ (.slice Ao39 t438.length co39 : Value).ownBlock ∧ some k_ ≠ (.slice Ao45 t451.length co45 : Value).ownBlock ∧ some k_ ≠ (.slice Ao51 t464.length co51 : Value).ownBlock ∧ some k_ ≠ (.slice Ao66 t493.length co66 : Value).ownBlock) (.slice Ao60 t477.length co60) t477) := ⟨(by rw [hw]; exact (by refine rx_ ?_; exact Kd.R_mono (Kd.R_far (p := ⟨gb499, 1, none⟩) (Kd.R_far (p := ⟨gb499, 0, none⟩) (Kd.R_types HO479.out BK499.out (by decide)) (fun _ hk => hk.2) (.slice Ao66 t493.length co66)) (fun _ hk => hk.2) (.slice Ao69 t496.length co69)) (fun _ hk => ⟨hk.1.1.1.1.2, ⟨hk.1.1.1.2, ⟨hk.1.1.2, hk.1.2⟩⟩⟩)))⟩; replace HO482 : Aside0 (Kd.R k81 81 w70 w.heap.size (fun k_ => some k_ ≠ (.slice Ao40 t441.length co40 : Value).ownBlock ∧ some k_ ≠ (.slice Ao46 t454.length co46 : Value).ownBlock ∧ some k_ ≠ (.slice Ao52 t467.length co52 : Value).ownBlock ∧ some k_ ≠ (.slice Ao69 t496.length co69 : Value).ownBlock) (.slice Ao61 t480.length co61) t480) := ⟨(by rw [hw]; exact (by refine rx_ ?_; exact Kd.R_mono (Kd.R_far (p := ⟨gb499, 1, none⟩) (Kd.R_far (p := ⟨gb499, 0, none⟩) (Kd.R_types HO482.out BK499.out (by decide)) (fun _ hk => hk.2) (.slice Ao66 t493.length co66)) (fun _ hk => hk.2) (.slice Ao69 t496.length co69)) (fun _ hk => ⟨hk.1.1.1.1.2, ⟨hk.1.1.1.2, ⟨hk.1.1.2, hk.1.2⟩⟩⟩)))⟩; replace HO485 : Aside0 (Kd.R k48 48 w70 w.heap.size (fun k_ => some k_ ≠ (.slice Ao41 t444.length co41 : Value).ownBlock ∧ some k_ ≠ (.slice Ao47 t457.length co47 : Value).ownBlock ∧ some k_ ≠ (.slice Ao53 t470.length co53 : Value).ownBlock) (.slice Ao62 t483.length co62) t483) := ⟨(by rw [hw]; exact (by refine rx_ ?_; exact Kd.R_mono (Kd.R_far (p := ⟨gb499, 1, none⟩) (Kd.R_far (p := ⟨gb499, 0, none⟩) (Kd.R_types HO485.out BK499.out (by decide)) (fun _ hk => hk.2) (.slice Ao66 t493.length co66)) (fun _ hk => hk.2) (.slice Ao69 t496.length co69)) (fun _ hk => ⟨hk.1.1.1.2, ⟨hk.1.1.2, hk.1.2⟩⟩)))⟩; replace HO495 : Aside0 (Kd.R k62 62 w70 w.heap.size (fun k_ => some k_ ≠ (.slice Ao39 t438.length co39 : Value).ownBlock ∧ some k_ ≠ (.slice Ao45 t451.length co45 : Value).ownBlock ∧ some k_ ≠ (.slice Ao51 t464.length co51 : Value).ownBlock ∧ some k_ ≠ (.slice Ao60 t477.length co60 : Value).ownBlock) (.slice Ao66 t493.length co66) t493) := ⟨(by rw [hw]; exact (by refine rx_ ?_; exact Kd.R_mono (Kd.R_far (p := ⟨gb499, 1, none⟩) (Kd.R_far (p := ⟨gb499, 0, none⟩) (Kd.R_types HO495.out BK499.out (by decide)) (fun _ hk => hk.2) (.slice Ao66 t493.length co66)) (fun _ hk => hk.2) (.slice Ao69 t496.length co69)) (fun _ hk => ⟨hk.1.1.1.1.2, ⟨hk.1.1.1.2, ⟨hk.1.1.2, hk.1.2⟩⟩⟩)))⟩; replace HO498 : Aside0 (Kd.R k81 81 w70 w.heap.size (fun k_ => some k_ ≠ (.slice Ao40 t441.length co40 : Value).ownBlock ∧ some k_ ≠ (.slice Ao46 t454.length co46 : Value).ownBlock ∧ some k_ ≠ (.slice Ao52 t467.length co52 : Value).ownBlock ∧ some k_ ≠ (.slice Ao61 t480.length co61 : Value).ownBlock) (.slice Ao69 t496.length co69) t496) := ⟨(by rw [hw]; exact (by refine rx_ ?_; exact Kd.R_mono (Kd.R_far (p := ⟨gb499, 1, none⟩) (Kd.R_far (p := ⟨gb499, 0, none⟩) (Kd.R_types HO498.out BK499.out (by decide)) (fun _ hk => hk.2) (.slice Ao66 t493.length co66)) (fun _ hk => hk.2) (.slice Ao69 t496.length co69)) (fun _ hk => ⟨hk.1.1.1.1.2, ⟨hk.1.1.1.2, ⟨hk.1.1.2, hk.1.2⟩⟩⟩)))⟩; replace BK476 : Aside0 (w70.heap[gb476]? = some (.cells #[.int .i64 t473, .int .i64 t474] 36 (0, 0))) := ⟨(by rw [hw]; exact (by refine bx_ ?_; refine blk_far ?_ NB476_499.out _; refine bx_ ?_; refine blk_far ?_ NB476_499.out _; refine bx_ ?_; exact BK476.out))⟩; replace BK499 : Aside0 (w70.heap[gb499]? = some (.cells #[.slice Ao66 t493.length co66, .slice Ao69 t496.length co69] 25 (0, 0))) := ⟨(by rw [hw]; exact (by refine bx_ ?_; refine blk_put (cs := #[.slice Ao66 t493.length co66, .slice none 0 0]) ?_ 1 _ rfl; refine bx_ ?_; refine blk_put (cs := #[.slice none 0 0, .slice none 0 0]) ?_ 0 _ rfl; refine bx_ ?_; exact BK499.out))⟩; replace HB : Aside0 (Below w.heap.size w w70) := ⟨(by rw [hw]; exact (be2_ HB GE476 GE499))⟩; clear hw; have hcz71_0 : w70.cell? ⟨gb499, 0, none⟩ = some (.slice Ao66 t493.length co66) := bc_ BK499 0; have hcz71_1 : w70.cell? ⟨gb499, 1, none⟩ = some (.slice Ao69 t496.length co69) := bc_ BK499 1; have hfz71_0 := blk_frozen BK499.out 0; have hfz71_1 := blk_frozen BK499.out 1; have p16 : 0 ≤ (0 : Int) := (by omega); have q16 : (0 : Int) < ((t496.length : Int) : Int) := of_decide_eq_true as_; have qi16 : (0 < t496.length) = True := eq_true (by omega); obtain ⟨go16, co16, eo16, gb16, gl16, cl16, HG16⟩ := Kd.R_form HO498.out (by omega); (first | cases eo16 | (injection eo16 with ea_ en_ ec_; (first | subst ea_ | (injection ea_ with ea_; subst ea_)); subst ec_; clear en_)); have GB16 := Aside0.mk gb16; have GG16 := Aside0.mk HG16; clear gb16 gl16 HG16; obtain ⟨ce16, hcl16, hM16, hcc16, hfr16⟩ := Kd.R_elem HO498.out z81 (0 : Int) p16 q16; obtain rfl := k81_openM hM16; have hx16_0 : w70.cell? ⟨go16, (0 : Int).toNat * 4, none⟩ = some (.int .i64 ((rd_T81 t496 0).f0)) := hcc16 0 _ rfl; have hx16_1 : w70.cell? ⟨go16, (0 : Int).toNat * 4 + 1, none⟩ = some (.int .i64 ((rd_T81 t496 0).f1)) := hcc16 1 _ rfl; have hx16_2 : w70.cell? ⟨go16, (0 : Int).toNat * 4 + 2, none⟩ = some (.int .i64 ((rd_T81 t496 0).f2.f0)) := hcc16 2 _ rfl; have hx16_3 : w70.cell? ⟨go16, (0 : Int).toNat * 4 + 3, none⟩ = some (.int .i64 ((rd_T81 t496 0).f2.f1)) := hcc16 3 _ rfl; have hf16_0 : w70.frozen? ⟨go16, (0 : Int).toNat * 4, none⟩ = false := hfr16 0; have hf16_1 : w70.frozen? ⟨go16, (0 : Int).toNat * 4 + 1, none⟩ = false := hfr16 1; have hf16_2 : w70.frozen? ⟨go16, (0 : Int).toNat * 4 + 2, none⟩ = false := hfr16 2; have hf16_3 : w70.frozen? ⟨go16, (0 : Int).toNat * 4 + 3, none⟩ = false := hfr16 3; clear hcl16 hcc16 hfr16 hM16; (try rw [show ((0 : Int)).toNat = 0 from rfl] at hx16_0); (try simp only [Nat.reduceMul, Nat.zero_mul, Nat.zero_add, Nat.reduceAdd] at hx16_0); (try rw [show ((0 : Int)).toNat = 0 from rfl] at hf16_0); (try simp only [Nat.reduceMul, Nat.zero_mul, Nat.zero_add, Nat.reduceAdd] at hf16_0); (try rw [show ((0 : Int)).toNat = 0 from rfl] at hx16_1); (try simp only [Nat.reduceMul, Nat.zero_mul, Nat.zero_add, Nat.reduceAdd] at hx16_1); (try rw [show ((0 : Int)).toNat = 0 from rfl] at hf16_1); (try simp only [Nat.reduceMul, Nat.zero_mul, Nat.zero_add, Nat.reduceAdd] at hf16_1); (try rw [show ((0 : Int)).toNat = 0 from rfl] at hx16_2); (try simp only [Nat.reduceMul, Nat.zero_mul, Nat.zero_add, Nat.reduceAdd] at hx16_2); (try rw [show ((0 : Int)).toNat = 0 from rfl] at hf16_2); (try simp only [Nat.reduceMul, Nat.zero_mul, Nat.zero_add, Nat.reduceAdd] at hf16_2); (try rw [show ((0 : Int)).toNat = 0 from rfl] at hx16_3); (try simp only [Nat.reduceMul, Nat.zero_mul, Nat.zero_add, Nat.reduceAdd] at hx16_3); (try rw [show ((0 : Int)).toNat = 0 from rfl] at hf16_3); (try simp only [Nat.reduceMul, Nat.zero_mul, Nat.zero_add, Nat.reduceAdd] at hf16_3); replace p16 := eq_true p16; replace q16 := eq_true q16; have HX72 := Aside0.mk (show Kd.R k81 81 w70 w.heap.size (fun k_ => some k_ ≠ (.slice Ao40 t441.length co40 : Value).ownBlock ∧ some k_ ≠ (.slice Ao46 t454.length co46 : Value).ownBlock ∧ some k_ ≠ (.slice Ao52 t467.length co52 : Value).ownBlock ∧ some k_ ≠ (.slice Ao61 t480.length co61 : Value).ownBlock) (.slice (some ⟨go16, 0, none⟩) t496.length co69) t496 from (ro_ HO498)); obtain ⟨ce72, hcl72, hM72, hcc72, hfr72⟩ := Kd.R_elem HX72.out z81 (0 : Int) (by omega) (by have h_ : (0 : Int) < ((t496.length : Int) : Int) := of_decide_eq_true as_; first | exact h_ | (have e_ := (Kd.R_reads' HO498.out).1; omega) | simpa using h_); obtain rfl := k81_openM hM72; have HP72 := Kd.R_seg HX72.out (0 : Int) (by omega) (by have h_ : (0 : Int) < ((t496.length : Int) : Int) := of_decide_eq_true as_; first | exact h_ | (have e_ := (Kd.R_reads' HO498.out).1; omega) | simpa using h_) (seg := [.int .i64 27]) (j := 2) hcl72 hcc72 (show 3 ≤ 4 from by decide) (x' := (⟨(rd_T81 t496 0).f0, (rd_T81 t496 0).f1, (⟨27, (rd_T81 t496 0).f2.f1⟩ : S36)⟩ : S81)) (k81_mkM _ _ _ (⟨(rd_T81 t496 0).f0, (rd_T81 t496 0).f1, (⟨27, (rd_T81 t496 0).f2.f1⟩ : S36)⟩ : S81) ) (fun _ hk => hk); have hx72_2 := hcc72 2 _ rfl; (try simp only [show (k81).sz = 4 from rfl, Nat.mul_one, Nat.add_zero] at hx72_2); (try rw [show ((0 : Int)).toNat = 0 from rfl] at hx72_2); (try simp only [Nat.reduceMul, Nat.zero_mul, Nat.zero_add, Nat.reduceAdd] at hx72_2); have hf72_2 := hfr72 2; (try simp only [show (k81).sz = 4 from rfl, Nat.mul_one, Nat.add_zero] at hf72_2); (try rw [show ((0 : Int)).toNat = 0 from rfl] at hf72_2); (try simp only [Nat.reduceMul, Nat.zero_mul, Nat.zero_add, Nat.reduceAdd] at hf72_2); clear hcl72 hcc72 hfr72 hM72) | ((with_reducible refine gate_store (t := 3) (p := 40) rfl ?_); refine store_event (t := 3) (p := 40) (v := ?vo_w73) (w1 := (w70.setCell ⟨go16, 2, none⟩ (.int .i64 27))) ?hg ?ho ?hn ?hr ?_; (case ho => rfl); (case hg => rfl); (case hn => rfl); (case hr => exact gs_); intro w73 hw; have hg : w70.grownBy w73 (some go16) := (by rw [hw]; exact HP72.2); have hp_ : Kd.R k81 81 w73 w.heap.size (fun k_ => some k_ ≠ (.slice Ao40 t441.length co40 : Value).ownBlock ∧ some k_ ≠ (.slice Ao46 t454.length co46 : Value).ownBlock ∧ some k_ ≠ (.slice Ao52 t467.length co52 : Value).ownBlock ∧ some k_ ≠ (.slice Ao61 t480.length co61 : Value).ownBlock) (.slice (some ⟨go16, 0, none⟩) t496.length co69) y500 := (by rw [hw, Ny500.out]; exact HP72.1); clear HP72; replace HO440 := Aside0.mk (Kd.R_over' (v := (.slice (some ⟨go16, 0, none⟩) t496.length co69)) (ro_ HO440) (Kd.R_typed HO498.out) (by decide) hg); replace HO443 := Aside0.mk (Kd.R_after (v := (.slice (some ⟨go16, 0, none⟩) t496.length co69)) (v1 := (.slice (some ⟨go16, 0, none⟩) t496.length co69)) (ok := (fun k_ => some k_ ≠ (.slice Ao46 t454.length co46 : Value).ownBlock ∧ some k_ ≠ (.slice Ao52 t467.length co52 : Value).ownBlock ∧ some k_ ≠ (.slice Ao61 t480.length co61 : Value).ownBlock)) (by (with_reducible repeat (first | apply Kd.R_alloc | apply Kd.R_drewN | apply Kd.R_drew)); exact Kd.R_mono HO443.out (fun _ hk => ⟨⟨hk.1, ⟨hk.2.1, hk.2.2.1⟩⟩, hk.2.2.2⟩)) hg (.inl rfl)); replace HO446 := Aside0.mk (Kd.R_over' (v := (.slice (some ⟨go16, 0, none⟩) t496.length co69)) (ro_ HO446) (Kd.R_typed HO498.out) (by decide) hg); replace HO449 := Aside0.mk (Kd.R_over' (v := (.slice (some ⟨go16, 0, none⟩) t496.length co69)) (ro_ HO449) (Kd.R_typed HO498.out) (by decide) hg); replace HO453 := Aside0.mk (Kd.R_over' (v := (.slice (some ⟨go16, 0, none⟩) t496.length co69)) (ro_ HO453) (Kd.R_typed HO498.out) (by decide) hg); replace HO456 := Aside0.mk (Kd.R_after (v := (.slice (some ⟨go16, 0, none⟩) t496.length co69)) (v1 := (.slice (some ⟨go16, 0, none⟩) t496.length co69)) (ok := (fun k_ => some k_ ≠ (.slice Ao40 t441.length co40 : Value).ownBlock ∧ some k_ ≠ (.slice Ao52 t467.length co52 : Value).ownBlock ∧ some k_ ≠ (.slice Ao61 t480.length co61 : Value).ownBlock)) (by (with_reducible repeat (first | apply Kd.R_alloc | apply Kd.R_drewN | apply Kd.R_drew)); exact Kd.R_mono HO456.out (fun _ hk => ⟨⟨hk.1, ⟨hk.2.1, hk.2.2.1⟩⟩, hk.2.2.2⟩)) hg (.inl rfl)); replace HO459 := Aside0.mk (Kd.R_over' (v := (.slice (some ⟨go16, 0, none⟩) t496.length co69)) (ro_ HO459) (Kd.R_typed HO498.out) (by decide) hg); replace HO462 := Aside0.mk (Kd.R_over' (v := (.slice (some ⟨go16, 0, none⟩) t496.length co69)) (ro_ HO462) (Kd.R_typed HO498.out) (by decide) hg); replace HO466 := Aside0.mk (Kd.R_over' (v := (.slice (some ⟨go16, 0, none⟩) t496.length co69)) (ro_ HO466) (Kd.R_typed HO498.out) (by decide) hg); replace HO469 := Aside0.mk (Kd.R_after (v := (.slice (some ⟨go16, 0, none⟩) t496.length co69)) (v1 := (.slice (some ⟨go16, 0, none⟩) t496.length co69)) (ok := (fun k_ => some k_ ≠ (.slice Ao40 t441.length co40 : Value).ownBlock ∧ some k_ ≠ (.slice Ao46 t454.length co46 : Value).ownBlock ∧ some k_ ≠ (.slice Ao61 t480.length co61 : Value).ownBlock)) (by (with_reducible repeat (first | apply Kd.R_alloc | apply Kd.R_drewN | apply Kd.R_drew)); exact Kd.R_mono HO469.out (fun _ hk => ⟨⟨hk.1, ⟨hk.2.1, hk.2.2.1⟩⟩, hk.2.2.2⟩)) hg (.inl rfl)); replace HO472 := Aside0.mk (Kd.R_over' (v := (.slice (some ⟨go16, 0, none⟩) t496.length co69)) (ro_ HO472) (Kd.R_typed HO498.out) (by decide) hg); replace BK476 := Aside0.mk (blk_grown (g := gb476) (o := .cells #[.int .i64 t473, .int .i64 t474] 36 (0, 0)) (bk_ BK476) hg (Kd.R_ne HO498.out BK476.out (by decide))); replace HO479 := Aside0.mk (Kd.R_over' (v := (.slice (some ⟨go16, 0, none⟩) t496.length co69)) (ro_ HO479) (Kd.R_typed HO498.out) (by decide) hg); replace HO482 := Aside0.mk (Kd.R_after (v := (.slice (some ⟨go16, 0, none⟩) t496.length co69)) (v1 := (.slice (some ⟨go16, 0, none⟩) t496.length co69)) (ok := (fun k_ => some k_ ≠ (.slice Ao40 t441.length co40 : Value).ownBlock ∧ some k_ ≠ (.slice Ao46 t454.length co46 : Value).ownBlock ∧ some k_ ≠ (.slice Ao52 t467.length co52 : Value).ownBlock)) (by (with_reducible repeat (first | apply Kd.R_alloc | apply Kd.R_drewN | apply Kd.R_drew)); exact Kd.R_mono HO482.out (fun _ hk => ⟨⟨hk.1, ⟨hk.2.1, hk.2.2.1⟩⟩, hk.2.2.2⟩)) hg (.inl rfl)); replace HO485 := Aside0.mk (Kd.R_over' (v := (.slice (some ⟨go16, 0, none⟩) t496.length co69)) (ro_ HO485) (Kd.R_typed HO498.out) (by decide) hg); replace HO495 := Aside0.mk (Kd.R_over' (v := (.slice (some ⟨go16, 0, none⟩) t496.length co69)) (ro_ HO495) (Kd.R_typed HO498.out) (by decide) hg); replace BK499 := Aside0.mk (blk_grown (g := gb499) (o := .cells #[.slice Ao66 t493.length co66, .slice (some ⟨go16, 0, none⟩) t496.length co69] 25 (0, 0)) (bk_ BK499) hg (Kd.R_ne HO498.out BK499.out (by decide))); replace HO498 := Aside0.mk (hp_); replace HB := Aside0.mk ((by rw [hw]; exact below_set (HB.out) GB16.out : Below w.heap.size w w73)); clear hg hw hp_))
           replace HO440 := Aside0.mk (Kd.R_drew HO440.out)
           replace HO443 := Aside0.mk (Kd.R_drew HO443.out)
           replace HO446 := Aside0.mk (Kd.R_drew HO446.out)
           replace HO449 := Aside0.mk (Kd.R_drew HO449.out)
           replace HO453 := Aside0.mk (Kd.R_drew HO453.out)
           replace HO456 := Aside0.mk (Kd.R_drew HO456.out)
           replace HO459 := Aside0.mk (Kd.R_drew HO459.out)
           replace HO462 := Aside0.mk (Kd.R_drew HO462.out)
           replace HO466 := Aside0.mk (Kd.R_drew HO466.out)
           replace HO469 := Aside0.mk (Kd.R_drew HO469.out)
           replace HO472 := Aside0.mk (Kd.R_drew HO472.out)
           replace HO479 := Aside0.mk (Kd.R_drew HO479.out)
           replace HO482 := Aside0.mk (Kd.R_drew HO482.out)
           replace HO485 := Aside0.mk (Kd.R_drew HO485.out)
           replace HO495 := Aside0.mk (Kd.R_drew HO495.out)
           replace HO498 := Aside0.mk (Kd.R_drew HO498.out)
           replace BK476 := Aside0.mk (blk_drew BK476.out)
           replace BK499 := Aside0.mk (blk_drew BK499.out)
           replace HB := Aside0.mk (below_drew1 HB.out)
           refine start_ (n := 47) (S := fun w' => w'.cell? ⟨gb476, 0, none⟩ = some (.int .i64 t473) ∧ w'.cell? ⟨gb476, 1, none⟩ = some (.int .i64 t474) ∧ w'.cell? ⟨gb499, 0, none⟩ = some (.slice Ao66 t493.length co66) ∧ w'.cell? ⟨gb499, 1, none⟩ = some (.slice (some ⟨go16, 0, none⟩) t496.length co69)) (ds := []) (bm_ 47 0) (by kernel_rfl) rfl rfl ⟨bc_ BK476 0, bc_ BK476 1, bc_ BK499 0, bc_ BK499 1⟩ (fun hHeld => ?_); refine with_tabW cottonpadlaw06_alive.tab7 cottonpadlaw06_alive.bits7 (fun HT_ HW_ => ?_)
           generalize w73.drew = w74 at HO440 HO443 HO446 HO449 HO453 HO456 HO459 HO462 HO466 HO469 HO472 HO479 HO482 HO485 HO495 HO498 BK476 BK499 HB hHeld ⊢
           refine pr_ 0 41 47 1 HT_ rfl rfl ?_
           refine pr_ 1 42 47 3 HT_ rfl rfl ?_
           refine pr_ 2 43 47 7 HT_ rfl rfl ?_
           refine pr_ 3 44 47 15 HT_ rfl rfl ?_
           refine one_ (i := 4) (N := some 45) (bm_ 47 31) rfl rfl (one_of HT_.out (by kernel_rfl)) (by decide) (fun K hK => ?_)
           refine goes_ Tryd.func32 (by kernel_rfl) rfl #[.int .i64 30, .int .i64 40] (by rfl) rfl rfl ls_ ?_
           with_reducible refine (cottonpadlaw06_span.calls 30 40 t501 t502 _ A18.out).mono ?_
           rintro e w75 ⟨rfl, hb⟩
           refine ⟨_, rfl, ?_⟩
           replace HO440 := rb_ HO440 hb
           replace HO443 := rb_ HO443 hb
           replace HO446 := rb_ HO446 hb
           replace HO449 := rb_ HO449 hb
           replace HO453 := rb_ HO453 hb
           replace HO456 := rb_ HO456 hb
           replace HO459 := rb_ HO459 hb
           replace HO462 := rb_ HO462 hb
           replace HO466 := rb_ HO466 hb
           replace HO469 := rb_ HO469 hb
           replace HO472 := rb_ HO472 hb
           replace HO479 := rb_ HO479 hb
           replace HO482 := rb_ HO482 hb
           replace HO485 := rb_ HO485 hb
           replace HO495 := rb_ HO495 hb
           replace HO498 := rb_ HO498 hb
           replace BK476 := bb_ BK476 hb
           replace BK499 := bb_ BK499 hb
           replace HB := bs2_ HB GE476 GE499 hb
           (try clear hb)
           (try clear hb2)
           (try clear hk)
           (try clear hi)
           refine hK.out _ _ ⟨bc_ BK476 0, bc_ BK476 1, bc_ BK499 0, bc_ BK499 1⟩ (fun hHeld => ?_)
           clear hK K
           refine norm_ (a' := ?_) ?_ ?_
           rotate_left
           ·show Act.put _ (some 45) _ = _
            simp only [Act.put, List.setIfInBounds_toArray, List.set_cons_zero, List.set_cons_succ, i64_w, i32_w]
            rfl
           refine one_ (i := 5) (N := some 46) (bm_ 47 63) rfl rfl (one_of HT_.out (by kernel_rfl)) (by decide) (fun K hK => ?_)
           refine goes_ Tryd.func32 (by kernel_rfl) rfl #[.int .i64 32, .int .i64 42] (by rfl) rfl rfl ls_ ?_
           with_reducible refine (cottonpadlaw06_span.calls 32 42 t503 t504 _ A19.out).mono ?_
           rintro e w76 ⟨rfl, hb⟩
           refine ⟨_, rfl, ?_⟩
           replace HO440 := rb_ HO440 hb
           replace HO443 := rb_ HO443 hb
           replace HO446 := rb_ HO446 hb
           replace HO449 := rb_ HO449 hb
           replace HO453 := rb_ HO453 hb
           replace HO456 := rb_ HO456 hb
           replace HO459 := rb_ HO459 hb
           replace HO462 := rb_ HO462 hb
           replace HO466 := rb_ HO466 hb
           replace HO469 := rb_ HO469 hb
           replace HO472 := rb_ HO472 hb
           replace HO479 := rb_ HO479 hb
           replace HO482 := rb_ HO482 hb
           replace HO485 := rb_ HO485 hb
           replace HO495 := rb_ HO495 hb
           replace HO498 := rb_ HO498 hb
           replace BK476 := bb_ BK476 hb
           replace BK499 := bb_ BK499 hb
           replace HB := bs2_ HB GE476 GE499 hb
           (try clear hb)
           (try clear hb2)
           (try clear hk)
           (try clear hi)
           refine hK.out _ _ ⟨bc_ BK476 0, bc_ BK476 1, bc_ BK499 0, bc_ BK499 1⟩ (fun hHeld => ?_)
           clear hK K
           refine norm_ (a' := ?_) ?_ ?_
           rotate_left
           ·show Act.put _ (some 46) _ = _
            simp only [Act.put, List.setIfInBounds_toArray, List.set_cons_zero, List.set_cons_succ, i64_w, i32_w]
            rfl
           refine one_ (i := 6) (N := some 47) (bm_ 47 127) rfl rfl (one_of HT_.out (by kernel_rfl)) (by decide) (fun K hK => ?_)
           refine Kd.R_lit_step k36 _ 36 ?hg (N := 47) ?hd (xs := ([(⟨t501, t502⟩ : S36), (⟨t503, t504⟩ : S36)] : List (S36))) (inner := [.int .i64 t501, .int .i64 t502, .int .i64 t503, .int .i64 t504]) (ok := fun _ => True) (okp := fun _ => True) ?hr ?hp (fun _ hk => hk) trivial (Below.refl _ _) (Nat.le_refl _) (by simp) ?_; (case hd => rfl); (case hg => rfl); (case hr => exact gs_); (case hp => exact (Reps.c2 (show Kd.M k36 _ _ _ (⟨t501, t502⟩ : S36) [.int .i64 t501, .int .i64 t502] from (k36_mkM _ _ _ (⟨t501, t502⟩ : S36) )) (Reps.c2 (show Kd.M k36 _ _ _ (⟨t503, t504⟩ : S36) [.int .i64 t503, .int .i64 t504] from (k36_mkM _ _ _ (⟨t503, t504⟩ : S36) )) (Reps.none _ _))))
           intro v506 w77 ho78 hb hg_ hnew_
           clear hg_ hnew_
           (first | rw [← Ny505.out] at ho78 | (simp only [Int.reduceToNat] at ho78; rw [← Ny505.out] at ho78))
           replace HO440 := rb_ HO440 hb
           replace HO443 := rb_ HO443 hb
           replace HO446 := rb_ HO446 hb
           replace HO453 := rb_ HO453 hb
           replace HO456 := rb_ HO456 hb
           replace HO459 := rb_ HO459 hb
           replace HO466 := rb_ HO466 hb
           replace HO469 := rb_ HO469 hb
           replace HO472 := rb_ HO472 hb
           replace HO479 := rb_ HO479 hb
           replace HO482 := rb_ HO482 hb
           replace HO485 := rb_ HO485 hb
           replace HO495 := rb_ HO495 hb
           replace HO498 := rb_ HO498 hb
           have HO507 := Aside0.mk (Kd.R_lower (Kd.R_newB (Kd.R_new' (Kd.R_new' ho78 (Kd.R_lt (ro_ HO449))) (Kd.R_lt (ro_ HO462))) (g := gb476) (o := .cells #[.int .i64 t473, .int .i64 t474] 36 (0, 0)) (bk_ BK476)) (below_size (be2_ HB GE476 GE499)))
           replace HO449 := Aside0.mk (Kd.R_elder' (ro_ HO449) (Kd.R_base ho78) hb)
           replace HO462 := Aside0.mk (Kd.R_elder' (ro_ HO462) (Kd.R_base ho78) hb)
           replace BK476 := bb_ BK476 hb
           replace BK499 := bb_ BK499 hb
           replace HB := bs2_ HB GE476 GE499 hb
           clear hb ho78
           obtain ⟨Ao79, co79, eo79⟩ := Kd.R_slice HO449.out
           (first | subst eo79 | (injection eo79 with f1_ f2_ f3_; have f4_ := f1_.symm; have f5_ := f3_.symm; clear f1_ f2_ f3_; subst f4_; subst f5_))
           obtain ⟨Ao80, co80, eo80⟩ := Kd.R_slice HO507.out
           (first | subst eo80 | (injection eo80 with f1_ f2_ f3_; have f4_ := f1_.symm; have f5_ := f3_.symm; clear f1_ f2_ f3_; subst f4_; subst f5_))
           refine hK.out _ _ ⟨bc_ BK476 0, bc_ BK476 1, bc_ BK499 0, bc_ BK499 1⟩ (fun hHeld => ?_)
           clear hK K
           refine norm_ (a' := ?_) ?_ ?_
           rotate_left
           ·show Act.put _ (some 47) _ = _
            simp only [Act.put, List.setIfInBounds_toArray, List.set_cons_zero, List.set_cons_succ, i64_w, i32_w]
            rfl
           refine one_ (i := 7) (N := some 48) (bm_ 47 255) rfl rfl (one_of HT_.out (by kernel_rfl)) (by decide) (fun K hK => ?_)
           refine goes_ Tryd.func23 (by kernel_rfl) rfl #[.slice Ao79 t447.length co79, .slice Ao80 y505.length co80] (by rfl) rfl rfl ls_ ?_
           with_reducible refine (cottonpadref06_SameSpans.calls k _ _ t447 _ _ y505 true _ ?side1 ?side2 ?side3 ?side4 A20.out).mono ?_
           (case side1 => exact kd_ (Kd.R_reads' HO449.out).2.2)
           (case side2 => exact (Kd.R_reads' HO449.out).2.1)
           (case side3 => exact kd_ (Kd.R_reads' HO507.out).2.2)
           (case side4 => exact (Kd.R_reads' HO507.out).2.1)
           rintro e w' ⟨rfl, ⟨nd, rfl⟩⟩
           refine ⟨_, rfl, ?_⟩
           refine hK.out _ _ ⟨bc_ BK476 0, bc_ BK476 1, bc_ BK499 0, bc_ BK499 1⟩ (fun hHeld => ?_)
           clear hK K
           refine norm_ (a' := ?_) ?_ ?_
           rotate_left
           ·show Act.put _ (some 48) _ = _
            simp only [Act.put, List.setIfInBounds_toArray, List.set_cons_zero, List.set_cons_succ, i64_w, i32_w]
            rfl
           refine pr_ 8 49 47 511 HT_ rfl rfl ?_
           refine pr_ 9 50 47 1023 HT_ rfl rfl ?_
           refine pr_ 10 51 47 2047 HT_ rfl rfl ?_
           refine pr_ 11 52 47 4095 HT_ rfl rfl ?_
           refine pr_ 12 53 47 8191 HT_ rfl rfl ?_
           refine pr_ 13 54 47 16383 HT_ rfl rfl ?_
           refine pr_ 14 55 47 32767 HT_ rfl rfl ?_
           refine one_ (i := 15) (N := some 56) (bm_ 47 65535) rfl rfl (one_of HT_.out (by kernel_rfl)) (by decide) (fun K hK => ?_)
           refine goes_ Tryd.func32 (by kernel_rfl) rfl #[.int .i64 33, .int .i64 36] (by rfl) rfl rfl ls_ ?_
           with_reducible refine (cottonpadlaw06_span.calls 33 36 t509 t510 _ A23.out).mono ?_
           rintro e w81 ⟨rfl, hb⟩
           refine ⟨_, rfl, ?_⟩
           replace HO440 := rb_ HO440 hb
           replace HO443 := rb_ HO443 hb
           replace HO446 := rb_ HO446 hb
           replace HO449 := rb_ HO449 hb
           replace HO453 := rb_ HO453 hb
           replace HO456 := rb_ HO456 hb
           replace HO459 := rb_ HO459 hb
           replace HO462 := rb_ HO462 hb
           replace HO466 := rb_ HO466 hb
           replace HO469 := rb_ HO469 hb
           replace HO472 := rb_ HO472 hb
           replace HO479 := rb_ HO479 hb
           replace HO482 := rb_ HO482 hb
           replace HO485 := rb_ HO485 hb
           replace HO495 := rb_ HO495 hb
           replace HO498 := rb_ HO498 hb
           replace HO507 := rb_ HO507 hb
           replace BK476 := bb_ BK476 hb
           replace BK499 := bb_ BK499 hb
           replace HB := bs2_ HB GE476 GE499 hb
           (try clear hb)
           (try clear hb2)
           (try clear hk)
           (try clear hi)
           refine hK.out _ _ ⟨bc_ BK476 0, bc_ BK476 1, bc_ BK499 0, bc_ BK499 1⟩ (fun hHeld => ?_)
           clear hK K
           refine norm_ (a' := ?_) ?_ ?_
           rotate_left
           ·show Act.put _ (some 56) _ = _
            simp only [Act.put, List.setIfInBounds_toArray, List.set_cons_zero, List.set_cons_succ, i64_w, i32_w]
            rfl
           refine one_ (i := 16) (N := some 57) (bm_ 47 131071) rfl rfl (one_of HT_.out (by kernel_rfl)) (by decide) (fun K hK => ?_)
           refine goes_ Tryd.func32 (by kernel_rfl) rfl #[.int .i64 36, .int .i64 45] (by rfl) rfl rfl ls_ ?_
           with_reducible refine (cottonpadlaw06_span.calls 36 45 t511 t512 _ A24.out).mono ?_
           rintro e w82 ⟨rfl, hb⟩
           refine ⟨_, rfl, ?_⟩
           replace HO440 := rb_ HO440 hb
           replace HO443 := rb_ HO443 hb
           replace HO446 := rb_ HO446 hb
           replace HO449 := rb_ HO449 hb
           replace HO453 := rb_ HO453 hb
           replace HO456 := rb_ HO456 hb
           replace HO459 := rb_ HO459 hb
           replace HO462 := rb_ HO462 hb
           replace HO466 := rb_ HO466 hb
           replace HO469 := rb_ HO469 hb
           replace HO472 := rb_ HO472 hb
           replace HO479 := rb_ HO479 hb
           replace HO482 := rb_ HO482 hb
           replace HO485 := rb_ HO485 hb
           replace HO495 := rb_ HO495 hb
           replace HO498 := rb_ HO498 hb
           replace HO507 := rb_ HO507 hb
           replace BK476 := bb_ BK476 hb
           replace BK499 := bb_ BK499 hb
           replace HB := bs2_ HB GE476 GE499 hb
           (try clear hb)
           (try clear hb2)
           (try clear hk)
           (try clear hi)
           refine hK.out _ _ ⟨bc_ BK476 0, bc_ BK476 1, bc_ BK499 0, bc_ BK499 1⟩ (fun hHeld => ?_)
           clear hK K
           refine norm_ (a' := ?_) ?_ ?_
           rotate_left
           ·show Act.put _ (some 57) _ = _
            simp only [Act.put, List.setIfInBounds_toArray, List.set_cons_zero, List.set_cons_succ, i64_w, i32_w]
            rfl
           refine one_ (i := 17) (N := some 58) (bm_ 47 262143) rfl rfl (one_of HT_.out (by kernel_rfl)) (by decide) (fun K hK => ?_)
           refine goes_ Tryd.func32 (by kernel_rfl) rfl #[.int .i64 39, .int .i64 48] (by rfl) rfl rfl ls_ ?_
           with_reducible refine (cottonpadlaw06_span.calls 39 48 t513 t514 _ A25.out).mono ?_
           rintro e w83 ⟨rfl, hb⟩
           refine ⟨_, rfl, ?_⟩
           replace HO440 := rb_ HO440 hb
           replace HO443 := rb_ HO443 hb
           replace HO446 := rb_ HO446 hb
           replace HO449 := rb_ HO449 hb
           replace HO453 := rb_ HO453 hb
           replace HO456 := rb_ HO456 hb
           replace HO459 := rb_ HO459 hb
           replace HO462 := rb_ HO462 hb
           replace HO466 := rb_ HO466 hb
           replace HO469 := rb_ HO469 hb
           replace HO472 := rb_ HO472 hb
           replace HO479 := rb_ HO479 hb
           replace HO482 := rb_ HO482 hb
           replace HO485 := rb_ HO485 hb
           replace HO495 := rb_ HO495 hb
           replace HO498 := rb_ HO498 hb
           replace HO507 := rb_ HO507 hb
           replace BK476 := bb_ BK476 hb
           replace BK499 := bb_ BK499 hb
           replace HB := bs2_ HB GE476 GE499 hb
           (try clear hb)
           (try clear hb2)
           (try clear hk)
           (try clear hi)
           refine hK.out _ _ ⟨bc_ BK476 0, bc_ BK476 1, bc_ BK499 0, bc_ BK499 1⟩ (fun hHeld => ?_)
           clear hK K
           refine norm_ (a' := ?_) ?_ ?_
           rotate_left
           ·show Act.put _ (some 58) _ = _
            simp only [Act.put, List.setIfInBounds_toArray, List.set_cons_zero, List.set_cons_succ, i64_w, i32_w]
            rfl
           refine one_ (i := 18) (N := some 59) (bm_ 47 524287) rfl rfl (one_of HT_.out (by kernel_rfl)) (by decide) (fun K hK => ?_)
           refine Kd.R_lit_step k36 _ 36 ?hg (N := 59) ?hd (xs := ([(⟨t509, t510⟩ : S36), (⟨t511, t512⟩ : S36), (⟨t513, t514⟩ : S36)] : List (S36))) (inner := [.int .i64 t509, .int .i64 t510, .int .i64 t511, .int .i64 t512, .int .i64 t513, .int .i64 t514]) (ok := fun _ => True) (okp := fun _ => True) ?hr ?hp (fun _ hk => hk) trivial (Below.refl _ _) (Nat.le_refl _) (by simp) ?_; (case hd => rfl); (case hg => rfl); (case hr => exact gs_); (case hp => exact (Reps.c2 (show Kd.M k36 _ _ _ (⟨t509, t510⟩ : S36) [.int .i64 t509, .int .i64 t510] from (k36_mkM _ _ _ (⟨t509, t510⟩ : S36) )) (Reps.c2 (show Kd.M k36 _ _ _ (⟨t511, t512⟩ : S36) [.int .i64 t511, .int .i64 t512] from (k36_mkM _ _ _ (⟨t511, t512⟩ : S36) )) (Reps.c2 (show Kd.M k36 _ _ _ (⟨t513, t514⟩ : S36) [.int .i64 t513, .int .i64 t514] from (k36_mkM _ _ _ (⟨t513, t514⟩ : S36) )) (Reps.none _ _)))))
           intro v516 w84 ho85 hb hg_ hnew_
           clear hg_ hnew_
           (first | rw [← Ny515.out] at ho85 | (simp only [Int.reduceToNat] at ho85; rw [← Ny515.out] at ho85))
           replace HO440 := rb_ HO440 hb
           replace HO443 := rb_ HO443 hb
           replace HO446 := rb_ HO446 hb
           replace HO453 := rb_ HO453 hb
           replace HO456 := rb_ HO456 hb
           replace HO459 := rb_ HO459 hb
           replace HO466 := rb_ HO466 hb
           replace HO469 := rb_ HO469 hb
           replace HO472 := rb_ HO472 hb
           replace HO479 := rb_ HO479 hb
           replace HO482 := rb_ HO482 hb
           replace HO485 := rb_ HO485 hb
           replace HO495 := rb_ HO495 hb
           replace HO498 := rb_ HO498 hb
           have HO517 := Aside0.mk (Kd.R_lower (Kd.R_newB (Kd.R_new' (Kd.R_new' (Kd.R_new' ho85 (Kd.R_lt (ro_ HO449))) (Kd.R_lt (ro_ HO462))) (Kd.R_lt (ro_ HO507))) (g := gb476) (o := .cells #[.int .i64 t473, .int .i64 t474] 36 (0, 0)) (bk_ BK476)) (below_size (be2_ HB GE476 GE499)))
           replace HO449 := Aside0.mk (Kd.R_elder' (ro_ HO449) (Kd.R_base ho85) hb)
           replace HO462 := Aside0.mk (Kd.R_elder' (ro_ HO462) (Kd.R_base ho85) hb)
           replace HO507 := Aside0.mk (Kd.R_elder' (ro_ HO507) (Kd.R_base ho85) hb)
           replace BK476 := bb_ BK476 hb
           replace BK499 := bb_ BK499 hb
           replace HB := bs2_ HB GE476 GE499 hb
           clear hb ho85
           obtain ⟨Ao86, co86, eo86⟩ := Kd.R_slice HO462.out
           (first | subst eo86 | (injection eo86 with f1_ f2_ f3_; have f4_ := f1_.symm; have f5_ := f3_.symm; clear f1_ f2_ f3_; subst f4_; subst f5_))
           obtain ⟨Ao87, co87, eo87⟩ := Kd.R_slice HO517.out
           (first | subst eo87 | (injection eo87 with f1_ f2_ f3_; have f4_ := f1_.symm; have f5_ := f3_.symm; clear f1_ f2_ f3_; subst f4_; subst f5_))
           refine hK.out _ _ ⟨bc_ BK476 0, bc_ BK476 1, bc_ BK499 0, bc_ BK499 1⟩ (fun hHeld => ?_)
           clear hK K
           refine norm_ (a' := ?_) ?_ ?_
           rotate_left
           ·show Act.put _ (some 59) _ = _
            simp only [Act.put, List.setIfInBounds_toArray, List.set_cons_zero, List.set_cons_succ, i64_w, i32_w]
            rfl
           refine one_ (i := 19) (N := some 60) (bm_ 47 1048575) rfl rfl (one_of HT_.out (by kernel_rfl)) (by decide) (fun K hK => ?_)
           refine goes_ Tryd.func23 (by kernel_rfl) rfl #[.slice Ao86 t460.length co86, .slice Ao87 y515.length co87] (by rfl) rfl rfl ls_ ?_
           with_reducible refine (cottonpadref06_SameSpans.calls k _ _ t460 _ _ y515 true _ ?side1 ?side2 ?side3 ?side4 A26.out).mono ?_
           (case side1 => exact kd_ (Kd.R_reads' HO462.out).2.2)
           (case side2 => exact (Kd.R_reads' HO462.out).2.1)
           (case side3 => exact kd_ (Kd.R_reads' HO517.out).2.2)
           (case side4 => exact (Kd.R_reads' HO517.out).2.1)
           rintro e w' ⟨rfl, ⟨nd, rfl⟩⟩
           refine ⟨_, rfl, ?_⟩
           refine hK.out _ _ ⟨bc_ BK476 0, bc_ BK476 1, bc_ BK499 0, bc_ BK499 1⟩ (fun hHeld => ?_)
           clear hK K
           refine norm_ (a' := ?_) ?_ ?_
           rotate_left
           ·show Act.put _ (some 60) _ = _
            simp only [Act.put, List.setIfInBounds_toArray, List.set_cons_zero, List.set_cons_succ, i64_w, i32_w]
            rfl
           refine pr_ 20 61 47 2097151 HT_ rfl rfl ?_
           refine pr_ 21 62 47 4194303 HT_ rfl rfl ?_
           refine pr_ 22 63 47 8388607 HT_ rfl rfl ?_
           refine pr_ 23 64 47 16777215 HT_ rfl rfl ?_
           refine pr_ 24 65 47 33554431 HT_ rfl rfl ?_
           refine pr_ 25 66 47 67108863 HT_ rfl rfl ?_
           refine ta_ 26 67 47 134217727 HT_ HW_ rfl rfl hHeld ?_
           refine one_ (i := 27) (N := some 68) (bm_ 47 268435455) rfl rfl (one_of HT_.out (by kernel_rfl)) (by decide) (fun K hK => ?_)
           refine goes_ Tryd.func32 (by kernel_rfl) rfl #[.int .i64 39, .int .i64 48] (by rfl) rfl rfl ls_ ?_
           with_reducible refine (cottonpadlaw06_span.calls 39 48 t519 t520 _ A29.out).mono ?_
           rintro e w88 ⟨rfl, hb⟩
           refine ⟨_, rfl, ?_⟩
           replace HO440 := rb_ HO440 hb
           replace HO443 := rb_ HO443 hb
           replace HO446 := rb_ HO446 hb
           replace HO449 := rb_ HO449 hb
           replace HO453 := rb_ HO453 hb
           replace HO456 := rb_ HO456 hb
           replace HO459 := rb_ HO459 hb
           replace HO462 := rb_ HO462 hb
           replace HO466 := rb_ HO466 hb
           replace HO469 := rb_ HO469 hb
           replace HO472 := rb_ HO472 hb
           replace HO479 := rb_ HO479 hb
           replace HO482 := rb_ HO482 hb
           replace HO485 := rb_ HO485 hb
           replace HO495 := rb_ HO495 hb
           replace HO498 := rb_ HO498 hb
           replace HO507 := rb_ HO507 hb
           replace HO517 := rb_ HO517 hb
           replace BK476 := bb_ BK476 hb
           replace BK499 := bb_ BK499 hb
           replace HB := bs2_ HB GE476 GE499 hb
           (try clear hb)
           (try clear hb2)
           (try clear hk)
           (try clear hi)
           refine hK.out _ _ ⟨bc_ BK476 0, bc_ BK476 1, bc_ BK499 0, bc_ BK499 1⟩ (fun hHeld => ?_)
           clear hK K
           refine norm_ (a' := ?_) ?_ ?_
           rotate_left
           ·show Act.put _ (some 68) _ = _
            simp only [Act.put, List.setIfInBounds_toArray, List.set_cons_zero, List.set_cons_succ, i64_w, i32_w]
            rfl
           refine pr_ 28 69 47 536870911 HT_ rfl rfl ?_
           refine pr_ 29 70 47 1073741823 HT_ rfl rfl ?_
           refine pr_ 30 71 47 2147483647 HT_ rfl rfl ?_
           refine pr_ 31 72 47 4294967295 HT_ rfl rfl ?_
           refine pr_ 32 73 47 8589934591 HT_ rfl rfl ?_
           refine pr_ 33 74 47 17179869183 HT_ rfl rfl ?_
           refine pr_ 34 75 47 34359738367 HT_ rfl rfl ?_
           refine pr_ 35 76 47 68719476735 HT_ rfl rfl ?_
           refine pr_ 36 77 47 137438953471 HT_ rfl rfl ?_
           refine pr_ 37 78 47 274877906943 HT_ rfl rfl ?_
           refine pr_ 38 79 47 549755813887 HT_ rfl rfl ?_
           refine one_ (i := 39) (N := some 80) (bm_ 47 1099511627775) rfl rfl (one_of HT_.out (by kernel_rfl)) (by decide) (fun K hK => ?_)
           refine goes_ Tryd.func31 (by kernel_rfl) rfl #[] (by rfl) rfl rfl ls_ ?_
           with_reducible refine (cottonpadlaw06_building.calls  t521 t524 _ A33.out).mono ?_
           rintro e w89 ⟨v522, v525, rfl, ho0, ho1, hb⟩
           refine ⟨_, rfl, ?_⟩
           replace HO446 := rb_ HO446 hb
           replace HO449 := rb_ HO449 hb
           replace HO459 := rb_ HO459 hb
           replace HO462 := rb_ HO462 hb
           replace HO472 := rb_ HO472 hb
           replace HO485 := rb_ HO485 hb
           replace HO507 := rb_ HO507 hb
           replace HO517 := rb_ HO517 hb
           have HO523 := Aside0.mk (Kd.R_lower (Kd.R_new' (Kd.R_new' (Kd.R_new' (Kd.R_new' (Kd.R_new' ho0 (Kd.R_lt (ro_ HO440))) (Kd.R_lt (ro_ HO453))) (Kd.R_lt (ro_ HO466))) (Kd.R_lt (ro_ HO479))) (Kd.R_lt (ro_ HO495))) (below_size (be2_ HB GE476 GE499)))
           replace HO440 := Aside0.mk (Kd.R_elder' (ro_ HO440) (Kd.R_base ho0) hb)
           replace HO453 := Aside0.mk (Kd.R_elder' (ro_ HO453) (Kd.R_base ho0) hb)
           replace HO466 := Aside0.mk (Kd.R_elder' (ro_ HO466) (Kd.R_base ho0) hb)
           replace HO479 := Aside0.mk (Kd.R_elder' (ro_ HO479) (Kd.R_base ho0) hb)
           replace HO495 := Aside0.mk (Kd.R_elder' (ro_ HO495) (Kd.R_base ho0) hb)
           have HO526 := Aside0.mk (Kd.R_lower (Kd.R_new' (Kd.R_new' (Kd.R_new' (Kd.R_new' (Kd.R_new' ho1 (Kd.R_lt (ro_ HO443))) (Kd.R_lt (ro_ HO456))) (Kd.R_lt (ro_ HO469))) (Kd.R_lt (ro_ HO482))) (Kd.R_lt (ro_ HO498))) (below_size (be2_ HB GE476 GE499)))
           replace HO443 := Aside0.mk (Kd.R_elder' (ro_ HO443) (Kd.R_base ho1) hb)
           replace HO456 := Aside0.mk (Kd.R_elder' (ro_ HO456) (Kd.R_base ho1) hb)
           replace HO469 := Aside0.mk (Kd.R_elder' (ro_ HO469) (Kd.R_base ho1) hb)
           replace HO482 := Aside0.mk (Kd.R_elder' (ro_ HO482) (Kd.R_base ho1) hb)
           replace HO498 := Aside0.mk (Kd.R_elder' (ro_ HO498) (Kd.R_base ho1) hb)
           replace BK476 := bb_ BK476 hb
           replace BK499 := bb_ BK499 hb
           replace HB := bs2_ HB GE476 GE499 hb
           (try clear hb)
           (try clear hb2)
           (try clear hk)
           (try clear hi)
           (try clear ho0)
           (try clear ho1)
           obtain ⟨Ao90, co90, eo90⟩ := Kd.R_slice HO523.out
           (first | subst eo90 | (injection eo90 with f1_ f2_ f3_; have f4_ := f1_.symm; have f5_ := f3_.symm; clear f1_ f2_ f3_; subst f4_; subst f5_))
           obtain ⟨Ao91, co91, eo91⟩ := Kd.R_slice HO526.out
           (first | subst eo91 | (injection eo91 with f1_ f2_ f3_; have f4_ := f1_.symm; have f5_ := f3_.symm; clear f1_ f2_ f3_; subst f4_; subst f5_))
           refine hK.out _ _ ⟨bc_ BK476 0, bc_ BK476 1, bc_ BK499 0, bc_ BK499 1⟩ (fun hHeld => ?_)
           clear hK K
           refine norm_ (a' := ?_) ?_ ?_
           rotate_left
           ·show Act.put _ (some 80) _ = _
            simp only [Act.put, List.setIfInBounds_toArray, List.set_cons_zero, List.set_cons_succ, i64_w, i32_w]
            rfl
           refine one_ (i := 40) (N := some 81) (bm_ 47 2199023255551) rfl rfl (one_of HT_.out (by kernel_rfl)) (by decide) (fun K hK => ?_)
           refine goes_ Tryd.func33 (by kernel_rfl) rfl #[.agg #[.slice Ao90 t521.length co90, .slice Ao91 t524.length co91], .int .u8 2, .int .i64 (-1), .int .i64 (-1)] (by rfl) rfl rfl ls_ ?_
           with_reducible refine (cottonpadlaw06_safe.calls _ _ t521 _ _ t524 2 (-1) (-1) true _ ?side5 ?side1 ?side2 ?side3 ?side4 A34.out).mono ?_
           (case side1 => exact kd_ (Kd.R_reads' HO523.out).2.2)
           (case side2 => exact (Kd.R_reads' HO523.out).2.1)
           (case side3 => exact kd_ (Kd.R_reads' HO526.out).2.2)
           (case side4 => exact (Kd.R_reads' HO526.out).2.1)
           (case side5 => exact Globs.below HG.out (be2_ HB GE476 GE499))
           rintro e w92 ⟨rfl, hb⟩
           refine ⟨_, rfl, ?_⟩
           replace HO440 := rb_ HO440 hb
           replace HO443 := rb_ HO443 hb
           replace HO446 := rb_ HO446 hb
           replace HO449 := rb_ HO449 hb
           replace HO453 := rb_ HO453 hb
           replace HO456 := rb_ HO456 hb
           replace HO459 := rb_ HO459 hb
           replace HO462 := rb_ HO462 hb
           replace HO466 := rb_ HO466 hb
           replace HO469 := rb_ HO469 hb
           replace HO472 := rb_ HO472 hb
           replace HO479 := rb_ HO479 hb
           replace HO482 := rb_ HO482 hb
           replace HO485 := rb_ HO485 hb
           replace HO495 := rb_ HO495 hb
           replace HO498 := rb_ HO498 hb
           replace HO507 := rb_ HO507 hb
           replace HO517 := rb_ HO517 hb
           replace HO523 := rb_ HO523 hb
           replace HO526 := rb_ HO526 hb
           replace BK476 := bb_ BK476 hb
           replace BK499 := bb_ BK499 hb
           replace HB := bs2_ HB GE476 GE499 hb
           (try clear hb)
           (try clear hb2)
           (try clear hk)
           (try clear hi)
           refine hK.out _ _ ⟨bc_ BK476 0, bc_ BK476 1, bc_ BK499 0, bc_ BK499 1⟩ (fun hHeld => ?_)
           clear hK K
           refine norm_ (a' := ?_) ?_ ?_
           rotate_left
           ·show Act.put _ (some 81) _ = _
            simp only [Act.put, List.setIfInBounds_toArray, List.set_cons_zero, List.set_cons_succ, i64_w, i32_w]
            rfl
           refine pr_ 41 82 47 4398046511103 HT_ rfl rfl ?_
           refine pr_ 42 83 47 8796093022207 HT_ rfl rfl ?_
           refine ta_ 43 84 47 17592186044415 HT_ HW_ rfl rfl hHeld ?_
           refine one_ (i := 44) (N := some 85) (bm_ 47 35184372088831) rfl rfl (one_of HT_.out (by kernel_rfl)) (by decide) (fun K hK => ?_)
           refine goes_ Tryd.func33 (by kernel_rfl) rfl #[.agg #[.slice Ao66 t493.length co66, .slice (some ⟨go16, 0, none⟩) y500.length co69], .int .u8 1, .int .i64 0, .int .i64 (-1)] (by rfl) rfl rfl (by (try simp only [List.map_toArray, List.map_cons, List.map_nil]); first | done | (rw [show y500.length = t496.length from (Kd.R_reads' HO498.out).1.symm] <;> rfl) | rfl | (simp only [List.length_drop, List.length_take]; rfl)) ?_
           with_reducible refine (cottonpadlaw06_safe.calls _ _ t493 _ _ y500 1 0 (-1) t528 _ ?side5 ?side1 ?side2 ?side3 ?side4 A36.out).mono ?_
           (case side1 => exact kd_ (Kd.R_reads' HO495.out).2.2)
           (case side2 => exact (Kd.R_reads' HO495.out).2.1)
           (case side3 => exact kd_ (Kd.R_reads' HO498.out).2.2)
           (case side4 => rw [show y500.length = t496.length from (Kd.R_reads' HO498.out).1.symm]; exact (Kd.R_reads' HO498.out).2.1)
           (case side5 => exact Globs.below HG.out (be2_ HB GE476 GE499))
           rintro e w93 ⟨rfl, hb⟩
           refine ⟨_, rfl, ?_⟩
           replace HO440 := rb_ HO440 hb
           replace HO443 := rb_ HO443 hb
           replace HO446 := rb_ HO446 hb
           replace HO449 := rb_ HO449 hb
           replace HO453 := rb_ HO453 hb
           replace HO456 := rb_ HO456 hb
           replace HO459 := rb_ HO459 hb
           replace HO462 := rb_ HO462 hb
           replace HO466 := rb_ HO466 hb
           replace HO469 := rb_ HO469 hb
           replace HO472 := rb_ HO472 hb
           replace HO479 := rb_ HO479 hb
           replace HO482 := rb_ HO482 hb
           replace HO485 := rb_ HO485 hb
           replace HO495 := rb_ HO495 hb
           replace HO498 := rb_ HO498 hb
           replace HO507 := rb_ HO507 hb
           replace HO517 := rb_ HO517 hb
           replace HO523 := rb_ HO523 hb
           replace HO526 := rb_ HO526 hb
           replace BK476 := bb_ BK476 hb
           replace BK499 := bb_ BK499 hb
           replace HB := bs2_ HB GE476 GE499 hb
           (try clear hb)
           (try clear hb2)
           (try clear hk)
           (try clear hi)
           refine hK.out _ _ ⟨bc_ BK476 0, bc_ BK476 1, bc_ BK499 0, bc_ BK499 1⟩ (fun hHeld => ?_)
           clear hK K
           refine norm_ (a' := ?_) ?_ ?_
           rotate_left
           ·show Act.put _ (some 85) _ = _
            simp only [Act.put, List.setIfInBounds_toArray, List.set_cons_zero, List.set_cons_succ, i64_w, i32_w]
            rfl
           refine pr_ 45 86 47 70368744177663 HT_ rfl rfl ?_
           refine pr_ 46 0 47 140737488355327 HT_ rfl rfl ?_
           refine done_ (done_of HT_.out (by kernel_rfl)) ?_
           try go_wp2
           go_ret
           exact ⟨rf_, be2_ HB GE476 GE499⟩
          ·replace c35 := Bool.eq_false_iff.mpr c35
           subst c35
           have H1 : (some false) = some r := by rw [if_neg (show ¬ (false = true) by decide)] at H; exact H
           clear H
           have H := H1
           clear H1
           exact absurd (H.trans (congrArg some HRT.out)) (by simp)
         ·rw [if_neg c32] at H
          have c32b0 : (t491 == 7) = false := beq_eq_false_iff_ne.mpr c32
          have c32b1 : (t491 != 7) = true := bne_iff_ne.mpr c32
          exact absurd (H.trans (congrArg some HRT.out)) (by simp)
        ·rw [if_neg c31] at H
         have c31b0 : (t492 == 0) = false := beq_eq_false_iff_ne.mpr c31
         have c31b1 : (t492 != 0) = true := bne_iff_ne.mpr c31
         exact absurd (H.trans (congrArg some HRT.out)) (by simp)
       ·rw [if_neg c30] at H
        have c30b0 : (t473 == t519 && (t474 == t520)) = false := by simpa using c30
        (try (have c30b1 : decide (t473 = t519 && (t474 == t520)) = false := by simpa using c30))
        (try (have c30b2 : (t473 == t519 && (t474 == t520)) = false := by simpa using c30))
        (try (have c30b3 : ¬ (t473 = t519 && (t474 == t520)) := by simpa using c30))
        clear c30
        exact absurd (H.trans (congrArg some HRT.out)) (by simp)
      ·rw [if_neg c28] at H
       have c28b0 : (t475 == 0) = false := beq_eq_false_iff_ne.mpr c28
       have c28b1 : (t475 != 0) = true := bne_iff_ne.mpr c28
       exact absurd (H.trans (congrArg some HRT.out)) (by simp)
     ·replace c27 := Bool.eq_false_iff.mpr c27
      subst c27
      have H1 : (some false) = some r := by rw [if_neg (show ¬ (false = true) by decide)] at H; exact H
      clear H
      have H := H1
      clear H1
      exact absurd (H.trans (congrArg some HRT.out)) (by simp)
    ·rw [if_neg c22] at H
     have c22b0 : (t463 == 0) = false := beq_eq_false_iff_ne.mpr c22
     have c22b1 : (t463 != 0) = true := bne_iff_ne.mpr c22
     exact absurd (H.trans (congrArg some HRT.out)) (by simp)
   ·replace c21 := Bool.eq_false_iff.mpr c21
    subst c21
    have H1 : (some false) = some r := by rw [if_neg (show ¬ (false = true) by decide)] at H; exact H
    clear H
    have H := H1
    clear H1
    exact absurd (H.trans (congrArg some HRT.out)) (by simp)
  ·rw [if_neg c17] at H
   have c17b0 : (t450 == 0) = false := beq_eq_false_iff_ne.mpr c17
   have c17b1 : (t450 != 0) = true := bne_iff_ne.mpr c17
   exact absurd (H.trans (congrArg some HRT.out)) (by simp)
 ·rw [if_neg c15] at H
  exact absurd H (by simp)

end Go.Proofs.YtdeaccbolnlgpaaDoor.X
