import Derived.Lib.SlKeysI
import Derived.Test.YtdeaccbolnlgpaaDoorXH4
import Derived.Test.YtdeaccbolnlgpaaDoorXSort
namespace Go.Proofs.YtdeaccbolnlgpaaDoor.X
open Go.RowKit Go.Shelf Go.Sort Go.Proofs.YtdeaccbolnlgpaaDoorW.PrintWords Go.Proofs.YtdeaccbolnlgpaaDoorW.PrintLast Go.Proofs.YtdeaccbolnlgpaaDoorW.PrintMore
set_option linter.unusedVariables false
set_option linter.unusedSimpArgs false

def sortL (l : List Int) : List Int := l.mergeSort fun x y => decide (x ≤ y)
theorem sortL_length (l : List Int) : (sortL l).length = l.length := by simp [sortL]

set_option maxRecDepth 100000 in
set_option maxHeartbeats 1000000 in
theorem sorted_any (Bs : Nat) (sv : Value) (zs : List Int) (hlen : zs.length ≤ 1000) (w : World)
    (hBs : Bs < w.heap.size) (hcs : w.cell? ⟨Bs, 0, none⟩ = some sv) (hI : vals_Ints w.heap.size w sv zs) :
    Calls Tryd.prog 103 #[.func (.func 110) #[] #[.pointer (some ⟨Bs, 0, none⟩)]] w fun e W' => ∃ v, e = .returned v ∧ W'.ownsRow w.heap.size 3 1 v zs.length ((sortL zs).map (Value.int .i64)) ∧ Below w.heap.size w W' := by
  have hc := callsIn_wide.1 (collect_in Fence.wide 4 trivial trivial trivial rfl (by omega) Bs sv zs hlen w hBs hcs hI)
  have HC := Lib.hid hc
  clear hc
  go_enter Tryd.func103, Tryd.ntmps103
  go_wp2_with fail
  refine HC.out.mono ?_
  rintro e W ⟨v, rfl, hrow, hnil, hb⟩
  have HN := Lib.hid hnil
  have HB := Lib.hid hb
  clear hnil hb
  rcases hrow.2 with ⟨rfl, hz⟩ | ⟨gb, cap, cur, rfl, hbase, hgb, r1, r2, r3, r4⟩
  · have hss : zs = [] := List.eq_nil_of_length_eq_zero hz
    subst hss
    have HR := Lib.hid hrow
    clear hrow hz
    go_wp2_with fail
    refine (sort109_none none 0 W).mono ?_
    rintro e w' ⟨rfl, rfl⟩
    go_wp2
    go_ret
    exact ⟨_, rfl, by simpa [sortL] using HR.out, HB.out⟩
  · have hH : Holds (Value.int .i64) W gb 0 zs.toArray := Go.Proofs.holds_of_block_i hgb (by simpa using r4)
    have hgl : gb < W.heap.size := (Array.getElem?_eq_some_iff.1 hgb).1
    have hsz : zs.length < 4611686018427387904 := by omega
    have cS := Lib.hid (sort109 gb 0 cap zs W hH hgl hsz)
    have HX := Lib.hid (And.intro hgb (And.intro r1 (And.intro r2 r3)))
    have HBA := Lib.hid hbase
    clear hH hgl hsz hgb r1 r2 r3 r4 hrow hbase
    go_wp2_with fail
    refine cS.out.mono ?_
    rintro e w' ⟨rfl, nn, os, hw⟩
    have HW := Lib.hid hw
    clear hw
    go_wp2
    go_ret
    obtain ⟨hgb, r1, r2, r3⟩ := HX.out
    rw [HW.out]
    exact ⟨_, rfl, Go.Proofs.ownsRow_sorted_i (by simp) HBA.out hgb r1 r2 r3, HB.out.grown (Go.Proofs.grownBy_sorted_i _) HB.out.size (fun j hj => by cases hj; exact HBA.out)⟩

theorem values_any (a : Option Addr) (len cap : Nat) (w : World) :
    Calls Tryd.prog 104 #[.slice a len cap] w fun e w' => e = .returned (.func (.func 110) #[] #[.pointer (some ⟨w.heap.size, 0, none⟩)]) ∧ w' = w.alloc (.cells #[.slice a len cap] 67) :=
  callsIn_wide.1 (vals_values_in Fence.wide 4 trivial rfl a len cap w)

theorem vals_Ints_below {n₀ : Nat} {A B : World} (h : Below n₀ A B) {sv : Value} {zs : List Int} (hI : vals_Ints n₀ A sv zs) : vals_Ints n₀ B sv zs := vals_Ints.below h hI
theorem vals_Ints_mono {n n₀ : Nat} (hn : n₀ ≤ n) {A : World} {sv : Value} {zs : List Int} : vals_Ints n₀ A sv zs → vals_Ints n A sv zs
  | .inl e => .inl e
  | .inr ⟨b, off, cap, e, hb, hc⟩ => .inr ⟨b, off, cap, e, Nat.lt_of_lt_of_le hb hn, hc⟩

set_option maxHeartbeats 1000000 in
theorem increasing_any (a : Option Addr) (len cap : Nat) (zs : List Int) (hlen : zs.length ≤ 1000) (w : World) (hI : vals_Ints w.heap.size w (.slice a len cap) zs) :
    Calls Tryd.prog 85 #[.slice a len cap] w fun e W' => ∃ v, e = .returned v ∧ W'.ownsRow w.heap.size 3 1 v zs.length ((sortL zs).map (Value.int .i64)) ∧ Below w.heap.size w W' := by
  have HB0 : Below w.heap.size w (w.alloc (.cells #[.slice a len cap] 67)) := (Below.refl _ w).alloc (Nat.le_refl _) _
  have hc := sorted_any w.heap.size (.slice a len cap) zs hlen (w.alloc (.cells #[.slice a len cap] 67)) (by simp) (by simp) (vals_Ints_mono (by simp) (vals_Ints_below HB0 hI))
  have HC := Lib.hid hc
  have HB := Lib.hid HB0
  clear hc HB0 hI
  go_enter Tryd.func85, Tryd.ntmps85
  go_wp2_with fail
  refine (values_any a len cap w).mono ?_
  rintro e w' ⟨rfl, rfl⟩
  go_wp2_with fail
  refine HC.out.mono ?_
  rintro e W' ⟨v, rfl, ho, hb⟩
  have HO := Lib.hid ho
  have HB2 := Lib.hid hb
  clear ho hb
  go_wp2
  go_ret
  exact ⟨v, rfl, own_weaken HO.out (by simp), HB.out.trans (HB2.out.mono (by simp))⟩

end Go.Proofs.YtdeaccbolnlgpaaDoor.X
