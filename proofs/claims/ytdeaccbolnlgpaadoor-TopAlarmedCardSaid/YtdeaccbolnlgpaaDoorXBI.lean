import Derived.Test.YtdeaccbolnlgpaaDoorXH1
namespace Go.Proofs.YtdeaccbolnlgpaaDoor.X
open Go.RowKit Go.Proofs.YtdeaccbolnlgpaaDoorW.PrintWords Go.Proofs.YtdeaccbolnlgpaaDoorW.PrintLast Go.Proofs.YtdeaccbolnlgpaaDoorW.PrintMore
set_option linter.unusedVariables false
set_option linter.unusedSimpArgs false

/-! # slices.IndexFunc and ContainsFunc on whole numbers, whatever the closure; spray.in, spray.bursts, burn.in -/
set_option maxHeartbeats 800000 in
set_option maxRecDepth 100000 in
theorem idx100 (g : Nat) (lb : Array Value) (eg : ∀ args w, (callFunc g args).run Tryd.prog w = .ok (.enter g args) w) (p : Int → Bool) (A : Option Addr) (c : Nat) (xs : List Int) (w : World)
    (hp : ∀ x W, Below w.heap.size w W → Calls Tryd.prog g (#[.int .i64 x] ++ lb) W fun e w' => e = .returned (.bool (p x)) ∧ Below W.heap.size W w')
    (hr : Kd.C (Kd.int .i64) w A xs.length xs) (hl : xs.length ≤ 4398046511104) :
    Calls Tryd.prog 100 #[.slice A xs.length c, .func (.func g) #[] lb] w fun e w' =>
      ∃ i : Int, e = .returned (.int .i64 i) ∧ ((∃ k : Nat, ∃ hk : k < xs.length, i = (k : Int) ∧ (xs.take k).any p = false ∧ p xs[k] = true) ∨ (i = -1 ∧ xs.any p = false)) ∧ Below w.heap.size w w' := by
  have HR := Lib.hid hr
  have HP := Lib.hid hp
  clear hr hp
  go_enter Tryd.func100, Tryd.ntmps100
  go_wp2
  go_loopw [5, 8, 10, 11, 12, 13, 14, 15, 16] (fun _ i _ _ _ _ _ _ _ wr => ∃ k : Nat, k ≤ xs.length ∧ i = .int .i64 k ∧ (xs.take k).any p = false ∧ Below w.heap.size w wr) (fun _ i _ _ _ _ _ _ _ _ => xs.length - (intOf i).toNat)
  case atStart => exact ⟨0, by omega, rfl, rfl, Below.refl _ _⟩
  case round =>
    obtain ⟨k, hk, rfl, hn, hB⟩ := hrel
    by_cases hlt : k < xs.length
    · obtain ⟨ad, rfl, hc⟩ := kd_int_at (Kd.C_below HR.out hB) k hlt
      have hx : xs[k]?.getD 0 = xs[k] := by simp [hlt]
      rw [hx] at hc
      clear hx
      have HX := Lib.hid (HP.out xs[k] wr hB)
      have HT := Lib.hid (show xs.take (k + 1) = xs.take k ++ [xs[k]] by rw [List.take_succ_eq_append_getElem hlt])
      have HN := Lib.hid hn
      have HB := Lib.hid hB
      clear hn hB
      obtain ⟨b, hb⟩ : ∃ b, b = p xs[k] := ⟨_, rfl⟩
      have HE := Lib.hid hb
      rw [← hb] at HX
      clear hb
      go_wp2_with fail
      refine HX.out.mono ?_
      rintro e w' ⟨rfl, hb⟩
      have HB2 := Lib.hid (HB.out.trans (hb.mono HB.out.size))
      clear hb
      cases b
      · go_wp2
        go_roundw
        case rel => exact ⟨k + 1, by omega, by go_num, by rw [HT.out, List.any_append, HN.out]; simp [← HE.out], HB2.out⟩
        case measure => simp [intOf]; omega
      · go_wp2
        go_ret
        exact ⟨k, rfl, Or.inl ⟨k, hlt, rfl, HN.out, HE.out.symm⟩, HB2.out⟩
    · obtain rfl : k = xs.length := by omega
      have HN := Lib.hid hn
      have HB := Lib.hid hB
      clear hn hB
      go_wp2
      go_ret
      refine ⟨-1, rfl, Or.inr ⟨rfl, ?_⟩, HB.out⟩
      have := HN.out
      rwa [List.take_length] at this

theorem contains81g (g : Nat) (lb : Array Value) (eg : ∀ args w, (callFunc g args).run Tryd.prog w = .ok (.enter g args) w) (p : Int → Bool) (A : Option Addr) (c : Nat) (xs : List Int) (w : World)
    (hp : ∀ x W, Below w.heap.size w W → Calls Tryd.prog g (#[.int .i64 x] ++ lb) W fun e w' => e = .returned (.bool (p x)) ∧ Below W.heap.size W w')
    (hr : Kd.C (Kd.int .i64) w A xs.length xs) (hl : xs.length ≤ 4398046511104) :
    Calls Tryd.prog 81 #[.slice A xs.length c, .func (.func g) #[] lb] w fun e w' => e = .returned (.bool (xs.any p)) ∧ Below w.heap.size w w' := by
  have hc := idx100 g lb eg p A c xs w hp hr hl
  have hq : ∀ i : Int, ((∃ k : Nat, ∃ hk : k < xs.length, i = (k : Int) ∧ (xs.take k).any p = false ∧ p xs[k] = true) ∨ (i = -1 ∧ xs.any p = false)) → (0 ≤ i ∧ xs.any p = true) ∨ (i = -1 ∧ xs.any p = false) := by
    rintro i (⟨k, hk, rfl, _, h⟩ | h)
    · exact Or.inl ⟨by omega, List.any_eq_true.2 ⟨_, List.getElem_mem hk, h⟩⟩
    · exact Or.inr h
  obtain ⟨b, hb⟩ : ∃ b, b = xs.any p := ⟨_, rfl⟩
  rw [← hb] at hq ⊢
  have hc2 : Calls Tryd.prog 100 #[.slice A xs.length c, .func (.func g) #[] lb] w fun e w' => ∃ i : Int, e = .returned (.int .i64 i) ∧ ((0 ≤ i ∧ b = true) ∨ (i = -1 ∧ b = false)) ∧ Below w.heap.size w w' :=
    hc.mono fun e w' ⟨i, h1, h2, h3⟩ => ⟨i, h1, hq i (by rw [hb]; exact h2), h3⟩
  have HC := Lib.hid hc2
  clear hc2
  clear hb hr hl hp hc hq
  go_enter Tryd.func81, Tryd.ntmps81
  go_wp2_with fail
  refine HC.out.mono ?_
  rintro e w' ⟨i, rfl, hi, hb⟩
  have HB := Lib.hid hb
  clear hb HC
  rcases hi with ⟨h0, rfl⟩ | ⟨rfl, rfl⟩
  · have h0' : decide (0 ≤ i) = true := decide_eq_true h0
    go_wp2
    go_ret
    exact ⟨rfl, HB.out⟩
  · go_wp2
    go_ret
    exact ⟨rfl, HB.out⟩

theorem out107 (n lo hi : Int) (b1 b2 : Nat) (w : World) (h1 : w.cell? ⟨b1, 0, none⟩ = some (.int .i64 lo)) (h2 : w.cell? ⟨b2, 0, none⟩ = some (.int .i64 hi)) :
    Calls Tryd.prog 107 #[.int .i64 n, .pointer (some ⟨b1, 0, none⟩), .pointer (some ⟨b2, 0, none⟩)] w fun e w' => e = .returned (.bool (outB lo hi n)) ∧ Below w.heap.size w w' := by
  unfold outB
  by_cases c : n < lo
  · have c1 : decide (n < lo) = true := decide_eq_true c
    go_enter Tryd.func107, Tryd.ntmps107
    go_wp2
    go_ret
    exact ⟨by simp [c], Below.refl _ _⟩
  · have c1 : decide (n < lo) = false := decide_eq_false c
    go_enter Tryd.func107, Tryd.ntmps107
    go_wp2
    go_ret
    exact ⟨by simp [c], Below.refl _ _⟩
theorem out106 (n lo hi : Int) (b1 b2 : Nat) (w : World) (h1 : w.cell? ⟨b1, 0, none⟩ = some (.int .i64 lo)) (h2 : w.cell? ⟨b2, 0, none⟩ = some (.int .i64 hi)) :
    Calls Tryd.prog 106 #[.int .i64 n, .pointer (some ⟨b1, 0, none⟩), .pointer (some ⟨b2, 0, none⟩)] w fun e w' => e = .returned (.bool (outB lo hi n)) ∧ Below w.heap.size w w' := by
  unfold outB
  by_cases c : n < lo
  · have c1 : decide (n < lo) = true := decide_eq_true c
    go_enter Tryd.func106, Tryd.ntmps106
    go_wp2
    go_ret
    exact ⟨by simp [c], Below.refl _ _⟩
  · have c1 : decide (n < lo) = false := decide_eq_false c
    go_enter Tryd.func106, Tryd.ntmps106
    go_wp2
    go_ret
    exact ⟨by simp [c], Below.refl _ _⟩
theorem burst101 (n d : Int) (b1 : Nat) (w : World) (h1 : w.cell? ⟨b1, 0, none⟩ = some (.int .i64 d)) :
    Calls Tryd.prog 101 #[.int .i64 n, .pointer (some ⟨b1, 0, none⟩)] w fun e w' => e = .returned (.bool (decide (n ≥ d))) ∧ Below w.heap.size w w' := by
  go_enter Tryd.func101, Tryd.ntmps101
  go_wp2
  go_ret
  exact ⟨rfl, Below.refl _ _⟩

def spray_in.f (a0 : Int) (a1 : Int) (l2 : List Int) : Option (Bool) := if l2.length ≤ 4398046511104 then some (inB a0 a1 l2) else none
theorem spray_in.calls (a0 : Int) (a1 : Int) (A2 : Option Addr) (c2 : Nat) (l2 : List Int) (r : Bool) (w : World) (hr2 : Kd.C (Kd.int .i64) w A2 l2.length l2) (hc2 : l2.length ≤ c2) (h : spray_in.f a0 a1 l2 = some r) :
    Calls Tryd.prog 98 #[.int .i64 a0, .int .i64 a1, .slice A2 l2.length c2] w fun e w' => e = .returned (.bool r) ∧ Below w.heap.size w w' := by
  unfold spray_in.f at h
  split at h
  · rename_i hl
    have hu3 := Tryd.underlying3
    have HB0 : Below w.heap.size w ((w.alloc (.cells #[.int .i64 a0] 3)).alloc (.cells #[.int .i64 a1] 3)) := ((Below.refl _ _).alloc (Nat.le_refl _) _).alloc (by simp) _
    have hc := contains81g 107 #[.pointer (some ⟨w.heap.size, 0, none⟩), .pointer (some ⟨w.heap.size + 1, 0, none⟩)] (fun args w => enters_ Tryd.func107 (by kernel_rfl) rfl args w) (outB a0 a1) A2 c2 l2 ((w.alloc (.cells #[.int .i64 a0] 3)).alloc (.cells #[.int .i64 a1] 3))
      (fun x W hW => out107 x a0 a1 _ _ W (pw_cell_below hW (by simp)) (pw_cell_below hW (by simp))) (Kd.C_below hr2 HB0) hl
    obtain rfl := Option.some.inj h
    unfold inB
    obtain ⟨b, hb⟩ : ∃ b, b = l2.any (outB a0 a1) := ⟨_, rfl⟩
    rw [← hb] at hc ⊢
    clear hb hr2 h
    go_enter Tryd.func98, Tryd.ntmps98
    go_wp2_with fail
    refine hc.mono ?_
    rintro e w' ⟨rfl, hb⟩
    clear hc
    go_wp2
    go_ret
    exact ⟨rfl, HB0.trans (hb.mono HB0.size)⟩
  · cases h
def burn_in.f (a0 : Int) (a1 : Int) (l2 : List Int) : Option (Bool) := if l2.length ≤ 4398046511104 then some (inB a0 a1 l2) else none
theorem burn_in.calls (a0 : Int) (a1 : Int) (A2 : Option Addr) (c2 : Nat) (l2 : List Int) (r : Bool) (w : World) (hr2 : Kd.C (Kd.int .i64) w A2 l2.length l2) (hc2 : l2.length ≤ c2) (h : burn_in.f a0 a1 l2 = some r) :
    Calls Tryd.prog 96 #[.int .i64 a0, .int .i64 a1, .slice A2 l2.length c2] w fun e w' => e = .returned (.bool r) ∧ Below w.heap.size w w' := by
  unfold burn_in.f at h
  split at h
  · rename_i hl
    have hu3 := Tryd.underlying3
    have HB0 : Below w.heap.size w ((w.alloc (.cells #[.int .i64 a0] 3)).alloc (.cells #[.int .i64 a1] 3)) := ((Below.refl _ _).alloc (Nat.le_refl _) _).alloc (by simp) _
    have hc := contains81g 106 #[.pointer (some ⟨w.heap.size, 0, none⟩), .pointer (some ⟨w.heap.size + 1, 0, none⟩)] (fun args w => enters_ Tryd.func106 (by kernel_rfl) rfl args w) (outB a0 a1) A2 c2 l2 ((w.alloc (.cells #[.int .i64 a0] 3)).alloc (.cells #[.int .i64 a1] 3))
      (fun x W hW => out106 x a0 a1 _ _ W (pw_cell_below hW (by simp)) (pw_cell_below hW (by simp))) (Kd.C_below hr2 HB0) hl
    obtain rfl := Option.some.inj h
    unfold inB
    obtain ⟨b, hb⟩ : ∃ b, b = l2.any (outB a0 a1) := ⟨_, rfl⟩
    rw [← hb] at hc ⊢
    clear hb hr2 h
    go_enter Tryd.func96, Tryd.ntmps96
    go_wp2_with fail
    refine hc.mono ?_
    rintro e w' ⟨rfl, hb⟩
    clear hc
    go_wp2
    go_ret
    exact ⟨rfl, HB0.trans (hb.mono HB0.size)⟩
  · cases h
end Go.Proofs.YtdeaccbolnlgpaaDoor.X
namespace Go.Proofs.YtdeaccbolnlgpaaDoor.X
open Go.RowKit Go.Proofs.YtdeaccbolnlgpaaDoorW.PrintWords Go.Proofs.YtdeaccbolnlgpaaDoorW.PrintLast Go.Proofs.YtdeaccbolnlgpaaDoorW.PrintMore
set_option linter.unusedVariables false
set_option linter.unusedSimpArgs false

/-! # spray.bursts -/
/-- Where the first stands of which p holds; -1. -/
def idxI (p : Int → Bool) : List Int → Int
  | [] => -1
  | x :: l => if p x then 0 else if idxI p l < 0 then -1 else idxI p l + 1
theorem idxI_none {p : Int → Bool} : ∀ {l : List Int}, l.any p = false → idxI p l = -1
  | [], _ => rfl
  | x :: l, h => by
    rw [List.any_cons, Bool.or_eq_false_iff] at h
    have := idxI_none h.2
    rw [idxI, h.1, this]; rfl
theorem idxI_some {p : Int → Bool} : ∀ {l : List Int} {k : Nat} (hk : k < l.length), (l.take k).any p = false → p l[k] = true → idxI p l = (k : Int)
  | [], k, hk, _, _ => by simp at hk
  | x :: l, 0, hk, _, h => by
    have : p x = true := h
    rw [idxI, this]; rfl
  | x :: l, k + 1, hk, h1, h2 => by
    rw [List.take_succ_cons, List.any_cons, Bool.or_eq_false_iff] at h1
    have h3 : p (l[k]'(by simpa using hk)) = true := h2
    have := idxI_some (by simpa using hk) h1.2 h3
    rw [idxI, h1.1, this, if_neg (by simp), if_neg (by omega)]; omega
def burstI (heat : List Int) (degree late : Int) : Int := if idxI (fun d => decide (d ≥ degree)) heat < 0 then 0 else if idxI (fun d => decide (d ≥ degree)) heat + late ≥ (heat.length : Int) then 0 else idxI (fun d => decide (d ≥ degree)) heat + late + 1
def spray_bursts.f (l0 : List Int) (a1 : Int) (a2 : Int) : Option (Int) := if l0.length ≤ 1000000 ∧ 0 ≤ a2 ∧ a2 ≤ 1000000 then some (burstI l0 a1 a2) else none
theorem idxI_range (p : Int → Bool) : ∀ l : List Int, -1 ≤ idxI p l ∧ idxI p l < (l.length : Int)
  | [] => by simp [idxI]
  | x :: l => by
    have := idxI_range p l
    rw [idxI, List.length_cons]
    split
    · omega
    · split
      · omega
      · omega

set_option maxRecDepth 100000 in
theorem spray_bursts.calls (A0 : Option Addr) (c0 : Nat) (l0 : List Int) (a1 : Int) (a2 : Int) (r : Int) (w : World) (hr0 : Kd.C (Kd.int .i64) w A0 l0.length l0) (hc0 : l0.length ≤ c0) (h : spray_bursts.f l0 a1 a2 = some r) :
    Calls Tryd.prog 80 #[.slice A0 l0.length c0, .int .i64 a1, .int .i64 a2] w fun e w' => e = .returned (.int .i64 r) ∧ Below w.heap.size w w' := by
  unfold spray_bursts.f at h
  split at h
  · rename_i hl
    obtain ⟨hl, hl0, hl1⟩ := hl
    obtain rfl := Option.some.inj h
    have hu3 := Tryd.underlying3
    have HB0 : Below w.heap.size w (w.alloc (.cells #[.int .i64 a1] 3)) := (Below.refl _ _).alloc (Nat.le_refl _) _
    have hc := idx100 101 #[.pointer (some ⟨w.heap.size, 0, none⟩)] (fun args w => enters_ Tryd.func101 (by kernel_rfl) rfl args w) (fun d => decide (d ≥ a1)) A0 c0 l0 (w.alloc (.cells #[.int .i64 a1] 3))
      (fun x W hW => burst101 x a1 _ W (pw_cell_below hW (by simp))) (Kd.C_below hr0 HB0) (by omega)
    have hrg := idxI_range (fun d => decide (d ≥ a1)) l0
    unfold burstI
    obtain ⟨i, hi⟩ : ∃ i, i = idxI (fun d => decide (d ≥ a1)) l0 := ⟨_, rfl⟩
    have hc2 : Calls Tryd.prog 100 #[.slice A0 l0.length c0, .func (.func 101) #[] #[.pointer (some ⟨w.heap.size, 0, none⟩)]] (w.alloc (.cells #[.int .i64 a1] 3)) fun e w' => e = .returned (.int .i64 i) ∧ Below (w.alloc (.cells #[.int .i64 a1] 3)).heap.size (w.alloc (.cells #[.int .i64 a1] 3)) w' :=
      hc.mono fun e w' ⟨j, h1, h2, h3⟩ => by
        refine ⟨?_, h3⟩
        rcases h2 with ⟨k, hk, rfl, h4, h5⟩ | ⟨rfl, h4⟩
        · rw [h1, hi, idxI_some hk h4 h5]
        · rw [h1, hi, idxI_none h4]
    rw [← hi] at hrg ⊢
    have HC := Lib.hid hc2
    have HN := Lib.hid hrg
    clear hi hr0 h hc hc2 hrg
    by_cases c1 : i < 0
    · have d1 : decide (i < 0) = true := decide_eq_true c1
      rw [if_pos c1]
      go_enter Tryd.func80, Tryd.ntmps80
      go_wp2_with fail
      refine HC.out.mono ?_
      rintro e w' ⟨rfl, hb⟩
      have HB := Lib.hid (HB0.trans (hb.mono HB0.size))
      clear hb HC HB0
      go_wp2
      go_ret
      exact ⟨rfl, HB.out⟩
    · have d1 : decide (i < 0) = false := decide_eq_false c1
      have hw : wrap64 (i + a2) = i + a2 := by rw [← i64_w]; exact IntWalk.i64_in _ (by have := HN.out; omega)
      have hw2 : wrap64 (i + a2 + 1) = i + a2 + 1 := by rw [← i64_w]; exact IntWalk.i64_in _ (by have := HN.out; omega)
      rw [if_neg c1]
      by_cases c2 : i + a2 ≥ (l0.length : Int)
      · have d2 : decide (i + a2 ≥ (l0.length : Int)) = true := decide_eq_true c2
        rw [if_pos c2]
        go_enter Tryd.func80, Tryd.ntmps80
        go_wp2_with fail
        refine HC.out.mono ?_
        rintro e w' ⟨rfl, hb⟩
        have HB := Lib.hid (HB0.trans (hb.mono HB0.size))
        clear hb HC HB0
        go_wp2

        go_ret
        exact ⟨rfl, HB.out⟩
      · have d2 : decide (i + a2 ≥ (l0.length : Int)) = false := decide_eq_false c2
        rw [if_neg c2]
        go_enter Tryd.func80, Tryd.ntmps80
        go_wp2_with fail
        refine HC.out.mono ?_
        rintro e w' ⟨rfl, hb⟩
        have HB := Lib.hid (HB0.trans (hb.mono HB0.size))
        clear hb HC HB0
        go_wp2

        go_ret
        exact ⟨rfl, HB.out⟩
  · cases h
end Go.Proofs.YtdeaccbolnlgpaaDoor.X
