import Derived.Test.YtdeaccbolnlgpaaDoorX0
import Derived.Lib.Hide
import Derived.Outline
namespace Go.Proofs.YtdeaccbolnlgpaaDoor.X
open Go.RowKit Go.Proofs.YtdeaccbolnlgpaaDoorW.PrintWords Go.Proofs.YtdeaccbolnlgpaaDoorW.PrintLast Go.Proofs.YtdeaccbolnlgpaaDoorW.PrintMore
set_option linter.unusedVariables false
set_option linter.unusedSimpArgs false

theorem hi_any (a b : Int) (w : World) : Calls Tryd.prog 149 #[.agg #[.int .i64 a, .int .i64 b]] w fun e w' => e = .returned (.int .i64 b) ∧ w' = w.alloc (.cells #[.int .i64 a, .int .i64 b] 36) := by
  have hu36 := Tryd.underlying36
  go_enter Tryd.func149, Tryd.ntmps149
  go_wp2
  go_ret
  exact ⟨rfl, rfl⟩
theorem lo_any (a b : Int) (w : World) : Calls Tryd.prog 150 #[.agg #[.int .i64 a, .int .i64 b]] w fun e w' => e = .returned (.int .i64 a) ∧ w' = w.alloc (.cells #[.int .i64 a, .int .i64 b] 36) := by
  have hu36 := Tryd.underlying36
  go_enter Tryd.func150, Tryd.ntmps150
  go_wp2
  go_ret
  exact ⟨rfl, rfl⟩

theorem in1_any (n lo hi : Int) (b1 b2 : Nat) (w : World) (h1 : w.cell? ⟨b1, 0, none⟩ = some (.int .i64 lo)) (h2 : w.cell? ⟨b2, 0, none⟩ = some (.int .i64 hi)) :
    Calls Tryd.prog 82 #[.int .i64 n, .pointer (some ⟨b1, 0, none⟩), .pointer (some ⟨b2, 0, none⟩)] w fun e w' => e = .returned (.bool (decide (n < lo) || decide (n > hi))) ∧ w' = w := by
  by_cases c : n < lo
  · have c1 : decide (n < lo) = true := decide_eq_true c
    go_enter Tryd.func82, Tryd.ntmps82
    go_wp2
    go_ret
    exact ⟨by simp [c], rfl⟩
  · have c1 : decide (n < lo) = false := decide_eq_false c
    go_enter Tryd.func82, Tryd.ntmps82
    go_wp2
    go_ret
    exact ⟨by simp [c], rfl⟩

def outB (lo hi n : Int) : Bool := decide (n < lo) || decide (n > hi)

theorem kd_int_at {w : World} {A : Option Addr} {xs : List Int} (h : Kd.C (Kd.int .i64) w A xs.length xs) (j : Nat) (hj : j < xs.length) :
    ∃ ad, A = some ad ∧ w.cell? (ad.add j) = some (.int .i64 (xs[j]?.getD 0)) := by
  obtain ⟨ad, e, hx⟩ := Kd.at_int h (j : Int) (by omega) (by omega)
  refine ⟨ad, e, ?_⟩
  have : rd xs (j : Int) = xs[j]?.getD 0 := by simp [rd, List.getD_eq_getElem?_getD]
  rw [this] at hx
  simpa using hx

set_option maxHeartbeats 800000 in
theorem idx82 (lo hi : Int) (b1 b2 : Nat) (A : Option Addr) (c : Nat) (xs : List Int) (w : World) (h1 : w.cell? ⟨b1, 0, none⟩ = some (.int .i64 lo)) (h2 : w.cell? ⟨b2, 0, none⟩ = some (.int .i64 hi))
    (hr : Kd.C (Kd.int .i64) w A xs.length xs) (hl : xs.length ≤ 1000) :
    Calls Tryd.prog 100 #[.slice A xs.length c, .func (.func 82) #[] #[.pointer (some ⟨b1, 0, none⟩), .pointer (some ⟨b2, 0, none⟩)]] w fun e w' =>
      ∃ i : Int, e = .returned (.int .i64 i) ∧ (0 ≤ i ↔ xs.any (outB lo hi) = true) ∧ ∃ n, w' = w.drewN n := by
  have HR := Lib.hid hr
  clear hr
  go_enter Tryd.func100, Tryd.ntmps100
  go_wp2
  go_loopw [5, 8, 10, 11, 12, 13, 14, 15, 16] (fun _ i _ _ _ _ _ _ _ wr => ∃ k : Nat, k ≤ xs.length ∧ i = .int .i64 k ∧ (xs.take k).any (outB lo hi) = false ∧ ∃ n, wr = w.drewN n) (fun _ i _ _ _ _ _ _ _ _ => xs.length - (intOf i).toNat)
  case atStart => exact ⟨0, by omega, rfl, rfl, 0, rfl⟩
  case round =>
    obtain ⟨k, hk, rfl, hn, nd, rfl⟩ := hrel
    by_cases hlt : k < xs.length
    · obtain ⟨ad, rfl, hc⟩ := kd_int_at HR.out k hlt
      have hts : xs.take (k + 1) = xs.take k ++ [xs[k]] := by rw [List.take_succ_eq_append_getElem hlt]
      by_cases hb : outB lo hi xs[k] = true
      · have hb2 : (decide (xs[k] < lo) || decide (xs[k] > hi)) = true := hb
        have HT := Lib.hid hts
        have HN := Lib.hid hn
        have HB := Lib.hid hb
        clear hts hn hb
        go_wp2_with fail
        refine (in1_any xs[k] lo hi b1 b2 _ (by simpa using h1) (by simpa using h2)).mono ?_
        rintro e w' ⟨rfl, rfl⟩
        rw [hb2]
        clear hb2
        go_wp2
        go_ret
        exact ⟨k, rfl, ⟨fun _ => by rw [List.any_eq_true]; exact ⟨xs[k], List.getElem_mem _, HB.out⟩, fun _ => by omega⟩, nd, rfl⟩
      · have hb2 : (decide (xs[k] < lo) || decide (xs[k] > hi)) = false := by simpa [outB] using hb
        have hb3 : outB lo hi xs[k] = false := by simpa using hb
        have HT := Lib.hid hts
        have HN := Lib.hid hn
        have HB := Lib.hid hb3
        clear hts hn hb hb3
        go_wp2_with fail
        refine (in1_any xs[k] lo hi b1 b2 _ (by simpa using h1) (by simpa using h2)).mono ?_
        rintro e w' ⟨rfl, rfl⟩
        rw [hb2]
        clear hb2
        go_wp2
        go_roundw
        case rel => exact ⟨k + 1, by omega, by go_num, by rw [HT.out, List.any_append, HN.out]; simp [HB.out], nd, rfl⟩
        case measure => simp [intOf]; omega
    · obtain rfl : k = xs.length := by omega
      have HN := Lib.hid hn
      clear hn
      go_wp2
      go_ret
      refine ⟨-1, rfl, ⟨fun h => by omega, fun h => ?_⟩, nd, rfl⟩
      have := HN.out
      rw [List.take_length] at this
      rw [this] at h
      cases h

theorem kdc1 {w : World} {b : Nat} {x : Int} (h : w.cell? ⟨b, 0, none⟩ = some (.int .i64 x)) : Kd.C (Kd.int .i64) w (some ⟨b, 0, none⟩) 1 [x] := by
  refine Kd.C_of_reads (d := (0 : Int)) (h1 := fun _ => rfl) ⟨rfl, by omega, fun _ => ⟨_, rfl, fun j hj => ?_⟩⟩
  match j, hj with
  | 0, _ => simpa [add_plain] using h
theorem kdc2 {w : World} {b : Nat} {x y : Int} (h : w.cell? ⟨b, 0, none⟩ = some (.int .i64 x)) (h' : w.cell? ⟨b, 1, none⟩ = some (.int .i64 y)) : Kd.C (Kd.int .i64) w (some ⟨b, 0, none⟩) 2 [x, y] := by
  refine Kd.C_of_reads (d := (0 : Int)) (h1 := fun _ => rfl) ⟨rfl, by omega, fun _ => ⟨_, rfl, fun j hj => ?_⟩⟩
  match j, hj with
  | 0, _ => simpa [add_plain] using h
  | 1, _ => simpa [add_plain] using h'

def inB (lo hi : Int) (xs : List Int) : Bool := !(xs.any (outB lo hi))

theorem contains81 (lo hi : Int) (b1 b2 : Nat) (A : Option Addr) (c : Nat) (xs : List Int) (w : World) (h1 : w.cell? ⟨b1, 0, none⟩ = some (.int .i64 lo)) (h2 : w.cell? ⟨b2, 0, none⟩ = some (.int .i64 hi))
    (hr : Kd.C (Kd.int .i64) w A xs.length xs) (hl : xs.length ≤ 1000) :
    Calls Tryd.prog 81 #[.slice A xs.length c, .func (.func 82) #[] #[.pointer (some ⟨b1, 0, none⟩), .pointer (some ⟨b2, 0, none⟩)]] w fun e w' =>
      e = .returned (.bool (xs.any (outB lo hi))) ∧ ∃ n, w' = w.drewN n := by
  have hc := idx82 lo hi b1 b2 A c xs w h1 h2 hr hl
  obtain ⟨b, hb⟩ : ∃ b, b = xs.any (outB lo hi) := ⟨_, rfl⟩
  rw [← hb] at hc ⊢
  clear hb hr hl h1 h2
  go_enter Tryd.func81, Tryd.ntmps81
  go_wp2_with fail
  refine hc.mono ?_
  rintro e w' ⟨i, rfl, hi, n, rfl⟩
  cases b with
  | true =>
    have h0 : 0 ≤ i := hi.2 rfl
    have h0' : decide (0 ≤ i) = true := decide_eq_true h0
    clear hi hc
    go_wp2
    go_ret
    exact ⟨rfl, n, rfl⟩
  | false =>
    have h0 : ¬ 0 ≤ i := fun h => by have := hi.1 h; cases this
    have h0' : decide (0 ≤ i) = false := decide_eq_false h0
    have h1 : i < 0 := by omega
    clear hi hc h0
    go_wp2
    go_ret
    exact ⟨rfl, n, rfl⟩

theorem in_any (lo hi : Int) (A : Option Addr) (c : Nat) (xs : List Int) (w : World) (hr : Kd.C (Kd.int .i64) w A xs.length xs) (hl : xs.length ≤ 1000) :
    Calls Tryd.prog 53 #[.int .i64 lo, .int .i64 hi, .slice A xs.length c] w fun e w' => e = .returned (.bool (inB lo hi xs)) ∧ Below w.heap.size w w' := by
  have hu3 := Tryd.underlying3
  have HB0 : Below w.heap.size w ((w.alloc (.cells #[.int .i64 lo] 3)).alloc (.cells #[.int .i64 hi] 3)) := ((Below.refl _ _).alloc (Nat.le_refl _) _).alloc (by simp) _
  have hc := contains81 lo hi w.heap.size (w.heap.size + 1) A c xs ((w.alloc (.cells #[.int .i64 lo] 3)).alloc (.cells #[.int .i64 hi] 3)) (by simp) (by simp) (Kd.C_below hr HB0) hl
  have HR := Lib.hid hr
  clear hr
  unfold inB
  obtain ⟨b, hb⟩ : ∃ b, b = xs.any (outB lo hi) := ⟨_, rfl⟩
  rw [← hb] at hc ⊢
  clear hb
  go_enter Tryd.func53, Tryd.ntmps53
  go_wp2_with fail
  refine hc.mono ?_
  rintro e w' ⟨rfl, n, rfl⟩
  clear hc
  go_wp2
  go_ret
  exact ⟨rfl, pw_below_drewN HB0 n⟩

theorem in_one (lo hi x : Int) (b : Nat) (w : World) (h : w.cell? ⟨b, 0, none⟩ = some (.int .i64 x)) :
    Calls Tryd.prog 53 #[.int .i64 lo, .int .i64 hi, .slice (some ⟨b, 0, none⟩) 1 1] w fun e w' => e = .returned (.bool (inB lo hi [x])) ∧ Below w.heap.size w w' :=
  in_any lo hi _ 1 [x] w (kdc1 h) (by simp)
theorem in_two (lo hi x y : Int) (b : Nat) (w : World) (h : w.cell? ⟨b, 0, none⟩ = some (.int .i64 x)) (h' : w.cell? ⟨b, 1, none⟩ = some (.int .i64 y)) :
    Calls Tryd.prog 53 #[.int .i64 lo, .int .i64 hi, .slice (some ⟨b, 0, none⟩) 2 2] w fun e w' => e = .returned (.bool (inB lo hi [x, y])) ∧ Below w.heap.size w w' :=
  in_any lo hi _ 2 [x, y] w (kdc2 h h') (by simp)

def ordB (lo hi : Int) (s : S36) : Bool := inB lo hi [s.f0, s.f1] && decide (s.f0 ≤ s.f1)

theorem bcell {W w1 : World} (hb : Below W.heap.size W w1) : (∀ b o, b < W.heap.size → w1.cell? ⟨b, o, none⟩ = W.cell? ⟨b, o, none⟩) ∧ (∀ b o, b < W.heap.size → w1.frozen? ⟨b, o, none⟩ = W.frozen? ⟨b, o, none⟩) :=
  ⟨fun b o h => hb.cell (p := ⟨b, o, none⟩) h, fun b o h => hb.frozen (p := ⟨b, o, none⟩) h⟩

theorem ordered_any (lo hi : Int) (s : S36) (w : World) :
    Calls Tryd.prog 86 #[.int .i64 lo, .int .i64 hi, .agg #[.int .i64 s.f0, .int .i64 s.f1]] w fun e w' => e = .returned (.bool (ordB lo hi s)) ∧ Below w.heap.size w w' := by
  obtain ⟨x, y⟩ := s
  have hu3 := Tryd.underlying3
  have hu36 := Tryd.underlying36
  have hu67 := Tryd.underlying67
  have hin := fun (b : Nat) (W : World) => in_two lo hi x y b W
  unfold ordB
  dsimp only
  obtain ⟨p, hp⟩ : ∃ p, p = inB lo hi [x, y] := ⟨_, rfl⟩
  rw [← hp] at hin ⊢
  clear hp
  have HI := Lib.hid hin
  clear hin
  cases p
  all_goals
    go_enter Tryd.func86, Tryd.ntmps86
    go_wp2_with (go_at_call 53; refine (HI.out _ _ (by simp) (by simp)).mono ?_; rintro e w1 ⟨rfl, hb⟩; obtain ⟨hcl, hfr⟩ := bcell hb)
    go_ret
    exact ⟨by simp, (((Below.refl _ _).alloc (Nat.le_refl _) _).alloc (by simp) _).trans (hb.mono (by simp; omega))⟩

def livesB (m : Nat) (x : S48) : Bool := inB 0 ((m : Int) - 1) [x.f0] && ordB 100 3000 x.f1 && ordB 0 3600 x.f2

set_option maxHeartbeats 800000 in
set_option maxRecDepth 100000 in
theorem lives_any (A0 A1 : Option Addr) (n0 c0 m c1 : Nat) (x : S48) (w : World) (hm : m ≤ 4398046511104) :
    Calls Tryd.prog 62 #[.agg #[.slice A0 n0 c0, .slice A1 m c1], .agg #[.int .i64 x.f0, .int .i64 x.f1.f0, .int .i64 x.f1.f1, .int .i64 x.f2.f0, .int .i64 x.f2.f1]] w fun e w' => e = .returned (.bool (livesB m x)) ∧ Below w.heap.size w w' := by
  obtain ⟨ch, pc, wt⟩ := x
  have hu3 := Tryd.underlying3
  have hu25 := Tryd.underlying25
  have hu36 := Tryd.underlying36
  have hu48 := Tryd.underlying48
  have hu67 := Tryd.underlying67
  have hin := fun (b : Nat) (W : World) => in_one 0 ((m : Int) - 1) ch b W
  have h1 := fun (W : World) => ordered_any 100 3000 pc W
  have h2 := fun (W : World) => ordered_any 0 3600 wt W
  unfold livesB
  dsimp only
  obtain ⟨p, hp⟩ : ∃ p, p = inB 0 ((m : Int) - 1) [ch] := ⟨_, rfl⟩
  obtain ⟨q, hq⟩ : ∃ q, q = ordB 100 3000 pc := ⟨_, rfl⟩
  obtain ⟨r, hr⟩ : ∃ r, r = ordB 0 3600 wt := ⟨_, rfl⟩
  rw [← hp] at hin ⊢
  rw [← hq] at h1 ⊢
  rw [← hr] at h2 ⊢
  clear hp hq hr
  have HI := Lib.hid hin
  have H1 := Lib.hid h1
  have H2 := Lib.hid h2
  clear hin h1 h2
  cases p
  · go_enter Tryd.func62, Tryd.ntmps62
    go_wp2_with fail
    refine (HI.out _ _ ?hx).mono ?_
    case hx => go_simp
    rintro e w1 ⟨rfl, hb⟩
    obtain ⟨hcl, hfr⟩ := bcell hb
    go_wp2_with fail
    go_ret
    exact ⟨by simp, ((((Below.refl _ _).alloc (Nat.le_refl _) _).alloc (by simp) _).alloc (by simp; omega) _).trans (hb.mono (by simp; omega))⟩
  · go_enter Tryd.func62, Tryd.ntmps62
    go_wp2_with fail
    refine (HI.out _ _ ?hx).mono ?_
    case hx => go_simp
    rintro e w1 ⟨rfl, hb⟩
    obtain ⟨hcl, hfr⟩ := bcell hb
    have hz : w.heap.size + 1 < w1.heap.size := by have := hb.size; simp at this; omega
    have hz0 : w.heap.size < w1.heap.size := by omega
    have HB1 := Lib.hid (((((Below.refl _ w).alloc (Nat.le_refl _) _).alloc (by simp) _).alloc (by simp; omega) _).trans (hb.mono (by simp; omega)))
    go_wp2_with fail
    refine (H1.out _).mono ?_
    rintro e w2 ⟨rfl, hb2⟩
    obtain ⟨hcl2, hfr2⟩ := bcell hb2
    cases q
    · go_wp2_with fail
      go_ret
      exact ⟨by simp, HB1.out.trans (hb2.mono HB1.out.size)⟩
    · go_wp2_with fail
      refine (H2.out _).mono ?_
      rintro e w3 ⟨rfl, hb3⟩
      go_wp2_with fail
      go_ret
      exact ⟨by simp, (HB1.out.trans (hb2.mono HB1.out.size)).trans (hb3.mono (Nat.le_trans HB1.out.size hb2.size))⟩

def wv (x : S48) : Value := .agg #[.int .i64 x.f0, .int .i64 x.f1.f0, .int .i64 x.f1.f1, .int .i64 x.f2.f0, .int .i64 x.f2.f1]

set_option maxHeartbeats 800000 in
set_option maxRecDepth 100000 in
theorem idx89 (g : Nat) (lb : Array Value) (eg : ∀ args w, (callFunc g args).run Tryd.prog w = .ok (.enter g args) w) (p : S48 → Bool) (A : Option Addr) (c : Nat) (xs : List S48) (w : World)
    (hp : ∀ x W, x ∈ xs → Below w.heap.size w W → Calls Tryd.prog g (#[wv x] ++ lb) W fun e w' => e = .returned (.bool (p x)) ∧ Below W.heap.size W w')
    (hr : Kd.C k48 w A xs.length xs) (hl : xs.length ≤ 4398046511104) :
    Calls Tryd.prog 89 #[.slice A xs.length c, .func (.func g) #[] lb] w fun e w' =>
      ∃ i : Int, e = .returned (.int .i64 i) ∧ (0 ≤ i ↔ xs.any p = true) ∧ Below w.heap.size w w' := by
  have HR := Lib.hid hr
  have HP := Lib.hid hp
  clear hr hp
  go_enter Tryd.func89, Tryd.ntmps89
  go_wp2
  go_loopw [5, 8, 10, 11, 12, 13, 14, 15, 16] (fun _ i _ _ _ _ _ _ _ wr => ∃ k : Nat, k ≤ xs.length ∧ i = .int .i64 k ∧ (xs.take k).any p = false ∧ Below w.heap.size w wr) (fun _ i _ _ _ _ _ _ _ _ => xs.length - (intOf i).toNat)
  case atStart => exact ⟨0, by omega, rfl, rfl, Below.refl _ _⟩
  case round =>
    obtain ⟨k, hk, rfl, hn, hB⟩ := hrel
    by_cases hlt : k < xs.length
    · have hx : rd_T48 xs (k : Int) = xs[k] := by simp [rd_T48, List.getD_eq_getElem?_getD, hlt]
      obtain ⟨ad, rfl, g0, g1, g2, g3, g4⟩ := at_T48 (Kd.C_below HR.out hB) (k : Int) (by omega) (by omega)
      rw [hx] at g0 g1 g2 g3 g4
      simp only [Int.toNat_natCast] at g0 g1 g2 g3 g4
      clear hx
      have HX := Lib.hid (HP.out xs[k] wr (List.getElem_mem _) hB)
      have HT := Lib.hid (show xs.take (k + 1) = xs.take k ++ [xs[k]] by rw [List.take_succ_eq_append_getElem hlt])
      have HN := Lib.hid hn
      have HB := Lib.hid hB
      clear hn hB
      obtain ⟨b, hb⟩ : ∃ b, b = p xs[k] := ⟨_, rfl⟩
      have HE := Lib.hid hb
      rw [← hb] at HX
      clear hb
      go_wp2_with fail
      refine HX.out.mono ?_
      rintro e w' ⟨rfl, hb⟩
      have HB2 := Lib.hid (HB.out.trans (hb.mono HB.out.size))
      clear hb
      cases b
      · go_wp2
        go_roundw
        case rel => exact ⟨k + 1, by omega, by go_num, by rw [HT.out, List.any_append, HN.out]; simp [← HE.out], HB2.out⟩
        case measure => simp [intOf]; omega
      · go_wp2
        go_ret
        exact ⟨k, rfl, ⟨fun _ => by rw [List.any_eq_true]; exact ⟨xs[k], List.getElem_mem _, HE.out.symm⟩, fun _ => by omega⟩, HB2.out⟩
    · obtain rfl : k = xs.length := by omega
      have HN := Lib.hid hn
      have HB := Lib.hid hB
      clear hn hB
      go_wp2
      go_ret
      refine ⟨-1, rfl, ⟨fun h => by omega, fun h => ?_⟩, HB.out⟩
      have := HN.out
      rw [List.take_length] at this
      rw [this] at h
      cases h

theorem contains60 (g : Nat) (lb : Array Value) (eg : ∀ args w, (callFunc g args).run Tryd.prog w = .ok (.enter g args) w) (p : S48 → Bool) (A : Option Addr) (c : Nat) (xs : List S48) (w : World)
    (hp : ∀ x W, x ∈ xs → Below w.heap.size w W → Calls Tryd.prog g (#[wv x] ++ lb) W fun e w' => e = .returned (.bool (p x)) ∧ Below W.heap.size W w')
    (hr : Kd.C k48 w A xs.length xs) (hl : xs.length ≤ 4398046511104) :
    Calls Tryd.prog 60 #[.slice A xs.length c, .func (.func g) #[] lb] w fun e w' => e = .returned (.bool (xs.any p)) ∧ Below w.heap.size w w' := by
  have hc := idx89 g lb eg p A c xs w hp hr hl
  obtain ⟨b, hb⟩ : ∃ b, b = xs.any p := ⟨_, rfl⟩
  rw [← hb] at hc ⊢
  have HC := Lib.hid hc
  clear hb hr hl hp hc
  go_enter Tryd.func60, Tryd.ntmps60
  go_wp2_with fail
  refine HC.out.mono ?_
  rintro e w' ⟨i, rfl, hi, hb⟩
  have HB := Lib.hid hb
  clear hb HC
  cases b with
  | true =>
    have h0 : 0 ≤ i := hi.2 rfl
    have h0' : decide (0 ≤ i) = true := decide_eq_true h0
    clear hi
    go_wp2
    go_ret
    exact ⟨rfl, HB.out⟩
  | false =>
    have h0 : ¬ 0 ≤ i := fun h => by have := hi.1 h; cases this
    have h0' : decide (0 ≤ i) = false := decide_eq_false h0
    have h1 : i < 0 := by omega
    clear hi h0
    go_wp2
    go_ret
    exact ⟨rfl, HB.out⟩

set_option maxRecDepth 100000 in
theorem chk61 (A0 A1 : Option Addr) (n0 c0 m c1 bb : Nat) (x : S48) (w : World) (hm : m ≤ 4398046511104) (hb : bb < w.heap.size) (h0 : w.cell? ⟨bb, 0, none⟩ = some (.slice A0 n0 c0)) (h1 : w.cell? ⟨bb, 1, none⟩ = some (.slice A1 m c1)) :
    Calls Tryd.prog 61 #[wv x, .pointer (some ⟨bb, 0, none⟩)] w fun e w' => e = .returned (.bool (!livesB m x)) ∧ Below w.heap.size w w' := by
  have hu25 := Tryd.underlying25
  have hu36 := Tryd.underlying36
  have hu48 := Tryd.underlying48
  have hl := fun W => lives_any A0 A1 n0 c0 m c1 x W hm
  unfold wv
  obtain ⟨b, hb⟩ : ∃ b, b = livesB m x := ⟨_, rfl⟩
  rw [← hb] at hl ⊢
  have HL := Lib.hid hl
  clear hl hb
  go_enter Tryd.func61, Tryd.ntmps61
  go_wp2_with fail
  refine (HL.out _).mono ?_
  rintro e w' ⟨rfl, hb⟩
  go_wp2
  go_ret
  exact ⟨rfl, ((Below.refl _ _).alloc (Nat.le_refl _) _).trans (hb.mono (by simp))⟩
end Go.Proofs.YtdeaccbolnlgpaaDoor.X
