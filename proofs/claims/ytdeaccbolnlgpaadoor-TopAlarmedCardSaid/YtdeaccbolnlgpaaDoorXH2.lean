import Derived.Test.YtdeaccbolnlgpaaDoorXH1
import Derived.Shelf.Abstract
namespace Go.Proofs.YtdeaccbolnlgpaaDoor.X
open Go.RowKit Go.Shelf Go.Proofs.YtdeaccbolnlgpaaDoorW.PrintWords Go.Proofs.YtdeaccbolnlgpaaDoorW.PrintLast Go.Proofs.YtdeaccbolnlgpaaDoorW.PrintMore
set_option linter.unusedVariables false
set_option linter.unusedSimpArgs false

def cv (x : S81) : Value := .agg #[.int .i64 x.f0, .int .i64 x.f1, .int .i64 x.f2.f0, .int .i64 x.f2.f1]

set_option maxHeartbeats 800000 in
set_option maxRecDepth 100000 in
theorem idx105 (g : Nat) (lb : Array Value) (eg : ∀ args w, (callFunc g args).run Tryd.prog w = .ok (.enter g args) w) (p : S81 → Bool) (A : Option Addr) (c : Nat) (xs : List S81) (w : World)
    (hp : ∀ x W, x ∈ xs → Below w.heap.size w W → Calls Tryd.prog g (#[cv x] ++ lb) W fun e w' => e = .returned (.bool (p x)) ∧ Below W.heap.size W w')
    (hr : Kd.C k81 w A xs.length xs) (hl : xs.length ≤ 4398046511104) :
    Calls Tryd.prog 105 #[.slice A xs.length c, .func (.func g) #[] lb] w fun e w' =>
      ∃ i : Int, e = .returned (.int .i64 i) ∧ (0 ≤ i ↔ xs.any p = true) ∧ Below w.heap.size w w' := by
  have HR := Lib.hid hr
  have HP := Lib.hid hp
  clear hr hp
  go_enter Tryd.func105, Tryd.ntmps105
  go_wp2
  go_loopw [5, 8, 10, 11, 12, 13, 14, 15, 16] (fun _ i _ _ _ _ _ _ _ wr => ∃ k : Nat, k ≤ xs.length ∧ i = .int .i64 k ∧ (xs.take k).any p = false ∧ Below w.heap.size w wr) (fun _ i _ _ _ _ _ _ _ _ => xs.length - (intOf i).toNat)
  case atStart => exact ⟨0, by omega, rfl, rfl, Below.refl _ _⟩
  case round =>
    obtain ⟨k, hk, rfl, hn, hB⟩ := hrel
    by_cases hlt : k < xs.length
    · have hx : rd_T81 xs (k : Int) = xs[k] := by simp [rd_T81, List.getD_eq_getElem?_getD, hlt]
      obtain ⟨ad, rfl, g0, g1, g2, g3⟩ := at_T81 (Kd.C_below HR.out hB) (k : Int) (by omega) (by omega)
      rw [hx] at g0 g1 g2 g3
      simp only [Int.toNat_natCast] at g0 g1 g2 g3
      clear hx
      have HX := Lib.hid (HP.out xs[k] wr (List.getElem_mem _) hB)
      have HT := Lib.hid (show xs.take (k + 1) = xs.take k ++ [xs[k]] by rw [List.take_succ_eq_append_getElem hlt])
      have HN := Lib.hid hn
      have HB := Lib.hid hB
      clear hn hB
      obtain ⟨b, hb⟩ : ∃ b, b = p xs[k] := ⟨_, rfl⟩
      have HE := Lib.hid hb
      rw [← hb] at HX
      clear hb
      go_wp2_with fail
      refine HX.out.mono ?_
      rintro e w' ⟨rfl, hb⟩
      have HB2 := Lib.hid (HB.out.trans (hb.mono HB.out.size))
      clear hb
      cases b
      · go_wp2
        go_roundw
        case rel => exact ⟨k + 1, by omega, by go_num, by rw [HT.out, List.any_append, HN.out]; simp [← HE.out], HB2.out⟩
        case measure => simp [intOf]; omega
      · go_wp2
        go_ret
        exact ⟨k, rfl, ⟨fun _ => by rw [List.any_eq_true]; exact ⟨xs[k], List.getElem_mem _, HE.out.symm⟩, fun _ => by omega⟩, HB2.out⟩
    · obtain rfl : k = xs.length := by omega
      have HN := Lib.hid hn
      have HB := Lib.hid hB
      clear hn hB
      go_wp2
      go_ret
      refine ⟨-1, rfl, ⟨fun h => by omega, fun h => ?_⟩, HB.out⟩
      have := HN.out
      rw [List.take_length] at this
      rw [this] at h
      cases h

theorem contains88 (g : Nat) (lb : Array Value) (eg : ∀ args w, (callFunc g args).run Tryd.prog w = .ok (.enter g args) w) (p : S81 → Bool) (A : Option Addr) (c : Nat) (xs : List S81) (w : World)
    (hp : ∀ x W, x ∈ xs → Below w.heap.size w W → Calls Tryd.prog g (#[cv x] ++ lb) W fun e w' => e = .returned (.bool (p x)) ∧ Below W.heap.size W w')
    (hr : Kd.C k81 w A xs.length xs) (hl : xs.length ≤ 4398046511104) :
    Calls Tryd.prog 88 #[.slice A xs.length c, .func (.func g) #[] lb] w fun e w' => e = .returned (.bool (xs.any p)) ∧ Below w.heap.size w w' := by
  have hc := idx105 g lb eg p A c xs w hp hr hl
  obtain ⟨b, hb⟩ : ∃ b, b = xs.any p := ⟨_, rfl⟩
  rw [← hb] at hc ⊢
  have HC := Lib.hid hc
  clear hb hr hl hp hc
  go_enter Tryd.func88, Tryd.ntmps88
  go_wp2_with fail
  refine HC.out.mono ?_
  rintro e w' ⟨i, rfl, hi, hb⟩
  have HB := Lib.hid hb
  clear hb HC
  cases b with
  | true =>
    have h0 : 0 ≤ i := hi.2 rfl
    have h0' : decide (0 ≤ i) = true := decide_eq_true h0
    clear hi
    go_wp2
    go_ret
    exact ⟨rfl, HB.out⟩
  | false =>
    have h0 : ¬ 0 ≤ i := fun h => by have := hi.1 h; cases this
    have h0' : decide (0 ≤ i) = false := decide_eq_false h0
    have h1 : i < 0 := by omega
    clear hi h0
    go_wp2
    go_ret
    exact ⟨rfl, HB.out⟩


def chamberB (n : Nat) (c : S81) : Bool := inB 0 ((n : Int) - 1) [c.f0] && inB 0 100000 [c.f1] && ordB 0 36000 c.f2

set_option maxHeartbeats 800000 in
set_option maxRecDepth 100000 in
theorem chk87 (A0 A1 : Option Addr) (n c0 m c1 bb : Nat) (x : S81) (w : World) (hm : n ≤ 4398046511104) (hb : bb < w.heap.size) (h0 : w.cell? ⟨bb, 0, none⟩ = some (.slice A0 n c0)) (h1 : w.cell? ⟨bb, 1, none⟩ = some (.slice A1 m c1)) :
    Calls Tryd.prog 87 #[cv x, .pointer (some ⟨bb, 0, none⟩)] w fun e w' => e = .returned (.bool (!chamberB n x)) ∧ Below w.heap.size w w' := by
  obtain ⟨st, wy, sm⟩ := x
  have hu3 := Tryd.underlying3
  have hu25 := Tryd.underlying25
  have hu36 := Tryd.underlying36
  have hu81 := Tryd.underlying81
  have hu67 := Tryd.underlying67
  have hi1 := fun (b : Nat) (W : World) => in_one 0 ((n : Int) - 1) st b W
  have hi2 := fun (b : Nat) (W : World) => in_one 0 100000 wy b W
  have hi3 := fun (W : World) => ordered_any 0 36000 sm W
  unfold chamberB cv
  dsimp only
  obtain ⟨p, hp⟩ : ∃ p, p = inB 0 ((n : Int) - 1) [st] := ⟨_, rfl⟩
  obtain ⟨q, hq⟩ : ∃ q, q = inB 0 100000 [wy] := ⟨_, rfl⟩
  obtain ⟨r, hr⟩ : ∃ r, r = ordB 0 36000 sm := ⟨_, rfl⟩
  rw [← hp] at hi1 ⊢
  rw [← hq] at hi2 ⊢
  rw [← hr] at hi3 ⊢
  clear hp hq hr
  have HI1 := Lib.hid hi1
  have HI2 := Lib.hid hi2
  have HI3 := Lib.hid hi3
  clear hi1 hi2 hi3
  go_enter Tryd.func87, Tryd.ntmps87
  go_wp2_with fail
  refine (HI1.out _ _ ?hx).mono ?_
  case hx => go_simp
  rintro e w1 ⟨rfl, hb1⟩
  obtain ⟨hcl, hfr⟩ := bcell hb1
  have hz : w.heap.size < w1.heap.size := by have := hb1.size; simp at this; omega
  have hz0 : bb < w1.heap.size := by omega
  have HB1 := Lib.hid ((((Below.refl _ w).alloc (Nat.le_refl _) _).alloc (by simp) _).trans (hb1.mono (by simp; omega)))
  have HB1s := HB1.out.size
  clear hb1
  cases p
  · go_wp2_with fail
    go_ret
    exact ⟨by simp, HB1.out⟩
  · go_wp2_with fail
    refine (HI2.out _ _ ?hx2).mono ?_
    case hx2 => go_simp
    rintro e w2 ⟨rfl, hb2⟩
    obtain ⟨hcl2, hfr2⟩ := bcell hb2
    have hz2 : w.heap.size < w2.heap.size := by have := hb2.size; simp at this; omega
    have HB2 := Lib.hid ((HB1.out.alloc HB1s _).trans (hb2.mono (by simp; omega)))
    have HB2s := HB2.out.size
    clear hb2
    cases q
    · go_wp2_with fail
      go_ret
      exact ⟨by simp, HB2.out⟩
    · go_wp2_with fail
      refine (HI3.out _).mono ?_
      rintro e w3 ⟨rfl, hb3⟩
      have HB3 := Lib.hid (HB2.out.trans (hb3.mono HB2s))
      clear hb3
      go_wp2_with fail
      go_ret
      exact ⟨by simp, HB3.out⟩

/-- One stair is valid, at place i of n. -/
def stairB (n : Nat) (i : Int) (s : S62) : Bool := (s.f0 == -1 || inB (i + 1) ((n : Int) - 1) [s.f0]) && inB 0 60 [s.f1] && ordB 0 600 s.f2 && ordB 0 36000 s.f3
/-- .. from place i on. -/
def stairsB (n : Nat) : Int → List S62 → Bool
  | _, [] => true
  | i, s :: l => stairB n i s && stairsB n (i + 1) l
def builtB (st : List S62) (ch : List S81) : Bool := stairsB st.length 0 st && inB 1 6 [(st.length : Int)] && inB 1 8 [(ch.length : Int)] && ch.all (chamberB st.length)

theorem stairsB_drop (n : Nat) (st : List S62) (k : Nat) (hk : k < st.length) : stairsB n k (st.drop k) = (stairB n k st[k] && stairsB n ((k + 1 : Nat) : Int) (st.drop (k + 1))) := by
  rw [List.drop_eq_getElem_cons hk]
  simp [stairsB]

set_option maxHeartbeats 1600000 in
set_option maxRecDepth 100000 in
/-- The tests of one stair, walked from the second on: of a stair that lies in block b. -/
theorem built_any (A0 A1 : Option Addr) (c0 c1 : Nat) (st : List S62) (ch : List S81) (w : World)
    (hr0 : Kd.C k62 w A0 st.length st) (hc0 : st.length ≤ c0) (hr1 : Kd.C k81 w A1 ch.length ch) (hc1 : ch.length ≤ c1) (hl0 : st.length ≤ 2932031007402) (hl1 : ch.length ≤ 4398046511104) :
    Calls Tryd.prog 59 #[.agg #[.slice A0 st.length c0, .slice A1 ch.length c1]] w fun e w' => e = .returned (.bool (builtB st ch)) ∧ Below w.heap.size w w' := by
  have hu3 := Tryd.underlying3
  have hu25 := Tryd.underlying25
  have hu36 := Tryd.underlying36
  have hu62 := Tryd.underlying62
  have hu67 := Tryd.underlying67
  have HR0 := Lib.hid hr0
  have HR1 := Lib.hid hr1
  clear hr0 hr1
  obtain ⟨N, hN⟩ : ∃ N : Bool, N = builtB st ch := ⟨_, rfl⟩
  rw [← hN]
  have HN := Lib.hid hN
  clear hN
  go_enter Tryd.func59, Tryd.ntmps59
  go_wp2
  have hB0 : Below w.heap.size w (w.alloc (.cells #[.slice A0 st.length c0, .slice A1 ch.length c1] 25)) := (Below.refl _ _).alloc (Nat.le_refl _) _
  go_loopw [3, 4, 9, 10, 11, 12, 13, 14, 15, 16, 17, 18, 19, 20, 21, 22, 23, 24, 25, 26, 27, 28, 29, 30, 31, 32, 33, 34, 35, 36, 37, 38, 39, 40, 41, 42, 43, 44, 45, 46, 47, 48, 49] (fun _ _ i _ _ _ _ _ _ _ _ _ _ _ _ _ _ _ _ _ _ _ _ _ _ _ _ _ _ _ _ _ _ _ _ _ _ _ _ _ _ _ _ wr => ∃ k : Nat, k ≤ st.length ∧ i = .int .i64 k ∧ (N = (stairsB st.length k (st.drop k) && inB 1 6 [(st.length : Int)] && inB 1 8 [(ch.length : Int)] && ch.all (chamberB st.length))) ∧ Below w.heap.size w wr ∧ w.heap.size < wr.heap.size ∧ (∀ o, wr.cell? ⟨w.heap.size, o, none⟩ = (w.alloc (.cells #[.slice A0 st.length c0, .slice A1 ch.length c1] 25)).cell? ⟨w.heap.size, o, none⟩)) (fun _ _ i _ _ _ _ _ _ _ _ _ _ _ _ _ _ _ _ _ _ _ _ _ _ _ _ _ _ _ _ _ _ _ _ _ _ _ _ _ _ _ _ _ => st.length - (intOf i).toNat)
  case atStart => exact ⟨0, by omega, rfl, HN.out, hB0, by simp, fun _ => rfl⟩
  case round =>
    obtain ⟨k, hk, rfl, hNk, hB, hsz, hcl⟩ := hrel
    have h00 : wr.cell? ⟨w.heap.size, 0, none⟩ = some (.slice A0 st.length c0) := by rw [hcl]; go_simp
    have h01 : wr.cell? ⟨w.heap.size, 1, none⟩ = some (.slice A1 ch.length c1) := by rw [hcl]; go_simp
    have HNk := Lib.hid hNk
    have HB := Lib.hid hB
    have HCL := Lib.hid hcl
    clear hNk hB hcl hB0
    by_cases hlt : k < st.length
    · have hx : rd_T62 st (k : Int) = st[k] := by simp [rd_T62, List.getD_eq_getElem?_getD, hlt]
      obtain ⟨ad, rfl, g0, g1, g2, g3, g4, g5⟩ := at_T62 (Kd.C_below HR0.out HB.out) (k : Int) (by omega) (by omega)
      rw [hx] at g0 g1 g2 g3 g4 g5
      simp only [Int.toNat_natCast] at g0 g1 g2 g3 g4 g5
      clear hx
      have HD := Lib.hid (stairsB_drop st.length st k hlt)
      obtain ⟨s, hs⟩ : ∃ s, s = st[k] := ⟨_, rfl⟩
      rw [← hs] at g0 g1 g2 g3 g4 g5 HD
      clear hs
      obtain ⟨nx, gp, wk, sm⟩ := s
      dsimp only at g0 g1 g2 g3 g4 g5
      have hi1 := fun (b : Nat) (W : World) => in_one ((k : Int) + 1) ((st.length : Int) - 1) nx b W
      have hi2 := fun (b : Nat) (W : World) => in_one 0 60 gp b W
      have hi3 := fun (W : World) => ordered_any 0 600 wk W
      have hi4 := fun (W : World) => ordered_any 0 36000 sm W
      unfold stairB at HD
      dsimp only at HD
      obtain ⟨p, hp⟩ : ∃ p, p = inB ((k : Int) + 1) ((st.length : Int) - 1) [nx] := ⟨_, rfl⟩
      obtain ⟨q, hq⟩ : ∃ q, q = inB 0 60 [gp] := ⟨_, rfl⟩
      obtain ⟨r, hr⟩ : ∃ r, r = ordB 0 600 wk := ⟨_, rfl⟩
      obtain ⟨t, ht⟩ : ∃ t, t = ordB 0 36000 sm := ⟨_, rfl⟩
      rw [← hp] at hi1 HD
      rw [← hq] at hi2 HD
      rw [← hr] at hi3 HD
      rw [← ht] at hi4 HD
      clear hp hq hr ht
      have HI1 := Lib.hid hi1
      have HI2 := Lib.hid hi2
      have HI3 := Lib.hid hi3
      have HI4 := Lib.hid hi4
      clear hi1 hi2 hi3 hi4
      by_cases hn : nx = -1
      · have hn1 : (nx != -1) = false := by simp [hn]
        have hn2 : (nx == -1) = true := by simp [hn]
        have HX := Lib.hid hn2
        clear hn2
        go_wp2_with fail
        refine (HI2.out _ _ ?hx).mono ?_
        case hx => go_simp
        rintro e w2 ⟨rfl, hb2⟩
        obtain ⟨hcl2, hfr2⟩ := bcell hb2
        have hz2 : wr.heap.size < w2.heap.size := by have := hb2.size; simp at this; omega
        have hz2' : w.heap.size < w2.heap.size := by omega
        have HB2 := Lib.hid (((HB.out.alloc (by omega) _).alloc (by simp; omega) _).trans (hb2.mono (by simp; omega)))
        have HB2s := HB2.out.size
        clear hb2
        cases q
        · go_wp2_with fail
          go_ret
          exact ⟨by rw [HNk.out, HD.out]; simp, HB2.out⟩
        · go_wp2_with fail
          refine (HI3.out _).mono ?_
          rintro e w3 ⟨rfl, hb3⟩
          obtain ⟨hcl3, hfr3⟩ := bcell hb3
          have hz3 : wr.heap.size < w3.heap.size := by have := hb3.size; omega
          have hz3' : w.heap.size < w3.heap.size := by omega
          have HB3 := Lib.hid (HB2.out.trans (hb3.mono HB2s))
          have HB3s := HB3.out.size
          clear hb3
          cases r
          · go_wp2_with fail
            go_ret
            exact ⟨by rw [HNk.out, HD.out]; simp, HB3.out⟩
          · go_wp2_with fail
            refine (HI4.out _).mono ?_
            rintro e w4 ⟨rfl, hb4⟩
            obtain ⟨hcl4, hfr4⟩ := bcell hb4
            have hz4' : w.heap.size < w4.heap.size := by have := hb4.size; omega
            have HB4 := Lib.hid (HB3.out.trans (hb4.mono HB3s))
            have HC4 := Lib.hid (fun o => (hcl4 w.heap.size o (by omega)).trans ((hcl3 w.heap.size o (by omega)).trans ((hcl2 w.heap.size o (by simp; omega)).trans ((bcell (((Below.refl _ wr).alloc (Nat.le_refl _) _).alloc (by simp) _)).1 w.heap.size o hsz))))
            clear hb4
            cases t
            · go_wp2_with fail
              go_ret
              exact ⟨by rw [HNk.out, HD.out]; simp, HB4.out⟩
            · go_wp2_with fail
              go_roundw
              case rel => exact ⟨k + 1, by omega, by go_num, by rw [HNk.out, HD.out]; simp [HX.out], HB4.out, hz4', fun o => (HC4.out o).trans (HCL.out o)⟩
              case measure => simp [intOf]; omega
      · have hn1 : (nx != -1) = true := by simp [hn]
        have hn2 : (nx == -1) = false := by simp [hn]
        have HX := Lib.hid hn2
        clear hn2
        go_wp2_with fail
        refine (HI1.out _ _ ?hx0).mono ?_
        case hx0 => go_simp
        rintro e w1 ⟨rfl, hb1⟩
        obtain ⟨hcl1, hfr1⟩ := bcell hb1
        have hz1 : wr.heap.size < w1.heap.size := by have := hb1.size; simp at this; omega
        have hz1' : w.heap.size < w1.heap.size := by omega
        have HB1 := Lib.hid (((HB.out.alloc (by omega) _).alloc (by simp; omega) _).trans (hb1.mono (by simp; omega)))
        have HB1s := HB1.out.size
        clear hb1
        cases p
        · go_wp2_with fail
          go_ret
          exact ⟨by rw [HNk.out, HD.out]; simp [HX.out], HB1.out⟩
        · go_wp2_with fail
          refine (HI2.out _ _ ?hx).mono ?_
          case hx => go_simp
          rintro e w2 ⟨rfl, hb2⟩
          obtain ⟨hcl2, hfr2⟩ := bcell hb2
          have hz2 : wr.heap.size < w2.heap.size := by have := hb2.size; simp at this; omega
          have hz2' : w.heap.size < w2.heap.size := by omega
          have HB2 := Lib.hid ((HB1.out.alloc HB1s _).trans (hb2.mono (by simp; omega)))
          have HB2s := HB2.out.size
          clear hb2
          cases q
          · go_wp2_with fail
            go_ret
            exact ⟨by rw [HNk.out, HD.out]; simp, HB2.out⟩
          · go_wp2_with fail
            refine (HI3.out _).mono ?_
            rintro e w3 ⟨rfl, hb3⟩
            obtain ⟨hcl3, hfr3⟩ := bcell hb3
            have hz3 : wr.heap.size < w3.heap.size := by have := hb3.size; omega
            have hz3' : w.heap.size < w3.heap.size := by omega
            have HB3 := Lib.hid (HB2.out.trans (hb3.mono HB2s))
            have HB3s := HB3.out.size
            clear hb3
            cases r
            · go_wp2_with fail
              go_ret
              exact ⟨by rw [HNk.out, HD.out]; simp, HB3.out⟩
            · go_wp2_with fail
              refine (HI4.out _).mono ?_
              rintro e w4 ⟨rfl, hb4⟩
              obtain ⟨hcl4, hfr4⟩ := bcell hb4
              have hz4' : w.heap.size < w4.heap.size := by have := hb4.size; omega
              have HB4 := Lib.hid (HB3.out.trans (hb4.mono HB3s))
              have HC4 := Lib.hid (fun o => (hcl4 w.heap.size o (by omega)).trans ((hcl3 w.heap.size o (by omega)).trans ((hcl2 w.heap.size o (by simp; omega)).trans (((bcell ((Below.refl _ w1).alloc (Nat.le_refl _) _)).1 w.heap.size o hz1').trans ((hcl1 w.heap.size o (by simp; omega)).trans ((bcell (((Below.refl _ wr).alloc (Nat.le_refl _) _).alloc (by simp) _)).1 w.heap.size o hsz))))))
              clear hb4
              cases t
              · go_wp2_with fail
                go_ret
                exact ⟨by rw [HNk.out, HD.out]; simp, HB4.out⟩
              · go_wp2_with fail
                go_roundw
                case rel => exact ⟨k + 1, by omega, by go_num, by rw [HNk.out, HD.out]; simp [HX.out], HB4.out, hz4', fun o => (HC4.out o).trans (HCL.out o)⟩
                case measure => simp [intOf]; omega
    · obtain rfl : k = st.length := by omega
      have hs0 : st.drop st.length = [] := by simp
      have HD := Lib.hid (show N = (inB 1 6 [(st.length : Int)] && inB 1 8 [(ch.length : Int)] && ch.all (chamberB st.length)) by rw [HNk.out, hs0]; simp [stairsB])
      clear hs0
      have hi1 := fun (b : Nat) (W : World) => in_one 1 6 (st.length : Int) b W
      have hi2 := fun (b : Nat) (W : World) => in_one 1 8 (ch.length : Int) b W
      have hi3 := fun (W : World) (hW : Below w.heap.size w W) (hb : w.heap.size < W.heap.size) (h0 : W.cell? ⟨w.heap.size, 0, none⟩ = some (.slice A0 st.length c0)) (h1 : W.cell? ⟨w.heap.size, 1, none⟩ = some (.slice A1 ch.length c1)) =>
        contains88 87 #[.pointer (some ⟨w.heap.size, 0, none⟩)] (enters_of Tryd.func87 (by kernel_rfl) rfl) (fun x => !chamberB st.length x) A1 c1 ch W
          (fun x W2 hx hW2 => chk87 A0 A1 st.length c0 ch.length c1 w.heap.size x W2 (by omega) (Nat.lt_of_lt_of_le hb hW2.size) (((bcell hW2).1 _ _ hb).trans h0) (((bcell hW2).1 _ _ hb).trans h1)) (Kd.C_below HR1.out hW) hl1
      have hall : (ch.any fun x => !chamberB st.length x) = !(ch.all (chamberB st.length)) := List.not_all_eq_any_not.symm
      simp only [hall] at hi3
      clear hall
      obtain ⟨p, hp⟩ : ∃ p, p = inB 1 6 [(st.length : Int)] := ⟨_, rfl⟩
      obtain ⟨q, hq⟩ : ∃ q, q = inB 1 8 [(ch.length : Int)] := ⟨_, rfl⟩
      obtain ⟨r, hr⟩ : ∃ r, r = ch.all (chamberB st.length) := ⟨_, rfl⟩
      rw [← hp] at hi1 HD
      rw [← hq] at hi2 HD
      rw [← hr] at HD
      simp only [← hr] at hi3
      clear hp hq hr
      have HI1 := Lib.hid hi1
      have HI2 := Lib.hid hi2
      have HI3 := Lib.hid hi3
      clear hi1 hi2 hi3
      go_wp2_with fail
      refine (HI1.out _ _ ?hx).mono ?_
      case hx => go_simp
      rintro e w1 ⟨rfl, hb1⟩
      obtain ⟨hcl1, hfr1⟩ := bcell hb1
      have hz1 : w.heap.size < w1.heap.size := by have := hb1.size; simp at this; omega
      have HB1 := Lib.hid ((HB.out.alloc (by omega) _).trans (hb1.mono (by simp; omega)))
      have HB1s := HB1.out.size
      clear hb1
      cases p
      · go_wp2_with fail
        go_ret
        exact ⟨by rw [HD.out]; simp, HB1.out⟩
      · go_wp2_with fail
        refine (HI2.out _ _ ?hx2).mono ?_
        case hx2 => go_simp
        rintro e w2 ⟨rfl, hb2⟩
        obtain ⟨hcl2, hfr2⟩ := bcell hb2
        have hz2 : w.heap.size < w2.heap.size := by have := hb2.size; simp at this; omega
        have HB2 := Lib.hid ((HB1.out.alloc HB1s _).trans (hb2.mono (by simp; omega)))
        have HB2s := HB2.out.size
        clear hb2
        cases q
        · go_wp2_with fail
          go_ret
          exact ⟨by rw [HD.out]; simp, HB2.out⟩
        · go_wp2_with fail
          refine (HI3.out _ HB2.out hz2 ?hy0 ?hy1).mono ?_
          case hy0 => go_simp
          case hy1 => go_simp
          rintro e w3 ⟨rfl, hb3⟩
          have HB3 := Lib.hid (HB2.out.trans (hb3.mono HB2s))
          clear hb3
          go_wp2_with fail
          go_ret
          exact ⟨by rw [HD.out]; simp, HB3.out⟩

def checkF (st : List S62) (ch : List S81) (pe : List S48) : Int := if builtB st ch = true then (if (pe.length : Int) > 24 then 61 else if pe.all (livesB ch.length) = true then 0 else 61) else 60

set_option maxHeartbeats 800000 in
set_option maxRecDepth 100000 in
theorem check_any (A0 A1 A2 : Option Addr) (c0 c1 c2 : Nat) (st : List S62) (ch : List S81) (pe : List S48) (w : World)
    (hr0 : Kd.C k62 w A0 st.length st) (hc0 : st.length ≤ c0) (hr1 : Kd.C k81 w A1 ch.length ch) (hc1 : ch.length ≤ c1) (hr2 : Kd.C k48 w A2 pe.length pe) (hl0 : st.length ≤ 2932031007402) (hl1 : ch.length ≤ 4398046511104) (hl2 : pe.length ≤ 4398046511104) :
    Calls Tryd.prog 21 #[.agg #[.slice A0 st.length c0, .slice A1 ch.length c1], .slice A2 pe.length c2] w fun e w' => e = .returned (.int .i64 (checkF st ch pe)) ∧ Below w.heap.size w w' := by
  have hu25 := Tryd.underlying25
  have hb := fun (W : World) (hW : Below w.heap.size w W) => built_any A0 A1 c0 c1 st ch W (Kd.C_below hr0 hW) hc0 (Kd.C_below hr1 hW) hc1 hl0 hl1
  have hp := fun (W : World) (hW : Below w.heap.size w W) (hb : w.heap.size < W.heap.size) (h0 : W.cell? ⟨w.heap.size, 0, none⟩ = some (.slice A0 st.length c0)) (h1 : W.cell? ⟨w.heap.size, 1, none⟩ = some (.slice A1 ch.length c1)) =>
        contains60 61 #[.pointer (some ⟨w.heap.size, 0, none⟩)] (enters_of Tryd.func61 (by kernel_rfl) rfl) (fun x => !livesB ch.length x) A2 c2 pe W
          (fun x W2 hx hW2 => chk61 A0 A1 st.length c0 ch.length c1 w.heap.size x W2 (by omega) (Nat.lt_of_lt_of_le hb hW2.size) (((bcell hW2).1 _ _ hb).trans h0) (((bcell hW2).1 _ _ hb).trans h1)) (Kd.C_below hr2 hW) hl2
  have hall : (pe.any fun x => !livesB ch.length x) = !(pe.all (livesB ch.length)) := List.not_all_eq_any_not.symm
  simp only [hall] at hp
  clear hall
  unfold checkF
  obtain ⟨q, hq⟩ : ∃ q, q = builtB st ch := ⟨_, rfl⟩
  obtain ⟨r, hr⟩ : ∃ r, r = pe.all (livesB ch.length) := ⟨_, rfl⟩
  simp only [← hq, ← hr] at hb hp ⊢
  clear hq hr hr0 hr1 hr2
  have HB := Lib.hid hb
  have HP := Lib.hid hp
  clear hb hp
  have HB0 : Below w.heap.size w (w.alloc (.cells #[.slice A0 st.length c0, .slice A1 ch.length c1] 25)) := (Below.refl _ _).alloc (Nat.le_refl _) _
  have HB0 := Lib.hid HB0
  cases q
  · go_enter Tryd.func21, Tryd.ntmps21
    go_wp2_with fail
    refine (HB.out _ ?h0).mono ?_
    case h0 => exact HB0.out
    rintro e w1 ⟨rfl, hb1⟩
    have HB1 := Lib.hid (HB0.out.trans (hb1.mono (by simp)))
    clear hb1
    go_wp2_with fail
    go_ret
    exact ⟨by simp, HB1.out⟩
  · by_cases hlen : (pe.length : Int) > 24
    · have hlen1 : decide ((pe.length : Int) > 24) = true := decide_eq_true hlen
      have hlen2 : decide (24 < pe.length) = true := decide_eq_true (by omega)
      go_enter Tryd.func21, Tryd.ntmps21
      go_wp2_with fail
      refine (HB.out _ ?h0).mono ?_
      case h0 => exact HB0.out
      rintro e w1 ⟨rfl, hb1⟩
      have HB1 := Lib.hid (HB0.out.trans (hb1.mono (by simp)))
      clear hb1
      go_wp2_with fail
      go_ret
      exact ⟨by simp [hlen], HB1.out⟩
    · have hlen1 : decide ((pe.length : Int) > 24) = false := decide_eq_false hlen
      have hlen2 : decide (24 < pe.length) = false := decide_eq_false (by omega)
      go_enter Tryd.func21, Tryd.ntmps21
      go_wp2_with fail
      refine (HB.out _ ?h0).mono ?_
      case h0 => exact HB0.out
      rintro e w1 ⟨rfl, hb1⟩
      obtain ⟨hcl1, hfr1⟩ := bcell hb1
      have hz1 : w.heap.size < w1.heap.size := by have := hb1.size; simp at this; omega
      have HB1 := Lib.hid (HB0.out.trans (hb1.mono (by simp)))
      have HB1s := HB1.out.size
      clear hb1
      go_wp2_with fail
      refine (HP.out _ HB1.out hz1 ?hy0 ?hy1).mono ?_
      case hy0 => go_simp
      case hy1 => go_simp
      rintro e w2 ⟨rfl, hb2⟩
      have HB2 := Lib.hid (HB1.out.trans (hb2.mono HB1s))
      clear hb2
      cases r
      all_goals
        go_wp2_with fail
        go_ret
        exact ⟨by simp [hlen], HB2.out⟩
end Go.Proofs.YtdeaccbolnlgpaaDoor.X

namespace Go.Proofs.YtdeaccbolnlgpaaDoor.X
open Go.RowKit Go.Proofs.YtdeaccbolnlgpaaDoorW.PrintWords Go.Proofs.YtdeaccbolnlgpaaDoorW.PrintLast Go.Proofs.YtdeaccbolnlgpaaDoorW.PrintMore
set_option linter.unusedVariables false

/-! # The hand contracts in the print's own form: exits.Check -/
def small3 (l0_0 : List (S62)) (l0_1 : List (S81)) (l1 : List (S48)) : Prop := l0_0.length ≤ 1000 ∧ l0_1.length ≤ 1000 ∧ l1.length ≤ 1000
instance (a : List S62) (b : List S81) (c : List S48) : Decidable (small3 a b c) := inferInstanceAs (Decidable (_ ∧ _ ∧ _))

def exits_Check.f (l0_0 : List (S62)) (l0_1 : List (S81)) (l1 : List (S48)) : Option (Int) := if small3 l0_0 l0_1 l1 then some (checkF l0_0 l0_1 l1) else none
theorem exits_Check.calls (A0_0 : Option Addr) (c0_0 : Nat) (l0_0 : List (S62)) (A0_1 : Option Addr) (c0_1 : Nat) (l0_1 : List (S81)) (A1 : Option Addr) (c1 : Nat) (l1 : List (S48)) (r : Int) (w : World) (hr0_0 : Kd.C k62 w A0_0 l0_0.length l0_0) (hc0_0 : l0_0.length ≤ c0_0) (hr0_1 : Kd.C k81 w A0_1 l0_1.length l0_1) (hc0_1 : l0_1.length ≤ c0_1) (hr1 : Kd.C k48 w A1 l1.length l1) (hc1 : l1.length ≤ c1) (h : exits_Check.f l0_0 l0_1 l1 = some r) :
    Calls Tryd.prog 21 #[.agg #[.slice A0_0 l0_0.length c0_0, .slice A0_1 l0_1.length c0_1], .slice A1 l1.length c1] w fun e w' => e = .returned (.int .i64 r) ∧ Below w.heap.size w w' := by
  unfold exits_Check.f at h
  split at h
  · rename_i hs
    cases h
    have h1 := hs.1
    have h2 := hs.2.1
    have h3 := hs.2.2
    exact check_any A0_0 A0_1 A1 c0_0 c0_1 c1 l0_0 l0_1 l1 w hr0_0 hc0_0 hr0_1 hc0_1 hr1 (by omega) (by omega) (by omega)
  · cases h

theorem exitsCheck_f {st : List S62} {ch : List S81} {ps : List S48} (h : small3 st ch ps) : exits_Check.f st ch ps = some (checkF st ch ps) := if_pos h
end Go.Proofs.YtdeaccbolnlgpaaDoor.X
