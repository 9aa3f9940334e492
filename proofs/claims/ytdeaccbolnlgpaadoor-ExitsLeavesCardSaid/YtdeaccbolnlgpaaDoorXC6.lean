import Derived.Deep.QuietTactic
import Derived.BigQuiet
import Derived.Test.YtdeaccbolnlgpaaDoorXC5
namespace Go.Proofs.YtdeaccbolnlgpaaDoor.X
open Go.RowKit Go.Shelf Go.Proofs.YtdeaccbolnlgpaaDoorW.PrintWords Go.Proofs.YtdeaccbolnlgpaaDoorW.PrintLast Go.Proofs.YtdeaccbolnlgpaaDoorW.PrintMore
set_option linter.unusedVariables false
set_option linter.unusedSimpArgs false

/-- Is x too late out of chamber c, where the smoke comes at sm? -/
def slowB (b : Bool) (ch : List S81) (c : Int) (sm : S36) (x : S48) : Bool := x.f0 == c && decide (smokeS b sm < leaveT b ch x)

theorem S14_keep {A B : World} {a1 a2 a3 a4 a5 a6 a7 a8 a9 a10 a11 a12 a13 a14 : Addr} {v1 v2 v3 v4 v5 v6 v7 v8 v9 v10 v11 v12 v13 v14 : Value} (hb : Below A.heap.size A B) (h : A.cell? a1 = some v1 ∧ A.cell? a2 = some v2 ∧ A.cell? a3 = some v3 ∧ A.cell? a4 = some v4 ∧ A.cell? a5 = some v5 ∧ A.cell? a6 = some v6 ∧ A.cell? a7 = some v7 ∧ A.cell? a8 = some v8 ∧ A.cell? a9 = some v9 ∧ A.cell? a10 = some v10 ∧ A.cell? a11 = some v11 ∧ A.cell? a12 = some v12 ∧ A.cell? a13 = some v13 ∧ A.cell? a14 = some v14) :
    B.cell? a1 = some v1 ∧ B.cell? a2 = some v2 ∧ B.cell? a3 = some v3 ∧ B.cell? a4 = some v4 ∧ B.cell? a5 = some v5 ∧ B.cell? a6 = some v6 ∧ B.cell? a7 = some v7 ∧ B.cell? a8 = some v8 ∧ B.cell? a9 = some v9 ∧ B.cell? a10 = some v10 ∧ B.cell? a11 = some v11 ∧ B.cell? a12 = some v12 ∧ B.cell? a13 = some v13 ∧ B.cell? a14 = some v14 := by
  obtain ⟨h1, h2, h3, h4, h5, h6, h7, h8, h9, h10, h11, h12, h13, h14⟩ := h
  exact ⟨pw_cell_below hb h1, pw_cell_below hb h2, pw_cell_below hb h3, pw_cell_below hb h4, pw_cell_below hb h5, pw_cell_below hb h6, pw_cell_below hb h7, pw_cell_below hb h8, pw_cell_below hb h9, pw_cell_below hb h10, pw_cell_below hb h11, pw_cell_below hb h12, pw_cell_below hb h13, pw_cell_below hb h14⟩

set_option maxRecDepth 100000 in
set_option maxHeartbeats 4000000 in
theorem slow_any (b : Bool) (bc bh be bx : Nat) (A0 A1 A2 : Option Addr) (n0 c0 c1 n2 c2 : Nat) (ch : List S81) (c : Int) (sm : S36) (x : S48) (w : World)
    (hx : WalkOk ch x) (hr1 : Kd.C k81 w A1 ch.length ch)
    (hc : w.cell? ⟨bc, 0, none⟩ = some (.int .i64 c))
    (h0a : w.cell? ⟨bh, 0, none⟩ = some (.slice A0 n0 c0)) (h0b : w.cell? ⟨bh, 1, none⟩ = some (.slice A1 ch.length c1)) (h0c : w.cell? ⟨bh, 2, none⟩ = some (.slice A2 n2 c2))
    (h1a : w.cell? ⟨be, 0, none⟩ = some (fnV (paceN b))) (h1b : w.cell? ⟨be, 1, none⟩ = some (fnV (timeN b))) (h1c : w.cell? ⟨be, 2, none⟩ = some (fnV (smokeN b)))
    (hxa : w.cell? ⟨bx, 2, none⟩ = some (.int .i64 sm.f0)) (hxb : w.cell? ⟨bx, 3, none⟩ = some (.int .i64 sm.f1)) :
    Calls Tryd.prog 91 #[wv x, .pointer (some ⟨bc, 0, none⟩), .pointer (some ⟨bh, 0, none⟩), .pointer (some ⟨be, 0, none⟩), .pointer (some ⟨bx, 0, none⟩)] w fun e w' => e = .returned (.bool (slowB b ch c sm x)) ∧ Below w.heap.size w w' := by
  have hu3 := Tryd.underlying3
  have hu25 := Tryd.underlying25
  have hu36 := Tryd.underlying36
  have hu48 := Tryd.underlying48
  have hu81 := Tryd.underlying81
  have hu103 := Tryd.underlying103
  have hu112 := Tryd.underlying112
  obtain ⟨q1, q2, q3, q4, q5, q6, q7, q8, q9, q10, q11, q12⟩ := hx
  have HLV := Lib.hid (fun W (hW : Below w.heap.size w W) => leaves_any b A0 A1 A2 n0 c0 c1 n2 c2 ch x W (Kd.C_below hr1 hW) q1 q2 q3 q4 q5 q6 q7 q8 q9 q10)
  have HSM := Lib.hid (fun W => smoke_any b sm W)
  have eg := smoke_enters b
  obtain ⟨lv, hlv⟩ : ∃ lv, lv = leaveT b ch x := ⟨_, rfl⟩
  obtain ⟨sv, hsv⟩ : ∃ sv, sv = smokeS b sm := ⟨_, rfl⟩
  unfold slowB
  rw [← hlv] at HLV ⊢
  rw [← hsv] at HSM ⊢
  unfold endV at HLV
  unfold fnV at *
  obtain ⟨gP, hgP⟩ : ∃ g, g = paceN b := ⟨_, rfl⟩
  obtain ⟨gT, hgT⟩ : ∃ g, g = timeN b := ⟨_, rfl⟩
  obtain ⟨gS, hgS⟩ : ∃ g, g = smokeN b := ⟨_, rfl⟩
  rw [← hgP] at HLV h1a
  rw [← hgT] at HLV h1b
  rw [← hgS] at HLV HSM h1c eg
  clear hlv hsv hgP hgT hgS q1 q2 q3 q4 q5 q6 q7 q8 q9 q10 q11 q12 hr1
  obtain ⟨p, pc, wt⟩ := x
  obtain ⟨p0, p1⟩ := pc
  obtain ⟨t0, t1⟩ := wt
  obtain ⟨s0, s1⟩ := sm
  unfold wv at *
  dsimp only at *
  have lc := World.block_lt_of_cell? w _ hc
  have lh := World.block_lt_of_cell? w _ h0a
  have le := World.block_lt_of_cell? w _ h1a
  have lx := World.block_lt_of_cell? w _ hxa
  dsimp only at lc lh le lx
  go_enter Tryd.func91, Tryd.ntmps91
  go_wp2
  obtain ⟨W0, hW0⟩ : ∃ W0, w.alloc (.cells #[.int .i64 p, .int .i64 p0, .int .i64 p1, .int .i64 t0, .int .i64 t1] 48) = W0 := ⟨_, rfl⟩
  have hS0 : W0.cell? ⟨bc, 0, none⟩ = some (.int .i64 c) ∧ W0.cell? ⟨bh, 0, none⟩ = some (.slice A0 n0 c0) ∧ W0.cell? ⟨bh, 1, none⟩ = some (.slice A1 ch.length c1) ∧ W0.cell? ⟨bh, 2, none⟩ = some (.slice A2 n2 c2) ∧ W0.cell? ⟨be, 0, none⟩ = some (.func (.func gP) #[] #[]) ∧ W0.cell? ⟨be, 1, none⟩ = some (.func (.func gT) #[] #[]) ∧ W0.cell? ⟨be, 2, none⟩ = some (.func (.func gS) #[] #[]) ∧ W0.cell? ⟨bx, 2, none⟩ = some (.int .i64 s0) ∧ W0.cell? ⟨bx, 3, none⟩ = some (.int .i64 s1) ∧ W0.cell? ⟨w.heap.size, 0, none⟩ = some (.int .i64 p) ∧ W0.cell? ⟨w.heap.size, 1, none⟩ = some (.int .i64 p0) ∧ W0.cell? ⟨w.heap.size, 2, none⟩ = some (.int .i64 p1) ∧ W0.cell? ⟨w.heap.size, 3, none⟩ = some (.int .i64 t0) ∧ W0.cell? ⟨w.heap.size, 4, none⟩ = some (.int .i64 t1) := by
    rw [← hW0]; clear hW0; go_simp
  have hB0 : Below w.heap.size w W0 := by rw [← hW0]; exact (Below.refl _ _).alloc (Nat.le_refl _) _
  have hz0 : w.heap.size < W0.heap.size := by rw [← hW0]; simp
  rw [hW0]
  clear hW0 hc h0a h0b h0c h1a h1b h1c hxa hxb lc lh le lx
  have HD := Lib.hid (below_drew (Below.refl W0.heap.size W0))
  have hSd : W0.drew.cell? ⟨bc, 0, none⟩ = some (.int .i64 c) ∧ W0.drew.cell? ⟨bh, 0, none⟩ = some (.slice A0 n0 c0) ∧ W0.drew.cell? ⟨bh, 1, none⟩ = some (.slice A1 ch.length c1) ∧ W0.drew.cell? ⟨bh, 2, none⟩ = some (.slice A2 n2 c2) ∧ W0.drew.cell? ⟨be, 0, none⟩ = some (.func (.func gP) #[] #[]) ∧ W0.drew.cell? ⟨be, 1, none⟩ = some (.func (.func gT) #[] #[]) ∧ W0.drew.cell? ⟨be, 2, none⟩ = some (.func (.func gS) #[] #[]) ∧ W0.drew.cell? ⟨bx, 2, none⟩ = some (.int .i64 s0) ∧ W0.drew.cell? ⟨bx, 3, none⟩ = some (.int .i64 s1) ∧ W0.drew.cell? ⟨w.heap.size, 0, none⟩ = some (.int .i64 p) ∧ W0.drew.cell? ⟨w.heap.size, 1, none⟩ = some (.int .i64 p0) ∧ W0.drew.cell? ⟨w.heap.size, 2, none⟩ = some (.int .i64 p1) ∧ W0.drew.cell? ⟨w.heap.size, 3, none⟩ = some (.int .i64 t0) ∧ W0.drew.cell? ⟨w.heap.size, 4, none⟩ = some (.int .i64 t1) := S14_keep HD.out hS0
  have HB0 := Lib.hid hB0
  have HB1 := Lib.hid (hB0.trans (HD.out.mono hB0.size))
  clear hB0
  by_cases hpc : p = c
  · subst hpc
    go_region_held3 (fun w' => w'.cell? ⟨bc, 0, none⟩ = some (.int .i64 p) ∧ w'.cell? ⟨bh, 0, none⟩ = some (.slice A0 n0 c0) ∧ w'.cell? ⟨bh, 1, none⟩ = some (.slice A1 ch.length c1) ∧ w'.cell? ⟨bh, 2, none⟩ = some (.slice A2 n2 c2) ∧ w'.cell? ⟨be, 0, none⟩ = some (.func (.func gP) #[] #[]) ∧ w'.cell? ⟨be, 1, none⟩ = some (.func (.func gT) #[] #[]) ∧ w'.cell? ⟨be, 2, none⟩ = some (.func (.func gS) #[] #[]) ∧ w'.cell? ⟨bx, 2, none⟩ = some (.int .i64 s0) ∧ w'.cell? ⟨bx, 3, none⟩ = some (.int .i64 s1) ∧ w'.cell? ⟨w.heap.size, 0, none⟩ = some (.int .i64 p) ∧ w'.cell? ⟨w.heap.size, 1, none⟩ = some (.int .i64 p0) ∧ w'.cell? ⟨w.heap.size, 2, none⟩ = some (.int .i64 p1) ∧ w'.cell? ⟨w.heap.size, 3, none⟩ = some (.int .i64 t0) ∧ w'.cell? ⟨w.heap.size, 4, none⟩ = some (.int .i64 t1))
      (first | assumption | exact S14_keep hb1 (by assumption))
      (first
        | (go_at_call 84; refine (HLV.out _ HB1.out).mono ?_; rintro e w1 ⟨rfl, hb1⟩; have HB2 := Lib.hid (HB1.out.trans (hb1.mono HB1.out.size)))
        | (refine (HSM.out _).mono ?_; rintro e w2 ⟨rfl, hb1⟩; have HB3 := Lib.hid (HB2.out.trans (hb1.mono HB2.out.size))))
    all_goals
      go_wp2
      go_ret
      refine ⟨?_, HB3.out⟩
      simp
  · have hpc2 : (p == c) = false := by simp [hpc]
    obtain ⟨y1, y2, y3, y4, y5, y6, y7, y8, y9, y10, y11, y12, y13, y14⟩ := S14_keep (Below.refl _ _) hS0
    clear hSd
    go_quiet (fail)
    go_wp2
    go_ret
    exact ⟨by simp [hpc], HB0.out.os, HB0.out.tape, HB0.out.output, HB0.out.size, HB0.out.block⟩
end Go.Proofs.YtdeaccbolnlgpaaDoor.X
