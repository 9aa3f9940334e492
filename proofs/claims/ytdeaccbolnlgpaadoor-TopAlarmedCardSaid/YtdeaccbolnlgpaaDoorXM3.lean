import Derived.Deep.RegionLaw
import Derived.Deep.DrawnRows
import Derived.Test.YtdeaccbolnlgpaaDoorXM1
namespace Go.Proofs.YtdeaccbolnlgpaaDoor.X
open Go.RowKit Go.Shelf Go.Proofs.YtdeaccbolnlgpaaDoorW.PrintWords Go.Proofs.YtdeaccbolnlgpaaDoorW.PrintLast Go.Proofs.YtdeaccbolnlgpaaDoorW.PrintMore
set_option linter.unusedVariables false
set_option linter.unusedSimpArgs false
attribute [local go_sem] eq_two

def MoreQ (h n m : Nat) (A0 A1 : Option Addr) (c0 c1 : Nat) (x : S48) (W : World) : Prop :=
  (W.cell? ⟨h, 0, none⟩ = some (.slice A0 n c0) ∧ W.cell? ⟨h, 1, none⟩ = some (.slice A1 m c1)) ∧
  (W.cell? ⟨h + 1, 0, none⟩ = some (.int .i64 x.f0) ∧ W.cell? ⟨h + 1, 1, none⟩ = some (.int .i64 x.f1.f0) ∧ W.cell? ⟨h + 1, 2, none⟩ = some (.int .i64 x.f1.f1) ∧ W.cell? ⟨h + 1, 3, none⟩ = some (.int .i64 x.f2.f0) ∧ W.cell? ⟨h + 1, 4, none⟩ = some (.int .i64 x.f2.f1)) ∧
  (W.cell? ⟨1, 0, none⟩ = some (.func (.func 150) #[] #[]) ∧ W.cell? ⟨1, 1, none⟩ = some (.func (.func 149) #[] #[]) ∧ W.cell? ⟨1, 2, none⟩ = some (.func (.func 150) #[] #[])) ∧
  W.cell? ⟨2, 0, none⟩ = some (.int .i64 (-1)) ∧ W.cell? ⟨2, 1, none⟩ = some (.int .i64 (-1))
theorem S8_keep {A B : World} {a1 a2 a3 a4 a5 a6 a7 a8 : Addr} {v1 v2 v3 v4 v5 v6 v7 v8 : Value} (hb : Below A.heap.size A B) (h : A.cell? a1 = some v1 ∧ A.cell? a2 = some v2 ∧ A.cell? a3 = some v3 ∧ A.cell? a4 = some v4 ∧ A.cell? a5 = some v5 ∧ A.cell? a6 = some v6 ∧ A.cell? a7 = some v7 ∧ A.cell? a8 = some v8) :
    B.cell? a1 = some v1 ∧ B.cell? a2 = some v2 ∧ B.cell? a3 = some v3 ∧ B.cell? a4 = some v4 ∧ B.cell? a5 = some v5 ∧ B.cell? a6 = some v6 ∧ B.cell? a7 = some v7 ∧ B.cell? a8 = some v8 := by
  obtain ⟨h1, h2, h3, h4, h5, h6, h7, h8⟩ := h
  exact ⟨pw_cell_below hb h1, pw_cell_below hb h2, pw_cell_below hb h3, pw_cell_below hb h4, pw_cell_below hb h5, pw_cell_below hb h6, pw_cell_below hb h7, pw_cell_below hb h8⟩
theorem MoreQ.below {h n m : Nat} {A0 A1 : Option Addr} {c0 c1 : Nat} {x : S48} {W W' : World} (hq : MoreQ h n m A0 A1 c0 c1 x W) (hb : Below W.heap.size W W') : MoreQ h n m A0 A1 c0 c1 x W' := by
  obtain ⟨⟨a1, a2⟩, ⟨b1, b2, b3, b4, b5⟩, ⟨d1, d2, d3⟩, e1, e2⟩ := hq
  exact ⟨⟨pw_cell_below hb a1, pw_cell_below hb a2⟩, ⟨pw_cell_below hb b1, pw_cell_below hb b2, pw_cell_below hb b3, pw_cell_below hb b4, pw_cell_below hb b5⟩, ⟨pw_cell_below hb d1, pw_cell_below hb d2, pw_cell_below hb d3⟩, pw_cell_below hb e1, pw_cell_below hb e2⟩

def RelM (w : World) (h : Nat) (A0 A1 : Option Addr) (c0 c1 : Nat) (st : List S62) (ch : List S81) (ps : List S48) (x : S48) (d k : Nat) (W : World) : Prop :=
  ∃ A c, W.heap[h]? = some (.cells #[.slice A0 st.length c0, .slice A1 ch.length c1, .slice A (addN ps x k).length c] 103 (0, 0)) ∧ Kd.C k48 W A (addN ps x k).length (addN ps x k) ∧ MoreQ w.heap.size st.length ch.length A0 A1 c0 c1 x W ∧ Below w.heap.size w W ∧ h < W.heap.size ∧ moreN st ch ps x 0 d = moreN st ch ps x k (d - k)
theorem RelM.start {w W : World} {h : Nat} {A0 A1 A2 : Option Addr} {c0 c1 c2 : Nat} {st : List S62} {ch : List S81} {ps : List S48} {x : S48} {d : Nat} (hk : W.heap[h]? = some (.cells #[.slice A0 st.length c0, .slice A1 ch.length c1, .slice A2 ps.length c2] 103 (0, 0)))
    (hr : Kd.C k48 w A2 ps.length ps) (hq : MoreQ w.heap.size st.length ch.length A0 A1 c0 c1 x W) (hb : Below w.heap.size w W) (hl : h < W.heap.size) : RelM w h A0 A1 c0 c1 st ch ps x d 0 W :=
  ⟨A2, c2, by rw [addN_zero]; exact hk, by rw [addN_zero]; exact Kd.C_below hr hb, hq, hb, hl, by rw [Nat.sub_zero]⟩

theorem MoreQ.set {h h8 n m : Nat} {A0 A1 : Option Addr} {c0 c1 : Nat} {x : S48} {W : World} (hq : MoreQ h n m A0 A1 c0 c1 x W) (h1 : h + 2 ≤ h8) (h2 : 2 < h8) (o : Nat) (u : Value) : MoreQ h n m A0 A1 c0 c1 x (W.setCell ⟨h8, o, none⟩ u) := by
  obtain ⟨⟨a1, a2⟩, ⟨b1, b2, b3, b4, b5⟩, ⟨d1, d2, d3⟩, e1, e2⟩ := hq
  have far : ∀ (k i : Nat) (v : Value), k ≠ h8 → W.cell? ⟨k, i, none⟩ = some v → (W.setCell ⟨h8, o, none⟩ u).cell? ⟨k, i, none⟩ = some v := fun k i v hk hc => (World.cell?_setCell_far W ⟨h8, o, none⟩ ⟨k, i, none⟩ u (by show h8 ≠ k; omega)).trans hc
  exact ⟨⟨far _ _ _ (by omega) a1, far _ _ _ (by omega) a2⟩, ⟨far _ _ _ (by omega) b1, far _ _ _ (by omega) b2, far _ _ _ (by omega) b3, far _ _ _ (by omega) b4, far _ _ _ (by omega) b5⟩, ⟨far _ _ _ (by omega) d1, far _ _ _ (by omega) d2, far _ _ _ (by omega) d3⟩, far _ _ _ (by omega) e1, far _ _ _ (by omega) e2⟩
theorem three_set2 {W : World} {k : Nat} {a b c : Value} {t : TypeId} (h : W.heap[k]? = some (.cells #[a, b, c] t (0, 0))) (z : Value) : (W.setCell ⟨k, 2, none⟩ z).heap[k]? = some (.cells #[a, b, z] t (0, 0)) := by
  have hk := (Array.getElem?_eq_some_iff.1 h).1
  simp [World.setCell, Array.getElem?_modify, h]
theorem moreStep {w wr w9 : World} {h n m : Nat} {A0 A1 a9 : Option Addr} {c0 c1 c9 l9 : Nat} {x : S48} {s0 s1 s2 : Value} {Q : List S48} (hr9 : Kd.R k48 48 w9 wr.heap.size (fun _ => True) (.slice a9 l9 c9) Q) (hk9 : w9.heap[h]? = some (.cells #[s0, s1, s2] 103 (0, 0)))
    (hq : MoreQ w.heap.size n m A0 A1 c0 c1 x wr) (hb : Below w.heap.size w wr) (hb9 : Below wr.heap.size wr w9) (hl : h < wr.heap.size) (h1 : w.heap.size + 2 ≤ h) (h2 : 2 < h) :
    (w9.setCell ⟨h, 2, none⟩ (.slice a9 l9 c9)).heap[h]? = some (.cells #[s0, s1, .slice a9 Q.length c9] 103 (0, 0)) ∧ Kd.C k48 (w9.setCell ⟨h, 2, none⟩ (.slice a9 l9 c9)) a9 Q.length Q ∧ MoreQ w.heap.size n m A0 A1 c0 c1 x (w9.setCell ⟨h, 2, none⟩ (.slice a9 l9 c9)) ∧ Below w.heap.size w (w9.setCell ⟨h, 2, none⟩ (.slice a9 l9 c9)) ∧ h < (w9.setCell ⟨h, 2, none⟩ (.slice a9 l9 c9)).heap.size := by
  have hr := Kd.R_far (p := ⟨h, 2, none⟩) (Kd.R_types hr9 hk9 (by decide)) (fun _ hk => hk.2) (.slice a9 l9 c9)
  obtain ⟨A', c', hv, hc, hr'⟩ := Kd.R_reads hr
  simp only [Value.slice.injEq] at hv
  obtain ⟨rfl, rfl, rfl⟩ := hv
  refine ⟨three_set2 hk9 _, hr', (hq.below hb9).set h1 h2 _ _, (hb.trans (hb9.mono (by have := hb.size; omega))).setCell (by show w.heap.size ≤ h; omega) _, ?_⟩
  have := hb9.size
  simp only [World.setCell, Array.size_modify]
  omega

set_option maxRecDepth 100000 in
set_option maxHeartbeats 4000000 in
theorem more_any (A0 A1 A2 : Option Addr) (c0 c1 c2 : Nat) (st : List S62) (ch : List S81) (ps : List S48) (x : S48) (w : World) (hG : Globs w)
    (hr0 : Kd.C k62 w A0 st.length st) (hc0 : st.length ≤ c0) (hr1 : Kd.C k81 w A1 ch.length ch) (hc1 : ch.length ≤ c1) (hr2 : Kd.C k48 w A2 ps.length ps) (hl0 : st.length ≤ 1000) (hl1 : ch.length ≤ 1000) (hl2 : ps.length ≤ 1000) :
    Calls Tryd.prog 28 #[.agg #[.slice A0 st.length c0, .slice A1 ch.length c1], .slice A2 ps.length c2, .agg #[.int .i64 x.f0, .int .i64 x.f1.f0, .int .i64 x.f1.f1, .int .i64 x.f2.f0, .int .i64 x.f2.f1]] w fun e w' => e = .returned (.tuple #[.int .i64 (moreF st ch ps x).1, .int .i64 (moreF st ch ps x).2]) ∧ Below w.heap.size w w' := by
  have hu3 := Tryd.underlying3
  have hu25 := Tryd.underlying25
  have hu26 := Tryd.underlying26
  have hu30 := Tryd.underlying30
  have hu36 := Tryd.underlying36
  have hu48 := Tryd.underlying48
  have hu103 := Tryd.underlying103
  have hu112 := Tryd.underlying112
  have hu122 := Tryd.underlying122
  have HO := Lib.hid (fun (W : World) (hW : Below w.heap.size w W) => open_any A0 A1 A2 c0 c1 c2 st ch ps W (Kd.C_below hr0 hW) hc0 (Kd.C_below hr1 hW) hc1 (Kd.C_below hr2 hW) hl0 hl1 hl2)
  have HLV := Lib.hid (fun (W : World) => lives_any A0 A1 st.length c0 ch.length c1 x W (by omega))
  have HH := Lib.hid (fun (hF : checkF st ch ps = 0) (A : Option Addr) (c : Nat) (qs : List S48) (hq : Valid st ch qs) (W : World) (hW : Below w.heap.size w W) (hr : Kd.C k48 W A qs.length qs) => late_any true A0 A1 A c0 c1 c st ch qs W (hq.flow true) (hG.below hW) (Kd.C_below hr0 hW) (Kd.C_below hr1 hW) hr)
  have HV := Lib.hid (fun (hF : checkF st ch ps = 0) => checkF_zero hF)
  have HR2 := Lib.hid hr2
  rw [endV_worst] at HH
  obtain ⟨r, hr⟩ : ∃ r, r = checkF st ch ps := ⟨_, rfl⟩
  obtain ⟨R1, R2, hR⟩ : ∃ a b, moreF st ch ps x = (a, b) := ⟨_, _, rfl⟩
  rw [hR]
  unfold moreF at hR
  rw [← hr] at HO HH HV hR
  have HRR := Lib.hid hR
  clear hR
  clear hr hr0 hr1 hr2 hl0 hl1 hl2
  obtain ⟨⟨_, ⟨gb0, gb1, gb2⟩⟩, gc0, gc1⟩ := hG
  have lg := World.block_lt_of_cell? w _ gc1
  dsimp only at lg
  go_enter Tryd.func28, Tryd.ntmps28
  go_wp2_with fail
  obtain ⟨W0, hW0⟩ : ∃ W0, (w.alloc (.cells #[.slice A0 st.length c0, .slice A1 ch.length c1] 25)).alloc (.cells #[.int .i64 x.f0, .int .i64 x.f1.f0, .int .i64 x.f1.f1, .int .i64 x.f2.f0, .int .i64 x.f2.f1] 48) = W0 := ⟨_, rfl⟩
  have hz0 : W0.heap.size = w.heap.size + 2 := by rw [← hW0]; simp
  have hB0 : Below w.heap.size w W0 := by rw [← hW0]; exact ((Below.refl _ w).alloc (Nat.le_refl _) _).alloc (by simp) _
  have HQ0 := Lib.hid (show MoreQ w.heap.size st.length ch.length A0 A1 c0 c1 x W0 by
    have k1 := pw_cell_below hB0 gb0
    have k2 := pw_cell_below hB0 gb1
    have k3 := pw_cell_below hB0 gb2
    have k4 := pw_cell_below hB0 gc0
    have k5 := pw_cell_below hB0 gc1
    clear hB0 gb0 gb1 gb2 gc0 gc1
    subst hW0
    unfold MoreQ
    exact ⟨⟨by go_simp, by go_simp⟩, ⟨by go_simp, by go_simp, by go_simp, by go_simp, by go_simp⟩, ⟨k1, k2, k3⟩, k4, k5⟩)
  rw [hW0]
  clear hW0 gb0 gb1 gb2 gc0 gc1
  refine (HO.out W0 hB0).mono ?_
  rintro e w1 ⟨rfl, hb1⟩
  have hw1 := hb1.size
  have HB1 := Lib.hid (hB0.trans (hb1.mono hB0.size))
  have HQ1 := Lib.hid (HQ0.out.below hb1)
  clear hB0 hb1 HQ0
  by_cases hr0 : r = 0
  · subst hr0
    have HH0 := Lib.hid (HH.out rfl)
    have HV0 := Lib.hid (HV.out rfl)
    clear HH HV HO
    obtain ⟨W2, hW2⟩ : ∃ W2, w1.alloc (.cells #[.slice A0 st.length c0, .slice A1 ch.length c1, .slice A2 ps.length c2] 103) = W2 := ⟨_, rfl⟩
    have hB2 : Below w1.heap.size w1 W2 := by rw [← hW2]; exact (Below.refl _ _).alloc (Nat.le_refl _) _
    have hk2 : W2.heap[w1.heap.size]? = some (.cells #[.slice A0 st.length c0, .slice A1 ch.length c1, .slice A2 ps.length c2] 103 (0, 0)) := by rw [← hW2]; exact World.alloc_heap_new _ _
    obtain ⟨b0, b1, b2, f0, f1, f2, l2⟩ := three_cells hk2
    have HK2 := Lib.hid hk2
    have HQ2 := Lib.hid (HQ1.out.below hB2)
    have HB2 := Lib.hid (HB1.out.trans (hB2.mono HB1.out.size))
    have hz2 := hB2.size
    obtain ⟨⟨q1, q2⟩, ⟨q3, q4, q5, q6, q7⟩, ⟨q8, q9, q10⟩, q11, q12⟩ := HQ2.out
    clear hk2 HQ1 hB2
    by_cases hlv : livesB ch.length x = true
    · have HLV1 := Lib.hid (show ∀ W, Calls Tryd.prog 62 #[.agg #[.slice A0 st.length c0, .slice A1 ch.length c1], .agg #[.int .i64 x.f0, .int .i64 x.f1.f0, .int .i64 x.f1.f1, .int .i64 x.f2.f0, .int .i64 x.f2.f1]] W fun e w' => e = .returned (.bool true) ∧ Below W.heap.size W w' by intro W; have := HLV.out W; rwa [hlv] at this)
      have HLT := Lib.hid hlv
      clear HLV hlv
      go_wp2_with (go_at_call 62; refine (HLV1.out _).mono ?_; rintro e w3 ⟨rfl, hb3⟩; have HB3' := Lib.hid hb3; clear hb3)
      have HB3 := Lib.hid (HB2.out.trans (HB3'.out.mono HB2.out.size))
      have HQ3 := Lib.hid (HQ2.out.below HB3'.out)
      have HK3 := Lib.hid ((HB3'.out.block _ l2).trans HK2.out)
      have hz3 := HB3'.out.size
      have l3 : w1.heap.size < w3.heap.size := by omega
      have HSd := Lib.hid (show w3.drew.cell? ⟨w1.heap.size, 0, none⟩ = some (.slice A0 st.length c0) ∧ w3.drew.cell? ⟨w1.heap.size, 1, none⟩ = some (.slice A1 ch.length c1) ∧ w3.drew.cell? ⟨w1.heap.size, 2, none⟩ = some (.slice A2 ps.length c2) ∧ w3.drew.cell? ⟨1, 0, none⟩ = some (.func (.func 150) #[] #[]) ∧ w3.drew.cell? ⟨1, 1, none⟩ = some (.func (.func 149) #[] #[]) ∧ w3.drew.cell? ⟨1, 2, none⟩ = some (.func (.func 150) #[] #[]) ∧ w3.drew.cell? ⟨2, 0, none⟩ = some (.int .i64 (-1)) ∧ w3.drew.cell? ⟨2, 1, none⟩ = some (.int .i64 (-1)) from by
        obtain ⟨_, _, ⟨q8, q9, q10⟩, q11, q12⟩ := HQ3.out
        obtain ⟨b0, b1, b2, _, _, _, _⟩ := three_cells HK3.out
        exact S8_keep (below_drew (Below.refl w3.heap.size w3)) ⟨b0, b1, b2, q8, q9, q10, q11, q12⟩)
      have HBD := Lib.hid (HB3.out.trans ((below_drew (Below.refl w3.heap.size w3)).mono HB3.out.size))
      have HL0 := Lib.hid (HH0.out A2 c2 ps HV0.out w3.drew HBD.out (Kd.C_below HR2.out HBD.out))
      clear b0 b1 b2 f0 f1 f2 q1 q2 q3 q4 q5 q6 q7 q8 q9 q10 q11 q12
      have hSd := HSd.out
      obtain ⟨wc, hwc⟩ : ∃ y, y = lateC true ch ps ch.length := ⟨_, rfl⟩
      obtain ⟨ws, hws⟩ : ∃ y, y = lateS true st ch ps 0 st.length := ⟨_, rfl⟩
      have HLF := Lib.hid (show lateF true st ch ps = (wc, ws) by rw [hwc, hws]; rfl)
      rw [← hwc, ← hws] at HL0
      clear hwc hws
      by_cases hw : wc = -1 ∧ ws = -1
      · obtain ⟨rfl, rfl⟩ := hw
        go_region_held3 (fun w' => w'.cell? ⟨w1.heap.size, 0, none⟩ = some (.slice A0 st.length c0) ∧ w'.cell? ⟨w1.heap.size, 1, none⟩ = some (.slice A1 ch.length c1) ∧ w'.cell? ⟨w1.heap.size, 2, none⟩ = some (.slice A2 ps.length c2) ∧ w'.cell? ⟨1, 0, none⟩ = some (.func (.func 150) #[] #[]) ∧ w'.cell? ⟨1, 1, none⟩ = some (.func (.func 149) #[] #[]) ∧ w'.cell? ⟨1, 2, none⟩ = some (.func (.func 150) #[] #[]) ∧ w'.cell? ⟨2, 0, none⟩ = some (.int .i64 (-1)) ∧ w'.cell? ⟨2, 1, none⟩ = some (.int .i64 (-1)))
          (first | assumption | exact S8_keep hb5 hSd)
          ((go_at_call 65; refine (HL0.out).mono ?_; rintro e w5 ⟨rfl, hb5⟩))
        have HB5' := Lib.hid ((below_drew (Below.refl w3.heap.size w3)).trans (hb5.mono (below_drew (Below.refl w3.heap.size w3)).size))
        have HB5 := Lib.hid (HB3.out.trans (HB5'.out.mono HB3.out.size))
        have HQ5 := Lib.hid (HQ3.out.below HB5'.out)
        have HK5 := Lib.hid ((HB5'.out.block _ l3).trans HK3.out)
        have hz5 := HB5'.out.size
        have l5 : w1.heap.size < w5.heap.size := by omega
        clear hb5 hSd
        try clear hHeld
        have hnp := HV0.out.nps
        obtain ⟨d, hd⟩ : ∃ d, d = 24 - ps.length := ⟨_, rfl⟩
        have hwr : IntKind.i64.wrap (24 - (ps.length : Int)) = (d : Int) := by rw [IntWalk.i64_in _ (by omega)]; omega
        have HD := Lib.hid hd
        rw [← hd] at HRR
        have HRA := Lib.hid (show (moreN st ch ps x 0 d, (0 : Int)) = (R1, R2) by
          have hq := HRR.out
          rw [if_pos True.intro, if_pos HLT.out, if_pos HLF.out] at hq
          exact hq)
        have hd2 : ps.length + d ≤ 24 := by omega
        clear hd
        go_wp2_with fail
        go_loopw [10, 32, 33, 34, 35, 36, 37, 38, 39, 40, 41, 42, 43, 44, 45, 46, 47, 48] (fun _ n _ _ _ _ _ _ _ _ _ _ _ _ _ _ _ _ W => ∃ k : Nat, k ≤ d ∧ n = .int .i64 k ∧ RelM w w1.heap.size A0 A1 c0 c1 st ch ps x d k W) (fun _ n _ _ _ _ _ _ _ _ _ _ _ _ _ _ _ _ _ => d - (intOf n).toNat)
        case atStart => exact ⟨0, by omega, rfl, RelM.start HK5.out HR2.out HQ5.out HB5.out l5⟩
        case round =>
          obtain ⟨k, hk, rfl, hrm⟩ := hrel
          have HRM := Lib.hid hrm
          clear hrm
          by_cases hlt : k < d
          · obtain ⟨A, c, hbk, hrc, hq, hb, hl, hm⟩ := HRM.out
            have hQl : (addN ps x k).length ≤ 23 := by rw [addN_length]; omega
            have HQS := Lib.hid (addN_succ ps x k)
            obtain ⟨Q, hQ⟩ : ∃ Q, Q = addN ps x k := ⟨_, rfl⟩
            have HQQ := Lib.hid hQ
            rw [← hQ] at hbk hrc hQl HQS
            clear hQ HRM
            have hwh1 : w.heap.size + 2 ≤ w1.heap.size := by omega
            have hwh2 : 2 < w1.heap.size := by omega
            have HBK := Lib.hid hbk
            have HM := Lib.hid hm
            have HB := Lib.hid hb
            have HQ := Lib.hid hq
            obtain ⟨b0, b1, b2, _, _, _, _⟩ := three_cells hbk
            obtain ⟨_, ⟨q3, q4, q5, q6, q7⟩, _⟩ := hq
            have HBD := Lib.hid (below_drew (Below.refl wr.heap.size wr))
            have HC := Lib.hid (fun (W : World) (hW : Below wr.heap.size wr W) => clone_any A c Q W (Kd.C_below hrc hW) (by omega))
            have HL5 := Lib.hid (fun (W : World) (hW : Below wr.heap.size wr W) => And.intro (pw_cell_below hW q3) (And.intro (pw_cell_below hW q4) (And.intro (pw_cell_below hW q5) (And.intro (pw_cell_below hW q6) (pw_cell_below hW q7)))))
            have b2d := pw_cell_below HBD.out b2
            have HBA := Lib.hid (below_drew ((Below.refl wr.heap.size wr).alloc (Nat.le_refl _) (.cells #[.int .i64 x.f0, .int .i64 x.f1.f0, .int .i64 x.f1.f1, .int .i64 x.f2.f0, .int .i64 x.f2.f1] 48)))
            have b2a := pw_cell_below HBA.out b2
            obtain ⟨q3d, q4d, q5d, q6d, q7d⟩ := HL5.out _ HBD.out
            clear hbk hrc hb hm b0 b1 b2 q3 q4 q5 q6 q7
            go_wp2_with fail
            go_region_law (first
              | (go_simp; go_at_call 67; refine (HC.out _ (by first | exact HBD.out | exact (HBD.out.alloc HBD.out.size _))).mono ?_; rintro e wv ⟨v, rfl, hv, hbv⟩; have hbv2 := (show Below wr.heap.size wr wv from by first | exact HBD.out.trans (hbv.mono HBD.out.size) | exact (HBD.out.alloc HBD.out.size _).trans (hbv.mono (HBD.out.alloc HBD.out.size _).size)); have HV := Lib.hid (show Kd.R k48 48 wv wr.heap.size (fun _ => True) v Q from by first | exact Kd.R_lower hv HBD.out.size | exact Kd.R_lower hv (HBD.out.alloc HBD.out.size _).size); have HBV := Lib.hid hbv; have HBV2 := Lib.hid hbv2; obtain ⟨r3, r4, r5, r6, r7⟩ := HL5.out _ hbv2; clear hv hbv hbv2; try dsimp only)
              | (refine Kd.R_append_rows_step k48 (w0 := wr) wr.heap.size (by rfl) _ _ 26 48 (.agg #[(.int .i64 0), (.int .i64 0), (.int .i64 0), (.int .i64 0), (.int .i64 0)]) 40 (by rfl) Tryd.underlying26 info48 rfl (by decide) (by decide) v Q [x] _ 1 1 (fun _ => True) (fun _ => False) (by rfl) (by rfl) (by first | exact HV.out | exact Kd.R_alloc HV.out _) (by first | exact one48 _ _ | exact Kd.C_below (one48 _ _) HBV.out | exact Kd.C_below (Kd.C_drew (one48 _ _)) HBV.out) (fun _ _ h => h) (fun _ h => h.elim) (fun _ _ => trivial) (by first | exact HBV2.out | exact HBV2.out.alloc HBV2.out.size _) (by first | exact HBV2.out.size | exact (HBV2.out.alloc HBV2.out.size _).size) (by omega) ?_; intro v9 w9 ho9 hb9 hg9 hat9; obtain ⟨a9, c9, rfl, hc9, hr9⟩ := Kd.R_reads ho9; have hk9 := (hb9.block _ hl).trans HBK.out; obtain ⟨s0, s1, s2, g0, g1, g2, l9⟩ := three_cells hk9; have HO9 := Lib.hid ho9; have HB9 := Lib.hid hb9; have HK9 := Lib.hid hk9; clear hat9 hg9 ho9 hb9 hk9 hr9))
            all_goals
              obtain ⟨n1, n2, n3, n4, n5⟩ := moreStep HO9.out HK9.out HQ.out HB.out HB9.out hl hwh1 hwh2
              obtain ⟨P, hP⟩ : ∃ P, P = Q ++ [x] := ⟨_, rfl⟩
              have HP := Lib.hid (show P = addN ps x (k + 1) by rw [hP, HQS.out])
              have HPL := Lib.hid (show P.length = Q.length + 1 by rw [hP]; simp)
              rw [← hP] at n1 n2
              simp only [← HPL.out, List.length_append, List.length_cons, List.length_nil, Nat.zero_add] at n1 n2 n3 n4 n5 ⊢
              obtain ⟨W10, hW10⟩ : ∃ W10, w9.setCell ⟨w1.heap.size, 2, none⟩ (.slice a9 P.length c9) = W10 := ⟨_, rfl⟩
              rw [hW10] at n1 n2 n3 n4 n5 ⊢
              clear hW10 hP s0 s1 s2 g0 g1 g2 l9 HO9 HK9 HB9 HV HBV HBV2 r3 r4 r5 r6 r7 q3d q4d q5d q6d q7d b2d b2a HBA
              have HN1 := Lib.hid n1
              have HBD2 := Lib.hid (below_drew (Below.refl W10.heap.size W10))
              have HSd := Lib.hid (show W10.drew.cell? ⟨w1.heap.size, 0, none⟩ = some (.slice A0 st.length c0) ∧ W10.drew.cell? ⟨w1.heap.size, 1, none⟩ = some (.slice A1 ch.length c1) ∧ W10.drew.cell? ⟨w1.heap.size, 2, none⟩ = some (.slice a9 P.length c9) ∧ W10.drew.cell? ⟨1, 0, none⟩ = some (.func (.func 150) #[] #[]) ∧ W10.drew.cell? ⟨1, 1, none⟩ = some (.func (.func 149) #[] #[]) ∧ W10.drew.cell? ⟨1, 2, none⟩ = some (.func (.func 150) #[] #[]) ∧ W10.drew.cell? ⟨2, 0, none⟩ = some (.int .i64 (-1)) ∧ W10.drew.cell? ⟨2, 1, none⟩ = some (.int .i64 (-1)) from by
                obtain ⟨_, _, ⟨q8, q9, q10⟩, q11, q12⟩ := n3
                obtain ⟨b0, b1, b2, _, _, _, _⟩ := three_cells n1
                exact S8_keep HBD2.out ⟨b0, b1, b2, q8, q9, q10, q11, q12⟩)
              have HV1 := Lib.hid (addN_valid HV0.out HLT.out (n := k + 1) (by omega))
              have HBX := Lib.hid (n4.trans (HBD2.out.mono n4.size))
              have HN3 := Lib.hid n3
              have HN2 := Lib.hid n2
              have HN4 := Lib.hid n4
              have HL1 := Lib.hid (HH0.out a9 c9 P (by rw [HP.out]; exact HV1.out) W10.drew HBX.out (Kd.C_below n2 HBD2.out))
              obtain ⟨xc, hxc⟩ : ∃ y, y = lateC true ch P ch.length := ⟨_, rfl⟩
              obtain ⟨xs, hxs⟩ : ∃ y, y = lateS true st ch P 0 st.length := ⟨_, rfl⟩
              have HLX := Lib.hid (show lateF true st ch (addN ps x (k + 1)) = (xc, xs) by rw [hxc, hxs, HP.out]; rfl)
              rw [← hxc, ← hxs] at HL1
              have hSd := HSd.out
              clear hxc hxs n1 n2 n3 n4 HPL HQ HB HBK HC HL5 HBD
              by_cases hw : xc = -1 ∧ xs = -1
              · obtain ⟨rfl, rfl⟩ := hw
                go_wp2_with fail
                go_region_held3 (fun w' => w'.cell? ⟨w1.heap.size, 0, none⟩ = some (.slice A0 st.length c0) ∧ w'.cell? ⟨w1.heap.size, 1, none⟩ = some (.slice A1 ch.length c1) ∧ w'.cell? ⟨w1.heap.size, 2, none⟩ = some (.slice a9 P.length c9) ∧ w'.cell? ⟨1, 0, none⟩ = some (.func (.func 150) #[] #[]) ∧ w'.cell? ⟨1, 1, none⟩ = some (.func (.func 149) #[] #[]) ∧ w'.cell? ⟨1, 2, none⟩ = some (.func (.func 150) #[] #[]) ∧ w'.cell? ⟨2, 0, none⟩ = some (.int .i64 (-1)) ∧ w'.cell? ⟨2, 1, none⟩ = some (.int .i64 (-1)))
                  (first | assumption | exact S8_keep hb7 hSd)
                  ((go_at_call 65; refine (HL1.out).mono ?_; rintro e w7 ⟨rfl, hb7⟩))
                have hB7 := HBD2.out.trans (hb7.mono HBD2.out.size)
                have HR7 := Lib.hid (show RelM w w1.heap.size A0 A1 c0 c1 st ch ps x d (k + 1) w7 from
                  ⟨a9, c9, by rw [← HP.out]; exact (hB7.block _ n5).trans HN1.out, by rw [← HP.out]; exact Kd.C_below HN2.out hB7, HN3.out.below hB7, HN4.out.trans (hB7.mono HN4.out.size), by have := hB7.size; omega, by
                    rw [HM.out, show d - k = (d - (k + 1)) + 1 by omega, moreN, if_pos HLX.out]⟩)
                clear hb7 hSd hB7
                try clear hHeld
                go_wp2_with fail
                go_roundw
                case rel => exact ⟨k + 1, by omega, by go_num, HR7.out⟩
                case measure => simp [intOf]; omega
              · have hw2 : (xc == -1 && xs == -1) = false := by simpa using hw
                have HW := Lib.hid hw
                clear hw
                go_wp2_with fail
                go_region_held3 (fun w' => w'.cell? ⟨w1.heap.size, 0, none⟩ = some (.slice A0 st.length c0) ∧ w'.cell? ⟨w1.heap.size, 1, none⟩ = some (.slice A1 ch.length c1) ∧ w'.cell? ⟨w1.heap.size, 2, none⟩ = some (.slice a9 P.length c9) ∧ w'.cell? ⟨1, 0, none⟩ = some (.func (.func 150) #[] #[]) ∧ w'.cell? ⟨1, 1, none⟩ = some (.func (.func 149) #[] #[]) ∧ w'.cell? ⟨1, 2, none⟩ = some (.func (.func 150) #[] #[]) ∧ w'.cell? ⟨2, 0, none⟩ = some (.int .i64 (-1)) ∧ w'.cell? ⟨2, 1, none⟩ = some (.int .i64 (-1)))
                  (first | assumption | exact S8_keep hb7 hSd)
                  ((go_at_call 65; refine (HL1.out).mono ?_; rintro e w7 ⟨rfl, hb7⟩))
                have HB7 := Lib.hid (HBX.out.trans (hb7.mono HBX.out.size))
                clear hb7 hSd
                try clear hHeld
                go_wp2_with fail
                go_ret2
                have hq := HRA.out
                rw [HM.out, show d - k = (d - (k + 1)) + 1 by omega, moreN, if_neg (by rw [HLX.out]; simpa using HW.out)] at hq
                cases hq
                exact ⟨rfl, HB7.out⟩
          · obtain rfl : k = d := by omega
            go_wp2_with fail
            go_ret2
            obtain ⟨_, _, _, _, _, hb, _, hm⟩ := HRM.out
            have hq := HRA.out
            rw [hm, Nat.sub_self] at hq
            cases hq
            exact ⟨rfl, hb⟩
      · have hw2 : (wc == -1 && ws == -1) = false := by simpa using hw
        have HW := Lib.hid hw
        clear hw
        go_region_held3 (fun w' => w'.cell? ⟨w1.heap.size, 0, none⟩ = some (.slice A0 st.length c0) ∧ w'.cell? ⟨w1.heap.size, 1, none⟩ = some (.slice A1 ch.length c1) ∧ w'.cell? ⟨w1.heap.size, 2, none⟩ = some (.slice A2 ps.length c2) ∧ w'.cell? ⟨1, 0, none⟩ = some (.func (.func 150) #[] #[]) ∧ w'.cell? ⟨1, 1, none⟩ = some (.func (.func 149) #[] #[]) ∧ w'.cell? ⟨1, 2, none⟩ = some (.func (.func 150) #[] #[]) ∧ w'.cell? ⟨2, 0, none⟩ = some (.int .i64 (-1)) ∧ w'.cell? ⟨2, 1, none⟩ = some (.int .i64 (-1)))
          (first | assumption | exact S8_keep hb5 hSd)
          ((go_at_call 65; refine (HL0.out).mono ?_; rintro e w5 ⟨rfl, hb5⟩))
        have HB5 := Lib.hid (HBD.out.trans (hb5.mono HBD.out.size))
        clear hb5 hSd
        try clear hHeld
        go_wp2_with fail
        go_ret2
        have hq := HRR.out
        rw [if_pos True.intro, if_pos HLT.out, if_neg (by rw [HLF.out]; simpa using HW.out)] at hq
        cases hq
        exact ⟨rfl, HB5.out⟩
    · have hlf : livesB ch.length x = false := by simpa using hlv
      have HLV1 := Lib.hid (show ∀ W, Calls Tryd.prog 62 #[.agg #[.slice A0 st.length c0, .slice A1 ch.length c1], .agg #[.int .i64 x.f0, .int .i64 x.f1.f0, .int .i64 x.f1.f1, .int .i64 x.f2.f0, .int .i64 x.f2.f1]] W fun e w' => e = .returned (.bool false) ∧ Below W.heap.size W w' by intro W; have := HLV.out W; rwa [hlf] at this)
      have HLF := Lib.hid hlf
      clear HLV hlv hlf
      go_wp2_with (go_at_call 62; refine (HLV1.out _).mono ?_; rintro e w3 ⟨rfl, hb3⟩; have HB3 := Lib.hid hb3; clear hb3)
      go_ret2
      have hq := HRR.out
      rw [if_pos True.intro, if_neg (by rw [HLF.out]; simp)] at hq
      cases hq
      exact ⟨rfl, HB2.out.trans (HB3.out.mono HB2.out.size)⟩
  · go_wp2_with fail
    go_ret2
    have hq := HRR.out
    rw [if_neg hr0] at hq
    cases hq
    exact ⟨rfl, HB1.out.alloc (by omega) _⟩
end Go.Proofs.YtdeaccbolnlgpaaDoor.X
