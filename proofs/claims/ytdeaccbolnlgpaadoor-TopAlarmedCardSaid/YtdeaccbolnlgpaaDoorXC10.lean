import Derived.Test.YtdeaccbolnlgpaaDoorXC7
import Derived.Test.YtdeaccbolnlgpaaDoorXC9
namespace Go.Proofs.YtdeaccbolnlgpaaDoor.X
open Go.RowKit Go.Shelf Go.Proofs.YtdeaccbolnlgpaaDoorW.PrintWords Go.Proofs.YtdeaccbolnlgpaaDoorW.PrintLast Go.Proofs.YtdeaccbolnlgpaaDoorW.PrintMore
set_option linter.unusedVariables false
set_option linter.unusedSimpArgs false

theorem S11b_keep {A B : World} {a1 a2 a3 a4 a5 a6 a7 a8 a9 a10 a11 : Addr} {v1 v2 v3 v4 v5 v6 v7 v8 v9 v10 v11 : Value} (hb : Below A.heap.size A B) (h : A.cell? a1 = some v1 ∧ A.cell? a2 = some v2 ∧ A.cell? a3 = some v3 ∧ A.cell? a4 = some v4 ∧ A.cell? a5 = some v5 ∧ A.cell? a6 = some v6 ∧ A.cell? a7 = some v7 ∧ A.cell? a8 = some v8 ∧ A.cell? a9 = some v9 ∧ A.cell? a10 = some v10 ∧ A.cell? a11 = some v11) :
    B.cell? a1 = some v1 ∧ B.cell? a2 = some v2 ∧ B.cell? a3 = some v3 ∧ B.cell? a4 = some v4 ∧ B.cell? a5 = some v5 ∧ B.cell? a6 = some v6 ∧ B.cell? a7 = some v7 ∧ B.cell? a8 = some v8 ∧ B.cell? a9 = some v9 ∧ B.cell? a10 = some v10 ∧ B.cell? a11 = some v11 := by
  obtain ⟨h1, h2, h3, h4, h5, h6, h7, h8, h9, h10, h11⟩ := h
  exact ⟨pw_cell_below hb h1, pw_cell_below hb h2, pw_cell_below hb h3, pw_cell_below hb h4, pw_cell_below hb h5, pw_cell_below hb h6, pw_cell_below hb h7, pw_cell_below hb h8, pw_cell_below hb h9, pw_cell_below hb h10, pw_cell_below hb h11⟩

theorem eq_two' (n : Nat) (a b c d : Int) (w : World) : (Op.equalIn (n + 1 + 1) 122 (.agg #[.int .i64 a, .int .i64 b]) (.agg #[.int .i64 c, .int .i64 d])).run Tryd.prog w = .ok (a == c && b == d) w := by
  have h1 := fun (x y : Int) => run_equalIn_int (P := Tryd.prog) (w := w) n 3 .i64 .i64 x y Tryd.underlying3
  have hs : (sizeOf 3).run Tryd.prog w = .ok 1 w := by
    obtain ⟨i0, hi, _, hz1, _⟩ := info_parts info3
    simp [sizeOf, typeInfo, hi, Result.andThen, hz1]
  have hp : ∀ (xs : Array Value) (i : Nat) (v : Value), xs[i]? = some v → (part 3 xs i).run Tryd.prog w = .ok v w := by
    intro xs i v hv
    obtain ⟨i0, hi, _, hz1, _⟩ := info_parts info3
    simp [part, Tryd.underlying3, run_underlying, Result.andThen, hv]
  have p0 := fun (x y : Value) => hp #[x, y] 0 x rfl
  have p1 := fun (x y : Value) => hp #[x, y] 1 y rfl
  rw [Op.equalIn]
  simp only [Sem.run_bind, run_underlying Tryd.underlying122, Result.andThen_ok, hs, Std.Legacy.Range.forIn_eq_forIn_range', Std.Legacy.Range.size]
  cases h2 : (a == c) <;> cases h3 : (b == d) <;> simp [List.range'_succ, p0, p1, h1, h2, h3, Result.andThen]
theorem eq_two (a b c d : Int) (w : World) : (Op.equalIn 10000 122 (.agg #[.int .i64 a, .int .i64 b]) (.agg #[.int .i64 c, .int .i64 d])).run Tryd.prog w = .ok (a == c && b == d) w := eq_two' 9998 a b c d w
attribute [local go_sem] eq_two
/-- Where they are late: the chamber, the stair. -/
def lateF (b : Bool) (st : List S62) (ch : List S81) (pe : List S48) : Int × Int := (lateC b ch pe ch.length, lateS b st ch pe 0 st.length)
/-- The results of exits.Safe. -/
def safeF (st : List S62) (ch : List S81) (pe : List S48) : Int × Int × Int × Int :=
  if checkF st ch pe = 0 then (if lateF true st ch pe = (-1, -1) then 2 else if lateF false st ch pe = (-1, -1) then 1 else 0, (lateF true st ch pe).1, (lateF true st ch pe).2, 0) else (0, 0, 0, checkF st ch pe)

set_option maxRecDepth 100000 in
set_option maxHeartbeats 4000000 in
theorem safe_any (A0 A1 A2 : Option Addr) (c0 c1 c2 : Nat) (st : List S62) (ch : List S81) (pe : List S48) (w : World) (hG : Globs w)
    (hr0 : Kd.C k62 w A0 st.length st) (hc0 : st.length ≤ c0) (hr1 : Kd.C k81 w A1 ch.length ch) (hc1 : ch.length ≤ c1) (hr2 : Kd.C k48 w A2 pe.length pe) (hl0 : st.length ≤ 1000) (hl1 : ch.length ≤ 1000) (hl2 : pe.length ≤ 1000) :
    Calls Tryd.prog 26 #[.agg #[.slice A0 st.length c0, .slice A1 ch.length c1], .slice A2 pe.length c2] w fun e w' => e = .returned (.tuple #[.int .u8 (safeF st ch pe).1, .int .i64 (safeF st ch pe).2.1, .int .i64 (safeF st ch pe).2.2.1, .int .i64 (safeF st ch pe).2.2.2]) ∧ Below w.heap.size w w' := by
  have hu3 := Tryd.underlying3
  have hu25 := Tryd.underlying25
  have hu26 := Tryd.underlying26
  have hu30 := Tryd.underlying30
  have hu36 := Tryd.underlying36
  have hu103 := Tryd.underlying103
  have hu112 := Tryd.underlying112
  have hu122 := Tryd.underlying122
  have HO := Lib.hid (fun (W : World) (hW : Below w.heap.size w W) => open_any A0 A1 A2 c0 c1 c2 st ch pe W (Kd.C_below hr0 hW) hc0 (Kd.C_below hr1 hW) hc1 (Kd.C_below hr2 hW) hl0 hl1 hl2)
  have HL := Lib.hid (fun (hF : checkF st ch pe = 0) (W : World) (hW : Below w.heap.size w W) => late_any false A0 A1 A2 c0 c1 c2 st ch pe W ((checkF_zero hF).flow false) (hG.below hW) (Kd.C_below hr0 hW) (Kd.C_below hr1 hW) (Kd.C_below hr2 hW))
  have HH := Lib.hid (fun (hF : checkF st ch pe = 0) (W : World) (hW : Below w.heap.size w W) => late_any true A0 A1 A2 c0 c1 c2 st ch pe W ((checkF_zero hF).flow true) (hG.below hW) (Kd.C_below hr0 hW) (Kd.C_below hr1 hW) (Kd.C_below hr2 hW))
  rw [endV_best] at HL
  rw [endV_worst] at HH
  unfold safeF lateF
  obtain ⟨bc, hbc⟩ : ∃ x, x = lateC false ch pe ch.length := ⟨_, rfl⟩
  obtain ⟨bs, hbs⟩ : ∃ x, x = lateS false st ch pe 0 st.length := ⟨_, rfl⟩
  obtain ⟨wc, hwc⟩ : ∃ x, x = lateC true ch pe ch.length := ⟨_, rfl⟩
  obtain ⟨ws, hws⟩ : ∃ x, x = lateS true st ch pe 0 st.length := ⟨_, rfl⟩
  obtain ⟨r, hr⟩ : ∃ r, r = checkF st ch pe := ⟨_, rfl⟩
  rw [← hr] at HO HL HH ⊢
  rw [← hbc, ← hbs] at HL ⊢
  rw [← hwc, ← hws] at HH ⊢
  clear hr hbc hbs hwc hws hr0 hr1 hr2 hl0 hl1 hl2
  obtain ⟨⟨⟨ga0, ga1, ga2⟩, ⟨gb0, gb1, gb2⟩⟩, gc0, gc1⟩ := hG
  have lg := World.block_lt_of_cell? w _ gc1
  dsimp only at lg
  go_enter Tryd.func26, Tryd.ntmps26
  go_wp2_with fail
  obtain ⟨W0, hW0⟩ : ∃ W0, w.alloc (.cells #[.slice A0 st.length c0, .slice A1 ch.length c1] 25) = W0 := ⟨_, rfl⟩
  have hz0 : W0.heap.size = w.heap.size + 1 := by rw [← hW0]; simp
  have hB0 : Below w.heap.size w W0 := by rw [← hW0]; exact (Below.refl _ w).alloc (Nat.le_refl _) _
  rw [hW0]
  clear hW0
  refine (HO.out W0 hB0).mono ?_
  rintro e w1 ⟨rfl, hb1⟩
  have hw1 := hb1.size
  have HB1 := Lib.hid (hB0.trans (hb1.mono hB0.size))
  have ga := pw_cell_below HB1.out ga0
  have gb := pw_cell_below HB1.out ga1
  have gc := pw_cell_below HB1.out ga2
  have gd := pw_cell_below HB1.out gb0
  have ge := pw_cell_below HB1.out gb1
  have gf := pw_cell_below HB1.out gb2
  have gg := pw_cell_below HB1.out gc0
  have gh := pw_cell_below HB1.out gc1
  clear hB0 hb1 ga0 ga1 ga2 gb0 gb1 gb2 gc0 gc1
  by_cases hr0 : r = 0
  · subst hr0
    have HL0 := Lib.hid (HL.out rfl)
    have HH0 := Lib.hid (HH.out rfl)
    clear HL HH HO
    obtain ⟨W2, hW2⟩ : ∃ W2, w1.alloc (.cells #[.slice A0 st.length c0, .slice A1 ch.length c1, .slice A2 pe.length c2] 103) = W2 := ⟨_, rfl⟩
    have hB2 : Below w1.heap.size w1 W2 := by rw [← hW2]; exact (Below.refl _ _).alloc (Nat.le_refl _) _
    have b0 : W2.cell? ⟨w1.heap.size, 0, none⟩ = some (.slice A0 st.length c0) := by rw [← hW2]; clear hW2; go_simp
    have b1 : W2.cell? ⟨w1.heap.size, 1, none⟩ = some (.slice A1 ch.length c1) := by rw [← hW2]; clear hW2; go_simp
    have b2 : W2.cell? ⟨w1.heap.size, 2, none⟩ = some (.slice A2 pe.length c2) := by rw [← hW2]; clear hW2; go_simp
    have hz2 := hB2.size
    have hz2' : w1.heap.size < W2.heap.size := by rw [← hW2]; simp
    have hSS : W2.cell? ⟨w1.heap.size, 0, none⟩ = some (.slice A0 st.length c0) ∧ W2.cell? ⟨w1.heap.size, 1, none⟩ = some (.slice A1 ch.length c1) ∧ W2.cell? ⟨w1.heap.size, 2, none⟩ = some (.slice A2 pe.length c2) ∧ W2.cell? ⟨0, 0, none⟩ = some (.func (.func 149) #[] #[]) ∧ W2.cell? ⟨0, 1, none⟩ = some (.func (.func 150) #[] #[]) ∧ W2.cell? ⟨0, 2, none⟩ = some (.func (.func 149) #[] #[]) ∧ W2.cell? ⟨1, 0, none⟩ = some (.func (.func 150) #[] #[]) ∧ W2.cell? ⟨1, 1, none⟩ = some (.func (.func 149) #[] #[]) ∧ W2.cell? ⟨1, 2, none⟩ = some (.func (.func 150) #[] #[]) ∧ W2.cell? ⟨2, 0, none⟩ = some (.int .i64 (-1)) ∧ W2.cell? ⟨2, 1, none⟩ = some (.int .i64 (-1)) := ⟨b0, b1, b2, pw_cell_below hB2 ga, pw_cell_below hB2 gb, pw_cell_below hB2 gc, pw_cell_below hB2 gd, pw_cell_below hB2 ge, pw_cell_below hB2 gf, pw_cell_below hB2 gg, pw_cell_below hB2 gh⟩
    have HBW := Lib.hid (HB1.out.trans (hB2.mono (by omega)))
    have HSS := Lib.hid hSS
    obtain ⟨_, _, _, _, _, _, u4, u5, u6, u7, u8⟩ := hSS
    clear hB2 ga gb gc gd ge gf gg gh
    go_wp2_with fail
    refine (HH0.out W2 HBW.out).mono ?_
    rintro e w3 ⟨rfl, hb3⟩
    have hz3 := hb3.size
    have HB3 := Lib.hid (HBW.out.trans (hb3.mono HBW.out.size))
    have HS3 := Lib.hid (S11b_keep hb3 HSS.out)
    clear hW2 hb3 u4 u5 u6 u7 u8 b0 b1 b2
    obtain ⟨u1, u2, u3, u4, u5, u6, _, _, _, u7, u8⟩ := HS3.out
    have l3 : w1.heap.size < w3.heap.size := by omega
    have l0 : 0 < w3.heap.size := by omega
    have l2 : 2 < w3.heap.size := by omega
    by_cases hw : wc = -1 ∧ ws = -1
    · obtain ⟨rfl, rfl⟩ := hw
      go_wp2_with fail
      go_quiet (fail)
      go_wp2_with fail
      refine bodyPost_ret (results_list (rs := [.tmp 4, .tmp 5, .tmp 6, .tmp 7]) rfl (by simp) (.tmp (.tmp (.tmp (.tmp .nil))))) rfl ?_
      exact ⟨by simp, pw_below_drewN (HB3.out.alloc (by omega) _) _⟩
    · have hw2 : (wc == -1 && ws == -1) = false := by simpa using hw
      obtain ⟨W4, hW4⟩ : ∃ W4, w3.alloc (.cells #[.int .i64 wc, .int .i64 ws] 122) = W4 := ⟨_, rfl⟩
      have hB4 : Below w3.heap.size w3 W4 := by rw [← hW4]; exact (Below.refl _ _).alloc (Nat.le_refl _) _
      have j0 : W4.cell? ⟨w3.heap.size, 0, none⟩ = some (.int .i64 wc) := by rw [← hW4]; clear hW4; go_simp
      have j1 : W4.cell? ⟨w3.heap.size, 1, none⟩ = some (.int .i64 ws) := by rw [← hW4]; clear hW4; go_simp
      have HS4 := Lib.hid (S11b_keep hB4 HS3.out)
      have HB4 := Lib.hid (HB3.out.trans (hB4.mono HB3.out.size))
      have hz4 := hB4.size
      obtain ⟨_, _, _, _, _, _, _, _, _, y7, y8⟩ := HS4.out
      go_wp2_with fail
      clear hW4 hB4 y7 y8
      have HD := Lib.hid (below_drew (Below.refl W4.heap.size W4))
      have hSd := S11b_keep HD.out HS4.out
      have HBD := Lib.hid (HB4.out.trans (HD.out.mono HB4.out.size))
      by_cases hw3 : bc = -1 ∧ bs = -1
      · obtain ⟨rfl, rfl⟩ := hw3
        go_region_held3 (fun w' => w'.cell? ⟨w1.heap.size, 0, none⟩ = some (.slice A0 st.length c0) ∧ w'.cell? ⟨w1.heap.size, 1, none⟩ = some (.slice A1 ch.length c1) ∧ w'.cell? ⟨w1.heap.size, 2, none⟩ = some (.slice A2 pe.length c2) ∧ w'.cell? ⟨0, 0, none⟩ = some (.func (.func 149) #[] #[]) ∧ w'.cell? ⟨0, 1, none⟩ = some (.func (.func 150) #[] #[]) ∧ w'.cell? ⟨0, 2, none⟩ = some (.func (.func 149) #[] #[]) ∧ w'.cell? ⟨1, 0, none⟩ = some (.func (.func 150) #[] #[]) ∧ w'.cell? ⟨1, 1, none⟩ = some (.func (.func 149) #[] #[]) ∧ w'.cell? ⟨1, 2, none⟩ = some (.func (.func 150) #[] #[]) ∧ w'.cell? ⟨2, 0, none⟩ = some (.int .i64 (-1)) ∧ w'.cell? ⟨2, 1, none⟩ = some (.int .i64 (-1)))
          (assumption)
          ((go_at_call 65; refine (HL0.out _ HBD.out).mono ?_; rintro e w5 ⟨rfl, hb5⟩; have hS5 := S11b_keep hb5 hSd; have HB5 := Lib.hid (HBD.out.trans (hb5.mono HBD.out.size)); have i0 := pw_cell_below hb5 (pw_cell_below HD.out j0); have i1 := pw_cell_below hb5 (pw_cell_below HD.out j1)))
        all_goals
          clear hSd j0 j1
          try clear hHeld
          go_wp2_with fail
          go_quiet (fail)
          go_wp2_with fail
          refine bodyPost_ret (results_list (rs := [.tmp 4, .tmp 5, .tmp 6, .tmp 7]) rfl (by simp) (.tmp (.tmp (.tmp (.tmp .nil))))) rfl ?_
          exact ⟨by simp [hw], pw_below_drewN HB5.out _⟩
      · have hw4 : (bc == -1 && bs == -1) = false := by simpa using hw3
        go_region_held3 (fun w' => w'.cell? ⟨w1.heap.size, 0, none⟩ = some (.slice A0 st.length c0) ∧ w'.cell? ⟨w1.heap.size, 1, none⟩ = some (.slice A1 ch.length c1) ∧ w'.cell? ⟨w1.heap.size, 2, none⟩ = some (.slice A2 pe.length c2) ∧ w'.cell? ⟨0, 0, none⟩ = some (.func (.func 149) #[] #[]) ∧ w'.cell? ⟨0, 1, none⟩ = some (.func (.func 150) #[] #[]) ∧ w'.cell? ⟨0, 2, none⟩ = some (.func (.func 149) #[] #[]) ∧ w'.cell? ⟨1, 0, none⟩ = some (.func (.func 150) #[] #[]) ∧ w'.cell? ⟨1, 1, none⟩ = some (.func (.func 149) #[] #[]) ∧ w'.cell? ⟨1, 2, none⟩ = some (.func (.func 150) #[] #[]) ∧ w'.cell? ⟨2, 0, none⟩ = some (.int .i64 (-1)) ∧ w'.cell? ⟨2, 1, none⟩ = some (.int .i64 (-1)))
          (assumption)
          ((go_at_call 65; refine (HL0.out _ HBD.out).mono ?_; rintro e w5 ⟨rfl, hb5⟩; have hS5 := S11b_keep hb5 hSd; have HB5 := Lib.hid (HBD.out.trans (hb5.mono HBD.out.size)); have i0 := pw_cell_below hb5 (pw_cell_below HD.out j0); have i1 := pw_cell_below hb5 (pw_cell_below HD.out j1)))
        all_goals
          clear hSd j0 j1
          try clear hHeld
          go_wp2_with fail
          go_quiet (fail)
          go_wp2_with fail
          refine bodyPost_ret (results_list (rs := [.tmp 4, .tmp 5, .tmp 6, .tmp 7]) rfl (by simp) (.tmp (.tmp (.tmp (.tmp .nil))))) rfl ?_
          exact ⟨by simp [hw, hw3], pw_below_drewN HB5.out _⟩
  · clear HL HH HO
    go_wp2_with fail
    refine bodyPost_ret (results_list (rs := [.tmp 4, .tmp 5, .tmp 6, .tmp 7]) rfl (by simp) (.tmp (.tmp (.tmp (.tmp .nil))))) rfl ?_
    exact ⟨by simp [hr0], HB1.out.alloc (by omega) _⟩
end Go.Proofs.YtdeaccbolnlgpaaDoor.X
