import Derived.Test.YtdeaccbolnlgpaaDoorXC9
namespace Go.Proofs.YtdeaccbolnlgpaaDoor.X
open Go.RowKit Go.Shelf Go.Proofs.YtdeaccbolnlgpaaDoorW.PrintWords Go.Proofs.YtdeaccbolnlgpaaDoorW.PrintLast Go.Proofs.YtdeaccbolnlgpaaDoorW.PrintMore
set_option linter.unusedVariables false
set_option linter.unusedSimpArgs false
attribute [local go_sem] Oper.semAt_some

theorem comeAt_len (st : List S62) (ch : List S81) (ps : List S48) : ∀ (k : Nat) (i : Int), (comeAt false st ch ps k i).length = (comeAt true st ch ps k i).length
  | 0, i => by simp [comeAt, comeO]
  | k + 1, i => by
    have ih := comeAt_len st ch ps k
    have hl : (leftOf false (rd_T62 st k) (comeAt false st ch ps k k)).length = (leftOf true (rd_T62 st k) (comeAt true st ch ps k k)).length := by
      simp only [leftOf, flowL_length, sortL_length]; exact ih k
    have hp : ∀ j, (putM (k : Int) [] (comeAt false st ch ps k) j).length = (putM (k : Int) [] (comeAt true st ch ps k) j).length := fun j => by
      unfold putM; split
      · rfl
      · exact ih j
    simp only [comeAt, comeN]
    by_cases e : i = (rd_T62 st k).f0
    · subst e
      simp only [putM, if_true, List.length_append, hl]
      have := hp (rd_T62 st k).f0
      simp only [putM] at this
      omega
    · simp only [putM, if_neg e]
      have := hp i
      simpa only [putM] using this
theorem leftAt_len (st : List S62) (ch : List S81) (ps : List S48) (k : Nat) : (leftAt false st ch ps k).length = (leftAt true st ch ps k).length := by
  simp only [leftAt, leftOf, flowL_length, sortL_length]; exact comeAt_len st ch ps k k

/-- The results of exits.Leaves. -/
def leavesF (st : List S62) (ch : List S81) (pe : List S48) (i : Int) : List S36 × Int :=
  if checkF st ch pe = 0 then (if inB 0 ((st.length : Int) - 1) [i] = true then (List.zipWith S36.mk (leftAt false st ch pe i.toNat) (leftAt true st ch pe i.toNat), 0) else ([], 2)) else ([], checkF st ch pe)

theorem own36_mw {B base n : Nat} {v : Value} {xs : List Value} {W W' : World} (h : W.ownsRow base 36 2 v n xs) (hm : Mw B W W') : W'.ownsRow base 36 2 v n xs :=
  own_move h fun k hk => by
    obtain ⟨cells, hc⟩ := own_typed h k hk
    by_cases hB : k < B
    · exact hm.below.block k hB
    · rw [hm.other k _ (by omega) hc rfl, hc]
theorem boxed_mw {B k : Nat} {t : TypeId} {v : Value} {W W' : World} (h : Boxed W k t v) (hk : k < B) (hm : Mw B W W') : Boxed W' k t v := (hm.below.block k hk).trans h

theorem own36_at {W : World} {base n c m : Nat} {a : Option Addr} {xs : List Value} (h : W.ownsRow base 36 2 (.slice a n c) n xs) (hm : m < n) :
    ∃ g, a = some ⟨g, 0, none⟩ ∧ n ≤ c ∧ base ≤ g ∧ g < W.heap.size ∧ W.frozen? ⟨g, m * 2 + 1, none⟩ = false ∧ (∃ cells, W.heap[g]? = some (.cells cells 36 (0, 0))) ∧ (∃ u, W.cell? ⟨g, m * 2 + 1, none⟩ = some u) ∧
      ∀ u', (W.setCell ⟨g, m * 2 + 1, none⟩ u').ownsRow base 36 2 (.slice a n c) n (xs.set (m * 2 + 1) u') := by
  obtain ⟨h1, h2⟩ := h
  rcases h2 with ⟨hv, h0⟩ | ⟨g, cap, cur, hv, hg, hh, hnc, hcm, hcs, htk⟩
  · omega
  · simp only [Value.slice.injEq] at hv
    obtain ⟨rfl, _, rfl⟩ := hv
    have hgl := (Array.getElem?_eq_some_iff.1 hh).1
    have hlt : m * 2 + 1 < cur.size := by omega
    refine ⟨g, rfl, hnc, hg, hgl, by simp [World.frozen?, hh], ⟨cur, hh⟩, ⟨cur[m * 2 + 1], by simp [World.cell?, hh, hlt]⟩, fun u' => ⟨by simpa using h1, .inr ⟨g, c, cur.setIfInBounds (m * 2 + 1) u', rfl, hg, ?_, hnc, hcm, by simpa using hcs, ?_⟩⟩⟩
    · simp [World.setCell, Array.getElem?_modify, hh]
    · rw [← htk]
      simp [List.take_set]

theorem box_app {wx wa : World} {B base n : Nat} {u : Value} {tmp : Obj} {xs : List Value} (hb : Boxed wx B 29 u) (ho : wx.ownsRow base 36 2 u n xs) (hg : (wx.alloc tmp).grownBy wa u.ownBlock) : Boxed wa B 29 u :=
  (hb.alloc tmp).kept hg (Boxed.not_row hb (by decide) ho)

def cells2 (xs : List S36) : List Value := xs.flatMap fun s => [.int .i64 s.f0, .int .i64 s.f1]

/-- When m of the second ends are told. -/
def mixS (L0 L1 : List Int) (m : Nat) : List S36 := List.zipWith S36.mk (L0.take m) (L1.take m) ++ (L0.drop m).map fun t => ⟨t, 0⟩
theorem mixS_length {L0 L1 : List Int} (h : L0.length = L1.length) (m : Nat) : (mixS L0 L1 m).length = L0.length := by
  simp [mixS]; omega
theorem mixS_zero (L0 L1 : List Int) : mixS L0 L1 0 = L0.map fun t => ⟨t, 0⟩ := by simp [mixS]
theorem mixS_all {L0 L1 : List Int} (h : L0.length = L1.length) : mixS L0 L1 L1.length = List.zipWith S36.mk L0 L1 := by
  have e1 : L0.take L1.length = L0 := by rw [← h]; exact List.take_length
  have e3 : L0.drop L1.length = [] := by rw [← h]; exact List.drop_length
  unfold mixS
  rw [e1, e3, List.take_length]
  simp
theorem cells2_append (a b : List S36) : cells2 (a ++ b) = cells2 a ++ cells2 b := by simp [cells2]
theorem cells2_length (a : List S36) : (cells2 a).length = a.length * 2 := by
  induction a with
  | nil => rfl
  | cons x l ih => rw [show cells2 (x :: l) = [.int .i64 x.f0, .int .i64 x.f1] ++ cells2 l from rfl, List.length_append, ih]; simp; omega
theorem mixS_succ {L0 L1 : List Int} (h : L0.length = L1.length) {m : Nat} (hm : m < L1.length) : cells2 (mixS L0 L1 (m + 1)) = (cells2 (mixS L0 L1 m)).set (m * 2 + 1) (.int .i64 L1[m]) := by
  have h0 : m < L0.length := by omega
  have e0 : (List.zipWith S36.mk (L0.take (m + 1)) (L1.take (m + 1))) = List.zipWith S36.mk (L0.take m) (L1.take m) ++ [⟨L0[m], L1[m]⟩] := by
    rw [List.take_succ_eq_append_getElem h0, List.take_succ_eq_append_getElem hm, List.zipWith_append (by simp; omega)]
    rfl
  have e1 : L0.drop m = L0[m] :: L0.drop (m + 1) := List.drop_eq_getElem_cons h0
  unfold mixS
  rw [e0, e1, List.map_cons, cells2_append, cells2_append, cells2_append]
  have hl : (cells2 (List.zipWith S36.mk (L0.take m) (L1.take m))).length = m * 2 := by rw [cells2_length]; simp; omega
  rw [List.set_append_right _ _ (by omega), hl, show m * 2 + 1 - m * 2 = 1 by omega, List.append_assoc]
  rfl

set_option maxRecDepth 100000 in
set_option maxHeartbeats 4000000 in
theorem leaves17_any (A0 A1 A2 : Option Addr) (c0 c1 c2 : Nat) (st : List S62) (ch : List S81) (pe : List S48) (si : Int) (w : World) (hG : GlobsE w)
    (hr0 : Kd.C k62 w A0 st.length st) (hc0 : st.length ≤ c0) (hr1 : Kd.C k81 w A1 ch.length ch) (hc1 : ch.length ≤ c1) (hr2 : Kd.C k48 w A2 pe.length pe) (hl0 : st.length ≤ 1000) (hl1 : ch.length ≤ 1000) (hl2 : pe.length ≤ 1000) :
    Calls Tryd.prog 17 #[.agg #[.slice A0 st.length c0, .slice A1 ch.length c1], .slice A2 pe.length c2, .int .i64 si] w fun e w' => ∃ v, e = .returned (.tuple #[v, .int .i64 (leavesF st ch pe si).2]) ∧ w'.ownsRow w.heap.size 36 2 v (leavesF st ch pe si).1.length (cells2 (leavesF st ch pe si).1) ∧ Below w.heap.size w w' := by
  have hu3 := Tryd.underlying3
  have hu22 := Tryd.underlying22
  have hu25 := Tryd.underlying25
  have hu26 := Tryd.underlying26
  have hu29 := Tryd.underlying29
  have hu30 := Tryd.underlying30
  have hu36 := Tryd.underlying36
  have hu67 := Tryd.underlying67
  have hu103 := Tryd.underlying103
  have hu112 := Tryd.underlying112
  have HO := Lib.hid (fun (W : World) (hW : Below w.heap.size w W) => open_any A0 A1 A2 c0 c1 c2 st ch pe W (Kd.C_below hr0 hW) hc0 (Kd.C_below hr1 hW) hc1 (Kd.C_below hr2 hW) hl0 hl1 hl2)
  have HV := Lib.hid (fun (h : checkF st ch pe = 0) => checkF_zero h)
  have HR0 := Lib.hid hr0
  have HR1 := Lib.hid hr1
  have HR2 := Lib.hid hr2
  have HG := Lib.hid hG
  have hi1 := fun (b : Nat) (W : World) => in_one 0 ((st.length : Int) - 1) si b W
  unfold leavesF
  obtain ⟨r, hr⟩ : ∃ r, r = checkF st ch pe := ⟨_, rfl⟩
  obtain ⟨q, hq⟩ : ∃ q, q = inB 0 ((st.length : Int) - 1) [si] := ⟨_, rfl⟩
  rw [← hr] at HO HV ⊢
  rw [← hq] at hi1 ⊢
  have HI1 := Lib.hid hi1
  have HQ := Lib.hid hq
  clear hr hq hi1 hr0 hr1 hr2 hG
  refine (callsIn_wide (n := 2)).1 ?_
  refine callsIn_of_wp_marks Tryd.func17 rfl trivial ?_ rfl
  simp only [Tryd.ntmps17, List.size_toArray, List.length_cons, List.length_nil, Nat.reduceAdd, Nat.reduceSub, Array.replicate_succ, Array.replicate_zero, List.push_toArray, List.append_toArray, List.nil_append, List.cons_append]
  refine wpIn_wide.2 ?_
  go_wp2_with fail
  obtain ⟨W0, hW0⟩ : ∃ W0, (w.alloc (.cells #[.slice A0 st.length c0, .slice A1 ch.length c1] 25)).alloc (.cells #[.int .i64 si] 3) = W0 := ⟨_, rfl⟩
  have hz0 : W0.heap.size = w.heap.size + 2 := by rw [← hW0]; simp
  have hB0 : Below w.heap.size w W0 := by rw [← hW0]; exact ((Below.refl _ w).alloc (Nat.le_refl _) _).alloc (by simp) _
  have a0 : W0.cell? ⟨w.heap.size, 0, none⟩ = some (.slice A0 st.length c0) := by rw [← hW0]; clear hW0; go_simp
  have a1 : W0.cell? ⟨w.heap.size + 1, 0, none⟩ = some (.int .i64 si) := by rw [← hW0]; clear hW0; go_simp
  rw [hW0]
  clear hW0
  refine (HO.out W0 hB0).mono ?_
  rintro e w1 ⟨rfl, hb1⟩
  have hw1 := hb1.size
  have HB1 := Lib.hid (hB0.trans (hb1.mono hB0.size))
  have b0 := pw_cell_below hb1 a0
  have b1 := pw_cell_below hb1 a1
  clear hB0 hb1 a0 a1 HO
  by_cases hr0 : r = 0
  · subst hr0
    have HV0 := Lib.hid (HV.out rfl)
    clear HV
    obtain ⟨W2, hW2⟩ : ∃ W2, w1.alloc (.cells #[.slice A0 st.length c0, .slice A1 ch.length c1, .slice A2 pe.length c2] 103) = W2 := ⟨_, rfl⟩
    have hB2 : Below w1.heap.size w1 W2 := by rw [← hW2]; exact (Below.refl _ _).alloc (Nat.le_refl _) _
    have d0 : W2.cell? ⟨w1.heap.size, 0, none⟩ = some (.slice A0 st.length c0) := by rw [← hW2]; clear hW2; go_simp
    have d1 : W2.cell? ⟨w1.heap.size, 1, none⟩ = some (.slice A1 ch.length c1) := by rw [← hW2]; clear hW2; go_simp
    have d2 : W2.cell? ⟨w1.heap.size, 2, none⟩ = some (.slice A2 pe.length c2) := by rw [← hW2]; clear hW2; go_simp
    have hz2 : W2.heap.size = w1.heap.size + 1 := by rw [← hW2]; simp
    have HB2 := Lib.hid (HB1.out.trans (hB2.mono (by omega)))
    have b0' := pw_cell_below hB2 b0
    have b1' := pw_cell_below hB2 b1
    clear hB2
    go_wp2_with fail
    refine (HI1.out _ _ ?hx).mono ?_
    case hx => rw [← hz2]; exact (Boxed.new _ _ _).cell
    rintro e w3 ⟨rfl, hb3⟩
    have hz3 := hb3.size
    simp only [World.size_alloc] at hz3
    have HB3 := Lib.hid ((HB2.out.alloc (by omega) _).trans (hb3.mono (by simp; omega)))
    have d0' := pw_cell_below hb3 (pw_cell_below (below_of_alloc rfl) d0)
    have d1' := pw_cell_below hb3 (pw_cell_below (below_of_alloc rfl) d1)
    have d2' := pw_cell_below hb3 (pw_cell_below (below_of_alloc rfl) d2)
    have e1 := pw_cell_below hb3 (pw_cell_below (below_of_alloc rfl) b1')
    clear hW2 hb3 d0 d1 d2 b0 b1 b0' b1'
    obtain ⟨⟨ga, gb, gc⟩, ⟨gd, ge, gf⟩⟩ := HG.out.below HB3.out
    have hg0 : 0 < w3.heap.size := by omega
    have hg1 : w1.heap.size < w3.heap.size := by omega
    cases q with
    | false =>
      go_wp2_with fail
      refine ⟨_, results_list (rs := [.tmp 6, .tmp 7]) rfl (by simp) (.tmp (.tmp .nil)), ?_⟩
      exact ⟨.slice none 0 0, by simp, by simpa [cells2] using World.ownsRow_nil _ _ _ _, HB3.out⟩
    | true =>
      have hsi := inB_one.1 HQ.out.symm
      go_wp2_with fail
      refine (stairs_any _ _ _ _ _ _ _).mono ?_
      rintro e w5 ⟨rfl, hw5⟩
      have hz5 : w5.heap.size = w3.heap.size + 3 := by subst hw5; simp
      have hB5 : Below w3.heap.size w3 w5 := by subst hw5; exact (((Below.refl _ _).alloc (Nat.le_refl _) _).alloc (by simp) _).alloc (by simp; omega) _
      have bx : Boxed w5 w3.heap.size 29 (.slice none 0 0) := by subst hw5; exact ((Boxed.new _ _ _).alloc _).alloc _
      have f2 : w5.cell? ⟨w3.heap.size + 1, 0, none⟩ = some (.slice A0 st.length c0) := by subst hw5; go_simp
      have f3 : w5.cell? ⟨w3.heap.size + 1, 1, none⟩ = some (.slice A1 ch.length c1) := by subst hw5; go_simp
      have f4 : w5.cell? ⟨w3.heap.size + 1, 2, none⟩ = some (.slice A2 pe.length c2) := by subst hw5; go_simp
      have f5 : w5.cell? ⟨w3.heap.size + 2, 0, none⟩ = some (.func (.func 149) #[] #[]) := by subst hw5; go_simp
      have f6 : w5.cell? ⟨w3.heap.size + 2, 1, none⟩ = some (.func (.func 150) #[] #[]) := by subst hw5; go_simp
      have f7 : w5.cell? ⟨w3.heap.size + 2, 2, none⟩ = some (.func (.func 149) #[] #[]) := by subst hw5; go_simp
      have h0 := pw_cell_below hB5 d0'
      have h1 := pw_cell_below hB5 d1'
      have h2 := pw_cell_below hB5 d2'
      have h3 := pw_cell_below hB5 e1
      have hBw := HB3.out.trans (hB5.mono HB3.out.size)
      have hF0 := HV0.out.flow false
      simp only [World.size_alloc]
      clear hw5 d0' d1' d2' e1
      have hqlt : w.heap.size + 1 < w3.heap.size := by omega
      go_wp2_with fail
      refine (wpIn_wide (n := 2)).1 ?_
      refine' wpIn_range_stairs false (w3.heap.size + 1) (w3.heap.size + 2) A0 A1 A2 c0 c1 c2 st ch pe w HR0.out HR1.out HR2.out hBw (by omega) (by omega) (by omega) (by omega) f2 f3 f4 f5 f6 f7 hF0.nst hF0.nch hF0.nps hF0.ok hF0.stair hF0.len hF0.val rfl rfl
        (fun k W => (∃ v, Boxed W w3.heap.size 29 v ∧ (if si < (k : Int) then W.ownsRow w5.heap.size 36 2 v (leftAt false st ch pe si.toNat).length (cells2 ((leftAt false st ch pe si.toNat).map fun t => ⟨t, 0⟩)) else v = .slice none 0 0)) ∧
          (W.cell? ⟨w1.heap.size, 0, none⟩ = some (.slice A0 st.length c0) ∧ W.cell? ⟨w1.heap.size, 1, none⟩ = some (.slice A1 ch.length c1) ∧ W.cell? ⟨w1.heap.size, 2, none⟩ = some (.slice A2 pe.length c2)) ∧ W.cell? ⟨w.heap.size + 1, 0, none⟩ = some (.int .i64 si) ∧ Below w.heap.size w W)
        (fun _ _ _ => False)
        ?hI (fun _ _ _ _ h _ => h) ⟨⟨_, bx, by rw [if_neg (by omega)]⟩, ⟨h0, h1, h2⟩, h3, hBw⟩ _ ?assign ?body ?done ?stop
      case hI =>
        rintro k W W' ⟨⟨v, h1, h2⟩, ⟨h3, h4, h5⟩, h6, h7⟩ hm
        refine ⟨⟨v, boxed_mw h1 (by omega) hm, ?_⟩, ⟨(hm.below.cell (p := ⟨w1.heap.size, 0, none⟩) (by simp <;> omega)).trans h3, (hm.below.cell (p := ⟨w1.heap.size, 1, none⟩) (by simp <;> omega)).trans h4, (hm.below.cell (p := ⟨w1.heap.size, 2, none⟩) (by simp <;> omega)).trans h5⟩, (hm.below.cell (p := ⟨w.heap.size + 1, 0, none⟩) (by simp <;> omega)).trans h6, h7.trans (hm.below.mono (by omega))⟩
        split
        · rename_i hk; rw [if_pos hk] at h2; exact own36_mw h2 hm
        · rename_i hk; rw [if_neg hk] at h2; exact h2
      case assign =>
        intro l k v W K hK
        gi_wp2
        exact hK
      case body =>
        rintro l k v W hkl ⟨⟨va, hbx, hva⟩, hhs, h6, h7⟩ hsz hsame hown
        have l6 : w.heap.size + 1 < W.heap.size := by omega
        have HHS := Lib.hid hhs
        have H7 := Lib.hid h7
        clear hhs h7 hsame
        by_cases hk : (k : Int) = si
        · subst hk
          rw [if_neg (by omega)] at hva
          subst hva
          have hkn : ((k : Int)).toNat = k := by simp
          rw [hkn]
          obtain ⟨L, hL⟩ : ∃ L, L = leftAt false st ch pe k := ⟨_, rfl⟩
          have HLL := Lib.hid (hF0.leftLen k)
          rw [← hL] at hown HLL ⊢
          clear hL
          obtain ⟨vl, vc, rfl⟩ := own_slice hown
          have HOW := Lib.hid hown
          have HBX := Lib.hid hbx
          have hll := HLL.out
          obtain ⟨i0, hi, hiz0, hiz1, hiz2⟩ := info_parts info36
          clear hown hbx
          gi_wp2
          gi_loopw [14, 46, 47, 48, 49, 50, 51, 52, 53, 54, 55] (fun _ i _ _ _ _ _ _ _ _ _ wx => ∃ n : Nat, n ≤ L.length ∧ i = .int .i64 n ∧ (∃ u, Boxed wx w3.heap.size 29 u ∧ wx.ownsRow W.heap.size 36 2 u n (cells2 ((L.take n).map fun t => ⟨t, 0⟩))) ∧ Below w.heap.size W wx ∧ ∀ j, j < W.heap.size → j ≠ w3.heap.size → wx.heap[j]? = W.heap[j]?) (fun _ i _ _ _ _ _ _ _ _ _ _ => L.length - (intOf i).toNat)
          case atStart => exact ⟨0, by omega, rfl, ⟨_, HBX.out, World.ownsRow_nil _ _ _ _⟩, Below.refl _ _, fun _ _ _ => rfl⟩
          case round =>
            rename World => wx
            obtain ⟨n, hn, rfl, ⟨u, hbu, hou⟩, hbw, hsm⟩ := hrel
            have hzx := hbw.size
            have hcu := hbu.cell
            have hfu := hbu.frozen
            have hlu := hbu.lt
            have HBU := Lib.hid hbu
            have HOU := Lib.hid hou
            have HBW := Lib.hid hbw
            have HSM := Lib.hid hsm
            clear hbu hou hbw hsm
            by_cases hlt : n < L.length
            · obtain ⟨g, rfl, _, hcap, hga, hgb, hcc⟩ := own_cell HOW.out hlt
              have hcx : wx.cell? ⟨g, n, none⟩ = some (.int .i64 L[n]) := (cell_of_block (HSM.out g hgb (by omega))).trans hcc
              have HTK := Lib.hid (show cells2 ((L.take (n + 1)).map fun t => (⟨t, 0⟩ : S36)) = cells2 ((L.take n).map fun t => ⟨t, 0⟩) ++ [.int .i64 L[n], .int .i64 0] by unfold cells2; rw [List.take_succ_eq_append_getElem hlt, List.map_append, List.flatMap_append]; rfl)
              generalize L[n] = t at *
              clear hcc
              gi_wp2_with (gi_at_builtin; go_loud (refine wpListIn_append_own_at _ rfl _ _ 29 rfl W.heap.size 36 i0 (.agg #[.int .i64 0, .int .i64 0]) 2 16 hu29 hi hiz0 hiz1 hiz2 rfl (by decide) _ _ _ rfl (HOU.out.alloc _) ⟨wx.heap.size, 0, none⟩ 1 1 [.int .i64 t, .int .i64 0] rfl rfl (by intro j x hj; match j, hj with | 0, hj => cases hj; exact by go_simp | 1, hj => cases hj; exact by go_simp | (j + 2), hj => simp at hj) (by simp [Value.oneCell']) (by unfold maxLen; omega) (by omega) (by simp; omega) ?_; intro v' wa hown' hgrow hnil' hat'; obtain ⟨g', cap', rfl⟩ := ownsRow_succ hown'; have hv1 := box_app HBU.out HOU.out hgrow; have hc1 := hv1.cell; have hf1 := hv1.frozen; have hl1 := hv1.lt; have HV1 := Lib.hid hv1; have HOA := Lib.hid hown'; have HGR := Lib.hid hgrow; clear hv1 hown' hgrow hnil'))
              go_roundw
              case rel =>
                have hne : w3.heap.size ≠ wx.heap.size := by omega
                have hrow : ∀ j, u.ownBlock = some j → W.heap.size ≤ j := fun j hj => (HOU.out.lt j hj).1
                have hB1 : Below W.heap.size wx wa := (((Below.refl W.heap.size wx).alloc hzx _).grown HGR.out (by simp; omega) hrow)
                refine ⟨n + 1, by omega, by simp, ⟨_, Boxed.set _ HV1.out, ?_⟩, (HBW.out.trans (hB1.mono (by omega))).setCell (by show w.heap.size ≤ w3.heap.size; omega) _, fun j hj hj3 => ?_⟩
                · rw [HTK.out]
                  refine own_move HOA.out fun j hj => Below.heap_setCell _ _ _ _ ?_
                  have := (HOA.out.lt j hj).1
                  show j ≠ w3.heap.size
                  omega
                · rw [Below.heap_setCell _ _ _ _ hj3, hB1.block j hj, HSM.out j hj hj3]
              case measure => simp [intOf]; omega
            · obtain rfl : n = L.length := by omega
              rw [List.take_length] at HOU
              gi_wp2
              have hsame1 : ∀ o, wx.cell? ⟨w1.heap.size, o, none⟩ = W.cell? ⟨w1.heap.size, o, none⟩ := fun o => cell_of_block (HSM.out _ (by omega) (by omega))
              refine ⟨⟨HBW.out.mono (by omega), fun j hj hjl => HSM.out j hjl (by omega)⟩, ⟨u, HBU.out, ?_⟩, ⟨(hsame1 0).trans HHS.out.1, (hsame1 1).trans HHS.out.2.1, (hsame1 2).trans HHS.out.2.2⟩, (cell_of_block (HSM.out (w.heap.size + 1) (by omega) (by omega))).trans h6, H7.out.trans (HBW.out.mono (by omega))⟩
              rw [if_pos (by omega)]
              exact own_weaken HOU.out (by omega)
        · gi_wp2
          refine ⟨Rd.refl _ _ _ _ _, ⟨va, hbx, ?_⟩, HHS.out, h6, H7.out⟩
          by_cases hk2 : si < (k : Int)
          · rw [if_pos (by omega)]; rw [if_pos hk2] at hva; exact hva
          · rw [if_neg (by omega)]; rw [if_neg hk2] at hva; exact hva
      case done =>
        rintro D W hD ⟨⟨va, hbx, hva⟩, ⟨y1, y2, y3⟩, h6, h7⟩ hK
        rw [if_pos (by omega)] at hva
        have hza := h7.size
        have lD := (Array.getElem?_eq_some_iff.1 hK).1
        obtain ⟨⟨ga', gb', gc'⟩, ⟨gd', ge', gf'⟩⟩ := HG.out.below h7
        have HBX := Lib.hid hbx
        have HVA := Lib.hid hva
        have H7 := Lib.hid h7
        have HK := Lib.hid hK
        have lg0 : 1 < W.heap.size := by omega
        have lg1 : w1.heap.size < W.heap.size := by omega
        clear hbx hva h7 hK
        have hli : si.toNat < st.length := by omega
        have hsn : ((si.toNat : Nat) : Int) = si := by omega
        obtain ⟨ki, hki⟩ : ∃ ki, ki = si.toNat := ⟨_, rfl⟩
        rw [← hki] at HVA hli hsn
        have HKI := Lib.hid hki
        have HLN := Lib.hid (leftAt_len st ch pe ki)
        have hF1 := HV0.out.flow true
        have HLL := Lib.hid (hF1.leftLen ki)
        obtain ⟨L0, hL0⟩ : ∃ L, L = leftAt false st ch pe ki := ⟨_, rfl⟩
        obtain ⟨L1, hL1⟩ : ∃ L, L = leftAt true st ch pe ki := ⟨_, rfl⟩
        rw [← hL0, ← hL1] at HLN
        have HL0 := Lib.hid hL0
        rw [← hL0] at HVA
        rw [← hL1] at HLL
        have HL1 := Lib.hid hL1
        clear hL0 hki hL1
        go_wp2_with fail
        refine (stairs_any _ _ _ _ _ _ _).mono ?_
        rintro e w8 ⟨rfl, hw8⟩
        have hz8 : w8.heap.size = W.heap.size + 2 := by subst hw8; simp
        have hB8 : Below W.heap.size W w8 := by subst hw8; exact ((Below.refl _ _).alloc (Nat.le_refl _) _).alloc (by simp) _
        have f2 : w8.cell? ⟨W.heap.size, 0, none⟩ = some (.slice A0 st.length c0) := by subst hw8; go_simp
        have f3 : w8.cell? ⟨W.heap.size, 1, none⟩ = some (.slice A1 ch.length c1) := by subst hw8; go_simp
        have f4 : w8.cell? ⟨W.heap.size, 2, none⟩ = some (.slice A2 pe.length c2) := by subst hw8; go_simp
        have f5 : w8.cell? ⟨W.heap.size + 1, 0, none⟩ = some (.func (.func 150) #[] #[]) := by subst hw8; go_simp
        have f6 : w8.cell? ⟨W.heap.size + 1, 1, none⟩ = some (.func (.func 149) #[] #[]) := by subst hw8; go_simp
        have f7 : w8.cell? ⟨W.heap.size + 1, 2, none⟩ = some (.func (.func 150) #[] #[]) := by subst hw8; go_simp
        have hbx8 : Boxed w8 w3.heap.size 29 va := (hB8.block _ HBX.out.lt).trans HBX.out
        have hva8 := own_move (w1 := w8) HVA.out (fun j hj => hB8.block j (HVA.out.lt j hj).2)
        have hst8 := pw_cell_below hB8 h6
        have hK8 := (hB8.block D lD).trans HK.out
        have hBw8 := H7.out.trans (hB8.mono H7.out.size)
        clear hw8 h6
        go_wp2_with fail
        refine (wpIn_wide (n := 2)).1 ?_
        refine' wpIn_range_stairs true W.heap.size (W.heap.size + 1) A0 A1 A2 c0 c1 c2 st ch pe w HR0.out HR1.out HR2.out hBw8 (by omega) (by omega) (by omega) (by omega) f2 f3 f4 f5 f6 f7 hF1.nst hF1.nch hF1.nps hF1.ok hF1.stair hF1.len hF1.val rfl rfl
          (fun k X => Boxed X w3.heap.size 29 va ∧ X.ownsRow w5.heap.size 36 2 va L0.length (cells2 (if si < (k : Int) then List.zipWith S36.mk L0 L1 else L0.map fun t => ⟨t, 0⟩)) ∧ X.cell? ⟨w.heap.size + 1, 0, none⟩ = some (.int .i64 si) ∧ X.heap[D]? = some (.deferred (some [])) ∧ Below w.heap.size w X)
          (fun _ _ _ => False)
          ?hI2 (fun _ _ _ _ h _ => h) ⟨hbx8, by rw [if_neg (by omega)]; exact hva8, hst8, hK8, hBw8⟩ _ ?assign2 ?body2 ?done2 ?stop2
        case hI2 =>
          rintro k X X' ⟨h1, h2, h3, h4, h5⟩ hm
          exact ⟨boxed_mw h1 (by omega) hm, own36_mw h2 hm, (hm.below.cell (p := ⟨w.heap.size + 1, 0, none⟩) (by simp <;> omega)).trans h3, (hm.below.block D (by omega)).trans h4, h5.trans (hm.below.mono (by omega))⟩
        case assign2 =>
          intro l k v X K hK
          gi_wp2
          exact hK
        case body2 =>
          rintro l k v X hkl ⟨hb, hva', h3, hD', h5⟩ hsz hsame hown
          have HB := Lib.hid hb
          have HVB := Lib.hid hva'
          have H5 := Lib.hid h5
          clear hb hva' h5 hsame
          have l6 : w.heap.size + 1 < X.heap.size := by omega
          have hcb0 := HB.out.cell
          have hlb0 := HB.out.lt
          by_cases hk : (k : Int) = si
          · subst hk
            obtain rfl : k = ki := by omega
            rw [← HL1.out] at hown
            have hva2 := HVB.out
            rw [if_neg (by omega), ← mixS_zero L0 L1] at hva2
            obtain ⟨vl, vc, rfl⟩ := own_slice hown
            have hvs : ∃ ga gcap, va = .slice ga L0.length gcap := by
              rcases hva2.2 with ⟨rfl, h0⟩ | ⟨g, cap, cur, rfl, _⟩
              · exact ⟨none, 0, by rw [h0]⟩
              · exact ⟨_, _, rfl⟩
            obtain ⟨ga9, gcap, rfl⟩ := hvs
            have HOW := Lib.hid hown
            have HV2 := Lib.hid hva2
            have hll := HLL.out
            have hln := HLN.out
            clear hown hva2 HVB
            gi_wp2
            gi_loopw [17, 18, 66, 67, 68, 69, 70, 71, 72, 73, 74, 75, 76] (fun _ _ i _ _ _ _ _ _ _ _ _ _ wx => ∃ n : Nat, n ≤ L1.length ∧ i = .int .i64 n ∧ wx.ownsRow w5.heap.size 36 2 (.slice ga9 L0.length gcap) L0.length (cells2 (mixS L0 L1 n)) ∧ Below w.heap.size X wx ∧ ∀ j, j < X.heap.size → ga9 ≠ some ⟨j, 0, none⟩ → wx.heap[j]? = X.heap[j]?) (fun _ _ i _ _ _ _ _ _ _ _ _ _ _ => L1.length - (intOf i).toNat)
            case atStart => exact ⟨0, by omega, rfl, HV2.out, Below.refl _ _, fun _ _ _ => rfl⟩
            case round =>
              rename World => wx
              obtain ⟨n, hn, rfl, hou, hbw, hsm⟩ := hrel
              have hzx := hbw.size
              have HOU := Lib.hid hou
              have HBW := Lib.hid hbw
              have HSM := Lib.hid hsm
              clear hou hbw hsm
              by_cases hlt : n < L1.length
              · obtain ⟨g, rfl, _, hcap, hga, hgb, hcc⟩ := own_cell HOW.out hlt
                obtain ⟨ga, rfl, hgc, hgn, hgl, hfr, ⟨cells, hgo⟩, ⟨u, hcu⟩, hset⟩ := own36_at HOU.out (by omega : n < L0.length)
                obtain ⟨ga', hga', _, _, hgX, _, ⟨cells0, hgo0⟩, _⟩ := own36_at HV2.out (by omega : n < L0.length)
                obtain rfl : ga = ga' := by simpa using hga'
                have hne1 : some ga ≠ (Value.slice (some ⟨g, 0, none⟩) L1.length vc).ownBlock := own_ne_other HOW.out hgo0 rfl
                have hne1' : ga ≠ g := fun e => hne1 (by rw [e]; rfl)
                have hne2 : ga ≠ w3.heap.size := fun e => by have := HB.out; unfold Boxed at this; rw [← e, hgo0] at this; cases this
                have hcx : wx.cell? ⟨g, n, none⟩ = some (.int .i64 L1[n]) := (cell_of_block (HSM.out g hgb (by simp [hne1']))).trans hcc
                have hbx2 := (cell_of_block (o := 0) (HSM.out w3.heap.size hlb0 (by simp [hne2]))).trans hcb0
                have hax : wx.cell? ⟨w.heap.size + 1, 0, none⟩ = some (.int .i64 k) := (cell_of_block (HSM.out (w.heap.size + 1) (by omega) (by simp <;> omega))).trans h3
                have hlx : w3.heap.size < wx.heap.size := by omega
                clear hcc
                have HMX := Lib.hid (mixS_succ HLN.out hlt)
                generalize L1[n] = t at *
                have HSET := Lib.hid (hset (.int .i64 t))
                clear hset
                gi_wp2
                go_roundw
                case rel =>
                  refine ⟨n + 1, by omega, by simp, ?_, HBW.out.trans ((Below.refl _ _).setCell (by show w.heap.size ≤ ga; omega) _), fun j hj hj2 => ?_⟩
                  · rw [HMX.out]; exact HSET.out
                  · rw [Below.heap_setCell _ _ _ _ (by intro e; exact hj2 (by rw [e])), HSM.out j hj hj2]
                case measure => simp [intOf]; omega
              · obtain rfl : n = L1.length := by omega
                gi_wp2
                have hgX : ∀ j, ga9 = some ⟨j, 0, none⟩ → w5.heap.size ≤ j ∧ j < W.heap.size ∧ j ≠ D ∧ j ≠ w3.heap.size := fun j e => by
                  subst e
                  have h1 := HVA.out.lt j rfl
                  obtain ⟨cc, hc⟩ := own_typed HV2.out j rfl
                  refine ⟨h1.1, h1.2, ?_, by omega⟩
                  intro e
                  rw [e, hD'] at hc
                  cases hc
                refine ⟨⟨HBW.out.mono (by omega), fun j hj hjl => HSM.out j hjl (fun e => ?_)⟩, (HSM.out _ hlb0 (fun e => (hgX _ e).2.2.2 rfl)).trans HB.out, ?_, (cell_of_block (HSM.out (w.heap.size + 1) (by omega) (fun e => by have := (hgX _ e).1; omega))).trans h3, (HSM.out D (Array.getElem?_eq_some_iff.1 hD').1 (fun e => (hgX _ e).2.2.1 rfl)).trans hD', H5.out.trans (HBW.out.mono (by omega))⟩
                · have := hgX j e; omega
                · rw [if_pos (by omega), ← mixS_all HLN.out]; exact HOU.out
          · gi_wp2
            refine ⟨Rd.refl _ _ _ _ _, HB.out, ?_, h3, hD', H5.out⟩
            by_cases hk2 : si < (k : Int)
            · rw [if_pos (by omega)]; have := HVB.out; rw [if_pos hk2] at this; exact this
            · rw [if_neg (by omega)]; have := HVB.out; rw [if_neg hk2] at this; exact this
        case done2 =>
          rintro D2 X hD2 ⟨hb, hva', h3, hD', h5⟩ hK2
          rw [if_pos (by omega)] at hva'
          have hcb := hb.cell
          have HVB := Lib.hid hva'
          have H5 := Lib.hid h5
          clear hva' h5
          go_wp2_with fail
          have hlD := (Array.getElem?_eq_some_iff.1 hD').1
          refine ⟨by simp, .inl ⟨_, _, rfl, run_takeDeferred hK2, ?_⟩⟩
          have hpD : (X.putObj D2 (.deferred none)).heap[D]? = some (.deferred (some [])) := (World.putObj_heap_other (by omega)).trans hD'
          refine ⟨by simp, .inl ⟨_, _, rfl, run_takeDeferred hpD, ?_⟩⟩
          refine ⟨_, results_list (rs := [.tmp 6, .tmp 7]) rfl (by simp) (.tmp (.tmp .nil)), ?_⟩
          refine ⟨va, by simp, ?_, ?_⟩
          · have hrow := ownsRow_putObj (ownsRow_putObj HVB.out (.deferred none) hK2 rfl) (.deferred none) hpD rfl
            rw [← HKI.out, ← HL0.out, ← HL1.out]
            have hlz : (List.zipWith S36.mk L0 L1).length = L0.length := by have := HLN.out; simp; omega
            have hmin : min L0.length L1.length = L0.length := by have := HLN.out; omega
            rw [hmin]
            exact own_weaken hrow (by omega)
          · exact (H5.out.trans (belowK_b (w := w) (Nat.le_refl _) X D2 _ _ (by omega) hK2 rfl rfl)).trans (belowK_b (w := w) (Nat.le_refl _) _ D _ _ (by omega) hpD rfl rfl)
        case stop2 =>
          rintro D c k X _ _ h _
          exact h.elim
      case stop =>
        rintro D c k W _ _ h _
        exact h.elim
  · go_wp2_with fail
    refine ⟨_, results_list (rs := [.tmp 6, .tmp 7]) rfl (by simp) (.tmp (.tmp .nil)), ?_⟩
    exact ⟨.slice none 0 0, by simp [hr0], by simpa [hr0, cells2] using World.ownsRow_nil _ _ _ _, HB1.out.alloc (by omega) _⟩
end Go.Proofs.YtdeaccbolnlgpaaDoor.X
