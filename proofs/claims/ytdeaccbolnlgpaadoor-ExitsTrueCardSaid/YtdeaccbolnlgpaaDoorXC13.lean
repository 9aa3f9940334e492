import Derived.Deep.RegionLaw
import Derived.Deep.DrawnRows
import Derived.Test.YtdeaccbolnlgpaaDoorXF3
import Derived.Test.YtdeaccbolnlgpaaDoorXN92
namespace Go.Proofs.YtdeaccbolnlgpaaDoor.X
open Go.RowKit Go.Shelf Go.Proofs.YtdeaccbolnlgpaaDoorW.PrintWords Go.Proofs.YtdeaccbolnlgpaaDoorW.PrintLast Go.Proofs.YtdeaccbolnlgpaaDoorW.PrintMore
set_option linter.unusedVariables false
set_option linter.unusedSimpArgs false

attribute [local go_sem] max2_int min2_int max_two min_two max_three min_three max_four min_four
theorem info67 : (Tryd.prog.info? 67).map (fun i => (i.zero, i.size, i.bytes)) = some (some (.slice none 0 0), 1, 24) := by kernel_rfl
theorem made_rep (z : Value) (n : Nat) : madeCells #[z] n = (List.replicate n z).toArray := by
  apply Array.ext
  · simp [madeCells]
  · intro i h1 h2
    simp [madeCells, Nat.mod_one]
theorem make67 (n : Nat) (hn : n ≤ 1000) (W : World) : (Instr.makeSlice 68 (.int .i64 (n : Int)) (.int .i64 (n : Int))).run Tryd.prog W = .ok (.slice (some ⟨W.heap.size, 0, none⟩) n n) (W.alloc (.cells (List.replicate n (.slice none 0 0)).toArray 67)) := by
  rw [← made_rep]; exact print_make_of 68 67 (.slice none 0 0) 24 Tryd.underlying68 info67 rfl (by decide) n (by omega) W
theorem ceil_any (a p : Int) (w : World) (ha : 0 ≤ a) (ha2 : a ≤ 100000) (hp : 1 ≤ p) (hp2 : p ≤ 3000) : Calls Tryd.prog 92 #[.int .i64 a, .int .i64 p] w fun e w' => e = .returned (.int .i64 (ceilI a p)) ∧ Below w.heap.size w w' := by
  refine (cottonpadref06_ceil.calls a p (ceilI a p) w ?_).mono ?_
  · unfold cottonpadref06_ceil.f
    rw [if_neg (by omega), wrap_in (x := a + p) (by omega), wrap_in (x := a + p - 1) (by omega), Int.tdiv_eq_ediv_of_nonneg (by omega)]
    have h1 : 0 ≤ (a + p - 1) / p := Int.ediv_nonneg (by omega) (by omega)
    have h2 : (a + p - 1) / p ≤ a + p - 1 := Int.ediv_le_self _ (by omega)
    rw [wrap_in (by omega)]
    rfl
  · rintro e w' ⟨h1, h2⟩
    exact ⟨h1, h2.below⟩

set_option maxRecDepth 100000 in
set_option maxHeartbeats 4000000 in
theorem go_any (A0 A1 A2 A3 A4 A5 : Option Addr) (c0 c1 c2 c3 c4 c5 : Nat) (st : List S62) (ch : List S81) (ps : List S48) (pace wait walk : List Int) (w : World)
    (hr0 : Kd.C k62 w A0 st.length st) (hc0 : st.length ≤ c0) (hr1 : Kd.C k81 w A1 ch.length ch) (hc1 : ch.length ≤ c1) (hr2 : Kd.C k48 w A2 ps.length ps) (hc2 : ps.length ≤ c2)
    (hr3 : Kd.C (Kd.int .i64) w A3 pace.length pace) (hc3 : pace.length ≤ c3) (hr4 : Kd.C (Kd.int .i64) w A4 wait.length wait) (hc4 : wait.length ≤ c4) (hr5 : Kd.C (Kd.int .i64) w A5 walk.length walk) (hc5 : walk.length ≤ c5)
    (hgo : GoOk st ch ps pace wait walk) :
    Calls Tryd.prog 69 #[.agg #[.slice A0 st.length c0, .slice A1 ch.length c1], .slice A2 ps.length c2, .slice A3 pace.length c3, .slice A4 wait.length c4, .slice A5 walk.length c5] w fun e w' =>
      ∃ v0 v1 : Value, e = .returned (.tuple #[v0, v1]) ∧ Kd.R (Kd.int .i64) 3 w' w.heap.size (fun _ => True) v0 (tsG ch ps pace wait) ∧
        Kd.S (Kd.slice 3 (Kd.int .i64)) 67 w' w.heap.size (fun k => some k ≠ v0.ownBlock) v1 ((List.range st.length).map fun k => leftG st ch ps (tsG ch ps pace wait) walk k) ∧ Below w.heap.size w w' := by
  have hu3 := Tryd.underlying3
  have hu22 := Tryd.underlying22
  have hu23 := Tryd.underlying23
  have hu25 := Tryd.underlying25
  have hu48 := Tryd.underlying48
  have hu62 := Tryd.underlying62
  have hu67 := Tryd.underlying67
  have hu68 := Tryd.underlying68
  have hu81 := Tryd.underlying81
  have HR0 := Lib.hid hr0
  have HR1 := Lib.hid hr1
  have HR2 := Lib.hid hr2
  have HR3 := Lib.hid hr3
  have HR4 := Lib.hid hr4
  have HR5 := Lib.hid hr5
  have HGI := Lib.hid hgo.go
  have HGO := Lib.hid hgo
  have hst := hgo.go.valid.built.nst
  have hst0 := hgo.go.valid.built.nst0
  have hnp := hgo.go.valid.nps
  clear hr0 hr1 hr2 hr3 hr4 hr5 hgo
  obtain ⟨ts, hts⟩ : ∃ ts, ts = tsG ch ps pace wait := ⟨_, rfl⟩
  have HTS := Lib.hid hts
  rw [← hts] at HGI ⊢
  clear hts
  have hmk := make67 st.length (by omega)
  go_enter Tryd.func69, Tryd.ntmps69
  go_wp2_with fail
  obtain ⟨W0, hW0⟩ : ∃ W0, (w.alloc (.cells #[.slice A0 st.length c0, .slice A1 ch.length c1] 25)).alloc (.cells (Array.replicate st.length (.slice none 0 0)) 67) = W0 := ⟨_, rfl⟩
  have hz0 : W0.heap.size = w.heap.size + 2 := by rw [← hW0]; simp
  have hB0 : Below w.heap.size w W0 := by rw [← hW0]; exact ((Below.refl _ w).alloc (Nat.le_refl _) _).alloc (by simp) _
  have a0 : W0.heap[w.heap.size]? = some (.cells #[.slice A0 st.length c0, .slice A1 ch.length c1] 25 (0, 0)) := by rw [← hW0]; exact (((Below.refl (w.alloc (.cells #[.slice A0 st.length c0, .slice A1 ch.length c1] 25)).heap.size _).alloc (Nat.le_refl _) _).block w.heap.size (by simp)).trans (World.alloc_heap_new _ _)
  have ab : W0.heap[w.heap.size + 1]? = some (.cells (List.replicate st.length (.slice none 0 0)).toArray 67 (0, 0)) := by rw [← hW0]; have := World.alloc_heap_new (w.alloc (.cells #[.slice A0 st.length c0, .slice A1 ch.length c1] 25)) (.cells (Array.replicate st.length (.slice none 0 0)) 67); simpa using this
  rw [hW0]
  clear hW0 hmk
  have HMK := Lib.hid (make67 st.length (by omega))
  have HB0 := Lib.hid hB0
  have HAB := Lib.hid ab
  clear hB0 ab
  have HR10 := Lib.hid (Rel1.start ch ps ts HAB.out HB0.out a0 (by omega))
  clear a0
  go_loopw [12, 14, 15, 16, 27, 28, 29, 30, 31, 32, 33, 34, 35, 36, 37, 38, 39, 40, 41, 42, 43, 44, 45, 46, 47, 48, 49, 50, 51, 52, 53, 54, 55, 56, 57, 58, 59, 60, 61, 62, 63, 64, 65, 66, 67, 68, 69] (fun u i _ _ _ _ _ _ _ _ _ _ _ _ _ _ _ _ _ _ _ _ _ _ _ _ _ _ _ _ _ _ _ _ _ _ _ _ _ _ _ _ _ _ _ _ _ wr => ∃ k : Nat, k ≤ ps.length ∧ i = .int .i64 k ∧ Rel1 w #[.slice A0 st.length c0, .slice A1 ch.length c1] st.length ch ps ts k u wr) (fun u i _ _ _ _ _ _ _ _ _ _ _ _ _ _ _ _ _ _ _ _ _ _ _ _ _ _ _ _ _ _ _ _ _ _ _ _ _ _ _ _ _ _ _ _ _ _ => ps.length - (intOf i).toNat)
  case atStart => exact ⟨0, by omega, rfl, HR10.out⟩
  case round =>
    obtain ⟨k, hk, rfl, hrel1⟩ := hrel
    have HREL1 := Lib.hid hrel1
    obtain ⟨vsC, lsC, hvl, hls, hbc, hfam, hbw, hb25, hzw⟩ := hrel1
    obtain ⟨b0, b1, _, _, _⟩ := two_cells hb25
    have HB25 := Lib.hid hb25
    have hll : lsC.length = st.length := by have := hfam.len; simp at this; omega
    have HLS := Lib.hid hls
    have HBC := Lib.hid hbc
    have HFM := Lib.hid hfam
    have HBW := Lib.hid hbw
    have lb0 : w.heap.size < wr.heap.size := by omega
    have lb1 : w.heap.size + 1 < wr.heap.size := by omega
    clear hls hbc hfam hbw hb25
    by_cases hlt : k < ps.length
    · have hxx : rd_T48 ps (k : Int) = ps[k] := by simp [rd_T48, List.getD_eq_getElem?_getD, hlt]
      obtain ⟨ad, rfl, g0, _⟩ := at_T48 (Kd.C_below HR2.out HBW.out) (k : Int) (by omega) (by omega)
      rw [hxx] at g0
      simp only [Int.toNat_natCast] at g0
      have HGT := Lib.hid (show ts[k]'(by have := HGI.out.nts; omega) = rd wait k + ceilI (rd_T81 ch ps[k].f0).f1 (rd pace k) by
        have := tsG_get (ch := ch) (pace := pace) (wait := wait) hlt
        rw [hxx] at this
        simp only [HTS.out]
        exact this)
      have HTK := Lib.hid (comeG0_succ ch ps ts HGI.out.nts k hlt)
      have HWK := Lib.hid (HGI.out.valid.walkOk (List.getElem_mem hlt))
      have HSO := Lib.hid (HGI.out.valid.stairOf (List.getElem_mem hlt))
      have HTB := Lib.hid (HGI.out.tsb (ts[k]'(by have := HGI.out.nts; omega)) (List.getElem_mem _))
      have hTT : ts.take (k + 1) = ts.take k ++ [ts[k]'(by have := HGI.out.nts; omega)] := List.take_succ_eq_append_getElem (by have := HGI.out.nts; omega)
      have HTT := Lib.hid hTT
      clear hxx hTT
      generalize ts[k]'(by have := HGI.out.nts; omega) = t at *
      generalize ps[k] = x at *
      obtain ⟨q1, q2, q3, q4, _⟩ := HWK.out
      obtain ⟨ad1, rfl, f0, f1, f2, f3⟩ := at_T81 (Kd.C_below HR1.out HBW.out) x.f0 q1 q2
      generalize rd_T81 ch x.f0 = y at *
      obtain ⟨y0, y1, sm⟩ := y
      obtain ⟨s0, s1⟩ := sm
      dsimp only at *
      have HD := Lib.hid (below_drew (Below.refl wr.heap.size wr))
      have hSd : wr.drew.cell? ⟨w.heap.size, 1, none⟩ = some (.slice (some ad1) ch.length c1) ∧ wr.drew.cell? (ad.add (k * 5)) = some (.int .i64 x.f0) ∧ wr.drew.cell? (ad1.add (x.f0.toNat * 4)) = some (.int .i64 y0) ∧ wr.drew.cell? ⟨(ad1.add (x.f0.toNat * 4)).block, (ad1.add (x.f0.toNat * 4)).off + 1, none⟩ = some (.int .i64 y1) ∧ wr.drew.cell? ⟨(ad1.add (x.f0.toNat * 4)).block, (ad1.add (x.f0.toNat * 4)).off + 2, none⟩ = some (.int .i64 s0) ∧ wr.drew.cell? ⟨(ad1.add (x.f0.toNat * 4)).block, (ad1.add (x.f0.toNat * 4)).off + 3, none⟩ = some (.int .i64 s1) := ⟨pw_cell_below HD.out b1, pw_cell_below HD.out g0, pw_cell_below HD.out f0, pw_cell_below HD.out f1, pw_cell_below HD.out f2, pw_cell_below HD.out f3⟩
      go_wp2_with fail
      go_region_held3 (fun w' => w'.cell? ⟨w.heap.size, 1, none⟩ = some (.slice (some ad1) ch.length c1) ∧ w'.cell? (ad.add (k * 5)) = some (.int .i64 x.f0) ∧ w'.cell? (ad1.add (x.f0.toNat * 4)) = some (.int .i64 y0) ∧ w'.cell? ⟨(ad1.add (x.f0.toNat * 4)).block, (ad1.add (x.f0.toNat * 4)).off + 1, none⟩ = some (.int .i64 y1) ∧ w'.cell? ⟨(ad1.add (x.f0.toNat * 4)).block, (ad1.add (x.f0.toNat * 4)).off + 2, none⟩ = some (.int .i64 s0) ∧ w'.cell? ⟨(ad1.add (x.f0.toNat * 4)).block, (ad1.add (x.f0.toNat * 4)).off + 3, none⟩ = some (.int .i64 s1))
        (first | assumption | go_keep)
        (fail)
      obtain ⟨W1, hW1⟩ : ∃ W1, (wr.alloc (.cells #[.int .i64 y0, .int .i64 y1, .int .i64 s0, .int .i64 s1] 81)).drew = W1 := ⟨_, rfl⟩
      have hB1 : Below wr.heap.size wr W1 := by rw [← hW1]; exact below_drew ((Below.refl _ _).alloc (Nat.le_refl _) _)
      have e0 : W1.cell? ⟨wr.heap.size, 0, none⟩ = some (.int .i64 y0) := by rw [← hW1]; clear hW1; go_simp
      have e1 : W1.cell? ⟨wr.heap.size, 1, none⟩ = some (.int .i64 y1) := by rw [← hW1]; clear hW1; go_simp
      have hz1 : wr.heap.size < W1.heap.size := by rw [← hW1]; simp
      have HOB1 := Lib.hid (show W1.heap[wr.heap.size]? = some (.cells #[.int .i64 y0, .int .i64 y1, .int .i64 s0, .int .i64 s1] 81 (0, 0)) by rw [← hW1]; exact World.alloc_heap_new _ _)
      rw [hW1]
      clear hW1 hSd
      try clear hHeld
      have HBW1 := Lib.hid (HBW.out.trans (hB1.mono HBW.out.size))
      have HB1 := Lib.hid hB1
      obtain ⟨ad3, rfl, p0⟩ := kd_int_at (Kd.C_below HR3.out HBW1.out) k (by have := HGO.out.2.1; omega)
      obtain ⟨ad4, rfl, p1⟩ := kd_int_at (Kd.C_below HR4.out HBW1.out) k (by have := HGO.out.2.2.1; omega)
      rw [show pace[k]?.getD 0 = rd pace (k : Int) by simp [rd, List.getD_eq_getElem?_getD]] at p0
      rw [show wait[k]?.getD 0 = rd wait (k : Int) by simp [rd, List.getD_eq_getElem?_getD]] at p1
      have hpb := rd_in HGO.out.2.2.2.2.1 (by have := HGO.out.2.1; omega : k < pace.length)
      have hwb := rd_in HGO.out.2.2.2.2.2.1 (by have := HGO.out.2.2.1; omega : k < wait.length)
      generalize rd pace (k : Int) = pc at *
      generalize rd wait (k : Int) = wt at *
      have hlp : (k : Int) < (pace.length : Int) := by have := HGO.out.2.1; omega
      have hlw : (k : Int) < (wait.length : Int) := by have := HGO.out.2.2.1; omega
      have HCE := Lib.hid (fun W => ceil_any y1 pc W q3 q4 hpb.1 hpb.2)
      have HKT := Lib.hid (Key.of (i := t) (by have := HTB.out; omega) (by have := HTB.out; omega))
      generalize ceilI y1 pc = cl at *
      have hwt : IntKind.i64.wrap (wt + cl) = t := by rw [HGT.out]; exact IntWalk.i64_in _ (by have := HTB.out; have := HGT.out; omega)
      have HD1 := Lib.hid (below_drew (Below.refl W1.heap.size W1))
      have b1w := pw_cell_below HB1.out b1
      have hSd : W1.drew.cell? (ad4.add k) = some (.int .i64 wt) ∧ W1.drew.cell? ⟨wr.heap.size, 1, none⟩ = some (.int .i64 y1) ∧ W1.drew.cell? (ad3.add k) = some (.int .i64 pc) ∧ W1.drew.cell? ⟨wr.heap.size, 0, none⟩ = some (.int .i64 y0) ∧ W1.drew.cell? ⟨w.heap.size, 1, none⟩ = some (.slice (some ad1) ch.length c1) := S5_keep (fun k hk => HD1.out.block k hk) ⟨p1, e1, p0, e0, b1w⟩
      go_wp2_with fail
      go_region_held3 (fun w' => w'.cell? (ad4.add k) = some (.int .i64 wt) ∧ w'.cell? ⟨wr.heap.size, 1, none⟩ = some (.int .i64 y1) ∧ w'.cell? (ad3.add k) = some (.int .i64 pc) ∧ w'.cell? ⟨wr.heap.size, 0, none⟩ = some (.int .i64 y0) ∧ w'.cell? ⟨w.heap.size, 1, none⟩ = some (.slice (some ad1) ch.length c1))
        (first | assumption | exact S5_keep (fun k hk => hb1.block k hk) hSd)
        ((go_at_call 92; refine (HCE.out _).mono ?_; rintro e w5 ⟨rfl, hb1⟩))
      have hS5 := S5_keep (fun k hk => hb1.block k hk) hSd
      have HB5 := Lib.hid (HB1.out.trans ((HD1.out.trans (hb1.mono HD1.out.size)).mono HB1.out.size))
      have hz5 := HB5.out.size
      obtain ⟨_, _, _, z0, _⟩ := hS5
      have hob5 := ((HD1.out.trans (hb1.mono HD1.out.size)).block _ hz1).trans HOB1.out
      have HF5 := Lib.hid (HFM.out.below HB5.out)
      have HBC5 := Lib.hid ((HB5.out.block (w.heap.size + 1) lb1).trans HBC.out)
      have HOB5 := Lib.hid hob5
      clear hb1 hSd p0 p1 e0 e1 b1w hob5
      try clear hHeld
      obtain ⟨i0, hi, hiz0, hiz1, hiz2⟩ := info_parts info3
      have hlk : (ts.take k).length ≤ 1000 := by simp; omega
      go_wp2_with (at_builtin; refine wpl_app rfl _ _ rfl i0 Tryd.underlying67 hi hiz0 hiz1 hiz2 (w.heap.size + 2) _ (ts.take k) rfl (ownsInts_blocks (HF5.out.own 0 (by simp) (by simp)) fun j _ hj => ((Below.refl w5.heap.size w5).alloc (Nat.le_refl _) _).block j hj) (some ⟨w5.heap.size, 0, none⟩) 1 [t] rfl (one_own HKT.out) (by simp; omega) (by simp; omega) ?_; intro v6 w6 ho6 hg6 hl6; have HO6 := Lib.hid ho6; have HG6 := Lib.hid hg6; have HL6 := Lib.hid hl6; clear ho6 hg6 hl6)
      obtain ⟨hy0, hy1⟩ := HSO.out
      obtain ⟨sn, hsn⟩ : ∃ sn : Nat, (sn : Int) = y0 := ⟨y0.toNat, by omega⟩
      subst hsn
      have hsl : sn < vsC.length := by omega
      have ne1 : some wr.heap.size ≠ u12.ownBlock := own_ne_other (HF5.out.own 0 (by simp) (by simp)) HOB5.out rfl
      have ne2 : some (w.heap.size + 1) ≠ u12.ownBlock := own_ne_other (HF5.out.own 0 (by simp) (by simp)) HBC5.out rfl
      have z6 := HG6.out.cell (pw_cell_below (below_of_alloc rfl) z0) ne1
      have hbc6 := (HG6.out.block (w.heap.size + 1) (by simp; omega) ne2).trans ((((Below.refl w5.heap.size w5).alloc (Nat.le_refl _) _).block _ (by omega)).trans HBC5.out)
      have HF6 := Lib.hid (HF5.out.appended (i := 0) (by simp) ((Below.refl w5.heap.size w5).alloc (Nat.le_refl _) _) HG6.out HO6.out HL6.out)
      simp only [List.set_cons_zero] at HF6
      have hown6 := HF6.out.own (sn + 1) (by simp; omega) (by simp; omega)
      simp only [List.getElem_cons_succ] at hown6
      obtain ⟨ca, cc, hvs⟩ := own_slice hown6
      have hcv : w6.cell? ⟨w.heap.size + 1, sn, none⟩ = some vsC[sn] := by simp [World.cell?, hbc6, hsl]
      rw [hvs] at hcv hown6
      have HLS9 := Lib.hid (HLS.out sn (by omega))
      generalize hzg : lsC[sn]'(by omega) = zs at *
      have hzl : zs.length ≤ 24 := by
        rw [HLS9.out]
        have h1 := comeG0_len ch (ps.take k) (ts.take k) (sn : Int)
        have h2 : (ps.take k).length ≤ 24 := by rw [List.length_take]; omega
        omega
      have HOW9 := Lib.hid hown6
      have HBC6 := Lib.hid hbc6
      have HD6 := Lib.hid (below_drew (Below.refl w6.heap.size w6))
      have z6d := pw_cell_below HD6.out z6
      have hcvd := pw_cell_below HD6.out hcv
      have hcva := fun o => pw_cell_below (below_of_alloc (o := o) rfl) hcvd
      have hy2 : (sn : Int) < (st.length : Int) := hy1
      clear hown6 hbc6 hcv
      have hwr5 : wr.heap.size < w5.heap.size := (Array.getElem?_eq_some_iff.1 HOB5.out).1
      have h6s : w.heap.size + 2 ≤ w6.heap.size := by have h1 := HG6.out.size; simp only [World.size_alloc] at h1; omega
      have hbase6 : w.heap.size + 2 ≤ (w6.alloc (.cells #[.int .i64 t] 3)).drew.heap.size := by simp; omega
      have ne3 : some (w.heap.size + 1) ≠ (Value.slice ca zs.length cc).ownBlock := own_ne_other HOW9.out HBC6.out rfl
      have ne4 : some wr.heap.size ≠ (Value.slice ca zs.length cc).ownBlock := own_ne_other HOW9.out ((HG6.out.block _ (by simp; omega) ne1).trans ((((Below.refl w5.heap.size w5).alloc (Nat.le_refl _) _).block _ (by omega)).trans HOB5.out)) rfl
      have HDA := Lib.hid (below_drew ((Below.refl w6.heap.size w6).alloc (Nat.le_refl _) (.cells #[.int .i64 t] 3)))
      have z6a := pw_cell_below HDA.out z6
      have hcvb := pw_cell_below HDA.out (show w6.cell? ⟨w.heap.size + 1, sn, none⟩ = _ from hcvd)
      have HBCD := Lib.hid ((HDA.out.block (w.heap.size + 1) (by omega)).trans HBC6.out)
      have HONE := Lib.hid (show (w6.alloc (.cells #[.int .i64 t] 3)).drew.ownsInts 0 3 .i64 (.slice (some ⟨w6.heap.size, 0, none⟩) 1 1) [t] from ownsInts_blocks (one_own HKT.out) fun _ _ _ => rfl)
      have HOWA := Lib.hid (ownsInts_blocks (w' := (w6.alloc (.cells #[.int .i64 t] 3)).drew) HOW9.out fun j _ hj => HDA.out.block j hj)
      have hzd7 : wr.heap.size < (w6.alloc (.cells #[.int .i64 t] 3)).drew.heap.size := World.block_lt_of_cell? _ _ z6a
      have hzd8 : w.heap.size + 1 < (w6.alloc (.cells #[.int .i64 t] 3)).drew.heap.size := by omega
      have HB6W := Lib.hid (show Below w.heap.size w w6 from (HF5.out.app (i := 0) (by simp) ((Below.refl w5.heap.size w5).alloc (Nat.le_refl _) _) HG6.out).2.2 _ _ (HBW.out.trans (HB5.out.mono HBW.out.size)) (by omega) (by omega))
      have HB256 := Lib.hid ((HF5.out.app (i := 0) (by simp) ((Below.refl w5.heap.size w5).alloc (Nat.le_refl _) _) HG6.out).2.1 _ _ ((HB5.out.block _ lb0).trans HB25.out) rfl)
      have HREL := Lib.hid (fun (v7 : Value) (w7 : World) => Rel1.step (w := w) (w6 := w6) (w7 := w7) (v7 := v7) hvl HLS.out HF6.out HBC6.out HB256.out HB6W.out h6s hsl hvs HLS9.out HTK.out HTT.out HDA.out)
      go_region_law (refine step_app (by rfl) _ _ (by rfl) i0 Tryd.underlying67 hi hiz0 hiz1 hiz2 (w.heap.size + 2) (.slice ca zs.length cc) zs (by rfl) HOWA.out (some ⟨w6.heap.size, 0, none⟩) 1 [t] (by rfl) HONE.out (by simp; omega) hbase6 ?_; intro v7 w7 ho7 hg7 hl7; obtain ⟨a7, c7, rfl⟩ := own_slice ho7; have z7 := hg7.cell z6a ne4; have hb7 := (hg7.block (w.heap.size + 1) hzd8 ne3).trans HBCD.out; have hc7 := row_cell hb7 hsl; have hf7 := row_frozen hb7 sn)
      all_goals
        go_wp2_with fail
        go_roundw
        case rel =>
          refine ⟨k + 1, by omega, by go_num, HREL.out _ _ ?_ hg7 ?_⟩
          · simpa using ho7
          · simpa using hl7
        case measure => simp [intOf]; omega
    · obtain rfl : k = ps.length := by omega
      have HN := Lib.hid (Rel1.next (wk := walk) HREL1.out HGI.out.nts)
      have hmk := HMK.out
      go_wp2_with fail
      obtain ⟨L, hL⟩ : ∃ L, wr.heap.size = L := ⟨_, rfl⟩
      rw [hL] at HN ⊢
      have hL2 : w.heap.size + 2 ≤ L := by omega
      obtain ⟨W2, hW2⟩ : ∃ W2, wr.alloc (.cells (Array.replicate st.length (.slice none 0 0)) 67) = W2 := ⟨_, rfl⟩
      have hW2' : wr.alloc (.cells (List.replicate st.length (.slice none 0 0)).toArray 67) = W2 := by rw [← hW2]; simp
      rw [hW2'] at HN
      rw [hW2]
      clear hW2 hW2' hmk HREL1 HMK HLS HBC HFM HBW HB25 b0 b1 hL lb0 lb1
      go_loopw [18, 19, 20, 21, 22, 74, 75, 76, 77, 78, 79, 80, 81, 82, 83, 84, 85, 86, 87, 88, 89, 90, 91, 92, 93, 94, 95, 96, 97, 98, 99, 100, 101, 102, 103, 104, 105, 106, 107, 108, 109, 110, 111, 112, 113, 114, 115, 116, 117, 118, 119, 120, 121, 122, 123, 124, 125, 126, 127, 128, 129, 130, 131, 132, 133, 134, 135, 136, 137, 138, 139, 140, 141, 142] (fun i _ _ _ _ _ _ _ _ _ _ _ _ _ _ _ _ _ _ _ _ _ _ _ _ _ _ _ _ _ _ _ _ _ _ _ _ _ _ _ _ _ _ _ _ _ _ _ _ _ _ _ _ _ _ _ _ _ _ _ _ _ _ _ _ _ _ _ _ _ _ _ _ _ W => ∃ s : Nat, s ≤ st.length ∧ i = .int .i64 s ∧ Rel2 w #[.slice A0 st.length c0, .slice A1 ch.length c1] st ch ps ts walk L s u12 W) (fun i _ _ _ _ _ _ _ _ _ _ _ _ _ _ _ _ _ _ _ _ _ _ _ _ _ _ _ _ _ _ _ _ _ _ _ _ _ _ _ _ _ _ _ _ _ _ _ _ _ _ _ _ _ _ _ _ _ _ _ _ _ _ _ _ _ _ _ _ _ _ _ _ _ _ => st.length - (intOf i).toNat)
      case atStart => exact ⟨0, by omega, rfl, HN.out⟩
      case round =>
        clear HN
        obtain ⟨s, hs, rfl, hR2⟩ := hrel
        have HR2L := Lib.hid hR2
        have hwz : w.heap.size + 2 ≤ wr.heap.size := by obtain ⟨_, _, _, _, _, _, _, _, _, _, _, _, _, _, _, h⟩ := hR2; exact h
        have HBW := Lib.hid (show Below w.heap.size w wr by obtain ⟨_, _, _, _, _, _, _, _, _, _, _, _, _, h, _, _⟩ := hR2; exact h)
        obtain ⟨b0, b1, _, _, _⟩ := two_cells (show wr.heap[w.heap.size]? = some (.cells #[.slice A0 st.length c0, .slice A1 ch.length c1] 25 (0, 0)) by obtain ⟨_, _, _, _, _, _, _, _, _, _, _, _, _, _, h, _⟩ := hR2; exact h)
        clear hR2
        by_cases hlt : s < st.length
        · obtain ⟨ca, cc, hcc, hco⟩ := HR2L.out.come hlt
          have HCO := Lib.hid hco
          have hzl : (comeG st ch ps ts walk s s).length ≤ 24 := by have := HGI.out.len (k := s) (by omega) (i := (s : Int)) (mem_keysN.2 (by omega)); omega
          have HZV := Lib.hid (HGI.out.val s (by omega) (s : Int))
          have HST := Lib.hid (HGI.out.valid.stairOk (List.getElem_mem hlt))
          have HSB := Lib.hid (stairB_iff.1 (HGI.out.valid.built.stair s hlt))
          have HWK := Lib.hid (HGI.out.wk_get hlt)
          have HLG := Lib.hid (show ∀ z ∈ leftG st ch ps ts walk s, 0 ≤ z ∧ z ≤ 200000 from HGI.out.leftVal hlt)
          have HLD := Lib.hid (show leftG st ch ps ts walk s = flowL (walk.getD s 0) (rd_T62 st s).f1 (sortL (comeG st ch ps ts walk s s)) from rfl)
          have HRD := Lib.hid (rdT62_get hlt)
          have hlen : (sortL (comeG st ch ps ts walk s s)).length ≤ 24 := by rw [sortL_length]; exact hzl
          have HLV := Lib.hid (show ∀ z ∈ sortL (comeG st ch ps ts walk s s), 0 ≤ z ∧ z ≤ 200000 from fun z hz => by have := HZV.out z (List.mem_mergeSort.1 hz); omega)
          obtain ⟨zs, hzs⟩ : ∃ zs, zs = comeG st ch ps ts walk s s := ⟨_, rfl⟩
          have HZS := Lib.hid hzs
          rw [← hzs] at hcc HCO hzl hlen HLV HLD
          clear hzs HZV
          have HSO := Lib.hid (fun W (hW : Below wr.heap.size wr W) => sorted_own ca cc zs W (w.heap.size + 2) (ownsInts_blocks HCO.out fun j _ hj => hW.block j hj) (by omega))
          obtain ⟨l, hl⟩ : ∃ l, l = sortL zs := ⟨_, rfl⟩
          have HL := Lib.hid hl
          rw [← hl] at HSO hlen HLV HLD
          clear hl
          go_wp2_with (go_at_call 93; refine (HSO.out _ (Below.refl _ _)).mono ?_; rintro e w3 ⟨vl, rfl, hol, hb3⟩; have HOL := Lib.hid hol; have HB3 := Lib.hid hb3; clear hol hb3)
          obtain ⟨al, cl, rfl⟩ := own_slice HOL.out
          have HR3 := Lib.hid (HR2L.out.inner (nx := (rd_T62 st s).f0) (gp := (rd_T62 st s).f1) HB3.out HOL.out)
          obtain ⟨wk, hwk⟩ : ∃ wk, wk = walk.getD s 0 := ⟨_, rfl⟩
          have HWKD := Lib.hid hwk
          have HX := Lib.hid (show (rd_T62 st (s : Int)).f0 = st[s].f0 by rw [HRD.out])
          have HG := Lib.hid (show (rd_T62 st (s : Int)).f1 = st[s].f1 by rw [HRD.out])
          have HSB2 := Lib.hid (show ((rd_T62 st (s : Int)).f0 = -1 ∨ (s : Int) < (rd_T62 st (s : Int)).f0 ∧ (rd_T62 st (s : Int)).f0 < st.length) ∧ 0 ≤ (rd_T62 st (s : Int)).f1 ∧ (rd_T62 st (s : Int)).f1 ≤ 60 by rw [HX.out, HG.out]; exact ⟨HSB.out.1, HSB.out.2.1⟩)
          rw [← hwk] at HLD HWK
          clear hwk hco
          obtain ⟨nx, hnx0⟩ : ∃ nx, (rd_T62 st (s : Int)).f0 = nx := ⟨_, rfl⟩
          obtain ⟨gp, hgp0⟩ : ∃ gp, (rd_T62 st (s : Int)).f1 = gp := ⟨_, rfl⟩
          rw [hnx0] at HR3 HSB2 HX
          rw [hgp0] at HR3 HSB2 HG HLD
          have HNX := Lib.hid hnx0
          have HGP := Lib.hid hgp0
          clear hnx0 hgp0
          go_loopw [19, 21, 22, 86, 87, 88, 89, 90, 91, 92, 93, 94, 95, 96, 97, 98, 99, 100, 101, 102, 103, 104, 105, 106, 107, 108, 109, 110, 111, 112, 113, 114, 115, 116, 117, 118, 119, 120, 121, 122, 123, 124, 125, 126, 127, 128, 129, 130, 131, 132, 133, 134, 135, 136, 137, 138, 139, 140, 141, 142] (fun la i _ _ _ _ _ _ _ _ _ _ _ _ _ _ _ _ _ _ _ _ _ _ _ _ _ _ _ _ _ _ _ _ _ _ _ _ _ _ _ _ _ _ _ _ _ _ _ _ _ _ _ _ _ _ _ _ _ _ W => ∃ (j : Nat) (p : Int), j ≤ l.length ∧ i = .int .i64 j ∧ la = .int .i64 p ∧ p = lastV wk (flowL wk gp (l.take j)) ∧ Rel3 w #[.slice A0 st.length c0, .slice A1 ch.length c1] st ch ps ts walk L s nx gp l (.slice al l.length cl) u12 j j W) (fun la i _ _ _ _ _ _ _ _ _ _ _ _ _ _ _ _ _ _ _ _ _ _ _ _ _ _ _ _ _ _ _ _ _ _ _ _ _ _ _ _ _ _ _ _ _ _ _ _ _ _ _ _ _ _ _ _ _ _ _ => l.length - (intOf i).toNat)
          case atStart => exact ⟨0, -60, by omega, rfl, rfl, rfl, HR3.out⟩
          case round =>
            obtain ⟨j, p, hj, rfl, rfl, hp, hR3⟩ := hrel
            clear HR3
            have HR3 := Lib.hid hR3
            have HP := Lib.hid hp
            clear hR3 hp
            have HBW3 := Lib.hid (show Below w.heap.size w wr by obtain ⟨_, _, _, _, _, _, _, _, _, _, _, _, _, h, _, _⟩ := HR3.out; exact h)
            have hwz3 : w.heap.size + 2 ≤ wr.heap.size := by obtain ⟨_, _, _, _, _, _, _, _, _, _, _, _, _, _, _, h⟩ := HR3.out; exact h
            have HB25 := Lib.hid (show wr.heap[w.heap.size]? = some (.cells #[.slice A0 st.length c0, .slice A1 ch.length c1] 25 (0, 0)) by obtain ⟨_, _, _, _, _, _, _, _, _, _, _, _, _, _, h, _⟩ := HR3.out; exact h)
            clear b0 b1 hcc
            by_cases hjl : j < l.length
            · obtain ⟨b0, b1, _, _, lb0⟩ := two_cells HB25.out
              have HLO := Lib.hid (show wr.ownsInts (w.heap.size + 2) 3 .i64 (.slice al l.length cl) l by obtain ⟨_, _, _, _, _, _, _, _, _, _, _, _, h, _, _, _⟩ := HR3.out; exact h.own 0 (by simp) (by simp))
              obtain ⟨gl, rfl, _, hcap, hgb, hgl, hlj⟩ := own_cell HLO.out hjl
              obtain ⟨ad, rfl, f0, f1, _⟩ := at_T62 (Kd.C_below HR0.out HBW3.out) (s : Int) (by omega) (by omega)
              have hwl : s < walk.length := by have := HGI.out.nwk; omega
              obtain ⟨ad5, rfl, p5⟩ := kd_int_at (Kd.C_below HR5.out HBW3.out) s hwl
              rw [show walk[s]?.getD 0 = wk by rw [HWKD.out, List.getD_eq_getElem?_getD]] at p5
              simp only [Int.toNat_natCast] at f0 f1
              have HTV := Lib.hid (HLV.out l[j] (List.getElem_mem _))
              have HTJ := Lib.hid (show flowL wk gp (l.take (j + 1)) = flowL wk gp (l.take j) ++ [max l[j] (p + gp) + wk] by
                rw [flowL_succ _ _ _ _ hjl, flow_next _ HTV.out.1 HSB2.out.2.2, ← HP.out])
              have HPB := Lib.hid (show -600 ≤ p ∧ p ≤ 200000 by
                rw [HP.out]; exact lastV_bound HWK.out (fun z hz => HLG.out z (by rw [HLD.out]; exact flow_mem hz)) (by omega))
              have HLAST := Lib.hid (show max l[j] (p + gp) = lastV wk (flowL wk gp (l.take (j + 1))) by rw [HTJ.out, lastV_snoc])
              have HFL := Lib.hid (show (flowL wk gp (l.take j)).length ≤ 24 by rw [flowL_length, List.length_take]; omega)
              generalize l[j] = t at *
              rw [HGP.out] at f1
              have HD := Lib.hid (below_drew (Below.refl wr.heap.size wr))
              have hSd : wr.drew.cell? ⟨gl, j, none⟩ = some (.int .i64 t) ∧ wr.drew.cell? ⟨w.heap.size, 0, none⟩ = some (.slice (some ad) st.length c0) ∧ wr.drew.cell? ⟨(ad.add (s * 6)).block, (ad.add (s * 6)).off + 1, none⟩ = some (.int .i64 gp) := ⟨pw_cell_below HD.out hlj, pw_cell_below HD.out b0, pw_cell_below HD.out f1⟩
              have hwr1 : IntKind.i64.wrap (p + gp) = p + gp := IntWalk.i64_in _ (by have := HPB.out; have := HSB2.out.2; omega)
              go_wp2_with fail
              go_region_held3 (fun w' => w'.cell? ⟨gl, j, none⟩ = some (.int .i64 t) ∧ w'.cell? ⟨w.heap.size, 0, none⟩ = some (.slice (some ad) st.length c0) ∧ w'.cell? ⟨(ad.add (s * 6)).block, (ad.add (s * 6)).off + 1, none⟩ = some (.int .i64 gp))
                (first | assumption | go_keep)
                (fail)
              clear hSd hwr1
              try clear hHeld
              obtain ⟨e, he⟩ : ∃ e, (if t < p + gp then p + gp else t) = e := ⟨_, rfl⟩
              have hme : max t (p + gp) = e := by rw [← he]; split <;> omega
              rw [he]
              rw [hme] at HTJ HLAST
              have heb : 0 ≤ e ∧ e ≤ 200060 := by rw [← hme]; have := HPB.out; have := HTV.out; have := HSB2.out.2; omega
              clear he hme
              obtain ⟨o, ho⟩ : ∃ o, e + wk = o := ⟨_, rfl⟩
              have hwr2 : IntKind.i64.wrap (e + wk) = o := by rw [← ho]; exact IntWalk.i64_in _ (by have := HWK.out; omega)
              have HKO := Lib.hid (Key.of (i := o) (by have := HWK.out; omega) (by have := HWK.out; omega))
              rw [ho] at HTJ
              clear ho
              obtain ⟨W4, hW4⟩ : ∃ W4, wr.drew = W4 := ⟨_, rfl⟩
              rw [hW4]
              rw [hW4] at HD
              clear hW4
              have HR4 := Lib.hid (HR3.out.below HD.out)
              obtain ⟨ca4, cc4, hcc4, hco4, hput4⟩ := HR4.out.left hlt hL2 (o := o) (by rw [← HWKD.out, HTJ.out])
              rw [← HWKD.out] at hcc4 hco4 hput4
              obtain ⟨F, hF⟩ : ∃ F, F = flowL wk gp (l.take j) := ⟨_, rfl⟩
              have HF := Lib.hid hF
              rw [← hF] at hcc4 hco4 hput4 HTJ HFL HP
              clear hF
              have HDA := Lib.hid (below_drew ((Below.refl W4.heap.size W4).alloc (Nat.le_refl _) (.cells #[.int .i64 o] 3)))
              have HONE := Lib.hid (show (W4.alloc (.cells #[.int .i64 o] 3)).drew.ownsInts 0 3 .i64 (.slice (some ⟨W4.heap.size, 0, none⟩) 1 1) [o] from ownsInts_blocks (one_own HKO.out) fun _ _ _ => rfl)
              have HOWA := Lib.hid (ownsInts_blocks (w' := (W4.alloc (.cells #[.int .i64 o] 3)).drew) hco4 fun j _ hj => HDA.out.block j hj)
              have HPUT := Lib.hid hput4
              have p5d := pw_cell_below HD.out p5
              have p5a := pw_cell_below HDA.out p5d
              have hccb := pw_cell_below HDA.out hcc4
              have hw4 : w.heap.size + 2 ≤ W4.heap.size := by have := HD.out.size; omega
              have hbase4 : w.heap.size + 2 ≤ (W4.alloc (.cells #[.int .i64 o] 3)).drew.heap.size := by simp; omega
              have hFl : F.length ≤ 24 := HFL.out
              have hs0 : (s : Int) < (st.length : Int) := by omega
              have hs1 : (s : Int) < (walk.length : Int) := by omega
              obtain ⟨i0, hi, hiz0, hiz1, hiz2⟩ := info_parts info3
              clear hco4 hput4 f0 f1 b0 b1 hlj p5
              go_wp2_with fail
              go_region_law (refine step_app (by rfl) _ _ (by rfl) i0 Tryd.underlying67 hi hiz0 hiz1 hiz2 (w.heap.size + 2) (.slice ca4 F.length cc4) F (by rfl) HOWA.out (some ⟨W4.heap.size, 0, none⟩) 1 [o] (by rfl) HONE.out (by simp; omega) hbase4 ?_; intro v7 w7 ho7 hg7 hl7; obtain ⟨hr7, hf7, hc7⟩ := HPUT.out _ _ _ HDA.out hg7 ho7 hl7; obtain ⟨a7, c7, rfl⟩ := own_slice ho7; have HR7 := Lib.hid hr7; clear hr7 ho7 hg7 hl7)
              all_goals
                simp only [List.length_append, List.length_cons, List.length_nil, Nat.zero_add] at HR7
                obtain ⟨W8, hW8⟩ : ∃ W8, w7.setCell ⟨L, s, none⟩ (.slice a7 (F.length + 1) c7) = W8 := ⟨_, rfl⟩
                rw [hW8] at HR7 ⊢
                clear hW8 hf7 hc7 HPUT hccb p5a p5d hcc4 hbase4 HOWA HONE HDA HR4
                have HB8 := Lib.hid (show Below w.heap.size w W8 by obtain ⟨_, _, _, _, _, _, _, _, _, _, _, _, _, h, _, _⟩ := HR7.out; exact h)
                have hwz8 : w.heap.size + 2 ≤ W8.heap.size := by obtain ⟨_, _, _, _, _, _, _, _, _, _, _, _, _, _, _, h⟩ := HR7.out; exact h
                obtain ⟨b0, b1, _, _, lb8⟩ := two_cells (show W8.heap[w.heap.size]? = some (.cells #[.slice (some ad) st.length c0, .slice A1 ch.length c1] 25 (0, 0)) by obtain ⟨_, _, _, _, _, _, _, _, _, _, _, _, _, _, h, _⟩ := HR7.out; exact h)
                obtain ⟨ad', had', f0, _⟩ := at_T62 (Kd.C_below HR0.out HB8.out) (s : Int) (by omega) (by omega)
                obtain rfl := Option.some.inj had'
                obtain ⟨ad6, had6, p5⟩ := kd_int_at (Kd.C_below HR5.out HB8.out) s hwl
                obtain rfl := Option.some.inj had6
                rw [show walk[s]?.getD 0 = wk by rw [HWKD.out, List.getD_eq_getElem?_getD]] at p5
                rw [HNX.out] at f0
                simp only [Int.toNat_natCast] at f0
                clear had' had6
                by_cases hnx : nx = -1
                · subst hnx
                  go_wp2_with fail
                  go_roundw
                  case rel => exact ⟨j + 1, e, by omega, by go_num, rfl, HLAST.out, HR7.out.out⟩
                  case measure => simp [intOf]; omega
                · obtain ⟨m, hm⟩ : ∃ m : Nat, nx = (m : Int) := ⟨nx.toNat, by have := HSB2.out; omega⟩
                  have hsm : s < m := by have := HSB2.out; omega
                  have hmn : m < st.length := by have := HSB2.out; omega
                  obtain ⟨ca9, cc9, hcc9, hco9, hput9⟩ := HR7.out.come hm hsm hmn hL2 (o := o) (by rw [← HWKD.out, HTJ.out, HF.out])
                  subst hm
                  rw [← HWKD.out] at hcc9 hco9 hput9
                  rw [← HF.out] at hcc9 hco9 hput9
                  have hGl0 : (comeG st ch ps ts walk s m ++ F).length ≤ 100 := by
                    have h1 := HGI.out.len (k := s) (by omega) (i := (m : Int)) (mem_keysN.2 (by omega))
                    rw [List.length_append]; omega
                  obtain ⟨G, hG⟩ : ∃ G, G = comeG st ch ps ts walk s m ++ F := ⟨_, rfl⟩
                  have HGG := Lib.hid hG
                  rw [← hG] at hcc9 hco9 hput9 hGl0
                  clear hG
                  have HDA := Lib.hid (below_drew ((Below.refl W8.heap.size W8).alloc (Nat.le_refl _) (.cells #[.int .i64 o] 3)))
                  have HONE := Lib.hid (show (W8.alloc (.cells #[.int .i64 o] 3)).drew.ownsInts 0 3 .i64 (.slice (some ⟨W8.heap.size, 0, none⟩) 1 1) [o] from ownsInts_blocks (one_own HKO.out) fun _ _ _ => rfl)
                  have HOWA := Lib.hid (ownsInts_blocks (w' := (W8.alloc (.cells #[.int .i64 o] 3)).drew) hco9 fun j _ hj => HDA.out.block j hj)
                  have HPUT := Lib.hid hput9
                  have HD8 := Lib.hid (below_drew (Below.refl W8.heap.size W8))
                  have p5d := pw_cell_below HD8.out p5
                  have p5a := pw_cell_below HDA.out p5
                  have hcc9d := pw_cell_below HD8.out hcc9
                  have hccb := pw_cell_below HDA.out hcc9
                  have hbase9 : w.heap.size + 2 ≤ (W8.alloc (.cells #[.int .i64 o] 3)).drew.heap.size := by simp; omega
                  have hm0 : (m : Int) < (st.length : Int) := by omega
                  clear hco9 hput9 hnx
                  go_wp2_with fail
                  go_region_law (refine step_app (by rfl) _ _ (by rfl) i0 Tryd.underlying67 hi hiz0 hiz1 hiz2 (w.heap.size + 2) (.slice ca9 G.length cc9) G (by rfl) HOWA.out (some ⟨W8.heap.size, 0, none⟩) 1 [o] (by rfl) HONE.out (by simp; omega) hbase9 ?_; intro v9 w9 ho9 hg9 hl9; obtain ⟨hr9, hf9, hc9⟩ := HPUT.out _ _ _ HDA.out hg9 ho9 hl9; obtain ⟨a9, c9, rfl⟩ := own_slice ho9; have HR9 := Lib.hid hr9; clear hr9 ho9 hg9 hl9)
                  all_goals
                    go_wp2_with fail
                    go_roundw
                    case rel => exact ⟨j + 1, e, by omega, by go_num, rfl, HLAST.out, by simpa using HR9.out⟩
                    case measure => simp [intOf]; omega
            · obtain rfl : j = l.length := by omega
              have HOUT := Lib.hid (HR3.out.outer hlt (by rw [HL.out, HZS.out]) HNX.out.symm HGP.out.symm (by have := HSB2.out; omega))
              go_wp2_with fail
              go_roundw
              case rel => exact ⟨s + 1, by omega, by go_num, HOUT.out⟩
              case measure => simp [intOf]; omega
        · obtain rfl : s = st.length := by omega
          have HDN := Lib.hid (HR2L.out.done hL2 hst)
          go_wp2_with fail
          go_ret2
          exact ⟨_, _, rfl, HDN.out⟩
end Go.Proofs.YtdeaccbolnlgpaaDoor.X

namespace Go.Proofs.YtdeaccbolnlgpaaDoor.X
open Go.RowKit Go.Proofs.YtdeaccbolnlgpaaDoorW.PrintWords Go.Proofs.YtdeaccbolnlgpaaDoorW.PrintLast Go.Proofs.YtdeaccbolnlgpaaDoorW.PrintMore
set_option linter.unusedVariables false

def goF (st : List S62) (ch : List S81) (ps : List S48) (pace wait walk : List Int) : List Int × List (List Int) :=
  (tsG ch ps pace wait, (List.range st.length).map fun k => leftG st ch ps (tsG ch ps pace wait) walk k)
def cottonpadref06_Go.f (l0_0 : List (S62)) (l0_1 : List (S81)) (l1 : List (S48)) (l2 : List Int) (l3 : List Int) (l4 : List Int) : Option (List Int × (List (List Int))) :=
  if GoOk l0_0 l0_1 l1 l2 l3 l4 then some (goF l0_0 l0_1 l1 l2 l3 l4) else none
theorem cottonpadref06_Go.calls (A0_0 : Option Addr) (c0_0 : Nat) (l0_0 : List (S62)) (A0_1 : Option Addr) (c0_1 : Nat) (l0_1 : List (S81)) (A1 : Option Addr) (c1 : Nat) (l1 : List (S48)) (A2 : Option Addr) (c2 : Nat) (l2 : List Int) (A3 : Option Addr) (c3 : Nat) (l3 : List Int) (A4 : Option Addr) (c4 : Nat) (l4 : List Int) (r1 : List Int) (r2 : List (List Int)) (w : World) (hr0_0 : Kd.C k62 w A0_0 l0_0.length l0_0) (hc0_0 : l0_0.length ≤ c0_0) (hr0_1 : Kd.C k81 w A0_1 l0_1.length l0_1) (hc0_1 : l0_1.length ≤ c0_1) (hr1 : Kd.C k48 w A1 l1.length l1) (hc1 : l1.length ≤ c1) (hr2 : Kd.C (Kd.int .i64) w A2 l2.length l2) (hc2 : l2.length ≤ c2) (hr3 : Kd.C (Kd.int .i64) w A3 l3.length l3) (hc3 : l3.length ≤ c3) (hr4 : Kd.C (Kd.int .i64) w A4 l4.length l4) (hc4 : l4.length ≤ c4) (h : cottonpadref06_Go.f l0_0 l0_1 l1 l2 l3 l4 = some (r1, r2)) :
    Calls Tryd.prog 69 #[.agg #[.slice A0_0 l0_0.length c0_0, .slice A0_1 l0_1.length c0_1], .slice A1 l1.length c1, .slice A2 l2.length c2, .slice A3 l3.length c3, .slice A4 l4.length c4] w fun e w' => ∃ v0_ v1_ : Value, e = .returned (.tuple #[v0_, v1_]) ∧ Kd.R (Kd.int .i64) 3 w' w.heap.size (fun _ => True) v0_ r1 ∧ Kd.S (Kd.slice 3 (Kd.int .i64)) 67 w' w.heap.size (fun k_ => some k_ ≠ (v0_ : Value).ownBlock) v1_ r2 ∧ Below w.heap.size w w' := by
  unfold cottonpadref06_Go.f at h
  split at h
  · rename_i hg
    cases h
    exact go_any A0_0 A0_1 A1 A2 A3 A4 c0_0 c0_1 c1 c2 c3 c4 l0_0 l0_1 l1 l2 l3 l4 w hr0_0 hc0_0 hr0_1 hc0_1 hr1 hc1 hr2 hc2 hr3 hc3 hr4 hc4 hg
  · cases h
end Go.Proofs.YtdeaccbolnlgpaaDoor.X
