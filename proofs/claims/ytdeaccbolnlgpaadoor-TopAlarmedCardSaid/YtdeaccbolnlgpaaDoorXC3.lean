import Derived.Deep.RegionHeld3
import Derived.Deep.DrawnRows
import Derived.Deep.AppendLies
import Derived.Carry
import Derived.TacticsInMore
import Derived.Deep.Cut
import Derived.Test.YtdeaccbolnlgpaaDoorXC1
namespace Go.Proofs.YtdeaccbolnlgpaaDoor.X
open Go.RowKit Go.Shelf Go.Proofs.YtdeaccbolnlgpaaDoorW.PrintWords Go.Proofs.YtdeaccbolnlgpaaDoorW.PrintLast Go.Proofs.YtdeaccbolnlgpaaDoorW.PrintMore
set_option linter.unusedVariables false
set_option linter.unusedSimpArgs false

def WalkOk (ch : List S81) (x : S48) : Prop :=
  0 ≤ x.f0 ∧ x.f0 < ch.length ∧ 0 ≤ (rd_T81 ch x.f0).f1 ∧ (rd_T81 ch x.f0).f1 ≤ 100000 ∧ 1 ≤ x.f1.f0 ∧ x.f1.f0 ≤ x.f1.f1 ∧ x.f1.f1 ≤ 3000 ∧ 0 ≤ x.f2.f0 ∧ x.f2.f0 ≤ x.f2.f1 ∧ x.f2.f1 ≤ 3600 ∧ -1 ≤ (rd_T81 ch x.f0).f0 ∧ (rd_T81 ch x.f0).f0 ≤ 1000
def StairOk (s : S62) : Prop := -1 ≤ s.f0 ∧ s.f0 ≤ 1000 ∧ 0 ≤ s.f1 ∧ s.f1 ≤ 60 ∧ 0 ≤ s.f2.f0 ∧ s.f2.f0 ≤ s.f2.f1 ∧ s.f2.f1 ≤ 600

set_option maxRecDepth 100000 in
set_option maxHeartbeats 4000000 in
theorem stairs_it (b : Bool) (l bh be : Nat) (A0 A1 A2 : Option Addr) (c0 c1 c2 : Nat) (st : List S62) (ch : List S81) (ps : List S48) (w0 w : World)
    (hr0 : Kd.C k62 w0 A0 st.length st) (hr1 : Kd.C k81 w0 A1 ch.length ch) (hr2 : Kd.C k48 w0 A2 ps.length ps)
    (hB0 : Below w0.heap.size w0 w) (hbh : w0.heap.size ≤ bh) (hbe : w0.heap.size ≤ be) (hbh2 : bh < w.heap.size) (hbe2 : be < w.heap.size)
    (h0a : w.cell? ⟨bh, 0, none⟩ = some (.slice A0 st.length c0)) (h0b : w.cell? ⟨bh, 1, none⟩ = some (.slice A1 ch.length c1)) (h0c : w.cell? ⟨bh, 2, none⟩ = some (.slice A2 ps.length c2))
    (h1a : w.cell? ⟨be, 0, none⟩ = some (fnV (paceN b))) (h1b : w.cell? ⟨be, 1, none⟩ = some (fnV (timeN b))) (h1c : w.cell? ⟨be, 2, none⟩ = some (fnV (smokeN b)))
    (hst : st.length ≤ 1000) (hch : ch.length ≤ 1000) (hps : ps.length ≤ 1000)
    (hok : ∀ x ∈ ps, WalkOk ch x) (hstair : ∀ s ∈ st, StairOk s)
    (hlen : ∀ k i, (comeAt b st ch ps k i).length ≤ 1000) (hval : ∀ k i, ∀ t ∈ comeAt b st ch ps k i, 0 ≤ t ∧ t ≤ 1000000000)
    (J Jx : Nat → World → Prop) (hJ : ∀ k W W', J k W → Mv w.heap.size W W' → J k W') (hJx : ∀ k W W', Jx k W → Mv w.heap.size W W' → Jx k W')
    (hY : ∀ k W v, k < st.length → J k W → W.ownsInts w.heap.size 3 .i64 v (leftAt b st ch ps k) → YieldAt Fence.wide 0 Tryd.prog l #[.int .i64 k, v] W fun e W' =>
      (e = .returned (.bool true) ∧ J (k + 1) W' ∧ Rd w0.heap.size bh be w.heap.size W W') ∨ (e = .returned (.bool false) ∧ Jx (k + 1) W'))
    (hj0 : J 0 w) :
    Calls Tryd.prog 83 #[.func (.yield l) #[] #[], .pointer (some ⟨bh, 0, none⟩), .pointer (some ⟨be, 0, none⟩)] w fun e W' => (∃ v, e = .returned v) ∧ (J st.length W' ∨ ∃ k, k < st.length ∧ Jx (k + 1) W') := by
  have hu3 := Tryd.underlying3
  have hu22 := Tryd.underlying22
  have hu23 := Tryd.underlying23
  have hu25 := Tryd.underlying25
  have hu26 := Tryd.underlying26
  have hu36 := Tryd.underlying36
  have hu48 := Tryd.underlying48
  have hu62 := Tryd.underlying62
  have hu67 := Tryd.underlying67
  have hu81 := Tryd.underlying81
  have hu103 := Tryd.underlying103
  have hu112 := Tryd.underlying112
  have hu138 := Tryd.underlying138
  have HR0 := Lib.hid hr0
  have HR1 := Lib.hid hr1
  have HR2 := Lib.hid hr2
  have HOK := Lib.hid hok
  have HST := Lib.hid hstair
  have HLEN := Lib.hid hlen
  have HVAL := Lib.hid hval
  have HY := Lib.hid hY
  have HJ := Lib.hid hJ
  have HJX := Lib.hid hJx
  have HB0 := Lib.hid hB0
  have HJ0 := Lib.hid hj0
  clear hr0 hr1 hr2 hok hstair hlen hval hY hJ hJx hB0 hj0
  go_enter Tryd.func83, Tryd.ntmps83
  have hmk := run_makeMap (P := Tryd.prog) (w := w) (t := 138)
  go_wp2
  have hc0 := Come.made w
  have hB1 : Below w.heap.size w (w.alloc (.map #[] 0)) := (Below.refl _ w).alloc (Nat.le_refl _) _
  have HC0 := Lib.hid hc0
  have HB1 := Lib.hid hB1
  clear hc0 hB1
  go_loopw [6, 7, 17, 18, 19, 20, 21, 22, 23, 24, 25, 26, 27, 28, 29, 30, 31, 32, 33, 34, 35, 36, 37, 38, 39, 40] (fun _ _ i _ _ _ _ _ _ _ _ _ _ _ _ _ _ _ _ _ _ _ _ _ _ _ wr => ∃ k : Nat, k ≤ ps.length ∧ i = .int .i64 k ∧ Come wr w.heap.size k (comeO b ch (ps.take k)) ∧ Mv w.heap.size w wr) (fun _ _ i _ _ _ _ _ _ _ _ _ _ _ _ _ _ _ _ _ _ _ _ _ _ _ _ => ps.length - (intOf i).toNat)
  case atStart => exact ⟨0, by omega, rfl, HC0.out, Mv.of_below HB1.out (Nat.le_refl _)⟩
  case round =>
    obtain ⟨k, hk, rfl, hcm, hmv⟩ := hrel
    have hsz := hcm.lt
    have HCM := Lib.hid hcm
    have HMV := Lib.hid hmv
    have HBW := Lib.hid (HB0.out.trans (hmv.below.mono (by have := HB0.out.size; omega)))
    have k0a := pw_cell_below hmv.below h0a
    have k0b := pw_cell_below hmv.below h0b
    have k0c := pw_cell_below hmv.below h0c
    have k1a := pw_cell_below hmv.below h1a
    have k1b := pw_cell_below hmv.below h1b
    have k1c := pw_cell_below hmv.below h1c
    have H0 := Lib.hid (And.intro h0a (And.intro h0b (And.intro h0c (And.intro h1a (And.intro h1b h1c)))))
    have hbh3 : bh < wr.heap.size := by omega
    have hbe3 : be < wr.heap.size := by omega
    clear hcm hmv h0a h0b h0c h1a h1b h1c
    by_cases hlt : k < ps.length
    · have hxx : rd_T48 ps (k : Int) = ps[k] := by simp [rd_T48, List.getD_eq_getElem?_getD, hlt]
      obtain ⟨ad, rfl, g0, g1, g2, g3, g4⟩ := at_T48 (Kd.C_below HR2.out HBW.out) (k : Int) (by omega) (by omega)
      rw [hxx] at g0 g1 g2 g3 g4
      simp only [Int.toNat_natCast] at g0 g1 g2 g3 g4
      have lg := World.block_lt_of_cell? wr _ g1
      clear hxx
      have HTK := Lib.hid (comeO_succ b ch ps k hlt)
      have HXM := Lib.hid (HOK.out ps[k] (List.getElem_mem _))
      have HLB := Lib.hid (HVAL.out 0 (rd_T81 ch ps[k].f0).f0 (leaveT b ch ps[k]) (by simp only [comeAt, comeO]; exact List.mem_map.2 ⟨ps[k], List.mem_filter.2 ⟨List.getElem_mem _, by simp⟩, rfl⟩))
      generalize hxg : ps[k] = x at *
      clear hxg
      obtain ⟨q1, q2, q3, q4, q5, q6, q7, q8, q9, q10, q11, q12⟩ := HXM.out
      have HLV := Lib.hid (fun W (hW : Below w0.heap.size w0 W) => leaves_any b A0 A1 (some ad) st.length c0 c1 ps.length c2 ch x W (Kd.C_below HR1.out hW) q1 q2 q3 q4 q5 q6 q7 q8 q9 q10)
      obtain ⟨ad1, rfl, f0, f1, f2, f3⟩ := at_T81 (Kd.C_below HR1.out HBW.out) x.f0 q1 q2
      have lg1 := World.block_lt_of_cell? wr _ f0
      clear f1 f2 f3 q3 q4 q5 q6 q7 q8 q9 q10
      obtain ⟨c, pc, wt⟩ := x
      obtain ⟨p0, p1⟩ := pc
      obtain ⟨t0, t1⟩ := wt
      dsimp only at *
      obtain ⟨sN, hsN⟩ : ∃ sN, sN = (rd_T81 ch c).f0 := ⟨_, rfl⟩
      rw [← hsN] at f0 q11 q12 HTK
      have HSN := Lib.hid hsN
      clear hsN
      go_wp2
      -- the region 5: come[s] = append(come[s], h.leaves(w, e))
      obtain ⟨W0, hW0⟩ : ∃ W0, wr.alloc (.cells #[.int .i64 c, .int .i64 p0, .int .i64 p1, .int .i64 t0, .int .i64 t1] 48) = W0 := ⟨_, rfl⟩
      have hBr : Below wr.heap.size wr W0 := by rw [← hW0]; exact (Below.refl _ _).alloc (Nat.le_refl _) _
      have x0 : W0.cell? ⟨wr.heap.size, 0, none⟩ = some (.int .i64 c) := by rw [← hW0]; clear hW0; go_simp
      have x1 : W0.cell? ⟨wr.heap.size, 1, none⟩ = some (.int .i64 p0) := by rw [← hW0]; clear hW0; go_simp
      have x2 : W0.cell? ⟨wr.heap.size, 2, none⟩ = some (.int .i64 p1) := by rw [← hW0]; clear hW0; go_simp
      have x3 : W0.cell? ⟨wr.heap.size, 3, none⟩ = some (.int .i64 t0) := by rw [← hW0]; clear hW0; go_simp
      have x4 : W0.cell? ⟨wr.heap.size, 4, none⟩ = some (.int .i64 t1) := by rw [← hW0]; clear hW0; go_simp
      have hob : W0.heap[wr.heap.size]? = some (.cells #[.int .i64 c, .int .i64 p0, .int .i64 p1, .int .i64 t0, .int .i64 t1] 48) := by rw [← hW0]; exact World.alloc_heap_new _ _
      have y0a := pw_cell_below hBr k0a
      have y0b := pw_cell_below hBr k0b
      have y0c := pw_cell_below hBr k0c
      have y1a := pw_cell_below hBr k1a
      have y1b := pw_cell_below hBr k1b
      have y1c := pw_cell_below hBr k1c
      have hz0 := hBr.size
      have hz1 : wr.heap.size < W0.heap.size := by rw [← hW0]; simp
      rw [hW0]
      clear hW0 k0a k0b k0c k1a k1b k1c g0 g1 g2 g3 g4 f0
      have HBR := Lib.hid hBr
      have HBW2 := Lib.hid (HBW.out.trans (hBr.mono HBW.out.size))
      have HC2 := Lib.hid (HCM.out.kept (w' := W0) (fun k _ hk => hBr.block k hk))
      clear hBr
      have HKEY := Lib.hid (Key.of (i := sN) (by omega) (by omega))
      obtain ⟨v, hlk, how, hvl, hbk, _⟩ := HC2.out.at (by unfold maxLen; omega) HKEY.out
      have HOW := Lib.hid how
      have HBK := Lib.hid hbk
      have HLK := Lib.hid (fun W (hW : Below W0.heap.size W0 W) => HC2.out.look (hW.block _ HC2.out.lt) HKEY.out hlk)
      have hnx : some wr.heap.size ≠ v.ownBlock := fun e => by
        rcases how.1.2 with ⟨rfl, _⟩ | ⟨g, cap, cur, rfl, _, hgb, _⟩
        · cases e
        · simp only [Value.ownBlock, Option.some.injEq] at e; subst e; rw [hob] at hgb; cases hgb
      have hnh : some bh ≠ v.ownBlock := fun e => by
        have := (how.1.lt bh e.symm).1; omega
      have hne : some be ≠ v.ownBlock := fun e => by
        have := (how.1.lt be e.symm).1; omega
      have HD := Lib.hid (below_drew (Below.refl W0.heap.size W0))
      have hlk1 := HLK.out _ HD.out
      have HBW3 := Lib.hid (HBW2.out.trans (HD.out.mono HBW2.out.size))
      have hS0 : W0.cell? ⟨bh, 0, none⟩ = some (.slice A0 st.length c0) ∧ W0.cell? ⟨bh, 1, none⟩ = some (.slice (some ad1) ch.length c1) ∧ W0.cell? ⟨bh, 2, none⟩ = some (.slice (some ad) ps.length c2) ∧ W0.cell? ⟨be, 0, none⟩ = some (fnV (paceN b)) ∧ W0.cell? ⟨be, 1, none⟩ = some (fnV (timeN b)) ∧ W0.cell? ⟨be, 2, none⟩ = some (fnV (smokeN b)) ∧ W0.cell? ⟨wr.heap.size, 0, none⟩ = some (.int .i64 c) ∧ W0.cell? ⟨wr.heap.size, 1, none⟩ = some (.int .i64 p0) ∧ W0.cell? ⟨wr.heap.size, 2, none⟩ = some (.int .i64 p1) ∧ W0.cell? ⟨wr.heap.size, 3, none⟩ = some (.int .i64 t0) ∧ W0.cell? ⟨wr.heap.size, 4, none⟩ = some (.int .i64 t1) := ⟨y0a, y0b, y0c, y1a, y1b, y1c, x0, x1, x2, x3, x4⟩
      have hSd : W0.drew.cell? ⟨bh, 0, none⟩ = some (.slice A0 st.length c0) ∧ W0.drew.cell? ⟨bh, 1, none⟩ = some (.slice (some ad1) ch.length c1) ∧ W0.drew.cell? ⟨bh, 2, none⟩ = some (.slice (some ad) ps.length c2) ∧ W0.drew.cell? ⟨be, 0, none⟩ = some (fnV (paceN b)) ∧ W0.drew.cell? ⟨be, 1, none⟩ = some (fnV (timeN b)) ∧ W0.drew.cell? ⟨be, 2, none⟩ = some (fnV (smokeN b)) ∧ W0.drew.cell? ⟨wr.heap.size, 0, none⟩ = some (.int .i64 c) ∧ W0.drew.cell? ⟨wr.heap.size, 1, none⟩ = some (.int .i64 p0) ∧ W0.drew.cell? ⟨wr.heap.size, 2, none⟩ = some (.int .i64 p1) ∧ W0.drew.cell? ⟨wr.heap.size, 3, none⟩ = some (.int .i64 t0) ∧ W0.drew.cell? ⟨wr.heap.size, 4, none⟩ = some (.int .i64 t1) := S11_keep (fun k _ hk => HD.out.block k hk) hS0
      have HS := Lib.hid hS0
      have HKL := Lib.hid (Key.of (i := leaveT b ch ⟨c, ⟨p0, p1⟩, ⟨t0, t1⟩⟩) (by have := HLB.out.1; omega) (by have := HLB.out.2; omega))
      have HCC := Lib.hid (And.intro hvl hk)
      clear hlk how hbk hob y0a y0b y0c y1a y1b y1c x0 x1 x2 x3 x4 hS0 hvl
      obtain ⟨i0, hi, hiz0, hiz1, hiz2⟩ := info_parts info3
      go_region_held3 (fun w' => w'.cell? ⟨bh, 0, none⟩ = some (.slice A0 st.length c0) ∧ w'.cell? ⟨bh, 1, none⟩ = some (.slice (some ad1) ch.length c1) ∧ w'.cell? ⟨bh, 2, none⟩ = some (.slice (some ad) ps.length c2) ∧ w'.cell? ⟨be, 0, none⟩ = some (fnV (paceN b)) ∧ w'.cell? ⟨be, 1, none⟩ = some (fnV (timeN b)) ∧ w'.cell? ⟨be, 2, none⟩ = some (fnV (smokeN b)) ∧ w'.cell? ⟨wr.heap.size, 0, none⟩ = some (.int .i64 c) ∧ w'.cell? ⟨wr.heap.size, 1, none⟩ = some (.int .i64 p0) ∧ w'.cell? ⟨wr.heap.size, 2, none⟩ = some (.int .i64 p1) ∧ w'.cell? ⟨wr.heap.size, 3, none⟩ = some (.int .i64 t0) ∧ w'.cell? ⟨wr.heap.size, 4, none⟩ = some (.int .i64 t1))
        (first
          | assumption
          | exact S11_keep (fun k _ hk => ((Below.refl _ _).alloc (Nat.le_refl _) _).block k hk) (by assumption))
        (first
          | (go_at_call 84; refine (HLV.out _ HBW3.out).mono ?_; rintro e w1 ⟨rfl, hb1⟩; have hS1 := S11_keep (fun k _ hk => hb1.block k hk) hSd; have HD1 := Lib.hid (HD.out.trans (hb1.mono HD.out.size)); have hlk2 := HLK.out w1 HD1.out; have hlk3 := fun o => HLK.out (w1.alloc o) (HD1.out.alloc HD1.out.size o))
          | (refine step_app (by rfl) _ _ (by rfl) i0 Tryd.underlying67 hi hiz0 hiz1 hiz2 (w.heap.size + 1) v (comeO b ch (ps.take k) sN) (by rfl) (ownsInts_blocks HOW.out fun k _ hk => (HD1.out.alloc HD1.out.size _).block k hk) (some ⟨w1.heap.size, 0, none⟩) 1 [leaveT b ch ⟨c, ⟨p0, p1⟩, ⟨t0, t1⟩⟩] (by rfl) (one_own HKL.out) (by have := HCC.out; simp; omega) (by have := HD1.out.size; simp; omega) ?_
             intro v' w2 ho2 hg2 hl2
             obtain ⟨w3, hr3, hc3, hg3⟩ := HBK.out w2 v' _ ((grown_of_below (HD1.out.alloc HD1.out.size _) v.ownBlock).trans hg2) ho2 (by have := HCC.out; simp; omega) (hl2.imp id fun e => ⟨_, e, by have := HD1.out.size; simp; omega⟩)
             obtain ⟨hm3, hk3⟩ := put_moves HC2.out HOW.out (HD1.out.alloc HD1.out.size _) hg2 hg3
             have hS2 := S11_keep (fun k hk hlt => hg2.block k hlt (by rcases hk with rfl | rfl | rfl <;> assumption)) (S11_keep (fun k _ hk => ((Below.refl _ _).alloc (Nat.le_refl _) (Obj.cells #[Value.int IntKind.i64 (leaveT b ch ⟨c, ⟨p0, p1⟩, ⟨t0, t1⟩⟩)] 3)).block k hk) hS1)
             have hS3 := S11_keep (A := W0) (B := w3) (fun k hk hlt => hk3 k hlt (by rcases hk with rfl | rfl | rfl <;> omega) (by rcases hk with rfl | rfl | rfl <;> assumption)) HS.out))
      all_goals
        go_wp2
        go_roundw
        case rel =>
          refine ⟨k + 1, by omega, by simp, ?_, HMV.out.trans ((Mv.of_below HBR.out (by omega)).trans hm3)⟩
          rw [HTK.out]; exact hc3
        case measure => simp [intOf]; omega
    · obtain rfl : k = ps.length := by omega
      rw [List.take_length] at HCM
      go_wp2
      go_loopw [8, 9, 10, 11, 12, 45, 46, 47, 48, 49, 50, 51, 52, 53, 54, 55, 56, 57, 58, 59, 60, 61, 62, 63, 64, 65, 66, 67, 68, 69, 70, 71, 72, 73, 74, 75, 76, 77, 78, 79, 80, 81, 82, 83, 84, 85, 86, 87, 88, 89, 90, 91, 92, 93, 94, 95, 96, 97, 98, 99, 100, 101, 102, 103, 104, 105, 106, 107, 108, 109] (fun _ _ _ _ _ i _ _ _ _ _ _ _ _ _ _ _ _ _ _ _ _ _ _ _ _ _ _ _ _ _ _ _ _ _ _ _ _ _ _ _ _ _ _ _ _ _ _ _ _ _ _ _ _ _ _ _ _ _ _ _ _ _ _ _ _ _ _ _ _ wr => ∃ k : Nat, k ≤ st.length ∧ i = .int .i64 k ∧ J k wr ∧ Come wr w.heap.size (2000 + k) (comeAt b st ch ps k) ∧ Below w0.heap.size w0 wr ∧ wr.cell? ⟨bh, 0, none⟩ = some (.slice A0 st.length c0) ∧ wr.cell? ⟨bh, 1, none⟩ = some (.slice A1 ch.length c1) ∧ wr.cell? ⟨bh, 2, none⟩ = some (.slice A2 ps.length c2) ∧ wr.cell? ⟨be, 0, none⟩ = some (fnV (paceN b)) ∧ wr.cell? ⟨be, 1, none⟩ = some (fnV (timeN b)) ∧ wr.cell? ⟨be, 2, none⟩ = some (fnV (smokeN b))) (fun _ _ _ _ _ i _ _ _ _ _ _ _ _ _ _ _ _ _ _ _ _ _ _ _ _ _ _ _ _ _ _ _ _ _ _ _ _ _ _ _ _ _ _ _ _ _ _ _ _ _ _ _ _ _ _ _ _ _ _ _ _ _ _ _ _ _ _ _ _ _ => st.length - (intOf i).toNat)
      case atStart => exact ⟨0, by omega, rfl, HJ.out 0 _ _ HJ0.out HMV.out, HCM.out.mono (by omega), HBW.out, k0a, k0b, k0c, k1a, k1b, k1c⟩
      case round =>
        clear k0a k0b k0c k1a k1b k1c hsz hbh3 hbe3 HCM HMV HBW
        rename World => wv
        obtain ⟨k, hk, rfl, hjk, hcm, hbw, k0a, k0b, k0c, k1a, k1b, k1c⟩ := hrel
        have hsz := hcm.lt
        have hbh3 : bh < wv.heap.size := by omega
        have hbe3 : be < wv.heap.size := by omega
        have HCM := Lib.hid hcm
        have HBW := Lib.hid hbw
        have HJK := Lib.hid hjk
        clear hcm hbw hjk
        by_cases hlt : k < st.length
        · have hxx : rd_T62 st (k : Int) = st[k] := by simp [rd_T62, List.getD_eq_getElem?_getD, hlt]
          obtain ⟨ad, rfl, g0, g1, g2, g3, g4, g5⟩ := at_T62 (Kd.C_below HR0.out HBW.out) (k : Int) (by omega) (by omega)
          rw [hxx] at g0 g1 g2 g3 g4 g5
          simp only [Int.toNat_natCast] at g0 g1 g2 g3 g4 g5
          have lg := World.block_lt_of_cell? wv _ g1
          have HXX := Lib.hid hxx
          have HSO := Lib.hid (HST.out st[k] (List.getElem_mem _))
          have HLE := Lib.hid (HLEN.out k)
          have HVA := Lib.hid (HVAL.out k)
          have HVL := Lib.hid (HVAL.out (k + 1))
          have HKK := Lib.hid (Key.of (i := (k : Int)) (by omega) (by omega))
          have hLF : ∀ t ∈ leftAt b st ch ps k, 0 ≤ t ∧ t ≤ 1000000000 := fun t ht => by
            refine HVL.out (rd_T62 st k).f0 t ?_
            simp only [comeAt, comeN, putM, if_true]
            exact List.mem_append_right _ ht
          have HLF := Lib.hid hLF
          have HCA := Lib.hid (show comeAt b st ch ps (k + 1) = comeN b st (comeAt b st ch ps k) k from rfl)
          have HLA := Lib.hid (show leftAt b st ch ps k = leftOf b st[k] (comeAt b st ch ps k k) by rw [leftAt, hxx])
          clear hxx hLF
          generalize hxg : st[k] = x at *
          clear hxg
          obtain ⟨q1, q2, q3, q4, q5, q6, q7⟩ := HSO.out
          obtain ⟨nx, gp, wk, sm⟩ := x
          obtain ⟨w1, w2⟩ := wk
          obtain ⟨s1, s2⟩ := sm
          dsimp only at *
          have hlk0 := HCM.out.at (by unfold maxLen; omega) HKK.out
          obtain ⟨v, hlk, how, hvl, hbk, hsh⟩ := hlk0
          obtain ⟨W1, hW1⟩ : ∃ W1, wv.alloc (.cells #[.int .i64 nx, .int .i64 gp, .int .i64 w1, .int .i64 w2, .int .i64 s1, .int .i64 s2] 62) = W1 := ⟨_, rfl⟩
          have hB1 : Below wv.heap.size wv W1 := by rw [← hW1]; exact (Below.refl _ _).alloc (Nat.le_refl _) _
          have hlk1 := HCM.out.look (w' := W1) (hB1.block _ HCM.out.lt) HKK.out hlk
          obtain ⟨va, vc, rfl⟩ := own_slice how
          have HVI := Lib.hid (vals_Ints_below hB1 (own_vals how))
          have HIN := Lib.hid (increasing_any va _ vc _ (HLE.out k) W1 (vals_Ints_mono hB1.size HVI.out))
          have x0 : W1.cell? ⟨wv.heap.size, 0, none⟩ = some (.int .i64 nx) := by rw [← hW1]; clear hW1; go_simp
          have x1 : W1.cell? ⟨wv.heap.size, 1, none⟩ = some (.int .i64 gp) := by rw [← hW1]; clear hW1; go_simp
          have x2 : W1.cell? ⟨wv.heap.size, 2, none⟩ = some (.int .i64 w1) := by rw [← hW1]; clear hW1; go_simp
          have x3 : W1.cell? ⟨wv.heap.size, 3, none⟩ = some (.int .i64 w2) := by rw [← hW1]; clear hW1; go_simp
          have hz1 : wv.heap.size < W1.heap.size := by rw [← hW1]; simp
          have HB1 := Lib.hid hB1
          clear hlk how hvl hbk hsh hB1
          go_wp2_with fail
          refine HIN.out.mono ?_
          rintro e W3 ⟨v2, rfl, ho2, hb2⟩
          obtain ⟨ts, hts⟩ : ∃ ts, ts = sortL (comeAt b st ch ps k k) := ⟨_, rfl⟩
          have htl : (comeAt b st ch ps k k).length = ts.length := by rw [hts, sortL_length]
          rw [← hts, htl] at ho2
          have hol2 : W3.ownsInts W1.heap.size 3 .i64 v2 ts := ⟨ho2, fun z hz => by
            have := HVA.out k z (by rw [hts] at hz; exact (List.mem_mergeSort.1 hz))
            exact Key.of (by omega) (by omega)⟩
          have htb : ∀ z ∈ ts, 0 ≤ z ∧ z ≤ 1000000000 := fun z hz => HVA.out k z (by rw [hts] at hz; exact (List.mem_mergeSort.1 hz))
          have htn : ts.length ≤ 1000 := by have := HLE.out k; omega
          obtain ⟨a2, cap2, rfl⟩ := own_slice hol2
          obtain ⟨wk, hwk⟩ : ∃ wk, wk = timeS b ⟨w1, w2⟩ := ⟨_, rfl⟩
          have hwk2 : 0 ≤ wk ∧ wk ≤ 600 := by rw [hwk]; cases b <;> (unfold timeS; dsimp only; omega)
          have HLA2 := Lib.hid (show leftAt b st ch ps k = flowL wk gp ts by rw [HLA.out, leftOf, hwk, hts])
          have hLB : ∀ z ∈ flowL wk gp ts, 0 ≤ z ∧ z ≤ 1000000000 := fun z hz => HLF.out z (by rw [HLA2.out]; exact hz)
          obtain ⟨gT, hgT⟩ : ∃ g, g = timeN b := ⟨_, rfl⟩
          have HT := Lib.hid (fun W => time_any b ⟨w1, w2⟩ W)
          have eg := time_enters b
          have hB3 : Below wv.heap.size wv W3 := HB1.out.trans (hb2.mono HB1.out.size)
          have HB3 := Lib.hid hB3
          have z1b := pw_cell_below hB3 k1b
          unfold fnV at z1b
          rw [← hgT] at HT eg z1b
          rw [← hwk] at HT
          dsimp only at HT
          have z1 := pw_cell_below hb2 x1
          have z2 := pw_cell_below hb2 x2
          have z3 := pw_cell_below hb2 x3
          have z0 := pw_cell_below hb2 x0
          have hz3 : W1.heap.size ≤ W3.heap.size := hb2.size
          have HO2 := Lib.hid hol2
          have HTB := Lib.hid htb
          have HLBB := Lib.hid hLB
          have HX0 := Lib.hid z0
          have HWK := Lib.hid hwk
          have hbe5 : be < W3.heap.size := by omega
          have hbb5 : wv.heap.size < W3.heap.size := by omega
          have hq := And.intro q4 (And.intro q3 (And.intro q5 (And.intro q6 q7)))
          have HQ := Lib.hid (And.intro q1 q2)
          clear hgT hwk hts ho2 hol2 htb hLB hB3 hb2 x0 x1 x2 x3 hW1 hlk1 z0 g0 g1 g2 g3 g4 g5 lg
          obtain ⟨i0, hi, hiz0, hiz1, hiz2⟩ := info_parts info3
          go_wp2
          go_loopw [10, 11, 12, 59, 60, 61, 62, 63, 64, 65, 66, 67, 68, 69, 70, 71, 72, 73, 74, 75, 76, 77, 78, 79, 80, 81, 82, 83, 84, 85, 86, 87, 88, 89, 90, 91, 92] (fun u _ _ i _ _ _ _ _ _ _ _ _ _ _ _ _ _ _ _ _ _ _ _ _ _ _ _ _ _ _ _ _ _ _ _ _ wx => ∃ n : Nat, n ≤ ts.length ∧ i = .int .i64 n ∧ wx.ownsInts W3.heap.size 3 .i64 u (flowL wk gp (ts.take n)) ∧ Below W3.heap.size W3 wx) (fun u _ _ i _ _ _ _ _ _ _ _ _ _ _ _ _ _ _ _ _ _ _ _ _ _ _ _ _ _ _ _ _ _ _ _ _ _ => ts.length - (intOf i).toNat)
          case atStart => exact ⟨0, by omega, rfl, World.ownsInts_nil _ _ _ _, Below.refl _ _⟩
          case round =>
            rename World => wx
            obtain ⟨n, hn, rfl, hol, hbx⟩ := hrel
            have HOL := Lib.hid hol
            have HBX := Lib.hid hbx
            have z1b' := pw_cell_below hbx z1b
            have z1' := pw_cell_below hbx z1
            have z2' := pw_cell_below hbx z2
            have z3' := pw_cell_below hbx z3
            have hbs := hbx.size
            clear hol hbx z1b z1 z2 z3
            by_cases hlt2 : n < ts.length
            · obtain ⟨g2, rfl, _, hcap2, hg2a, hg2b, hcc⟩ := own_cell HO2.out hlt2
              have z4 : wx.cell? ⟨g2, n, none⟩ = some (.int .i64 ts[n]) := pw_cell_below HBX.out hcc
              have HSU := Lib.hid (flowL_succ wk gp ts n hlt2)
              have HNX := Lib.hid (fun z (hz : z ∈ flowL wk gp (ts.take (n + 1))) => HLBB.out z (flow_mem hz))
              have HPX := Lib.hid (fun z (hz : z ∈ flowL wk gp (ts.take n)) => HLBB.out z (flow_mem hz))
              have HTN := Lib.hid (HTB.out ts[n] (List.getElem_mem _))
              have htl2 : (flowL wk gp (ts.take n)).length = n := by rw [flowL_length, List.length_take]; omega
              generalize hxg : ts[n] = t at *
              clear hxg hcc
              obtain ⟨acc, hacc⟩ : ∃ acc, acc = flowL wk gp (ts.take n) := ⟨_, rfl⟩
              rw [← hacc] at HOL htl2 HSU HPX
              clear hacc
              obtain ⟨va2, vc2, rfl⟩ := own_slice HOL.out
              rcases n with _ | j
              · -- the first one
                obtain rfl : acc = [] := List.eq_nil_of_length_eq_zero htl2
                rw [HSU.out] at HNX
                simp only [flowStep, List.getLast?_nil, List.nil_append] at HNX HSU
                have HZ := Lib.hid (HNX.out (t + wk) (by simp))
                have hwr : IntKind.i64.wrap (t + wk) = t + wk := IntWalk.i64_in _ (by have := HZ.out; omega)
                have HKY := Lib.hid (Key.of (i := t + wk) (by have := HZ.out; omega) (by have := HZ.out; omega))
                go_wp2_with fail
                refine (HT.out wx).mono ?_
                rintro e wy ⟨rfl, hb1⟩
                have HB4 := Lib.hid hb1
                clear hb1
                have hys := HB4.out.size
                go_wp2_with (at_builtin; refine wpl_app rfl _ _ rfl i0 Tryd.underlying67 hi hiz0 hiz1 hiz2 W3.heap.size (.slice va2 0 vc2) [] rfl (ownsInts_blocks HOL.out fun k _ hk => (HB4.out.alloc hys _).block k hk) (some ⟨wy.heap.size, 0, none⟩) 1 [t + wk] rfl (one_own HKY.out) (by simp) (by simp; omega) ?_; intro v' wz ho2 hg2 hl2; have HO4 := Lib.hid ho2; have HG4 := Lib.hid hg2; clear ho2 hg2 hl2)
                go_roundw
                case rel =>
                  refine ⟨1, by omega, rfl, by rw [HSU.out]; exact HO4.out, ?_⟩
                  exact (((HBX.out.trans (HB4.out.mono hbs)).alloc (by omega) _).grown HG4.out (by simp; omega) (fun j hj => (HOL.out.1.lt j hj).1))
                case measure => simp [intOf]; omega
              · have hjl : j < acc.length := by omega
                obtain ⟨gl, rfl, _, hcapl, hgla, hglb, hcl2⟩ := own_cell HOL.out hjl
                have hlast : acc.getLast? = some acc[j] := by rw [List.getLast?_eq_getElem?, htl2, Nat.add_sub_cancel, List.getElem?_eq_getElem hjl]
                have HPJ := Lib.hid (HPX.out acc[j] (List.getElem_mem _))
                generalize hxg : acc[j] = p at *
                rw [HSU.out] at HNX
                simp only [flowStep, hlast] at HNX HSU
                clear hxg hlast
                have HZ := Lib.hid (HNX.out (max t (p - wk + gp) + wk) (by simp))
                have hwr1 : IntKind.i64.wrap ((j : Int) + 1 - 1) = j := by rw [Int.add_sub_cancel]; exact IntWalk.i64_in _ (by omega)
                have hwr0 : IntKind.i64.wrap (j : Int) = j := IntWalk.i64_in _ (by omega)
                have hwr2 : IntKind.i64.wrap (p - wk) = p - wk := IntWalk.i64_in _ (by have := HPJ.out; omega)
                have hwr3 : IntKind.i64.wrap (p - wk + gp) = p - wk + gp := IntWalk.i64_in _ (by have := HPJ.out; omega)
                have hwr : IntKind.i64.wrap (max t (p - wk + gp) + wk) = max t (p - wk + gp) + wk := IntWalk.i64_in _ (by have := HZ.out; omega)
                have HKY := Lib.hid (Key.of (i := max t (p - wk + gp) + wk) (by have := HZ.out; omega) (by have := HZ.out; omega))
                have hj0 : (0 : Int) ≤ j := by omega
                have hj1 : (j : Int) < (j : Int) + 1 := by omega
                have hj2 : (j : Int) < ((j + 1 : Nat) : Int) := by omega
                go_wp2_with fail
                have hSx : wx.cell? ⟨be, 1, none⟩ = some (.func (.func gT) #[] #[]) ∧ wx.cell? ⟨wv.heap.size, 1, none⟩ = some (.int .i64 gp) ∧ wx.cell? ⟨wv.heap.size, 2, none⟩ = some (.int .i64 w1) ∧ wx.cell? ⟨wv.heap.size, 3, none⟩ = some (.int .i64 w2) ∧ wx.cell? ⟨gl, j, none⟩ = some (.int .i64 p) := ⟨z1b', z1', z2', z3', hcl2⟩
                have HDX := Lib.hid (below_drew (Below.refl wx.heap.size wx))
                have hSx2 : wx.drew.cell? ⟨be, 1, none⟩ = some (.func (.func gT) #[] #[]) ∧ wx.drew.cell? ⟨wv.heap.size, 1, none⟩ = some (.int .i64 gp) ∧ wx.drew.cell? ⟨wv.heap.size, 2, none⟩ = some (.int .i64 w1) ∧ wx.drew.cell? ⟨wv.heap.size, 3, none⟩ = some (.int .i64 w2) ∧ wx.drew.cell? ⟨gl, j, none⟩ = some (.int .i64 p) := S5_keep (fun k hk => HDX.out.block k hk) hSx
                go_region_held3 (fun w' => w'.cell? ⟨be, 1, none⟩ = some (.func (.func gT) #[] #[]) ∧ w'.cell? ⟨wv.heap.size, 1, none⟩ = some (.int .i64 gp) ∧ w'.cell? ⟨wv.heap.size, 2, none⟩ = some (.int .i64 w1) ∧ w'.cell? ⟨wv.heap.size, 3, none⟩ = some (.int .i64 w2) ∧ w'.cell? ⟨gl, j, none⟩ = some (.int .i64 p))
                  (first
                    | assumption
                    | exact S5_keep (fun k hk => hb1.block k hk) hSx2)
                  (first
                    | (refine (HT.out _).mono ?_; rintro e wy ⟨rfl, hb1⟩))
                have HB5 := Lib.hid (HDX.out.trans (hb1.mono HDX.out.size))
                obtain ⟨k1b'', k1'', k2'', k3'', _⟩ := S5_keep (fun k hk => hb1.block k hk) hSx2
                have hys := HB5.out.size
                clear hb1 hSx hSx2 HDX z1b' z1' z2' z3' hcl2
                try clear hHeld
                go_wp2_with fail
                refine (HT.out wy).mono ?_
                rintro e wz ⟨rfl, hb1⟩
                have HB4 := Lib.hid (HB5.out.trans (hb1.mono hys))
                clear hb1
                have hzs := HB4.out.size
                go_wp2_with (at_builtin; refine wpl_app rfl _ _ rfl i0 Tryd.underlying67 hi hiz0 hiz1 hiz2 W3.heap.size (.slice (some ⟨gl, 0, none⟩) (j + 1) vc2) acc rfl (ownsInts_blocks (by have := HOL.out; rw [htl2] at this; exact this) fun k _ hk => (HB4.out.alloc hzs _).block k hk) (some ⟨wz.heap.size, 0, none⟩) 1 [max t (p - wk + gp) + wk] rfl (one_own HKY.out) (by simp; omega) (by simp; omega) ?_; intro v' wu ho2 hg2 hl2; have HO4 := Lib.hid ho2; have HG4 := Lib.hid hg2; clear ho2 hg2 hl2)
                go_roundw
                case rel =>
                  refine ⟨j + 1 + 1, by omega, by simp, by rw [HSU.out]; exact HO4.out, ?_⟩
                  exact (((HBX.out.trans (HB4.out.mono hbs)).alloc (by omega) _).grown HG4.out (by simp; omega) (fun j hj => (HOL.out.1.lt j hj).1))
                case measure => simp [intOf]; omega
            · obtain rfl : n = ts.length := by omega
              rw [List.take_length] at HOL
              have HB6 := Lib.hid (HB3.out.trans (HBX.out.mono HB3.out.size))
              have HC6 := Lib.hid (HCM.out.kept (w' := wx) (fun k _ hk => HB6.out.block k hk))
              have HSH := Lib.hid (Shuns_same HCM.out.shuns (HB6.out.block _ HCM.out.lt))
              have hx0 := pw_cell_below HBX.out HX0.out
              have hwx := HB6.out.size
              obtain ⟨la, lc, rfl⟩ := own_slice HOL.out
              have hll : (flowL wk gp ts).length = ts.length := flowL_length _ _ _
              have hll2 : (flowL wk gp ts).length ≤ 1000 := by omega
              clear hll
              go_wp2_with (at_delete; refine wpl_del rfl _ _ rfl HC6.out HKK.out rfl rfl ?_; intro wd hc7 hg7 hs7; have HC7 := Lib.hid hc7; have HG7 := Lib.hid hg7; have HSH7 := Lib.hid (hs7 _ HSH.out); clear hc7 hg7 hs7)
              have hBW : w.heap.size < wv.heap.size := hsz
              have hd0 : wd.cell? ⟨wv.heap.size, 0, none⟩ = some (.int .i64 nx) := HG7.out.cell hx0 (by simp; omega)
              have hds := HG7.out.size
              have HKN := Lib.hid (Key.of (i := nx) (by have := HQ.out; omega) (by have := HQ.out; omega))
              obtain ⟨v, hlk, how, hvl, hbk, hsh⟩ := HC7.out.at (by unfold maxLen; omega) HKN.out
              have HDD := Lib.hid (below_drew (Below.refl wd.heap.size wd))
              have hlk1 := HC7.out.look (HDD.out.block _ HC7.out.lt) HKN.out hlk
              have HVS := Lib.hid (hsh _ HSH7.out)
              have HOV := Lib.hid how
              have HBK := Lib.hid hbk
              have hzl : (putM k [] (comeAt b st ch ps k) nx).length ≤ 1000 := by
                by_cases e : nx = (k : Int)
                · rw [putM, if_pos e]; simp
                · rw [putM, if_neg e]; exact HLE.out nx
              have HOD := Lib.hid (show wd.ownsInts W3.heap.size 3 .i64 (.slice la (flowL wk gp ts).length lc) (flowL wk gp ts) from ownsInts_blocks HOL.out fun j hj hjl => HG7.out.block j hjl (by intro e; cases e; omega))
              have hdd0 := pw_cell_below HDD.out hd0
              clear hlk how hbk hsh hx0
              go_region_held3 (fun w' => w'.cell? ⟨wv.heap.size, 0, none⟩ = some (.int .i64 nx))
                (first | assumption)
                ((refine step_app (by rfl) _ _ (by rfl) i0 Tryd.underlying67 hi hiz0 hiz1 hiz2 (w.heap.size + 1) v (putM k [] (comeAt b st ch ps k) nx) (by rfl) (ownsInts_blocks HOV.out fun j _ hj => HDD.out.block j hj) la lc (flowL wk gp ts) (by rfl) (own_low (ownsInts_blocks HOD.out fun j _ hj => HDD.out.block j hj) (Nat.zero_le _)) (by omega) (by have := HDD.out.size; omega) ?_
                  intro v' w2 ho2 hg2 hl2
                  obtain ⟨w3, hr3, hc3, hg3⟩ := HBK.out w2 v' _ ((grown_of_below HDD.out v.ownBlock).trans hg2) ho2 (by simp; omega) (hl2.imp id fun e => ⟨_, e, HDD.out.size⟩)
                  obtain ⟨hm3, hk3⟩ := put_moves HC7.out HOV.out HDD.out hg2 hg3
                  have hnv : some wv.heap.size ≠ v.ownBlock := fun e => HVS.out _ e.symm (Nat.le_refl _)
                  have hc30 := hg2.cell hdd0 hnv
                  have hc31 := hg3.cell hc30 (by simp; omega)))
              have HJ7 := Lib.hid (HJ.out k _ w3 HJK.out (((Mv.of_below HB6.out (by omega)).trans (Mv.of_grown HG7.out (by omega) (fun r hr => by cases hr; obtain ⟨es, ck, hb⟩ := HC6.out.isObj; exact ⟨Nat.le_refl _, _, hb, rfl⟩))).trans hm3))
              have HOL3 := Lib.hid (show w3.ownsInts W3.heap.size 3 .i64 (.slice la (flowL wk gp ts).length lc) (flowL wk gp ts) from ownsInts_blocks HOD.out fun j hj hjl => hk3 j hjl (by omega) (fun e => HVS.out j e.symm (by omega)))
              have hc4 : Come w3 w.heap.size (2000 + (k + 1)) (comeAt b st ch ps (k + 1)) := by
                rw [HCA.out]
                unfold comeN
                rw [HXX.out, ← HLA.out, HLA2.out]
                exact hc3
              have HC9 := Lib.hid hc4
              have HBZ := Lib.hid (HBW.out.trans ((((Mv.of_below HB6.out (by omega : w.heap.size ≤ wv.heap.size)).trans (Mv.of_grown HG7.out (by omega) (fun r hr => by cases hr; obtain ⟨es, ck, hb⟩ := HC6.out.isObj; exact ⟨Nat.le_refl _, _, hb, rfl⟩))).trans hm3).below.mono (by have := HB0.out.size; omega)))
              have HSX := Lib.hid ((((Mv.of_below HB6.out (by omega : w.heap.size ≤ wv.heap.size)).trans (Mv.of_grown HG7.out (by omega) (fun r hr => by cases hr; obtain ⟨es, ck, hb⟩ := HC6.out.isObj; exact ⟨Nat.le_refl _, _, hb, rfl⟩))).trans hm3).below)
              have j0a := (HSX.out.cell (p := ⟨bh, 0, none⟩) hbh2).trans k0a
              have j0b := (HSX.out.cell (p := ⟨bh, 1, none⟩) hbh2).trans k0b
              have j0c := (HSX.out.cell (p := ⟨bh, 2, none⟩) hbh2).trans k0c
              have j1a := (HSX.out.cell (p := ⟨be, 0, none⟩) hbe2).trans k1a
              have j1b := (HSX.out.cell (p := ⟨be, 1, none⟩) hbe2).trans k1b
              have j1c := (HSX.out.cell (p := ⟨be, 2, none⟩) hbe2).trans k1c
              have HYY := Lib.hid (HY.out k w3 _ hlt HJ7.out (own_low (by rw [HLA2.out]; exact HOL3.out) (by omega)))
              clear hc3 hc4 hm3 hk3 hr3 hg3 hg2 ho2 hl2 hc30 hc31 hdd0 hd0
              try clear hHeld
              go_upto_region 21 with (fail)
              obtain ⟨fn, tmps, assign, body, hy, hR⟩ := HYY.out
              have HRR := Lib.hid hR
              clear hR
              refine (wpIn_wide (n := 1)).1 ?_
              gi_wp2_with fail
              refine HRR.out.mono ?_
              rintro e w5 (⟨rfl, hj5, hrd⟩ | ⟨rfl, hj5⟩)
              · have HJ5 := Lib.hid hj5
                have HRD := Lib.hid hrd
                clear hj5 hrd hy
                gi_wp2_with fail
                go_wp2_with fail
                go_roundw
                case rel =>
                  exact ⟨k + 1, by omega, by simp, HJ5.out, HC9.out.kept (fun j hj hjl => HRD.out.other j (by omega) hjl), HBZ.out.trans HRD.out.below, HRD.out.cell (.inl rfl) j0a, HRD.out.cell (.inl rfl) j0b, HRD.out.cell (.inl rfl) j0c, HRD.out.cell (.inr rfl) j1a, HRD.out.cell (.inr rfl) j1b, HRD.out.cell (.inr rfl) j1c⟩
                case measure => simp [intOf]; omega
              · have HJ5 := Lib.hid hj5
                clear hj5 hy
                gi_wp2_with fail
                go_wp2_with fail
                refine bodyPost_ret (results_none rfl _ _ _) rfl ?_
                exact ⟨⟨_, rfl⟩, .inr ⟨k, hlt, HJ5.out⟩⟩
        · obtain rfl : k = st.length := by omega
          go_wp2
          go_end0
          exact ⟨⟨_, rfl⟩, .inl HJK.out⟩
end Go.Proofs.YtdeaccbolnlgpaaDoor.X
