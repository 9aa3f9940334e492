import Derived.Test.YtdeaccbolnlgpaaDoorXRound
import Derived.Scope
import Derived.WalkMore
import Derived.Deep.CutBlock
import Derived.Test.YtdeaccbolnlgpaaDoorXG
import Derived.Test.YtdeaccbolnlgpaaDoorXC5
namespace Go.Proofs.YtdeaccbolnlgpaaDoor.X
open Go.RowKit Go.Shelf Go.Proofs.YtdeaccbolnlgpaaDoorW.PrintWords Go.Proofs.YtdeaccbolnlgpaaDoorW.PrintLast Go.Proofs.YtdeaccbolnlgpaaDoorW.PrintMore
set_option linter.unusedVariables false
set_option linter.unusedSimpArgs false
attribute [local go_sem] Oper.semAt_some
theorem wide_fn (n : Nat) : Fence.wide.fn n = True := rfl
theorem wide_depth : Fence.wide.depth = none := rfl
attribute [local go_sem] wide_fn wide_depth

/-- The first chamber in which they are late, of the first k; or -1. -/
def lateC (b : Bool) (ch : List S81) (ps : List S48) : Nat → Int
  | 0 => -1
  | k + 1 => if lateC b ch ps k < 0 ∧ ps.any (slowB b ch k (rd_T81 ch k).f2) = true then (k : Int) else lateC b ch ps k
/-- Is stair k late? -/
def lateB (b : Bool) (st : List S62) (ch : List S81) (ps : List S48) (k : Nat) : Bool := (leftAt b st ch ps k).any fun t => decide (smokeS b (rd_T62 st k).f3 < t)
/-- The first stair on which they are late, from k on, n to come; or -1. -/
def lateS (b : Bool) (st : List S62) (ch : List S81) (ps : List S48) : Nat → Nat → Int
  | _, 0 => -1
  | k, n + 1 => if lateB b st ch ps k then (k : Int) else lateS b st ch ps (k + 1) n

theorem lateS_none (b : Bool) (st : List S62) (ch : List S81) (ps : List S48) : ∀ (n k : Nat), (∀ j, k ≤ j → j < k + n → lateB b st ch ps j = false) → lateS b st ch ps k n = -1
  | 0, _, _ => rfl
  | n + 1, k, h => by
    rw [lateS, h k (Nat.le_refl _) (by omega)]
    exact lateS_none b st ch ps n (k + 1) (fun j h1 h2 => h j (by omega) (by omega))
theorem lateS_at (b : Bool) (st : List S62) (ch : List S81) (ps : List S48) : ∀ (n i k : Nat), (∀ j, i ≤ j → j < k → lateB b st ch ps j = false) → lateB b st ch ps k = true → i ≤ k → k < i + n → lateS b st ch ps i n = k
  | 0, _, _, _, _, h1, h2 => by omega
  | n + 1, i, k, h, hk, h1, h2 => by
    rw [lateS]
    by_cases e : i = k
    · subst e; rw [hk]; rfl
    · rw [h i (Nat.le_refl _) (by omega)]
      exact lateS_at b st ch ps n (i + 1) k (fun j h3 h4 => h j (by omega) h4) hk (by omega) (by omega)
theorem lateS_found (b : Bool) (st : List S62) (ch : List S81) (ps : List S48) (k n : Nat) (h : ∀ j, j < k → lateB b st ch ps j = false) (hk : lateB b st ch ps k = true) (hn : k < n) : lateS b st ch ps 0 n = k :=
  lateS_at b st ch ps n 0 k (fun j _ hj => h j hj) hk (Nat.zero_le _) (by omega)

set_option maxRecDepth 100000 in
set_option maxHeartbeats 4000000 in
theorem late_any (b : Bool) (A0 A1 A2 : Option Addr) (c0 c1 c2 : Nat) (st : List S62) (ch : List S81) (ps : List S48) (w : World) (hF : Flow b st ch ps) (hG : Globs w)
    (hr0 : Kd.C k62 w A0 st.length st) (hr1 : Kd.C k81 w A1 ch.length ch) (hr2 : Kd.C k48 w A2 ps.length ps) :
    Calls Tryd.prog 65 #[.agg #[.slice A0 st.length c0, .slice A1 ch.length c1, .slice A2 ps.length c2], endV b] w fun e w' => e = .returned (.agg #[.int .i64 (lateC b ch ps ch.length), .int .i64 (lateS b st ch ps 0 st.length)]) ∧ Below w.heap.size w w' := by
  have hu3 := Tryd.underlying3
  have hu22 := Tryd.underlying22
  have hu23 := Tryd.underlying23
  have hu25 := Tryd.underlying25
  have hu36 := Tryd.underlying36
  have hu62 := Tryd.underlying62
  have hu81 := Tryd.underlying81
  have hu67 := Tryd.underlying67
  have hu103 := Tryd.underlying103
  have hu112 := Tryd.underlying112
  have hu122 := Tryd.underlying122
  have HF := Lib.hid hF
  have HR0 := Lib.hid hr0
  have HR1 := Lib.hid hr1
  have HR2 := Lib.hid hr2
  clear hF hr0 hr1 hr2
  unfold endV
  obtain ⟨fP, hfP⟩ : ∃ f, f = fnV (paceN b) := ⟨_, rfl⟩
  obtain ⟨fT, hfT⟩ : ∃ f, f = fnV (timeN b) := ⟨_, rfl⟩
  obtain ⟨fS, hfS⟩ : ∃ f, f = fnV (smokeN b) := ⟨_, rfl⟩
  rw [← hfP, ← hfT, ← hfS]
  have HE := Lib.hid (And.intro hfP (And.intro hfT hfS))
  clear hfP hfT hfS
  refine (callsIn_wide (n := 2)).1 ?_
  refine callsIn_of_wp_marks Tryd.func65 rfl trivial ?_ rfl
  simp only [Tryd.ntmps65, List.size_toArray, List.length_cons, List.length_nil, Nat.reduceAdd, Nat.reduceSub, Array.replicate_succ, Array.replicate_zero, List.push_toArray, List.append_toArray, List.nil_append, List.cons_append]
  refine wpIn_wide.2 ?_
  obtain ⟨_, gg0, gg1⟩ := hG
  have lgg := World.block_lt_of_cell? w _ gg0
  dsimp only at lgg
  go_wp2_with fail
  refine wp_scope_straight ?_
  obtain ⟨W0, hW0⟩ : ∃ W0, ((w.alloc (.cells #[.slice A0 st.length c0, .slice A1 ch.length c1, .slice A2 ps.length c2] 103)).alloc (.cells #[fP, fT, fS] 112)).alloc (.cells #[.int .i64 0, .int .i64 0] 122) = W0 := ⟨_, rfl⟩
  rw [hW0]
  have hB0 : Below w.heap.size w W0 := by rw [← hW0]; exact (((Below.refl _ w).alloc (Nat.le_refl _) _).alloc (by simp) _).alloc (by simp; omega) _
  have hH0 : W0.cell? ⟨w.heap.size, 0, none⟩ = some (.slice A0 st.length c0) ∧ W0.cell? ⟨w.heap.size, 1, none⟩ = some (.slice A1 ch.length c1) ∧ W0.cell? ⟨w.heap.size, 2, none⟩ = some (.slice A2 ps.length c2) ∧ W0.cell? ⟨w.heap.size + 1, 0, none⟩ = some fP ∧ W0.cell? ⟨w.heap.size + 1, 1, none⟩ = some fT ∧ W0.cell? ⟨w.heap.size + 1, 2, none⟩ = some fS := by rw [← hW0]; clear hW0; go_simp
  have hb2 : W0.heap[w.heap.size + 2]? = some (.cells #[.int .i64 0, .int .i64 0] 122) := by rw [← hW0]; have := World.alloc_heap_new ((w.alloc (.cells #[.slice A0 st.length c0, .slice A1 ch.length c1, .slice A2 ps.length c2] 103)).alloc (.cells #[fP, fT, fS] 112)) (.cells #[.int .i64 0, .int .i64 0] 122); simpa using this
  have hz0 : W0.heap.size = w.heap.size + 3 := by rw [← hW0]; simp
  have u0 := pw_cell_below hB0 gg0
  have u1 := pw_cell_below hB0 gg1
  clear hW0 gg0 gg1
  go_wp2_with fail
  obtain ⟨W1, hW1⟩ : ∃ W1, W0.alloc (.cells #[.int .i64 (-1), .int .i64 (-1)] 122) = W1 := ⟨_, rfl⟩
  have hb3 : W1.heap[w.heap.size + 3]? = some (.cells #[.int .i64 (-1), .int .i64 (-1)] 122) := by rw [← hW1, ← hz0]; exact World.alloc_heap_new _ _
  have hB1 : Below W0.heap.size W0 W1 := by rw [← hW1]; exact (Below.refl _ _).alloc (Nat.le_refl _) _
  have hz1 : W1.heap.size = w.heap.size + 4 := by rw [← hW1]; simp; omega
  rw [hW1]
  clear hW1
  have hc1 := (hB1.block (w.heap.size + 2) (by omega)).trans hb2
  have hw1 := hB0.trans (hB1.mono hB0.size)
  have hH1 : W1.cell? ⟨w.heap.size, 0, none⟩ = some (.slice A0 st.length c0) ∧ W1.cell? ⟨w.heap.size, 1, none⟩ = some (.slice A1 ch.length c1) ∧ W1.cell? ⟨w.heap.size, 2, none⟩ = some (.slice A2 ps.length c2) ∧ W1.cell? ⟨w.heap.size + 1, 0, none⟩ = some fP ∧ W1.cell? ⟨w.heap.size + 1, 1, none⟩ = some fT ∧ W1.cell? ⟨w.heap.size + 1, 2, none⟩ = some fS := ⟨pw_cell_below hB1 hH0.1, pw_cell_below hB1 hH0.2.1, pw_cell_below hB1 hH0.2.2.1, pw_cell_below hB1 hH0.2.2.2.1, pw_cell_below hB1 hH0.2.2.2.2.1, pw_cell_below hB1 hH0.2.2.2.2.2⟩
  clear hH0 hb2 hB0 hB1 u0 u1
  have HH1 := Lib.hid hH1
  have HB1 := Lib.hid hw1
  have HC1 := Lib.hid hc1
  have HB3 := Lib.hid hb3
  clear hH1 hw1 hc1 hb3
  have hps := HF.out.nps
  have hch := HF.out.nch
  have hst := HF.out.nst
  go_loopw [6, 7, 8, 18, 19, 20, 21, 22, 23, 24, 25, 26, 27, 28, 29, 30, 31, 32, 33, 34, 35] (fun _ _ _ i _ _ _ _ _ _ _ _ _ _ _ _ _ _ _ _ _ wr => ∃ k : Nat, k ≤ ch.length ∧ i = .int .i64 k ∧ wr.heap[w.heap.size + 3]? = some (.cells #[.int .i64 (lateC b ch ps k), .int .i64 (-1)] 122) ∧ Below (w.heap.size + 3) W1 wr) (fun _ _ _ i _ _ _ _ _ _ _ _ _ _ _ _ _ _ _ _ _ _ => ch.length - (intOf i).toNat)
  case atStart => exact ⟨0, by omega, rfl, HB3.out, Below.refl _ _⟩
  case round =>
    obtain ⟨k, hk, rfl, hbl, hbw⟩ := hrel
    have hzr := hbw.size
    obtain ⟨ga, gb, gc, gd, ge⟩ := HH1.out
    have ja := (hbw.cell (p := ⟨w.heap.size, 0, none⟩) (by simp <;> omega)).trans ga
    have jb := (hbw.cell (p := ⟨w.heap.size, 1, none⟩) (by simp <;> omega)).trans gb
    have jc := (hbw.cell (p := ⟨w.heap.size, 2, none⟩) (by simp <;> omega)).trans gc
    have jd := (hbw.cell (p := ⟨w.heap.size + 1, 0, none⟩) (by simp <;> omega)).trans gd
    have je := (hbw.cell (p := ⟨w.heap.size + 1, 1, none⟩) (by simp <;> omega)).trans ge.1
    have jf := (hbw.cell (p := ⟨w.heap.size + 1, 2, none⟩) (by simp <;> omega)).trans ge.2
    clear ga gb gc gd ge
    obtain ⟨v0, v1, z0, z1, vlt⟩ := two_cells hbl
    have HBL := Lib.hid hbl
    have HBW := Lib.hid hbw
    have HBR := Lib.hid (HB1.out.trans (hbw.mono (by omega)))
    clear hbl hbw
    have t0 : w.heap.size < wr.heap.size := by omega
    have t1 : w.heap.size + 1 < wr.heap.size := by omega
    have t3 : w.heap.size + 3 < wr.heap.size := by omega
    by_cases hlt : k < ch.length
    · obtain ⟨ad, rfl, f0, f1, f2, f3⟩ := at_T81 (Kd.C_below HR1.out HBR.out) (k : Int) (by omega) (by omega)
      simp only [Int.toNat_natCast] at f0 f1 f2 f3
      have lgf := World.block_lt_of_cell? wr _ f1
      have HLC := Lib.hid (show lateC b ch ps (k + 1) = if lateC b ch ps k < 0 ∧ ps.any (slowB b ch k (rd_T81 ch k).f2) = true then (k : Int) else lateC b ch ps k from rfl)
      obtain ⟨lc, hlc⟩ : ∃ lc, lc = lateC b ch ps k := ⟨_, rfl⟩
      rw [← hlc] at v0 HLC HBL
      clear hlc
      generalize hxg : rd_T81 ch (k : Int) = y at *
      clear hxg
      obtain ⟨y0, y1, sm⟩ := y
      obtain ⟨s0, s1⟩ := sm
      dsimp only at *
      by_cases hlc : lc < 0
      · obtain ⟨Wc, hWc⟩ : ∃ Wc, (wr.alloc (.cells #[.int .i64 k] 3)).alloc (.cells #[.int .i64 y0, .int .i64 y1, .int .i64 s0, .int .i64 s1] 81) = Wc := ⟨_, rfl⟩
        have hBc : Below wr.heap.size wr Wc := by rw [← hWc]; exact ((Below.refl _ _).alloc (Nat.le_refl _) _).alloc (by simp) _
        have m0 : Wc.cell? ⟨wr.heap.size, 0, none⟩ = some (.int .i64 k) := by rw [← hWc]; clear hWc; go_simp
        have m2 : Wc.cell? ⟨wr.heap.size + 1, 2, none⟩ = some (.int .i64 s0) := by rw [← hWc]; clear hWc; go_simp
        have m3 : Wc.cell? ⟨wr.heap.size + 1, 3, none⟩ = some (.int .i64 s1) := by rw [← hWc]; clear hWc; go_simp
        have hzc : Wc.heap.size = wr.heap.size + 2 := by rw [← hWc]; simp
        have hcon := contains60 91 #[.pointer (some ⟨wr.heap.size, 0, none⟩), .pointer (some ⟨w.heap.size, 0, none⟩), .pointer (some ⟨w.heap.size + 1, 0, none⟩), .pointer (some ⟨wr.heap.size + 1, 0, none⟩)] (enters_of Tryd.func91 (by kernel_rfl) rfl) (slowB b ch k ⟨s0, s1⟩) A2 c2 ps Wc
          (fun x W hx hW => slow_any b wr.heap.size w.heap.size (w.heap.size + 1) (wr.heap.size + 1) A0 (some ad) A2 st.length c0 c1 ps.length c2 ch k ⟨s0, s1⟩ x W (HF.out.ok x hx) (Kd.C_below HR1.out (HBR.out.trans ((hBc.trans (hW.mono (by omega))).mono (by omega))))
            (pw_cell_below hW m0) (pw_cell_below hW (pw_cell_below hBc ja)) (pw_cell_below hW (pw_cell_below hBc jb)) (pw_cell_below hW (pw_cell_below hBc jc))
            (by rw [← HE.out.1]; exact pw_cell_below hW (pw_cell_below hBc jd)) (by rw [← HE.out.2.1]; exact pw_cell_below hW (pw_cell_below hBc je)) (by rw [← HE.out.2.2]; exact pw_cell_below hW (pw_cell_below hBc jf)) (pw_cell_below hW m2) (pw_cell_below hW m3))
          (Kd.C_below HR2.out (HBR.out.trans (hBc.mono (by omega)))) (by omega)
        obtain ⟨rr, hrr⟩ : ∃ rr, rr = ps.any (slowB b ch k ⟨s0, s1⟩) := ⟨_, rfl⟩
        rw [← hrr] at hcon HLC
        have HCON := Lib.hid hcon
        have HBC := Lib.hid hBc
        have hblc := (hBc.block (w.heap.size + 3) t3).trans HBL.out
        obtain ⟨v0', v1', z0', z1', _⟩ := two_cells hblc
        have HBLC := Lib.hid hblc
        have jc' := pw_cell_below hBc jc
        clear hrr hcon hBc m2 m3 hblc
        go_wp2_with fail
        refine HCON.out.mono ?_
        rintro e w5 ⟨rfl, hb5⟩
        have hbl5 := (hb5.block (w.heap.size + 3) (by omega)).trans HBLC.out
        obtain ⟨v0'', v1'', z0'', z1'', _⟩ := two_cells hbl5
        have n0 := pw_cell_below hb5 m0
        have hz5 := hb5.size
        have HBL5 := Lib.hid hbl5
        have HB5 := Lib.hid hb5
        clear hbl5 hb5
        cases rr
        · go_wp2_with fail
          go_roundw
          case rel => exact ⟨k + 1, by omega, by simp, by rw [HLC.out, if_neg (fun h => by cases h.2)]; exact HBL5.out, HBW.out.trans ((HBC.out.trans (HB5.out.mono (by omega))).mono (by omega))⟩
          case measure => simp [intOf]; omega
        · go_wp2_with fail
          go_roundw
          case rel => exact ⟨k + 1, by omega, by simp, by rw [HLC.out, if_pos (by simp [hlc])]; exact two_set0 HBL5.out _, (HBW.out.trans ((HBC.out.trans (HB5.out.mono (by omega))).mono (by omega))).setCell (by simp) _⟩
          case measure => simp [intOf]; omega
      · go_wp2_with fail
        go_roundw
        case rel =>
          refine ⟨k + 1, by omega, by simp, ?_, HBW.out.trans (((Below.refl _ _).alloc (Nat.le_refl _) _).alloc (by simp) _ |>.mono (by omega))⟩
          rw [HLC.out, if_neg (fun h => hlc h.1)]
          exact ((((Below.refl wr.heap.size wr).alloc (Nat.le_refl _) _).alloc (by simp) _).block _ t3).trans HBL.out
        case measure => simp [intOf]; omega
    · obtain rfl : k = ch.length := by omega
      go_wp2_with fail
      go_step3
      go_wp2_with fail
      refine (stairs_any _ _ _ _ _ _ _).mono ?_
      rintro e w5 ⟨rfl, hw5⟩
      rename World => w6
      have e2 : w6.cell? ⟨wr.heap.size, 0, none⟩ = some (.slice A0 st.length c0) := by subst hw5; go_simp
      have e3 : w6.cell? ⟨wr.heap.size, 1, none⟩ = some (.slice A1 ch.length c1) := by subst hw5; go_simp
      have e4 : w6.cell? ⟨wr.heap.size, 2, none⟩ = some (.slice A2 ps.length c2) := by subst hw5; go_simp
      have e5 : w6.cell? ⟨wr.heap.size + 1, 0, none⟩ = some fP := by subst hw5; go_simp
      have e6 : w6.cell? ⟨wr.heap.size + 1, 1, none⟩ = some fT := by subst hw5; go_simp
      have e7 : w6.cell? ⟨wr.heap.size + 1, 2, none⟩ = some fS := by subst hw5; go_simp
      have hz6 : w6.heap.size = wr.heap.size + 2 := by subst hw5; simp
      have hB6 : Below wr.heap.size wr w6 := by subst hw5; exact ((Below.refl _ _).alloc (Nat.le_refl _) _).alloc (by simp) _
      have k0 := pw_cell_below hB6 ja
      have k2 := pw_cell_below hB6 jf
      have hbl6 := (hB6.block (w.heap.size + 3) t3).trans HBL.out
      have hbr6 := (hB6.block (w.heap.size + 2) (by omega)).trans ((HBW.out.block (w.heap.size + 2) (by omega)).trans HC1.out)
      have hbw6 := HBR.out.trans (hB6.mono HBR.out.size)
      clear hw5
      go_wp2_with fail
      rw [HE.out.1] at e5
      rw [HE.out.2.1] at e6
      rw [HE.out.2.2] at e7
      refine (wpIn_wide (n := 2)).1 ?_
      refine' wpIn_range_stairs b wr.heap.size (wr.heap.size + 1) A0 A1 A2 c0 c1 c2 st ch ps w HR0.out HR1.out HR2.out hbw6 (by omega) (by omega) (by omega) (by omega) e2 e3 e4 e5 e6 e7 HF.out.nst HF.out.nch HF.out.nps HF.out.ok HF.out.stair HF.out.len HF.out.val rfl rfl
        (fun k W => W.heap[w.heap.size + 3]? = some (.cells #[.int .i64 (lateC b ch ps ch.length), .int .i64 (-1)] 122) ∧ W.heap[w.heap.size + 2]? = some (.cells #[.int .i64 0, .int .i64 0] 122) ∧ W.cell? ⟨w.heap.size, 0, none⟩ = some (.slice A0 st.length c0) ∧ W.cell? ⟨w.heap.size + 1, 2, none⟩ = some fS ∧ Below w.heap.size w W ∧ ∀ j, j < k → lateB b st ch ps j = false)
        (fun c k W => c = .exit 2 ∧ W.heap[w.heap.size + 3]? = some (.cells #[.int .i64 (lateC b ch ps ch.length), .int .i64 ((k : Int) - 1)] 122) ∧ W.heap[w.heap.size + 2]? = some (.cells #[.int .i64 0, .int .i64 0] 122) ∧ Below w.heap.size w W ∧ (∀ j, j + 1 < k → lateB b st ch ps j = false) ∧ lateB b st ch ps (k - 1) = true)
        ?hI ?hIx ⟨hbl6, hbr6, k0, k2, hbw6, fun j hj => by omega⟩ _ ?assign ?body ?done ?stop
      case hI =>
        rintro k W W' ⟨h1, h2, h3, h4, h5, h6⟩ hm
        exact ⟨(hm.below.block _ (by omega)).trans h1, (hm.below.block _ (by omega)).trans h2, (hm.below.cell (p := ⟨w.heap.size, 0, none⟩) (by simp <;> omega)).trans h3, (hm.below.cell (p := ⟨w.heap.size + 1, 2, none⟩) (by simp <;> omega)).trans h4, h5.trans (hm.below.mono (by omega)), h6⟩
      case hIx =>
        rintro c k W W' ⟨h0, h1, h2, h5, h6, h7⟩ hm
        exact ⟨h0, (hm.below.block _ (by omega)).trans h1, (hm.below.block _ (by omega)).trans h2, h5.trans (hm.below.mono (by omega)), h6, h7⟩
      case assign =>
        intro l k v W K hK
        gi_wp2
        exact hK
      case body =>
        rintro l k v W hkl ⟨h1, h2, h3, h4, h5, h6⟩ hsz hsame hown
        obtain ⟨ad, rfl, _, _, _, _, g4, g5⟩ := at_T62 (Kd.C_below HR0.out h5) (k : Int) (by omega) (by omega)
        simp only [Int.toNat_natCast] at g4 g5
        have HLL := Lib.hid (HF.out.leftLen k)
        have HLT := Lib.hid (show lateB b st ch ps k = (leftAt b st ch ps k).any fun t => decide (smokeS b (rd_T62 st k).f3 < t) from rfl)
        obtain ⟨L, hL⟩ : ∃ L, L = leftAt b st ch ps k := ⟨_, rfl⟩
        rw [← hL] at hown HLL HLT
        generalize hxg : (rd_T62 st (k : Int)).f3 = sm at *
        clear hL hxg
        obtain ⟨s0, s1⟩ := sm
        dsimp only at *
        rw [HE.out.2.2] at h4
        unfold fnV at h4
        have HFS0 := HE.out.2.2
        unfold fnV at HFS0
        have HSM := Lib.hid (fun W => smoke_any b ⟨s0, s1⟩ W)
        have eg := smoke_enters b
        obtain ⟨gS, hgS⟩ : ∃ g, g = smokeN b := ⟨_, rfl⟩
        obtain ⟨sv, hsv⟩ : ∃ sv, sv = smokeS b ⟨s0, s1⟩ := ⟨_, rfl⟩
        rw [← hgS] at h4 HSM eg HFS0
        have HFS := Lib.hid HFS0
        clear HFS0
        rw [← hsv] at HSM HLT
        clear hgS hsv
        dsimp only at HSM
        obtain ⟨va, vc, rfl⟩ := own_slice hown
        have HOW := Lib.hid hown
        have H1 := Lib.hid h1
        have H2 := Lib.hid h2
        have H5 := Lib.hid h5
        have H6 := Lib.hid h6
        have hll := HLL.out
        have lgw := World.block_lt_of_cell? W _ g4
        have t0' : w.heap.size < W.heap.size := by omega
        have t1' : w.heap.size + 1 < W.heap.size := by omega
        have t3' : w.heap.size + 3 < W.heap.size := by omega
        clear hown h1 h2 h5 h6 hsame
        gi_wp2
        gi_loopw [12, 43, 44, 45, 46, 47, 48, 49, 50, 51, 52, 53, 54, 55, 56, 57, 58, 59, 60, 61] (fun _ i _ _ _ _ _ _ _ _ _ _ _ _ _ _ _ _ _ _ wx => ∃ n : Nat, n ≤ L.length ∧ i = .int .i64 n ∧ Below W.heap.size W wx ∧ ∀ t ∈ L.take n, ¬ (sv < t)) (fun _ i _ _ _ _ _ _ _ _ _ _ _ _ _ _ _ _ _ _ _ => L.length - (intOf i).toNat)
        case atStart => exact ⟨0, by omega, rfl, Below.refl _ _, by simp⟩
        case round =>
          rename World => wx
          obtain ⟨n, hn, rfl, hbx, hno⟩ := hrel
          have hzx := hbx.size
          have g4' := pw_cell_below hbx g4
          have g5' := pw_cell_below hbx g5
          have h3' := pw_cell_below hbx h3
          have h4' := pw_cell_below hbx h4
          have hbl := (hbx.block (w.heap.size + 3) t3').trans H1.out
          obtain ⟨v0, v1, z0, z1, vlt⟩ := two_cells hbl
          have HBL := Lib.hid hbl
          have HBX := Lib.hid hbx
          have HNO := Lib.hid hno
          clear hbl hbx hno
          by_cases hlt : n < L.length
          · obtain ⟨g, rfl, _, hcap, hga, hgb, hcc⟩ := own_cell HOW.out hlt
            have hcc' := pw_cell_below HBX.out hcc
            have HTK := Lib.hid (show L.take (n + 1) = L.take n ++ [L[n]] by rw [List.take_succ_eq_append_getElem hlt])
            have HIN := Lib.hid (show L[n] ∈ L from List.getElem_mem _)
            generalize L[n] = x at *
            clear hcc g4 g5 h3 h4
            have HD := Lib.hid (below_drew (Below.refl wx.heap.size wx))
            have hSd : wx.drew.cell? ⟨w.heap.size, 0, none⟩ = some (.slice (some ad) st.length c0) ∧ wx.drew.cell? ⟨w.heap.size + 1, 2, none⟩ = some (.func (.func gS) #[] #[]) ∧ wx.drew.cell? ⟨(ad.add (k * 6)).block, (ad.add (k * 6)).off + 4, none⟩ = some (.int .i64 s0) ∧ wx.drew.cell? ⟨(ad.add (k * 6)).block, (ad.add (k * 6)).off + 5, none⟩ = some (.int .i64 s1) ∧ wx.drew.cell? ⟨g, n, none⟩ = some (.int .i64 x) := S5_keep (fun k hk => HD.out.block k hk) ⟨h3', h4', g4', g5', hcc'⟩
            have hlk := HF.out.nst
            have HG := Lib.hid (And.intro g4' g5')
            by_cases hcmp : sv < x
            · gi_wp2
              refine wpIn_region_round (S := fun w' => w'.cell? ⟨w.heap.size, 0, none⟩ = some (.slice (some ad) st.length c0) ∧ w'.cell? ⟨w.heap.size + 1, 2, none⟩ = some (.func (.func gS) #[] #[]) ∧ w'.cell? ⟨(ad.add (k * 6)).block, (ad.add (k * 6)).off + 4, none⟩ = some (.int .i64 s0) ∧ w'.cell? ⟨(ad.add (k * 6)).block, (ad.add (k * 6)).off + 5, none⟩ = some (.int .i64 s1) ∧ w'.cell? ⟨g, n, none⟩ = some (.int .i64 x)) (by kernel_rfl) (by kernel_rfl) (by rintro ⟨_, _, h⟩; exact h) hSd (fun hHeld => ?_)
              refine wpAnyH_take (i := 0) (oi := { dst := some 47, op := Op.move (Operand.tmp 12), type := 3, pos := "exits.go:166", after := #[], guard := none }) (v := ?va0) rfl (by kernel_rfl) (by kernel_rfl) (by kernel_rfl) (fun _ _ _ h => h) (Or.inl ⟨by rfl, ?ya0⟩) (by assumption) ?ra0
              case ya0 =>
                intro w hSw
                try dsimp only at hSw
                go_simp
                try with_reducible rfl
              try simp only [Act.put, List.setIfInBounds_toArray, List.set_cons_zero, List.set_cons_succ]
              refine wpAnyH_take (i := 1) (oi := { dst := some 48, op := Op.fieldAddr 112 (Operand.tmp 3) 2, type := 0, pos := "exits.go:166", after := #[], guard := none }) (v := ?va1) rfl (by kernel_rfl) (by kernel_rfl) (by kernel_rfl) (fun _ _ _ h => h) (Or.inl ⟨by rfl, ?ya1⟩) (by assumption) ?ra1
              case ya1 =>
                intro w hSw
                try dsimp only at hSw
                go_simp
                try with_reducible rfl
              try simp only [Act.put, List.setIfInBounds_toArray, List.set_cons_zero, List.set_cons_succ]
              refine wpAnyH_take (i := 2) (oi := { dst := some 49, op := Op.load 110 (Operand.tmp 48), type := 110, pos := "exits.go:166", after := #[{ on := 1, ground := Ground.data }], guard := none }) (v := ?va2) rfl (by kernel_rfl) (by kernel_rfl) (by kernel_rfl) (fun _ _ _ h => h) (Or.inl ⟨by rfl, ?ya2⟩) (by assumption) ?ra2
              case ya2 =>
                intro w hSw
                try dsimp only at hSw
                go_simp
                try with_reducible rfl
              try simp only [Act.put, List.setIfInBounds_toArray, List.set_cons_zero, List.set_cons_succ]
              refine wpAnyH_take (i := 3) (oi := { dst := some 50, op := Op.fieldAddr 103 (Operand.tmp 2) 0, type := 0, pos := "exits.go:166", after := #[], guard := none }) (v := ?va3) rfl (by kernel_rfl) (by kernel_rfl) (by kernel_rfl) (fun _ _ _ h => h) (Or.inl ⟨by rfl, ?ya3⟩) (by assumption) ?ra3
              case ya3 =>
                intro w hSw
                try dsimp only at hSw
                go_simp
                try with_reducible rfl
              try simp only [Act.put, List.setIfInBounds_toArray, List.set_cons_zero, List.set_cons_succ]
              refine wpAnyH_take (i := 4) (oi := { dst := some 51, op := Op.fieldAddr 25 (Operand.tmp 50) 0, type := 0, pos := "exits.go:166", after := #[{ on := 3, ground := Ground.data }], guard := none }) (v := ?va4) rfl (by kernel_rfl) (by kernel_rfl) (by kernel_rfl) (fun _ _ _ h => h) (Or.inl ⟨by rfl, ?ya4⟩) (by assumption) ?ra4
              case ya4 =>
                intro w hSw
                try dsimp only at hSw
                go_simp
                try with_reducible rfl
              try simp only [Act.put, List.setIfInBounds_toArray, List.set_cons_zero, List.set_cons_succ]
              refine wpAnyH_take (i := 5) (oi := { dst := some 52, op := Op.load 22 (Operand.tmp 51), type := 22, pos := "exits.go:166", after := #[{ on := 4, ground := Ground.data }], guard := none }) (v := ?va5) rfl (by kernel_rfl) (by kernel_rfl) (by kernel_rfl) (fun _ _ _ h => h) (Or.inl ⟨by rfl, ?ya5⟩) (by assumption) ?ra5
              case ya5 =>
                intro w hSw
                try dsimp only at hSw
                go_simp
                try with_reducible rfl
              try simp only [Act.put, List.setIfInBounds_toArray, List.set_cons_zero, List.set_cons_succ]
              refine wpAnyH_take (i := 6) (oi := { dst := some 53, op := Op.move (Operand.tmp 9), type := 3, pos := "exits.go:166", after := #[], guard := none }) (v := ?va6) rfl (by kernel_rfl) (by kernel_rfl) (by kernel_rfl) (fun _ _ _ h => h) (Or.inl ⟨by rfl, ?ya6⟩) (by assumption) ?ra6
              case ya6 =>
                intro w hSw
                try dsimp only at hSw
                go_simp
                try with_reducible rfl
              try simp only [Act.put, List.setIfInBounds_toArray, List.set_cons_zero, List.set_cons_succ]
              refine wpAnyH_take (i := 7) (oi := { dst := some 54, op := Op.indexAddr 22 (Operand.tmp 52) (Operand.tmp 53), type := 0, pos := "exits.go:166", after := #[{ on := 5, ground := Ground.data }, { on := 6, ground := Ground.data }], guard := none }) (v := ?va7) rfl (by kernel_rfl) (by kernel_rfl) (by kernel_rfl) (fun _ _ _ h => h) (Or.inl ⟨by rfl, ?ya7⟩) (by assumption) ?ra7
              case ya7 =>
                intro w hSw
                try dsimp only at hSw
                go_simp
                try with_reducible rfl
              try simp only [Act.put, List.setIfInBounds_toArray, List.set_cons_zero, List.set_cons_succ]
              refine wpAnyH_take (i := 8) (oi := { dst := some 55, op := Op.fieldAddr 62 (Operand.tmp 54) 3, type := 0, pos := "exits.go:166", after := #[{ on := 7, ground := Ground.data }], guard := none }) (v := ?va8) rfl (by kernel_rfl) (by kernel_rfl) (by kernel_rfl) (fun _ _ _ h => h) (Or.inl ⟨by rfl, ?ya8⟩) (by assumption) ?ra8
              case ya8 =>
                intro w hSw
                try dsimp only at hSw
                go_simp
                try with_reducible rfl
              try simp only [Act.put, List.setIfInBounds_toArray, List.set_cons_zero, List.set_cons_succ]
              refine wpAnyH_take (i := 9) (oi := { dst := some 56, op := Op.load 36 (Operand.tmp 55), type := 36, pos := "exits.go:166", after := #[{ on := 8, ground := Ground.data }], guard := none }) (v := ?va9) rfl (by kernel_rfl) (by kernel_rfl) (by kernel_rfl) (fun _ _ _ h => h) (Or.inl ⟨by rfl, ?ya9⟩) (by assumption) ?ra9
              case ya9 =>
                intro w hSw
                try dsimp only at hSw
                go_simp
                try with_reducible rfl
              try simp only [Act.put, List.setIfInBounds_toArray, List.set_cons_zero, List.set_cons_succ]
              refine wpAnyH_ready (rs := [10]) (by kernel_rfl) (by simp) ?_
              refine AllReadyH.cons (o := { dst := some 57, op := Op.call { callee := Callee.value (Operand.tmp 49), args := #[Operand.tmp 56], argTypes := #[36] }, type := 3, pos := "exits.go:166", after := #[{ on := 2, ground := Ground.data }, { on := 9, ground := Ground.data }], guard := none }) rfl (fun K hK => ?_) AllReadyH.nil
              go_simp
              refine (HSM.out _).mono ?_
              rintro e wy ⟨rfl, hb1⟩
              go_wp2_with fail
              refine hK.out _ _ ?_ (fun hHeld => ?_)
              · exact S5_keep (fun k hk => hb1.block k hk) hSd
              clear hK K
              try simp only [Act.put, List.setIfInBounds_toArray, List.set_cons_zero, List.set_cons_succ]
              refine wpAnyH_take (i := 11) (oi := { dst := some 58, op := Op.binOp BinOp.gtr 3 (Operand.tmp 47) (Operand.tmp 57) 3, type := 4, pos := "exits.go:166", after := #[{ on := 0, ground := Ground.data }, { on := 10, ground := Ground.data }], guard := none }) (v := ?va11) rfl (by kernel_rfl) (by kernel_rfl) (by kernel_rfl) (fun _ _ _ h => h) (Or.inl ⟨by rfl, ?ya11⟩) (by assumption) ?ra11
              case ya11 =>
                intro w hSw
                try dsimp only at hSw
                go_simp
                try with_reducible rfl
              try simp only [Act.put, List.setIfInBounds_toArray, List.set_cons_zero, List.set_cons_succ]
              refine wpAnyH_done (by kernel_rfl) ?_ _
              have HB9 := Lib.hid (HD.out.trans (hb1.mono HD.out.size))
              have hbl9 := (HB9.out.block (w.heap.size + 3) vlt).trans HBL.out
              obtain ⟨v0', v1', z0', z1', _⟩ := two_cells hbl9
              have HBL9 := Lib.hid hbl9
              have hz9 := HB9.out.size
              clear hb1 hSd hbl9
              try clear hHeld
              have HRE := Lib.hid (show Rd w.heap.size wr.heap.size (wr.heap.size + 1) w6.heap.size W (wy.setCell ⟨w.heap.size + 3, 1, none⟩ (.int .i64 k)) from ((Rd.of_below HBX.out (by omega)).trans (Rd.of_below HB9.out (by omega))).setCell _ (by omega) (by omega) (by omega) (by omega))
              gi_wp2
              refine ⟨HRE.out, rfl, ?_, ?_, H5.out.trans HRE.out.below, ?_, ?_⟩
              · have := two_set1 HBL9.out (.int .i64 k)
                simpa using this
              · rw [Below.heap_setCell _ _ _ _ (by simp), HB9.out.block _ (by omega), HBX.out.block _ (by omega)]; exact H2.out
              · intro j hj; exact H6.out j (by omega)
              · rw [Nat.add_sub_cancel, HLT.out, List.any_eq_true]; exact ⟨x, HIN.out, decide_eq_true hcmp⟩
            · gi_wp2
              refine wpIn_region_round (S := fun w' => w'.cell? ⟨w.heap.size, 0, none⟩ = some (.slice (some ad) st.length c0) ∧ w'.cell? ⟨w.heap.size + 1, 2, none⟩ = some (.func (.func gS) #[] #[]) ∧ w'.cell? ⟨(ad.add (k * 6)).block, (ad.add (k * 6)).off + 4, none⟩ = some (.int .i64 s0) ∧ w'.cell? ⟨(ad.add (k * 6)).block, (ad.add (k * 6)).off + 5, none⟩ = some (.int .i64 s1) ∧ w'.cell? ⟨g, n, none⟩ = some (.int .i64 x)) (by kernel_rfl) (by kernel_rfl) (by rintro ⟨_, _, h⟩; exact h) hSd (fun hHeld => ?_)
              refine wpAnyH_take (i := 0) (oi := { dst := some 47, op := Op.move (Operand.tmp 12), type := 3, pos := "exits.go:166", after := #[], guard := none }) (v := ?vb0) rfl (by kernel_rfl) (by kernel_rfl) (by kernel_rfl) (fun _ _ _ h => h) (Or.inl ⟨by rfl, ?yb0⟩) (by assumption) ?rb0
              case yb0 =>
                intro w hSw
                try dsimp only at hSw
                go_simp
                try with_reducible rfl
              try simp only [Act.put, List.setIfInBounds_toArray, List.set_cons_zero, List.set_cons_succ]
              refine wpAnyH_take (i := 1) (oi := { dst := some 48, op := Op.fieldAddr 112 (Operand.tmp 3) 2, type := 0, pos := "exits.go:166", after := #[], guard := none }) (v := ?vb1) rfl (by kernel_rfl) (by kernel_rfl) (by kernel_rfl) (fun _ _ _ h => h) (Or.inl ⟨by rfl, ?yb1⟩) (by assumption) ?rb1
              case yb1 =>
                intro w hSw
                try dsimp only at hSw
                go_simp
                try with_reducible rfl
              try simp only [Act.put, List.setIfInBounds_toArray, List.set_cons_zero, List.set_cons_succ]
              refine wpAnyH_take (i := 2) (oi := { dst := some 49, op := Op.load 110 (Operand.tmp 48), type := 110, pos := "exits.go:166", after := #[{ on := 1, ground := Ground.data }], guard := none }) (v := ?vb2) rfl (by kernel_rfl) (by kernel_rfl) (by kernel_rfl) (fun _ _ _ h => h) (Or.inl ⟨by rfl, ?yb2⟩) (by assumption) ?rb2
              case yb2 =>
                intro w hSw
                try dsimp only at hSw
                go_simp
                try with_reducible rfl
              try simp only [Act.put, List.setIfInBounds_toArray, List.set_cons_zero, List.set_cons_succ]
              refine wpAnyH_take (i := 3) (oi := { dst := some 50, op := Op.fieldAddr 103 (Operand.tmp 2) 0, type := 0, pos := "exits.go:166", after := #[], guard := none }) (v := ?vb3) rfl (by kernel_rfl) (by kernel_rfl) (by kernel_rfl) (fun _ _ _ h => h) (Or.inl ⟨by rfl, ?yb3⟩) (by assumption) ?rb3
              case yb3 =>
                intro w hSw
                try dsimp only at hSw
                go_simp
                try with_reducible rfl
              try simp only [Act.put, List.setIfInBounds_toArray, List.set_cons_zero, List.set_cons_succ]
              refine wpAnyH_take (i := 4) (oi := { dst := some 51, op := Op.fieldAddr 25 (Operand.tmp 50) 0, type := 0, pos := "exits.go:166", after := #[{ on := 3, ground := Ground.data }], guard := none }) (v := ?vb4) rfl (by kernel_rfl) (by kernel_rfl) (by kernel_rfl) (fun _ _ _ h => h) (Or.inl ⟨by rfl, ?yb4⟩) (by assumption) ?rb4
              case yb4 =>
                intro w hSw
                try dsimp only at hSw
                go_simp
                try with_reducible rfl
              try simp only [Act.put, List.setIfInBounds_toArray, List.set_cons_zero, List.set_cons_succ]
              refine wpAnyH_take (i := 5) (oi := { dst := some 52, op := Op.load 22 (Operand.tmp 51), type := 22, pos := "exits.go:166", after := #[{ on := 4, ground := Ground.data }], guard := none }) (v := ?vb5) rfl (by kernel_rfl) (by kernel_rfl) (by kernel_rfl) (fun _ _ _ h => h) (Or.inl ⟨by rfl, ?yb5⟩) (by assumption) ?rb5
              case yb5 =>
                intro w hSw
                try dsimp only at hSw
                go_simp
                try with_reducible rfl
              try simp only [Act.put, List.setIfInBounds_toArray, List.set_cons_zero, List.set_cons_succ]
              refine wpAnyH_take (i := 6) (oi := { dst := some 53, op := Op.move (Operand.tmp 9), type := 3, pos := "exits.go:166", after := #[], guard := none }) (v := ?vb6) rfl (by kernel_rfl) (by kernel_rfl) (by kernel_rfl) (fun _ _ _ h => h) (Or.inl ⟨by rfl, ?yb6⟩) (by assumption) ?rb6
              case yb6 =>
                intro w hSw
                try dsimp only at hSw
                go_simp
                try with_reducible rfl
              try simp only [Act.put, List.setIfInBounds_toArray, List.set_cons_zero, List.set_cons_succ]
              refine wpAnyH_take (i := 7) (oi := { dst := some 54, op := Op.indexAddr 22 (Operand.tmp 52) (Operand.tmp 53), type := 0, pos := "exits.go:166", after := #[{ on := 5, ground := Ground.data }, { on := 6, ground := Ground.data }], guard := none }) (v := ?vb7) rfl (by kernel_rfl) (by kernel_rfl) (by kernel_rfl) (fun _ _ _ h => h) (Or.inl ⟨by rfl, ?yb7⟩) (by assumption) ?rb7
              case yb7 =>
                intro w hSw
                try dsimp only at hSw
                go_simp
                try with_reducible rfl
              try simp only [Act.put, List.setIfInBounds_toArray, List.set_cons_zero, List.set_cons_succ]
              refine wpAnyH_take (i := 8) (oi := { dst := some 55, op := Op.fieldAddr 62 (Operand.tmp 54) 3, type := 0, pos := "exits.go:166", after := #[{ on := 7, ground := Ground.data }], guard := none }) (v := ?vb8) rfl (by kernel_rfl) (by kernel_rfl) (by kernel_rfl) (fun _ _ _ h => h) (Or.inl ⟨by rfl, ?yb8⟩) (by assumption) ?rb8
              case yb8 =>
                intro w hSw
                try dsimp only at hSw
                go_simp
                try with_reducible rfl
              try simp only [Act.put, List.setIfInBounds_toArray, List.set_cons_zero, List.set_cons_succ]
              refine wpAnyH_take (i := 9) (oi := { dst := some 56, op := Op.load 36 (Operand.tmp 55), type := 36, pos := "exits.go:166", after := #[{ on := 8, ground := Ground.data }], guard := none }) (v := ?vb9) rfl (by kernel_rfl) (by kernel_rfl) (by kernel_rfl) (fun _ _ _ h => h) (Or.inl ⟨by rfl, ?yb9⟩) (by assumption) ?rb9
              case yb9 =>
                intro w hSw
                try dsimp only at hSw
                go_simp
                try with_reducible rfl
              try simp only [Act.put, List.setIfInBounds_toArray, List.set_cons_zero, List.set_cons_succ]
              refine wpAnyH_ready (rs := [10]) (by kernel_rfl) (by simp) ?_
              refine AllReadyH.cons (o := { dst := some 57, op := Op.call { callee := Callee.value (Operand.tmp 49), args := #[Operand.tmp 56], argTypes := #[36] }, type := 3, pos := "exits.go:166", after := #[{ on := 2, ground := Ground.data }, { on := 9, ground := Ground.data }], guard := none }) rfl (fun K hK => ?_) AllReadyH.nil
              go_simp
              refine (HSM.out _).mono ?_
              rintro e wy ⟨rfl, hb1⟩
              go_wp2_with fail
              refine hK.out _ _ ?_ (fun hHeld => ?_)
              · exact S5_keep (fun k hk => hb1.block k hk) hSd
              clear hK K
              try simp only [Act.put, List.setIfInBounds_toArray, List.set_cons_zero, List.set_cons_succ]
              refine wpAnyH_take (i := 11) (oi := { dst := some 58, op := Op.binOp BinOp.gtr 3 (Operand.tmp 47) (Operand.tmp 57) 3, type := 4, pos := "exits.go:166", after := #[{ on := 0, ground := Ground.data }, { on := 10, ground := Ground.data }], guard := none }) (v := ?vb11) rfl (by kernel_rfl) (by kernel_rfl) (by kernel_rfl) (fun _ _ _ h => h) (Or.inl ⟨by rfl, ?yb11⟩) (by assumption) ?rb11
              case yb11 =>
                intro w hSw
                try dsimp only at hSw
                go_simp
                try with_reducible rfl
              try simp only [Act.put, List.setIfInBounds_toArray, List.set_cons_zero, List.set_cons_succ]
              refine wpAnyH_done (by kernel_rfl) ?_ _
              have HB9 := Lib.hid (HD.out.trans (hb1.mono HD.out.size))
              clear hb1 hSd
              try clear hHeld
              gi_wp2
              go_roundw
              case rel =>
                refine ⟨n + 1, by omega, by simp, HBX.out.trans (HB9.out.mono hzx), ?_⟩
                rw [HTK.out]
                intro t ht
                rcases List.mem_append.1 ht with ht | ht
                · have := HNO.out t ht; omega
                · rw [List.mem_singleton] at ht; subst ht; omega
              case measure => simp [intOf]; omega
          · obtain rfl : n = L.length := by omega
            gi_wp2
            refine ⟨Rd.of_below HBX.out (by omega), HBL.out, (HBX.out.block _ (by omega)).trans H2.out, h3', by rw [HFS.out]; exact h4', H5.out.trans (HBX.out.mono (by omega)), fun j hj => ?_⟩
            rcases Nat.lt_or_ge j k with hj' | hj'
            · exact H6.out j hj'
            · obtain rfl : j = k := by omega
              rw [HLT.out, List.any_eq_false]
              intro t ht
              have := HNO.out t (by rw [List.take_length]; exact ht)
              simpa using this
      case done =>
        rintro D W hD ⟨h1, h2, h3, h4, h5, h6⟩ hK
        obtain ⟨v0', v1', z0', z1', vlt'⟩ := two_cells h1
        obtain ⟨r0', r1', y0', y1', rlt'⟩ := two_cells h2
        have HR := Lib.hid (show lateS b st ch ps 0 st.length = -1 from lateS_none _ _ _ _ _ _ (fun j _ hj => h6 j (by omega)))
        have H5 := Lib.hid h5
        have H2 := Lib.hid h2
        clear h5 h6 h2
        go_wp2
        obtain ⟨Wf, hWf⟩ : ∃ Wf, (W.setCell ⟨w.heap.size + 1 + 1, 0, none⟩ (.int .i64 (lateC b ch ps ch.length))).setCell ⟨w.heap.size + 1 + 1, 1, none⟩ (.int .i64 (-1)) = Wf := ⟨_, rfl⟩
        have hf2 : Wf.heap[w.heap.size + 2]? = some (.cells #[.int .i64 (lateC b ch ps ch.length), .int .i64 (-1)] 122 (0, 0)) := by rw [← hWf]; exact two_set1 (two_set0 H2.out _) _
        have hfD : Wf.heap[D]? = some (.deferred (some [])) := by rw [← hWf, Below.heap_setCell _ _ _ _ (by show D ≠ w.heap.size + 1 + 1; omega), Below.heap_setCell _ _ _ _ (by show D ≠ w.heap.size + 1 + 1; omega)]; exact hK
        have hfB : Below w.heap.size w Wf := by rw [← hWf]; exact (H5.out.setCell (by show w.heap.size ≤ w.heap.size + 1 + 1; omega) _).setCell (by show w.heap.size ≤ w.heap.size + 1 + 1; omega) _
        rw [hWf]
        refine ⟨by simp, .inl ⟨_, _, rfl, run_takeDeferred hfD, ?_⟩⟩
        refine ⟨_, results_single (r := .cell 4 122) rfl (.cell (w.heap.size + 2) 122 _ (0, 0) _ rfl ((World.putObj_heap_other (by omega)).trans hf2) hu122 rfl (by kernel_rfl) .nil), ?_⟩
        exact ⟨by rw [HR.out], hfB.trans (belowK_b (w := w) (Nat.le_refl _) Wf D _ _ (by omega) hfD rfl rfl)⟩
      case stop =>
        rintro D c k W hkl hD ⟨rfl, h1, h2, h3, h4, h5⟩ hK
        have HR := Lib.hid (show lateS b st ch ps 0 st.length = k from lateS_found b st ch ps k st.length (fun j hj => h4 j (by omega)) (by simpa using h5) hkl)
        rw [show ((k + 1 : Nat) : Int) - 1 = (k : Int) by omega] at h1
        obtain ⟨v0', v1', z0', z1', vlt'⟩ := two_cells h1
        obtain ⟨r0', r1', y0', y1', rlt'⟩ := two_cells h2
        have H5 := Lib.hid h3
        have H2 := Lib.hid h2
        clear h3 h4 h5 h2
        refine wpIn_wide.2 ?_
        go_wp2
        obtain ⟨Wf, hWf⟩ : ∃ Wf, (W.setCell ⟨w.heap.size + 1 + 1, 0, none⟩ (.int .i64 (lateC b ch ps ch.length))).setCell ⟨w.heap.size + 1 + 1, 1, none⟩ (.int .i64 k) = Wf := ⟨_, rfl⟩
        have hf2 : Wf.heap[w.heap.size + 2]? = some (.cells #[.int .i64 (lateC b ch ps ch.length), .int .i64 k] 122 (0, 0)) := by rw [← hWf]; exact two_set1 (two_set0 H2.out _) _
        have hfD : Wf.heap[D]? = some (.deferred (some [])) := by rw [← hWf, Below.heap_setCell _ _ _ _ (by show D ≠ w.heap.size + 1 + 1; omega), Below.heap_setCell _ _ _ _ (by show D ≠ w.heap.size + 1 + 1; omega)]; exact hK
        have hfB : Below w.heap.size w Wf := by rw [← hWf]; exact (H5.out.setCell (by show w.heap.size ≤ w.heap.size + 1 + 1; omega) _).setCell (by show w.heap.size ≤ w.heap.size + 1 + 1; omega) _
        rw [hWf]
        refine ⟨by simp, .inl ⟨_, _, rfl, run_takeDeferred hfD, ?_⟩⟩
        refine ⟨_, results_single (r := .cell 4 122) rfl (.cell (w.heap.size + 2) 122 _ (0, 0) _ rfl ((World.putObj_heap_other (by omega)).trans hf2) hu122 rfl (by kernel_rfl) .nil), ?_⟩
        exact ⟨by rw [HR.out], hfB.trans (belowK_b (w := w) (Nat.le_refl _) Wf D _ _ (by omega) hfD rfl rfl)⟩
end Go.Proofs.YtdeaccbolnlgpaaDoor.X
