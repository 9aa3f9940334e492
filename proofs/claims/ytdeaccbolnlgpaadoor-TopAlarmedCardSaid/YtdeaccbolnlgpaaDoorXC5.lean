import Derived.RegionIn
import Derived.BigRegionIn
import Derived.DefersIn
import Derived.RangeFuncBox
import Derived.RangeFuncLeaves
import Derived.Test.YtdeaccbolnlgpaaDoorXC4
import Derived.Deep.QuietTactic
import Derived.BigQuiet
namespace Go.Proofs.YtdeaccbolnlgpaaDoor.X
open Go.RowKit Go.Shelf Go.Proofs.YtdeaccbolnlgpaaDoorW.PrintWords Go.Proofs.YtdeaccbolnlgpaaDoorW.PrintLast Go.Proofs.YtdeaccbolnlgpaaDoorW.PrintMore
set_option linter.unusedVariables false
set_option linter.unusedSimpArgs false
attribute [local go_sem] Oper.semAt_some

theorem stairs_any (a b c p q r : Value) (w : World) :
    Calls Tryd.prog 54 #[.agg #[a, b, c], .agg #[p, q, r]] w fun e w' => e = .returned (.func (.func 83) #[] #[.pointer (some ⟨w.heap.size, 0, none⟩), .pointer (some ⟨w.heap.size + 1, 0, none⟩)]) ∧
      w' = (w.alloc (.cells #[a, b, c] 103)).alloc (.cells #[p, q, r] 112) := by
  have hu103 := Tryd.underlying103
  have hu112 := Tryd.underlying112
  have hu25 := Tryd.underlying25
  go_enter Tryd.func54, Tryd.ntmps54
  go_wp2
  go_ret
  exact ⟨rfl, rfl⟩

/-- What the flow of people rests on. -/
structure Flow (b : Bool) (st : List S62) (ch : List S81) (ps : List S48) : Prop where
  nst : st.length ≤ 1000
  nch : ch.length ≤ 1000
  nps : ps.length ≤ 1000
  ok : ∀ x ∈ ps, WalkOk ch x
  stair : ∀ s ∈ st, StairOk s
  len : ∀ k i, (comeAt b st ch ps k i).length ≤ 1000
  val : ∀ k i, ∀ t ∈ comeAt b st ch ps k i, 0 ≤ t ∧ t ≤ 1000000000
theorem Flow.left {b : Bool} {st : List S62} {ch : List S81} {ps : List S48} (h : Flow b st ch ps) (k : Nat) : ∀ t ∈ leftAt b st ch ps k, 0 ≤ t ∧ t ≤ 1000000000 := fun t ht => by
  refine h.val (k + 1) (rd_T62 st k).f0 t ?_
  simp only [comeAt, comeN, putM, if_true]
  exact List.mem_append_right _ ht
theorem Flow.leftLen {b : Bool} {st : List S62} {ch : List S81} {ps : List S48} (h : Flow b st ch ps) (k : Nat) : (leftAt b st ch ps k).length ≤ 1000 := by
  rw [leftAt, leftOf, flowL_length, sortL_length]; exact h.len k k

/-- When the last one is out. -/
def lastT (b : Bool) (st : List S62) (ch : List S81) (ps : List S48) : Nat → Int
  | 0 => 0
  | k + 1 => if (rd_T62 st k).f0 = -1 ∧ 0 < (leftAt b st ch ps k).length then max (lastT b st ch ps k) ((leftAt b st ch ps k)[(leftAt b st ch ps k).length - 1]?.getD 0) else lastT b st ch ps k

theorem lastT_succ (b : Bool) (st : List S62) (ch : List S81) (ps : List S48) (k : Nat) : lastT b st ch ps (k + 1) =
    if (rd_T62 st k).f0 = -1 ∧ 0 < (leftAt b st ch ps k).length then max (lastT b st ch ps k) ((leftAt b st ch ps k)[(leftAt b st ch ps k).length - 1]?.getD 0) else lastT b st ch ps k := rfl
theorem Rd.refl (n₀ bh be B : Nat) (a : World) : Rd n₀ bh be B a a := ⟨Below.refl _ _, fun _ _ _ => rfl⟩
theorem Rd.drew {n₀ bh be B : Nat} {a b : World} (h : Rd n₀ bh be B a b) : Rd n₀ bh be B a b.drew := ⟨below_drew h.below, h.other⟩

theorem Rd.setCell {n₀ bh be B : Nat} {a b : World} (h : Rd n₀ bh be B a b) {k o : Nat} (v : Value) (hk : n₀ ≤ k) (hh : k ≠ bh) (he : k ≠ be) (hB : k < B) : Rd n₀ bh be B a (b.setCell ⟨k, o, none⟩ v) := by
  refine ⟨h.below.setCell (by simpa using hk) v, fun j hj hjl => ?_⟩
  rw [← h.other j hj hjl]
  exact Below.heap_setCell _ _ _ _ (by simp; omega)

set_option maxRecDepth 100000 in
set_option maxHeartbeats 4000000 in
theorem last_any (b : Bool) (A0 A1 A2 : Option Addr) (c0 c1 c2 : Nat) (st : List S62) (ch : List S81) (ps : List S48) (w : World) (hF : Flow b st ch ps)
    (hr0 : Kd.C k62 w A0 st.length st) (hr1 : Kd.C k81 w A1 ch.length ch) (hr2 : Kd.C k48 w A2 ps.length ps) :
    Calls Tryd.prog 57 #[.agg #[.slice A0 st.length c0, .slice A1 ch.length c1, .slice A2 ps.length c2], endV b] w fun e w' => e = .returned (.int .i64 (lastT b st ch ps st.length)) ∧ Below w.heap.size w w' := by
  have hu3 := Tryd.underlying3
  have hu22 := Tryd.underlying22
  have hu25 := Tryd.underlying25
  have hu62 := Tryd.underlying62
  have hu67 := Tryd.underlying67
  have hu103 := Tryd.underlying103
  have hu112 := Tryd.underlying112
  have HF := Lib.hid hF
  have HR0 := Lib.hid hr0
  have HR1 := Lib.hid hr1
  have HR2 := Lib.hid hr2
  clear hF hr0 hr1 hr2
  unfold endV
  obtain ⟨fP, hfP⟩ : ∃ f, f = fnV (paceN b) := ⟨_, rfl⟩
  obtain ⟨fT, hfT⟩ : ∃ f, f = fnV (timeN b) := ⟨_, rfl⟩
  obtain ⟨fS, hfS⟩ : ∃ f, f = fnV (smokeN b) := ⟨_, rfl⟩
  rw [← hfP, ← hfT, ← hfS]
  have HE := Lib.hid (And.intro hfP (And.intro hfT hfS))
  clear hfP hfT hfS
  refine (callsIn_wide (n := 2)).1 ?_
  refine callsIn_of_wp_marks Tryd.func57 rfl trivial ?_ rfl
  simp only [Tryd.ntmps57, List.size_toArray, List.length_cons, List.length_nil, Nat.reduceAdd, Nat.reduceSub, Array.replicate_succ, Array.replicate_zero, List.push_toArray, List.append_toArray, List.nil_append, List.cons_append]
  refine wpIn_wide.2 ?_
  go_wp2_with fail
  refine (stairs_any _ _ _ _ _ _ _).mono ?_
  rintro e w1 ⟨rfl, hw1⟩
  obtain ⟨fp, hfp⟩ : ∃ x, x = w.heap.size := ⟨_, rfl⟩
  have e0 : Boxed w1 (w.heap.size + 2) 3 (.int .i64 0) := by subst hw1; have := ((Boxed.new ((w.alloc (.cells #[.slice A0 st.length c0, .slice A1 ch.length c1, .slice A2 ps.length c2] 103)).alloc (.cells #[fP, fT, fS] 112)) 3 (.int .i64 0)).alloc (.cells #[.slice A0 st.length c0, .slice A1 ch.length c1, .slice A2 ps.length c2] 103)).alloc (.cells #[fP, fT, fS] 112); simpa using this
  have e1 : w1.cell? ⟨w.heap.size, 0, none⟩ = some (.slice A0 st.length c0) := by subst hw1; go_simp
  have e2 : w1.cell? ⟨w.heap.size + 3, 0, none⟩ = some (.slice A0 st.length c0) := by subst hw1; go_simp
  have e3 : w1.cell? ⟨w.heap.size + 3, 1, none⟩ = some (.slice A1 ch.length c1) := by subst hw1; go_simp
  have e4 : w1.cell? ⟨w.heap.size + 3, 2, none⟩ = some (.slice A2 ps.length c2) := by subst hw1; go_simp
  have e5 : w1.cell? ⟨w.heap.size + 4, 0, none⟩ = some fP := by subst hw1; go_simp
  have e6 : w1.cell? ⟨w.heap.size + 4, 1, none⟩ = some fT := by subst hw1; go_simp
  have e7 : w1.cell? ⟨w.heap.size + 4, 2, none⟩ = some fS := by subst hw1; go_simp
  have hz : w1.heap.size = w.heap.size + 5 := by subst hw1; simp
  have hB : Below w.heap.size w w1 := by subst hw1; exact (((((Below.refl _ w).alloc (Nat.le_refl _) _).alloc (by simp) _).alloc (by simp; omega) _).alloc (by simp; omega) _).alloc (by simp; omega) _
  simp only [World.size_alloc]
  clear hw1
  go_wp2_with fail
  rw [HE.out.1] at e5
  rw [HE.out.2.1] at e6
  rw [HE.out.2.2] at e7
  refine (wpIn_wide (n := 2)).1 ?_
  refine' wpIn_range_stairs b (w.heap.size + 3) (w.heap.size + 4) A0 A1 A2 c0 c1 c2 st ch ps w HR0.out HR1.out HR2.out hB (by omega) (by omega) (by omega) (by omega) e2 e3 e4 e5 e6 e7 HF.out.nst HF.out.nch HF.out.nps HF.out.ok HF.out.stair HF.out.len HF.out.val rfl rfl
    (fun k W => Boxed W (w.heap.size + 2) 3 (.int .i64 (lastT b st ch ps k)) ∧ W.cell? ⟨w.heap.size, 0, none⟩ = some (.slice A0 st.length c0) ∧ Below w.heap.size w W) (fun _ _ _ => False)
    ?hI (fun _ _ _ _ h _ => h) ⟨e0, e1, hB⟩ _ ?assign ?body ?done ?stop
  case hI =>
    rintro k W W' ⟨h1, h2, h3⟩ hm
    exact ⟨(hm.below.block _ (by omega)).trans h1, (hm.below.cell (p := ⟨w.heap.size, 0, none⟩) (by simp; omega)).trans h2, h3.trans (hm.below.mono (by omega))⟩
  case assign =>
    intro l k v W K hK
    gi_wp2
    exact hK
  case body =>
    rintro l k v W hkl ⟨h1, h2, h3⟩ hsz hsame hown
    have hc := (show Boxed W (w.heap.size + 1 + 1) 3 (.int .i64 (lastT b st ch ps k)) from h1).cell
    have hf := (show Boxed W (w.heap.size + 1 + 1) 3 (.int .i64 (lastT b st ch ps k)) from h1).frozen
    have hbz : w.heap.size + 1 + 1 < W.heap.size := by omega
    obtain ⟨ad, rfl, g0, _⟩ := at_T62 (Kd.C_below HR0.out h3) (k : Int) (by omega) (by omega)
    simp only [Int.toNat_natCast] at g0
    have HLL := Lib.hid (HF.out.leftLen k)
    have HSK := Lib.hid (lastT_succ b st ch ps k)
    obtain ⟨L, hL⟩ : ∃ L, L = leftAt b st ch ps k := ⟨_, rfl⟩
    rw [← hL] at hown HLL HSK
    obtain ⟨nx, hnx⟩ : ∃ nx, nx = (rd_T62 st k).f0 := ⟨_, rfl⟩
    rw [← hnx] at g0 HSK
    obtain ⟨nn, hnn⟩ : ∃ nn, nn = lastT b st ch ps k := ⟨_, rfl⟩
    rw [← hnn] at hc HSK h1
    have H1 := Lib.hid h1
    have H3 := Lib.hid h3
    have HOW := Lib.hid hown
    have HSM := Lib.hid hsame
    have hlk := HF.out.nst
    clear hL hnx hnn h1 h3 hown hsame
    obtain ⟨va, vc, rfl⟩ := own_slice HOW.out
    by_cases hn1 : nx = -1
    · subst hn1
      by_cases hl : 0 < L.length
      · obtain ⟨m, hm⟩ : ∃ m, L.length = m + 1 := ⟨L.length - 1, by omega⟩
        obtain ⟨g, rfl, _, hcap, hga, hgb, hcc⟩ := own_cell HOW.out (k := m) (by omega)
        have hwr : IntKind.i64.wrap ((L.length : Int) - 1) = (m : Int) := by rw [hm]; simp; exact IntWalk.i64_in _ (by have := HLL.out; omega)
        have hm0 : (0 : Int) ≤ (m : Int) := by omega
        have hm1 : (m : Int) < (L.length : Int) := by omega
        have HMX := Lib.hid (show lastT b st ch ps (k + 1) = max nn L[m] by rw [HSK.out, if_pos ⟨rfl, hl⟩, show L.length - 1 = m by omega, List.getElem?_eq_getElem (by omega)]; rfl)
        generalize L[m] = x at *
        clear hm
        gi_wp2
        gi_region
        all_goals
          refine ⟨((Rd.refl _ _ _ _ _).drew).setCell _ (by omega) (by omega) (by omega) (by omega), ?_, ?_, (below_drew H3.out).setCell (by simp; omega) _⟩
          · rw [HMX.out]; exact Boxed.set (W := W.drew) _ H1.out
          · exact (World.cell?_setCell_far W ⟨w.heap.size + 1 + 1, 0, none⟩ ⟨w.heap.size, 0, none⟩ _ (by show w.heap.size + 1 + 1 ≠ w.heap.size; omega)).trans h2
      · obtain rfl : L = [] := List.eq_nil_of_length_eq_zero (by omega)
        gi_wp2
        refine ⟨Rd.refl _ _ _ _ _, ?_, h2, H3.out⟩
        rw [HSK.out, if_neg (fun h => hl h.2)]; exact H1.out
    · gi_wp2
      refine ⟨Rd.refl _ _ _ _ _, ?_, h2, H3.out⟩
      rw [HSK.out, if_neg (fun h => hn1 h.1)]; exact H1.out
  case done =>
    rintro D W hD ⟨h1, h2, h3⟩ hK
    have hc := (show Boxed W (w.heap.size + 1 + 1) 3 (.int .i64 (lastT b st ch ps st.length)) from h1).cell
    have H3 := Lib.hid h3
    clear h3
    go_wp2
    refine ⟨by simp, .inl ⟨_, _, rfl, run_takeDeferred hK, ?_⟩⟩
    exact ⟨_, results_tmp rfl _ _ _, rfl, H3.out.trans (belowK_b (w := w) (Nat.le_refl _) W D _ _ (by omega) hK rfl rfl)⟩
  case stop =>
    rintro D c k W _ _ h _
    exact h.elim
end Go.Proofs.YtdeaccbolnlgpaaDoor.X

namespace Go.Proofs.YtdeaccbolnlgpaaDoor.X
open Go.RowKit Go.Shelf Go.Proofs.YtdeaccbolnlgpaaDoorW.PrintWords Go.Proofs.YtdeaccbolnlgpaaDoorW.PrintLast Go.Proofs.YtdeaccbolnlgpaaDoorW.PrintMore
set_option linter.unusedVariables false
set_option linter.unusedSimpArgs false

/-- Is x too late out of chamber c, where the smoke comes at sm? -/
def slowB (b : Bool) (ch : List S81) (c : Int) (sm : S36) (x : S48) : Bool := x.f0 == c && decide (smokeS b sm < leaveT b ch x)

theorem S14_keep {A B : World} {a1 a2 a3 a4 a5 a6 a7 a8 a9 a10 a11 a12 a13 a14 : Addr} {v1 v2 v3 v4 v5 v6 v7 v8 v9 v10 v11 v12 v13 v14 : Value} (hb : Below A.heap.size A B) (h : A.cell? a1 = some v1 ∧ A.cell? a2 = some v2 ∧ A.cell? a3 = some v3 ∧ A.cell? a4 = some v4 ∧ A.cell? a5 = some v5 ∧ A.cell? a6 = some v6 ∧ A.cell? a7 = some v7 ∧ A.cell? a8 = some v8 ∧ A.cell? a9 = some v9 ∧ A.cell? a10 = some v10 ∧ A.cell? a11 = some v11 ∧ A.cell? a12 = some v12 ∧ A.cell? a13 = some v13 ∧ A.cell? a14 = some v14) :
    B.cell? a1 = some v1 ∧ B.cell? a2 = some v2 ∧ B.cell? a3 = some v3 ∧ B.cell? a4 = some v4 ∧ B.cell? a5 = some v5 ∧ B.cell? a6 = some v6 ∧ B.cell? a7 = some v7 ∧ B.cell? a8 = some v8 ∧ B.cell? a9 = some v9 ∧ B.cell? a10 = some v10 ∧ B.cell? a11 = some v11 ∧ B.cell? a12 = some v12 ∧ B.cell? a13 = some v13 ∧ B.cell? a14 = some v14 := by
  obtain ⟨h1, h2, h3, h4, h5, h6, h7, h8, h9, h10, h11, h12, h13, h14⟩ := h
  exact ⟨pw_cell_below hb h1, pw_cell_below hb h2, pw_cell_below hb h3, pw_cell_below hb h4, pw_cell_below hb h5, pw_cell_below hb h6, pw_cell_below hb h7, pw_cell_below hb h8, pw_cell_below hb h9, pw_cell_below hb h10, pw_cell_below hb h11, pw_cell_below hb h12, pw_cell_below hb h13, pw_cell_below hb h14⟩

set_option maxRecDepth 100000 in
set_option maxHeartbeats 4000000 in
theorem slow_any (b : Bool) (bc bh be bx : Nat) (A0 A1 A2 : Option Addr) (n0 c0 c1 n2 c2 : Nat) (ch : List S81) (c : Int) (sm : S36) (x : S48) (w : World)
    (hx : WalkOk ch x) (hr1 : Kd.C k81 w A1 ch.length ch)
    (hc : w.cell? ⟨bc, 0, none⟩ = some (.int .i64 c))
    (h0a : w.cell? ⟨bh, 0, none⟩ = some (.slice A0 n0 c0)) (h0b : w.cell? ⟨bh, 1, none⟩ = some (.slice A1 ch.length c1)) (h0c : w.cell? ⟨bh, 2, none⟩ = some (.slice A2 n2 c2))
    (h1a : w.cell? ⟨be, 0, none⟩ = some (fnV (paceN b))) (h1b : w.cell? ⟨be, 1, none⟩ = some (fnV (timeN b))) (h1c : w.cell? ⟨be, 2, none⟩ = some (fnV (smokeN b)))
    (hxa : w.cell? ⟨bx, 2, none⟩ = some (.int .i64 sm.f0)) (hxb : w.cell? ⟨bx, 3, none⟩ = some (.int .i64 sm.f1)) :
    Calls Tryd.prog 91 #[wv x, .pointer (some ⟨bc, 0, none⟩), .pointer (some ⟨bh, 0, none⟩), .pointer (some ⟨be, 0, none⟩), .pointer (some ⟨bx, 0, none⟩)] w fun e w' => e = .returned (.bool (slowB b ch c sm x)) ∧ Below w.heap.size w w' := by
  have hu3 := Tryd.underlying3
  have hu25 := Tryd.underlying25
  have hu36 := Tryd.underlying36
  have hu48 := Tryd.underlying48
  have hu81 := Tryd.underlying81
  have hu103 := Tryd.underlying103
  have hu112 := Tryd.underlying112
  obtain ⟨q1, q2, q3, q4, q5, q6, q7, q8, q9, q10, q11, q12⟩ := hx
  have HLV := Lib.hid (fun W (hW : Below w.heap.size w W) => leaves_any b A0 A1 A2 n0 c0 c1 n2 c2 ch x W (Kd.C_below hr1 hW) q1 q2 q3 q4 q5 q6 q7 q8 q9 q10)
  have HSM := Lib.hid (fun W => smoke_any b sm W)
  have eg := smoke_enters b
  obtain ⟨lv, hlv⟩ : ∃ lv, lv = leaveT b ch x := ⟨_, rfl⟩
  obtain ⟨sv, hsv⟩ : ∃ sv, sv = smokeS b sm := ⟨_, rfl⟩
  unfold slowB
  rw [← hlv] at HLV ⊢
  rw [← hsv] at HSM ⊢
  unfold endV at HLV
  unfold fnV at *
  obtain ⟨gP, hgP⟩ : ∃ g, g = paceN b := ⟨_, rfl⟩
  obtain ⟨gT, hgT⟩ : ∃ g, g = timeN b := ⟨_, rfl⟩
  obtain ⟨gS, hgS⟩ : ∃ g, g = smokeN b := ⟨_, rfl⟩
  rw [← hgP] at HLV h1a
  rw [← hgT] at HLV h1b
  rw [← hgS] at HLV HSM h1c eg
  clear hlv hsv hgP hgT hgS q1 q2 q3 q4 q5 q6 q7 q8 q9 q10 q11 q12 hr1
  obtain ⟨p, pc, wt⟩ := x
  obtain ⟨p0, p1⟩ := pc
  obtain ⟨t0, t1⟩ := wt
  obtain ⟨s0, s1⟩ := sm
  unfold wv at *
  dsimp only at *
  have lc := World.block_lt_of_cell? w _ hc
  have lh := World.block_lt_of_cell? w _ h0a
  have le := World.block_lt_of_cell? w _ h1a
  have lx := World.block_lt_of_cell? w _ hxa
  dsimp only at lc lh le lx
  go_enter Tryd.func91, Tryd.ntmps91
  go_wp2
  obtain ⟨W0, hW0⟩ : ∃ W0, w.alloc (.cells #[.int .i64 p, .int .i64 p0, .int .i64 p1, .int .i64 t0, .int .i64 t1] 48) = W0 := ⟨_, rfl⟩
  have hS0 : W0.cell? ⟨bc, 0, none⟩ = some (.int .i64 c) ∧ W0.cell? ⟨bh, 0, none⟩ = some (.slice A0 n0 c0) ∧ W0.cell? ⟨bh, 1, none⟩ = some (.slice A1 ch.length c1) ∧ W0.cell? ⟨bh, 2, none⟩ = some (.slice A2 n2 c2) ∧ W0.cell? ⟨be, 0, none⟩ = some (.func (.func gP) #[] #[]) ∧ W0.cell? ⟨be, 1, none⟩ = some (.func (.func gT) #[] #[]) ∧ W0.cell? ⟨be, 2, none⟩ = some (.func (.func gS) #[] #[]) ∧ W0.cell? ⟨bx, 2, none⟩ = some (.int .i64 s0) ∧ W0.cell? ⟨bx, 3, none⟩ = some (.int .i64 s1) ∧ W0.cell? ⟨w.heap.size, 0, none⟩ = some (.int .i64 p) ∧ W0.cell? ⟨w.heap.size, 1, none⟩ = some (.int .i64 p0) ∧ W0.cell? ⟨w.heap.size, 2, none⟩ = some (.int .i64 p1) ∧ W0.cell? ⟨w.heap.size, 3, none⟩ = some (.int .i64 t0) ∧ W0.cell? ⟨w.heap.size, 4, none⟩ = some (.int .i64 t1) := by
    rw [← hW0]; clear hW0; go_simp
  have hB0 : Below w.heap.size w W0 := by rw [← hW0]; exact (Below.refl _ _).alloc (Nat.le_refl _) _
  have hz0 : w.heap.size < W0.heap.size := by rw [← hW0]; simp
  rw [hW0]
  clear hW0 hc h0a h0b h0c h1a h1b h1c hxa hxb lc lh le lx
  have HD := Lib.hid (below_drew (Below.refl W0.heap.size W0))
  have hSd : W0.drew.cell? ⟨bc, 0, none⟩ = some (.int .i64 c) ∧ W0.drew.cell? ⟨bh, 0, none⟩ = some (.slice A0 n0 c0) ∧ W0.drew.cell? ⟨bh, 1, none⟩ = some (.slice A1 ch.length c1) ∧ W0.drew.cell? ⟨bh, 2, none⟩ = some (.slice A2 n2 c2) ∧ W0.drew.cell? ⟨be, 0, none⟩ = some (.func (.func gP) #[] #[]) ∧ W0.drew.cell? ⟨be, 1, none⟩ = some (.func (.func gT) #[] #[]) ∧ W0.drew.cell? ⟨be, 2, none⟩ = some (.func (.func gS) #[] #[]) ∧ W0.drew.cell? ⟨bx, 2, none⟩ = some (.int .i64 s0) ∧ W0.drew.cell? ⟨bx, 3, none⟩ = some (.int .i64 s1) ∧ W0.drew.cell? ⟨w.heap.size, 0, none⟩ = some (.int .i64 p) ∧ W0.drew.cell? ⟨w.heap.size, 1, none⟩ = some (.int .i64 p0) ∧ W0.drew.cell? ⟨w.heap.size, 2, none⟩ = some (.int .i64 p1) ∧ W0.drew.cell? ⟨w.heap.size, 3, none⟩ = some (.int .i64 t0) ∧ W0.drew.cell? ⟨w.heap.size, 4, none⟩ = some (.int .i64 t1) := S14_keep HD.out hS0
  have HB0 := Lib.hid hB0
  have HB1 := Lib.hid (hB0.trans (HD.out.mono hB0.size))
  clear hB0
  by_cases hpc : p = c
  · subst hpc
    go_region_held3 (fun w' => w'.cell? ⟨bc, 0, none⟩ = some (.int .i64 p) ∧ w'.cell? ⟨bh, 0, none⟩ = some (.slice A0 n0 c0) ∧ w'.cell? ⟨bh, 1, none⟩ = some (.slice A1 ch.length c1) ∧ w'.cell? ⟨bh, 2, none⟩ = some (.slice A2 n2 c2) ∧ w'.cell? ⟨be, 0, none⟩ = some (.func (.func gP) #[] #[]) ∧ w'.cell? ⟨be, 1, none⟩ = some (.func (.func gT) #[] #[]) ∧ w'.cell? ⟨be, 2, none⟩ = some (.func (.func gS) #[] #[]) ∧ w'.cell? ⟨bx, 2, none⟩ = some (.int .i64 s0) ∧ w'.cell? ⟨bx, 3, none⟩ = some (.int .i64 s1) ∧ w'.cell? ⟨w.heap.size, 0, none⟩ = some (.int .i64 p) ∧ w'.cell? ⟨w.heap.size, 1, none⟩ = some (.int .i64 p0) ∧ w'.cell? ⟨w.heap.size, 2, none⟩ = some (.int .i64 p1) ∧ w'.cell? ⟨w.heap.size, 3, none⟩ = some (.int .i64 t0) ∧ w'.cell? ⟨w.heap.size, 4, none⟩ = some (.int .i64 t1))
      (first | assumption | exact S14_keep hb1 (by assumption))
      (first
        | (go_at_call 84; refine (HLV.out _ HB1.out).mono ?_; rintro e w1 ⟨rfl, hb1⟩; have HB2 := Lib.hid (HB1.out.trans (hb1.mono HB1.out.size)))
        | (refine (HSM.out _).mono ?_; rintro e w2 ⟨rfl, hb1⟩; have HB3 := Lib.hid (HB2.out.trans (hb1.mono HB2.out.size))))
    all_goals
      go_wp2
      go_ret
      refine ⟨?_, HB3.out⟩
      simp
  · have hpc2 : (p == c) = false := by simp [hpc]
    obtain ⟨y1, y2, y3, y4, y5, y6, y7, y8, y9, y10, y11, y12, y13, y14⟩ := S14_keep (Below.refl _ _) hS0
    clear hSd
    go_quiet (fail)
    go_wp2
    go_ret
    exact ⟨by simp [hpc], HB0.out.os, HB0.out.tape, HB0.out.output, HB0.out.size, HB0.out.block⟩
end Go.Proofs.YtdeaccbolnlgpaaDoor.X
