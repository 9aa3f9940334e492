import Derived.Laws.Cover3
import Derived.Test.YtdeaccbolnlgpaaDoorXH1
import Derived.Test.YtdeaccbolnlgpaaDoorXC10
namespace Go.Proofs.YtdeaccbolnlgpaaDoor.X
open Go.RowKit Go.Proofs.YtdeaccbolnlgpaaDoorW.PrintWords Go.Proofs.YtdeaccbolnlgpaaDoorW.PrintLast Go.Proofs.YtdeaccbolnlgpaaDoorW.PrintMore
set_option linter.unusedVariables false
set_option linter.unusedSimpArgs false

theorem eql_nil (w : World) (t e : TypeId) (a : Option Addr) (l c : Nat) (h : Tryd.prog.underlying t = some (.slice e)) : (binOp .eql t (.slice a l c) (.slice none 0 0)).run Tryd.prog w = .ok (.bool a.isNone) w := by
  have := run_equal_slice_nil (P := Tryd.prog) w t e a l c h
  simp [binOp, this, Result.andThen]

set_option maxRecDepth 100000 in
set_option maxHeartbeats 1000000 in
theorem clone_any (A : Option Addr) (c : Nat) (xs : List S48) (w : World) (hr : Kd.C k48 w A xs.length xs) (hl : xs.length ≤ 1000) :
    Calls Tryd.prog 67 #[.slice A xs.length c] w fun e w' => ∃ v, e = .returned v ∧ Kd.R k48 48 w' w.heap.size (fun _ => True) v xs ∧ Below w.heap.size w w' := by
  have hu26 := Tryd.underlying26
  have hu48 := Tryd.underlying48
  have HR := Aside0.mk hr
  have hq := fun (W : World) => eql_nil W 26 48 A xs.length c hu26
  cases A with
  | none =>
    obtain rfl : xs = [] := by
      cases xs with
      | nil => rfl
      | cons x l => obtain ⟨ad, h, _⟩ := hr.2.2 (by simp); cases h
    clear hr
    simp only [List.length_nil, Option.isNone_none] at hq
    go_enter Tryd.func67, Tryd.ntmps67
    go_wp2_with fail
    go_ret
    exact ⟨_, rfl, Kd.R_nil _ _ _ _ _, Below.refl _ _⟩
  | some ad =>
    clear hr
    simp only [Option.isNone_some] at hq
    go_enter Tryd.func67, Tryd.ntmps67
    go_wp2_with (first | ((with_reducible refine gate_dst (N := 5) rfl ?_); refine Kd.R_lit k48 w.heap.size 48 ?hg (N := 5) ?hd (xs := ([] : List S48)) (inner := []) (ok := fun _ => True) (okp := fun _ => True) ?hr ?hp (fun _ hk => hk) trivial (Below.refl _ _) (Nat.le_refl _) (by simp) ?_; (case hd => rfl); (case hg => rfl); (case hr => first | (go_simp; done) | (go_simp; rfl)); (case hp => exact (Reps.none _ _)); intro v1 w1 ho1 hb1 hg1 hn1; have HO1 := Aside0.mk ho1; have HB1 := Aside0.mk hb1; clear hg1 hn1 ho1 hb1) | ((with_reducible refine gate_builtin (b := .append) (xs := #[.tmp 5, .tmp 6]) rfl ?_); at_builtin; refine Kd.R_append_rows k48 (w0 := w) w.heap.size rfl (.tmp 5) (.tmp 6) 26 48 (.agg #[(.int .i64 0), (.int .i64 0), (.int .i64 0), (.int .i64 0), (.int .i64 0)]) 40 rfl Tryd.underlying26 info48 rfl (by decide) (by omega) v1 [] xs _ _ _ (fun _ => True) (fun _ => False) rfl rfl HO1.out (Kd.C_below HR.out HB1.out) (fun _ _ h => h) (fun _ h => h.elim) (fun _ _ => trivial) HB1.out HB1.out.size (by simp; omega) ?_; intro v2 w2 ho2 hb2 hg2 hat2; have HO2 := Aside0.mk ho2; have HB2 := Aside0.mk hb2; clear ho2 hb2 hg2 hat2))
    go_ret
    exact ⟨_, rfl, HO2.out, HB2.out⟩
end Go.Proofs.YtdeaccbolnlgpaaDoor.X

namespace Go.Proofs.YtdeaccbolnlgpaaDoor.X
open Go.RowKit Go.Shelf Go.Proofs.YtdeaccbolnlgpaaDoorW.PrintWords Go.Proofs.YtdeaccbolnlgpaaDoorW.PrintLast Go.Proofs.YtdeaccbolnlgpaaDoorW.PrintMore
set_option linter.unusedVariables false
set_option linter.unusedSimpArgs false

/-! # exits.More: the model, and what a round does -/
def addN (ps : List S48) (like : S48) (n : Nat) : List S48 := ps ++ List.replicate n like
theorem addN_zero (ps : List S48) (like : S48) : addN ps like 0 = ps := by simp [addN]
theorem addN_succ (ps : List S48) (like : S48) (n : Nat) : addN ps like n ++ [like] = addN ps like (n + 1) := by
  unfold addN
  rw [List.append_assoc, List.replicate_succ']
theorem addN_length (ps : List S48) (like : S48) (n : Nat) : (addN ps like n).length = ps.length + n := by simp [addN]
/-- How many more, from n on, d at most. -/
def moreN (st : List S62) (ch : List S81) (ps : List S48) (like : S48) : Nat → Nat → Int
  | n, 0 => (n : Int)
  | n, d + 1 => if lateF true st ch (addN ps like (n + 1)) = (-1, -1) then moreN st ch ps like (n + 1) d else (n : Int)
/-- The results of exits.More. -/
def moreF (st : List S62) (ch : List S81) (ps : List S48) (like : S48) : Int × Int :=
  if checkF st ch ps = 0 then (if livesB ch.length like = true then (if lateF true st ch ps = (-1, -1) then (moreN st ch ps like 0 (24 - ps.length), 0) else (0, 8)) else (0, 2)) else (0, checkF st ch ps)

theorem addN_valid {st : List S62} {ch : List S81} {ps : List S48} {like : S48} (h : Valid st ch ps) (hl : livesB ch.length like = true) {n : Nat} (hn : ps.length + n ≤ 24) : Valid st ch (addN ps like n) :=
  ⟨h.built, by rw [addN_length]; exact hn, fun x hx => by
    unfold addN at hx
    rcases List.mem_append.1 hx with hx | hx
    · exact h.lives x hx
    · rw [List.eq_of_mem_replicate hx]; exact hl⟩

theorem one48 (W : World) (x : S48) : Kd.C k48 (W.alloc (.cells #[.int .i64 x.f0, .int .i64 x.f1.f0, .int .i64 x.f1.f1, .int .i64 x.f2.f0, .int .i64 x.f2.f1] 48)) (some ⟨W.heap.size, 0, none⟩) 1 [x] := by
  refine ⟨rfl, by omega, fun _ => ⟨_, rfl, fun j p hj => ?_⟩⟩
  obtain ⟨hj', rfl⟩ := List.getElem?_eq_some_iff.1 hj
  have hj0 : j = 0 := by simpa using hj'
  subst hj0
  refine ⟨_, rfl, k48_mk _ x, fun i u hu => ?_⟩
  rw [add0]
  have h := World.alloc_heap_new W (.cells #[.int .i64 x.f0, .int .i64 x.f1.f0, .int .i64 x.f1.f1, .int .i64 x.f2.f0, .int .i64 x.f2.f1] 48)
  simp only [World.cell?, h, Nat.zero_mul, Nat.zero_add]
  simpa using hu
end Go.Proofs.YtdeaccbolnlgpaaDoor.X
