import Derived.KernelRfl
import Derived.Test.YtdeaccbolnlgpaaDoorXM1
import Derived.Test.YtdeaccbolnlgpaaDoorXC11
namespace Go.Proofs.YtdeaccbolnlgpaaDoor.X
set_option linter.unusedVariables false
set_option linter.unusedSimpArgs false

/-! # The model in a form that the kernel reckons out -/
def insI (x : Int) : List Int → List Int
  | [] => [x]
  | y :: l => if x ≤ y then x :: y :: l else y :: insI x l
def sortI (l : List Int) : List Int := l.foldr insI []
theorem insI_perm (x : Int) : ∀ l, (insI x l).Perm (x :: l)
  | [] => List.Perm.refl _
  | y :: l => by
    rw [insI]
    split
    · exact List.Perm.refl _
    · exact ((insI_perm x l).cons y).trans (List.Perm.swap x y l)
theorem insI_ord (x : Int) : ∀ l : List Int, l.Pairwise (fun a b => a ≤ b) → (insI x l).Pairwise (fun a b => a ≤ b)
  | [], _ => by simp [insI]
  | y :: l, h => by
    rw [List.pairwise_cons] at h
    rw [insI]
    split
    · rename_i hxy
      refine List.pairwise_cons.2 ⟨fun z hz => ?_, List.pairwise_cons.2 h⟩
      rcases List.mem_cons.1 hz with rfl | hz
      · exact hxy
      · have := h.1 z hz; omega
    · rename_i hxy
      refine List.pairwise_cons.2 ⟨fun z hz => ?_, insI_ord x l h.2⟩
      rcases List.mem_cons.1 ((insI_perm x l).mem_iff.1 hz) with rfl | hz
      · omega
      · exact h.1 z hz
theorem sortI_perm : ∀ l : List Int, (sortI l).Perm l
  | [] => List.Perm.refl _
  | x :: l => (insI_perm x (sortI l)).trans ((sortI_perm l).cons x)
theorem sortI_ord : ∀ l : List Int, (sortI l).Pairwise (fun a b => a ≤ b)
  | [] => List.Pairwise.nil
  | x :: l => insI_ord x _ (sortI_ord l)
theorem sortL_ord (l : List Int) : (sortL l).Pairwise (fun a b => a ≤ b) :=
  (List.pairwise_mergeSort (le := fun x y => decide (x ≤ y)) (fun x y z h1 h2 => by simp at *; omega) (fun x y => by simp; omega) l).imp (fun h => by simpa using h)
theorem sortL_I (l : List Int) : sortL l = sortI l :=
  List.Perm.eq_of_pairwise (fun x y _ _ h1 h2 => by omega) (sortL_ord l) (sortI_ord l) ((List.mergeSort_perm l _).trans (sortI_perm l).symm)

def leftOfE (b : Bool) (s : S62) (l : List Int) : List Int := flowL (timeS b s.f2) s.f1 (sortI l)
theorem leftOf_E (b : Bool) (s : S62) (l : List Int) : leftOf b s l = leftOfE b s l := by rw [leftOf, leftOfE, sortL_I]
def comeAtE (b : Bool) (st : List S62) (ch : List S81) (ps : List S48) : Nat → Int → List Int
  | 0 => comeO b ch ps
  | k + 1 => putM (rd_T62 st k).f0 (putM k [] (comeAtE b st ch ps k) (rd_T62 st k).f0 ++ leftOfE b (rd_T62 st k) (comeAtE b st ch ps k k)) (putM k [] (comeAtE b st ch ps k))
theorem comeAt_E (b : Bool) (st : List S62) (ch : List S81) (ps : List S48) : ∀ k, comeAt b st ch ps k = comeAtE b st ch ps k
  | 0 => rfl
  | k + 1 => by
    have ih := comeAt_E b st ch ps k
    rw [comeAt, comeAtE, comeN, ih, leftOf_E]
def leftAtE (b : Bool) (st : List S62) (ch : List S81) (ps : List S48) (k : Nat) : List Int := leftOfE b (rd_T62 st k) (comeAtE b st ch ps k k)
theorem leftAt_E (b : Bool) (st : List S62) (ch : List S81) (ps : List S48) (k : Nat) : leftAt b st ch ps k = leftAtE b st ch ps k := by rw [leftAt, leftAtE, comeAt_E, leftOf_E]
def lastTE (b : Bool) (st : List S62) (ch : List S81) (ps : List S48) : Nat → Int
  | 0 => 0
  | k + 1 => if (rd_T62 st k).f0 = -1 ∧ 0 < (leftAtE b st ch ps k).length then max (lastTE b st ch ps k) ((leftAtE b st ch ps k)[(leftAtE b st ch ps k).length - 1]?.getD 0) else lastTE b st ch ps k
theorem lastT_E (b : Bool) (st : List S62) (ch : List S81) (ps : List S48) : ∀ k, lastT b st ch ps k = lastTE b st ch ps k
  | 0 => rfl
  | k + 1 => by rw [lastT, lastTE, leftAt_E, lastT_E b st ch ps k]
def lateSE (b : Bool) (st : List S62) (ch : List S81) (ps : List S48) : Nat → Nat → Int
  | _, 0 => -1
  | k, n + 1 => if (leftAtE b st ch ps k).any (fun t => decide (smokeS b (rd_T62 st k).f3 < t)) then (k : Int) else lateSE b st ch ps (k + 1) n
theorem lateS_E (b : Bool) (st : List S62) (ch : List S81) (ps : List S48) : ∀ n k, lateS b st ch ps k n = lateSE b st ch ps k n
  | 0, _ => rfl
  | n + 1, k => by rw [lateS, lateSE, lateB, leftAt_E, lateS_E b st ch ps n (k + 1)]
def leavesFE (st : List S62) (ch : List S81) (pe : List S48) (i : Int) : List S36 × Int :=
  if checkF st ch pe = 0 then (if inB 0 ((st.length : Int) - 1) [i] = true then (List.zipWith S36.mk (leftAtE false st ch pe i.toNat) (leftAtE true st ch pe i.toNat), 0) else ([], 2)) else ([], checkF st ch pe)
theorem leavesF_E (st : List S62) (ch : List S81) (pe : List S48) (i : Int) : leavesF st ch pe i = leavesFE st ch pe i := by rw [leavesF, leavesFE, leftAt_E, leftAt_E]
def outFE (st : List S62) (ch : List S81) (pe : List S48) : Int × Int × Int :=
  if checkF st ch pe = 0 then (lastTE false st ch pe st.length, lastTE true st ch pe st.length, 0) else (0, 0, checkF st ch pe)
theorem outF_E (st : List S62) (ch : List S81) (pe : List S48) : outF st ch pe = outFE st ch pe := by rw [outF, outFE, lastT_E, lastT_E]
def lateFE (b : Bool) (st : List S62) (ch : List S81) (pe : List S48) : Int × Int := (lateC b ch pe ch.length, lateSE b st ch pe 0 st.length)
theorem lateF_E (b : Bool) (st : List S62) (ch : List S81) (pe : List S48) : lateF b st ch pe = lateFE b st ch pe := by rw [lateF, lateFE, lateS_E]
def safeFE (st : List S62) (ch : List S81) (pe : List S48) : Int × Int × Int × Int :=
  if checkF st ch pe = 0 then (if lateFE true st ch pe = (-1, -1) then 2 else if lateFE false st ch pe = (-1, -1) then 1 else 0, (lateFE true st ch pe).1, (lateFE true st ch pe).2, 0) else (0, 0, 0, checkF st ch pe)
theorem safeF_E (st : List S62) (ch : List S81) (pe : List S48) : safeF st ch pe = safeFE st ch pe := by rw [safeF, safeFE, lateF_E, lateF_E]
def moreNE (st : List S62) (ch : List S81) (ps : List S48) (like : S48) : Nat → Nat → Int
  | n, 0 => (n : Int)
  | n, d + 1 => if lateFE true st ch (addN ps like (n + 1)) = (-1, -1) then moreNE st ch ps like (n + 1) d else (n : Int)
theorem moreN_E (st : List S62) (ch : List S81) (ps : List S48) (like : S48) : ∀ d n, moreN st ch ps like n d = moreNE st ch ps like n d
  | 0, _ => rfl
  | d + 1, n => by rw [moreN, moreNE, lateF_E, moreN_E st ch ps like d (n + 1)]
def moreFE (st : List S62) (ch : List S81) (ps : List S48) (like : S48) : Int × Int :=
  if checkF st ch ps = 0 then (if livesB ch.length like = true then (if lateFE true st ch ps = (-1, -1) then (moreNE st ch ps like 0 (24 - ps.length), 0) else (0, 8)) else (0, 2)) else (0, checkF st ch ps)
theorem moreF_E (st : List S62) (ch : List S81) (ps : List S48) (like : S48) : moreF st ch ps like = moreFE st ch ps like := by rw [moreF, moreFE, lateF_E, moreN_E]

/-! ## The chapter's examples -/
def bldS : List S62 := [⟨1, 2, ⟨10, 12⟩, ⟨60, 90⟩⟩, ⟨-1, 3, ⟨5, 5⟩, ⟨70, 100⟩⟩]
def bldC : List S81 := [⟨0, 10000, ⟨30, 40⟩⟩, ⟨1, 4000, ⟨40, 50⟩⟩]
def wlk : S48 := ⟨0, ⟨800, 1000⟩, ⟨10, 15⟩⟩
def ppl : List S48 := [wlk, wlk, ⟨1, ⟨400, 500⟩, ⟨20, 21⟩⟩]
theorem ex_leaves0 : leavesF bldS bldC ppl 0 = ([⟨30, 40⟩, ⟨32, 42⟩], 0) := by rw [leavesF_E]; kernel_rfl
theorem ex_leaves1 : leavesF bldS bldC ppl 1 = ([⟨33, 36⟩, ⟨36, 45⟩, ⟨39, 48⟩], 0) := by rw [leavesF_E]; kernel_rfl
theorem ex_out : outF bldS bldC ppl = (39, 48, 0) := by rw [outF_E]; kernel_rfl
theorem ex_more : moreF bldS bldC ppl wlk = (7, 0) := by rw [moreF_E]; kernel_rfl
theorem ex_safe : safeF bldS bldC ppl = (2, -1, -1, 0) := by rw [safeF_E]; kernel_rfl
theorem ex_safe27 : safeF bldS [⟨0, 10000, ⟨27, 40⟩⟩, ⟨1, 4000, ⟨40, 50⟩⟩] ppl = (1, 0, -1, 0) := by rw [safeF_E]; kernel_rfl
end Go.Proofs.YtdeaccbolnlgpaaDoor.X
