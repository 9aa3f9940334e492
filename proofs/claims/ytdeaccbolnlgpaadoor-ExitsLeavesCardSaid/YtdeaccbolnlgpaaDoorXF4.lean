import Derived.Test.YtdeaccbolnlgpaaDoorXF3
import Derived.Test.YtdeaccbolnlgpaaDoorXC12
namespace Go.Proofs.YtdeaccbolnlgpaaDoor.X
open Go.RowKit Go.Shelf Go.Proofs.YtdeaccbolnlgpaaDoorW.PrintWords Go.Proofs.YtdeaccbolnlgpaaDoorW.PrintLast Go.Proofs.YtdeaccbolnlgpaaDoorW.PrintMore
set_option linter.unusedVariables false
set_option linter.unusedSimpArgs false

theorem comeG0_len (ch : List S81) (ps : List S48) (ts : List Int) (i : Int) : (comeG0 ch ps ts i).length ≤ ps.length := by
  unfold comeG0
  rw [List.length_map]
  exact Nat.le_trans (List.length_filter_le _ _) (by rw [List.length_zip]; omega)

/-- Behind k of the people. -/
def Rel1 (w : World) (V : Array Value) (n : Nat) (ch : List S81) (ps : List S48) (ts : List Int) (k : Nat) (u : Value) (wr : World) : Prop :=
  ∃ (vsC : List Value) (lsC : List (List Int)), vsC.length = n ∧ (∀ (j : Nat) (hj : j < lsC.length), lsC[j] = comeG0 ch (ps.take k) (ts.take k) j) ∧ wr.heap[w.heap.size + 1]? = some (.cells vsC.toArray 67 (0, 0)) ∧
    Fam wr (w.heap.size + 2) (u :: vsC) (ts.take k :: lsC) ∧ Below w.heap.size w wr ∧ wr.heap[w.heap.size]? = some (.cells V 25 (0, 0)) ∧ w.heap.size + 2 ≤ wr.heap.size

theorem Rel1.start {w W0 : World} {V : Array Value} {n : Nat} (ch : List S81) (ps : List S48) (ts : List Int) (hb : W0.heap[w.heap.size + 1]? = some (.cells (List.replicate n (.slice none 0 0)).toArray 67 (0, 0))) (hB : Below w.heap.size w W0) (hV : W0.heap[w.heap.size]? = some (.cells V 25 (0, 0))) (hz : w.heap.size + 2 ≤ W0.heap.size) :
    Rel1 w V n ch ps ts 0 (.slice none 0 0) W0 :=
  ⟨List.replicate n (.slice none 0 0), List.replicate n [], by simp, fun j hj => by simp [comeG0], hb, Fam.nils W0 (w.heap.size + 2) (n + 1), hB, hV, hz⟩

theorem Rel1.step {w w6 wa w7 : World} {V : Array Value} {n : Nat} {ch : List S81} {ps : List S48} {ts : List Int} {k sn : Nat} {t : Int} {v6 v7 : Value} {vsC : List Value} {lsC : List (List Int)} {ca : Option Addr} {cc : Nat} {zs : List Int}
    (hvl : vsC.length = n) (hls : ∀ (j : Nat) (hj : j < lsC.length), lsC[j] = comeG0 ch (ps.take k) (ts.take k) j) (hF6 : Fam w6 (w.heap.size + 2) (v6 :: vsC) ((ts.take k ++ [t]) :: lsC))
    (h61 : w6.heap[w.heap.size + 1]? = some (.cells vsC.toArray 67 (0, 0))) (h60 : w6.heap[w.heap.size]? = some (.cells V 25 (0, 0))) (hB6 : Below w.heap.size w w6) (h6s : w.heap.size + 2 ≤ w6.heap.size)
    (hsn : sn < vsC.length) (hvs : vsC[sn] = .slice ca zs.length cc) (hz : zs = comeG0 ch (ps.take k) (ts.take k) sn)
    (hTK : comeG0 ch (ps.take (k + 1)) (ts.take (k + 1)) = putM sn (comeG0 ch (ps.take k) (ts.take k) sn ++ [t]) (comeG0 ch (ps.take k) (ts.take k))) (hTT : ts.take (k + 1) = ts.take k ++ [t])
    (hD : Below w6.heap.size w6 wa) (ho7 : w7.ownsInts (w.heap.size + 2) 3 .i64 v7 (zs ++ [t])) (hg7 : wa.grownBy w7 (Value.slice ca zs.length cc).ownBlock) (hl7 : v7.ownBlock = (Value.slice ca zs.length cc).ownBlock ∨ v7.ownBlock = some wa.heap.size) :
    Rel1 w V n ch ps ts (k + 1) v6 (w7.setCell ⟨w.heap.size + 1, sn, none⟩ v7) := by
  have hi : sn + 1 < (v6 :: vsC).length := by simp; omega
  have hv : (v6 :: vsC)[sn + 1] = .slice ca zs.length cc := by simpa using hvs
  have hlen : lsC.length = vsC.length := by have := hF6.len; simp at this; omega
  obtain ⟨a1, a2, a3, a4, a5⟩ := hF6.put hi hD (by rw [hv]; exact hg7) ho7 (by rw [hv]; exact hl7) sn h61
  refine ⟨vsC.set sn v7, lsC.set sn (zs ++ [t]), by simpa using hvl, fun j hj => ?_, a2, ?_, a4 _ _ hB6 (by omega) (by omega) h6s, a3 _ _ (by omega) h60 rfl, by omega⟩
  · simp only [List.length_set] at hj
    rw [hTK, List.getElem_set]
    unfold putM
    by_cases e : sn = j
    · subst e; rw [if_pos rfl, if_pos rfl, hz]
    · rw [if_neg e, if_neg (by omega), hls j hj]
  · rw [hTT]; simpa using a1
end Go.Proofs.YtdeaccbolnlgpaaDoor.X
