import Derived.Test.YtdeaccbolnlgpaaDoorXH1
namespace Go.Proofs.YtdeaccbolnlgpaaDoor.X
open Go.RowKit Go.Proofs.YtdeaccbolnlgpaaDoorW.PrintWords Go.Proofs.YtdeaccbolnlgpaaDoorW.PrintLast Go.Proofs.YtdeaccbolnlgpaaDoorW.PrintMore

/-- What the package variables of exits hold: best, worst. -/
def GlobsE (w : World) : Prop :=
  (w.cell? ⟨0, 0, none⟩ = some (.func (.func 149) #[] #[]) ∧ w.cell? ⟨0, 1, none⟩ = some (.func (.func 150) #[] #[]) ∧ w.cell? ⟨0, 2, none⟩ = some (.func (.func 149) #[] #[])) ∧
  (w.cell? ⟨1, 0, none⟩ = some (.func (.func 150) #[] #[]) ∧ w.cell? ⟨1, 1, none⟩ = some (.func (.func 149) #[] #[]) ∧ w.cell? ⟨1, 2, none⟩ = some (.func (.func 150) #[] #[]))
/-- .. and nowhere. -/
def Globs (w : World) : Prop := GlobsE w ∧ w.cell? ⟨2, 0, none⟩ = some (.int .i64 (-1)) ∧ w.cell? ⟨2, 1, none⟩ = some (.int .i64 (-1))

theorem GlobsE.below {w W : World} (h : GlobsE w) (hb : Below w.heap.size w W) : GlobsE W := by
  obtain ⟨⟨a1, a2, a3⟩, ⟨b1, b2, b3⟩⟩ := h
  exact ⟨⟨pw_cell_below hb a1, pw_cell_below hb a2, pw_cell_below hb a3⟩, ⟨pw_cell_below hb b1, pw_cell_below hb b2, pw_cell_below hb b3⟩⟩
theorem Globs.below {w W : World} (h : Globs w) (hb : Below w.heap.size w W) : Globs W :=
  ⟨h.1.below hb, pw_cell_below hb h.2.1, pw_cell_below hb h.2.2⟩
end Go.Proofs.YtdeaccbolnlgpaaDoor.X
