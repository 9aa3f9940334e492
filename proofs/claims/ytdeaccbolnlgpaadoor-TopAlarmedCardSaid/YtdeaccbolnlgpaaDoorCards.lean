/-
  DERIVED. GIVEN WITH THE SEED: THE CARDS: each row of YtdeaccbolnlgpaaDoorRows.lean that lists a variable, with what it lists TIED to the program's text (the seventh form; the later family's looks); each row that meets fmt, with fmt's text TOLD by the authors' own Lean function (tested against real Go, not proved from fmt's source: count such statements apart). THE CARD IS WHAT COUNTS. Prove the row's statement (the work); the ties are given (YtdeaccbolnlgpaaDoorTie.lean); close each card by the builder's one call (the guide's Derived/Test/ToyasCard.lean, 'card_holds'). Laid BY PROGRAM, IN A SANDBOX (cutbox-door.mjs). By AI agents, Wed Nov 11 2026. No macro, syntax, notation, axiom, sorry.
-/
import Derived.Test.YtdeaccbolnlgpaaDoorRows
import GoSem.ClaimSeven
namespace Go.Proofs.YtdeaccbolnlgpaaDoor
namespace Rows

/-- THE TIED CARD OF 'cottonpadlaw06.ExitsLeaves'. -/
def exitsLeavesCard : Claim7 := { stood := { row := exitsLeavesRow, standIns := [], harness := (true, "4413333bb1f88036351ba3d4513656484ada098f67c7e010ce0eaf8a90402be8"), looks := false }, kinds := [], alts := [], laidByText := true, laidKinds := [.funcs, .funcs], laidTests := true, laidLooks := .later }
def ExitsLeavesCardSaid : Prop := Claim7.holds Tryd.pinned (.plain (OpenSpec.ofChange exitsLeavesSpec)) exitsLeavesCard

/-- THE TIED CARD OF 'cottonpadlaw06.ExitsSafes'. -/
def exitsSafesCard : Claim7 := { stood := { row := exitsSafesRow, standIns := [], harness := (true, "4413333bb1f88036351ba3d4513656484ada098f67c7e010ce0eaf8a90402be8"), looks := false }, kinds := [], alts := [], laidByText := true, laidKinds := [.funcs, .funcs, .data], laidTests := true, laidLooks := .later }
def ExitsSafesCardSaid : Prop := Claim7.holds Tryd.pinned (.plain (OpenSpec.ofChange exitsSafesSpec)) exitsSafesCard

/-- THE TIED CARD OF 'cottonpadlaw06.ExitsExamples'. -/
def exitsExamplesCard : Claim7 := { stood := { row := exitsExamplesRow, standIns := [], harness := (true, "4413333bb1f88036351ba3d4513656484ada098f67c7e010ce0eaf8a90402be8"), looks := false }, kinds := [], alts := [], laidByText := true, laidKinds := [.funcs, .funcs, .data], laidTests := true, laidLooks := .later }
def ExitsExamplesCardSaid : Prop := Claim7.holds Tryd.pinned (.plain (OpenSpec.ofChange exitsExamplesSpec)) exitsExamplesCard

/-- THE TIED CARD OF 'cottonpadlaw06.ExitsTrue'. -/
def exitsTrueCard : Claim7 := { stood := { row := exitsTrueRow, standIns := [], harness := (true, "4413333bb1f88036351ba3d4513656484ada098f67c7e010ce0eaf8a90402be8"), looks := false }, kinds := [], alts := [], laidByText := true, laidKinds := [.funcs, .funcs, .data], laidTests := true, laidLooks := .later }
def ExitsTrueCardSaid : Prop := Claim7.holds Tryd.pinned (.plain (OpenSpec.ofChange exitsTrueSpec)) exitsTrueCard

/-- THE TIED CARD OF 'cottonpadtop.TopSmoky'. -/
def topSmokyCard : Claim7 := { stood := { row := topSmokyRow, standIns := [], harness := (true, "4413333bb1f88036351ba3d4513656484ada098f67c7e010ce0eaf8a90402be8"), looks := false }, kinds := [], alts := [], laidByText := true, laidKinds := [.funcs, .funcs, .data], laidTests := true, laidLooks := .later }
def TopSmokyCardSaid : Prop := Claim7.holds Tryd.pinned (.plain (OpenSpec.ofChange topSmokySpec)) topSmokyCard

/-- THE TIED CARD OF 'cottonpadlaw06.ExitsEnds'. -/
def exitsEndsCard : Claim7 := { stood := { row := exitsEndsRow, standIns := [], harness := (true, "4413333bb1f88036351ba3d4513656484ada098f67c7e010ce0eaf8a90402be8"), looks := false }, kinds := [], alts := [], laidByText := true, laidKinds := [.funcs, .funcs, .data], laidTests := true, laidLooks := .later }
def ExitsEndsCardSaid : Prop := Claim7.holds Tryd.pinned (.plain (OpenSpec.ofChange exitsEndsSpec)) exitsEndsCard

/-- THE TIED CARD OF 'cottonpadtop.TopAlarmed'. -/
def topAlarmedCard : Claim7 := { stood := { row := topAlarmedRow, standIns := [], harness := (true, "4413333bb1f88036351ba3d4513656484ada098f67c7e010ce0eaf8a90402be8"), looks := false }, kinds := [], alts := [], laidByText := true, laidKinds := [.funcs, .funcs, .data], laidTests := true, laidLooks := .later }
def TopAlarmedCardSaid : Prop := Claim7.holds Tryd.pinned (.plain (OpenSpec.ofChange topAlarmedSpec)) topAlarmedCard

/-- THE TIED CARD OF 'cottonpadlaw06.ExitsShown'. -/
def exitsShownCard : Claim7 := { stood := { row := exitsShownRow, standIns := [], harness := (true, "4413333bb1f88036351ba3d4513656484ada098f67c7e010ce0eaf8a90402be8"), looks := false }, kinds := [], alts := [], laidByText := true, laidKinds := [.funcs, .funcs, .data], laidTests := true, laidLooks := .later }
def ExitsShownCardSaid : Prop := Claim7.holds Tryd.pinned (.plain (OpenSpec.ofChange exitsShownSpec)) exitsShownCard

/-- THE TIED CARD OF 'cottonpadlaw06.ExitsLost'. -/
def exitsLostCard : Claim7 := { stood := { row := exitsLostRow, standIns := [], harness := (true, "4413333bb1f88036351ba3d4513656484ada098f67c7e010ce0eaf8a90402be8"), looks := false }, kinds := [], alts := [], laidByText := true, laidKinds := [.funcs, .funcs, .data], laidTests := true, laidLooks := .later }
def ExitsLostCardSaid : Prop := Claim7.holds Tryd.pinned (.plain (OpenSpec.ofChange exitsLostSpec)) exitsLostCard

/-- THE TIED CARD OF 'cottonpadlaw06.ExitsLater'. -/
def exitsLaterCard : Claim7 := { stood := { row := exitsLaterRow, standIns := [], harness := (true, "4413333bb1f88036351ba3d4513656484ada098f67c7e010ce0eaf8a90402be8"), looks := false }, kinds := [], alts := [], laidByText := true, laidKinds := [.funcs, .funcs, .data], laidTests := true, laidLooks := .later }
def ExitsLaterCardSaid : Prop := Claim7.holds Tryd.pinned (.plain (OpenSpec.ofChange exitsLaterSpec)) exitsLaterCard

/-- THE TIED CARD OF 'cottonpadlaw06.ExitsSlower'. -/
def exitsSlowerCard : Claim7 := { stood := { row := exitsSlowerRow, standIns := [], harness := (true, "4413333bb1f88036351ba3d4513656484ada098f67c7e010ce0eaf8a90402be8"), looks := false }, kinds := [], alts := [], laidByText := true, laidKinds := [.funcs, .funcs, .data], laidTests := true, laidLooks := .later }
def ExitsSlowerCardSaid : Prop := Claim7.holds Tryd.pinned (.plain (OpenSpec.ofChange exitsSlowerSpec)) exitsSlowerCard

/-- THE TIED CARD OF 'cottonpadlaw06.ExitsMore'. -/
def exitsMoreCard : Claim7 := { stood := { row := exitsMoreRow, standIns := [], harness := (true, "4413333bb1f88036351ba3d4513656484ada098f67c7e010ce0eaf8a90402be8"), looks := false }, kinds := [], alts := [], laidByText := true, laidKinds := [.funcs, .funcs, .data], laidTests := true, laidLooks := .later }
def ExitsMoreCardSaid : Prop := Claim7.holds Tryd.pinned (.plain (OpenSpec.ofChange exitsMoreSpec)) exitsMoreCard

/-- THE SECOND FORM's CARD OF 'cottonpadlaw06.ExitsLeaves'. -/
def exitsLeavesUptoCard : Claim7 := { stood := { row := exitsLeavesUptoRow, standIns := [], harness := (true, "4413333bb1f88036351ba3d4513656484ada098f67c7e010ce0eaf8a90402be8"), looks := false }, kinds := [], alts := [], laidByText := true, laidKinds := [.funcs, .funcs], laidTests := true, laidLooks := .later }
def ExitsLeavesUptoCardSaid : Prop := Claim7.holds Tryd.pinned (.plain (OpenSpec.upto exitsLeavesSpec)) exitsLeavesUptoCard

/-- THE SECOND FORM's CARD OF 'cottonpadlaw06.ExitsSafes'. -/
def exitsSafesUptoCard : Claim7 := { stood := { row := exitsSafesUptoRow, standIns := [], harness := (true, "4413333bb1f88036351ba3d4513656484ada098f67c7e010ce0eaf8a90402be8"), looks := false }, kinds := [], alts := [], laidByText := true, laidKinds := [.funcs, .funcs, .data], laidTests := true, laidLooks := .later }
def ExitsSafesUptoCardSaid : Prop := Claim7.holds Tryd.pinned (.plain (OpenSpec.upto exitsSafesSpec)) exitsSafesUptoCard

/-- THE SECOND FORM's CARD OF 'cottonpadlaw06.ExitsExamples'. -/
def exitsExamplesUptoCard : Claim7 := { stood := { row := exitsExamplesUptoRow, standIns := [], harness := (true, "4413333bb1f88036351ba3d4513656484ada098f67c7e010ce0eaf8a90402be8"), looks := false }, kinds := [], alts := [], laidByText := true, laidKinds := [.funcs, .funcs, .data], laidTests := true, laidLooks := .later }
def ExitsExamplesUptoCardSaid : Prop := Claim7.holds Tryd.pinned (.plain (OpenSpec.upto exitsExamplesSpec)) exitsExamplesUptoCard

/-- THE SECOND FORM's CARD OF 'cottonpadlaw06.ExitsTrue'. -/
def exitsTrueUptoCard : Claim7 := { stood := { row := exitsTrueUptoRow, standIns := [], harness := (true, "4413333bb1f88036351ba3d4513656484ada098f67c7e010ce0eaf8a90402be8"), looks := false }, kinds := [], alts := [], laidByText := true, laidKinds := [.funcs, .funcs, .data], laidTests := true, laidLooks := .later }
def ExitsTrueUptoCardSaid : Prop := Claim7.holds Tryd.pinned (.plain (OpenSpec.upto exitsTrueSpec)) exitsTrueUptoCard

/-- THE SECOND FORM's CARD OF 'cottonpadtop.TopSmoky'. -/
def topSmokyUptoCard : Claim7 := { stood := { row := topSmokyUptoRow, standIns := [], harness := (true, "4413333bb1f88036351ba3d4513656484ada098f67c7e010ce0eaf8a90402be8"), looks := false }, kinds := [], alts := [], laidByText := true, laidKinds := [.funcs, .funcs, .data], laidTests := true, laidLooks := .later }
def TopSmokyUptoCardSaid : Prop := Claim7.holds Tryd.pinned (.plain (OpenSpec.upto topSmokySpec)) topSmokyUptoCard

/-- THE SECOND FORM's CARD OF 'cottonpadlaw06.ExitsEnds'. -/
def exitsEndsUptoCard : Claim7 := { stood := { row := exitsEndsUptoRow, standIns := [], harness := (true, "4413333bb1f88036351ba3d4513656484ada098f67c7e010ce0eaf8a90402be8"), looks := false }, kinds := [], alts := [], laidByText := true, laidKinds := [.funcs, .funcs, .data], laidTests := true, laidLooks := .later }
def ExitsEndsUptoCardSaid : Prop := Claim7.holds Tryd.pinned (.plain (OpenSpec.upto exitsEndsSpec)) exitsEndsUptoCard

/-- THE SECOND FORM's CARD OF 'cottonpadtop.TopAlarmed'. -/
def topAlarmedUptoCard : Claim7 := { stood := { row := topAlarmedUptoRow, standIns := [], harness := (true, "4413333bb1f88036351ba3d4513656484ada098f67c7e010ce0eaf8a90402be8"), looks := false }, kinds := [], alts := [], laidByText := true, laidKinds := [.funcs, .funcs, .data], laidTests := true, laidLooks := .later }
def TopAlarmedUptoCardSaid : Prop := Claim7.holds Tryd.pinned (.plain (OpenSpec.upto topAlarmedSpec)) topAlarmedUptoCard

/-- THE SECOND FORM's CARD OF 'cottonpadlaw06.ExitsShown'. -/
def exitsShownUptoCard : Claim7 := { stood := { row := exitsShownUptoRow, standIns := [], harness := (true, "4413333bb1f88036351ba3d4513656484ada098f67c7e010ce0eaf8a90402be8"), looks := false }, kinds := [], alts := [], laidByText := true, laidKinds := [.funcs, .funcs, .data], laidTests := true, laidLooks := .later }
def ExitsShownUptoCardSaid : Prop := Claim7.holds Tryd.pinned (.plain (OpenSpec.upto exitsShownSpec)) exitsShownUptoCard

/-- THE SECOND FORM's CARD OF 'cottonpadlaw06.ExitsLost'. -/
def exitsLostUptoCard : Claim7 := { stood := { row := exitsLostUptoRow, standIns := [], harness := (true, "4413333bb1f88036351ba3d4513656484ada098f67c7e010ce0eaf8a90402be8"), looks := false }, kinds := [], alts := [], laidByText := true, laidKinds := [.funcs, .funcs, .data], laidTests := true, laidLooks := .later }
def ExitsLostUptoCardSaid : Prop := Claim7.holds Tryd.pinned (.plain (OpenSpec.upto exitsLostSpec)) exitsLostUptoCard

/-- THE SECOND FORM's CARD OF 'cottonpadlaw06.ExitsLater'. -/
def exitsLaterUptoCard : Claim7 := { stood := { row := exitsLaterUptoRow, standIns := [], harness := (true, "4413333bb1f88036351ba3d4513656484ada098f67c7e010ce0eaf8a90402be8"), looks := false }, kinds := [], alts := [], laidByText := true, laidKinds := [.funcs, .funcs, .data], laidTests := true, laidLooks := .later }
def ExitsLaterUptoCardSaid : Prop := Claim7.holds Tryd.pinned (.plain (OpenSpec.upto exitsLaterSpec)) exitsLaterUptoCard

/-- THE SECOND FORM's CARD OF 'cottonpadlaw06.ExitsSlower'. -/
def exitsSlowerUptoCard : Claim7 := { stood := { row := exitsSlowerUptoRow, standIns := [], harness := (true, "4413333bb1f88036351ba3d4513656484ada098f67c7e010ce0eaf8a90402be8"), looks := false }, kinds := [], alts := [], laidByText := true, laidKinds := [.funcs, .funcs, .data], laidTests := true, laidLooks := .later }
def ExitsSlowerUptoCardSaid : Prop := Claim7.holds Tryd.pinned (.plain (OpenSpec.upto exitsSlowerSpec)) exitsSlowerUptoCard

/-- THE SECOND FORM's CARD OF 'cottonpadlaw06.ExitsMore'. -/
def exitsMoreUptoCard : Claim7 := { stood := { row := exitsMoreUptoRow, standIns := [], harness := (true, "4413333bb1f88036351ba3d4513656484ada098f67c7e010ce0eaf8a90402be8"), looks := false }, kinds := [], alts := [], laidByText := true, laidKinds := [.funcs, .funcs, .data], laidTests := true, laidLooks := .later }
def ExitsMoreUptoCardSaid : Prop := Claim7.holds Tryd.pinned (.plain (OpenSpec.upto exitsMoreSpec)) exitsMoreUptoCard
end Rows
end Go.Proofs.YtdeaccbolnlgpaaDoor
