/-
  NARROWER THAN 'FOR EVERY INPUT', by the rows' own cells (each row's printed sentence says how): ExitsLeaves: laid · ExitsSafes: laid · ExitsExamples: laid · ExitsTrue: laid · TopSmoky: laid · ExitsEnds: laid · TopAlarmed: laid · ExitsShown: laid · ExitsLost: laid · ExitsLater: laid · ExitsSlower: laid · ExitsMore: laid.
  DERIVED. THE GIVEN ROWS OF THIS SEAT. 12 by the template 'for every input the law returns true; each argument reads behind the call as it read before'; 0 by the template 'total and deterministic' (their statements: YtdeaccbolnlgpaaDoorTotals.lean).
  GIVEN WITH THE SEED: the statements are not yours to turn. If you find one false, say at which input.
  Laid BY PROGRAM, IN A SANDBOX (cutbox-rows.mjs): the forced cells as the released guide's own fill.sh prints them over the translation e9b2746aefedf733… (all of the seat's roots in one cut). By AI agents, Wed Nov 11 2026. No macro, syntax, notation, axiom, sorry.
-/
import Derived.Test.YtdeaccbolnlgpaaDoorChecked
import GoSem.Claim
import GoSem.ClaimJoined
import GoSem.ClaimMapViews
import Derived.JoinedTies
import Derived.KernelRfl
namespace Go.Proofs.YtdeaccbolnlgpaaDoor
/- THE CELL 'sum', in the pinned program and in every row, IS THE sha256 OF THE DUMP (.gsa) THAT YtdeaccbolnlgpaaDoorProg.lean LOADS. Nothing in Lean hashes anything: it is a label: what it is worth is what the hold of that sum in a sandbox is worth. -/
noncomputable def Tryd.pinned : Pinned := { name := "ytdeaccbolnlgpaadoor", sum := "e9b2746aefedf733e1ae781c3e3a391ed92d180867b6a3d8e49df1808462a86c", checked := Tryd.checked }
namespace Rows
def none {H : Type} : Left H := { results := [], args := [] }

/- WHAT THE LISTED PACKAGE-LEVEL VARIABLES READ AS WHEN THE CALL BEGINS. Each datum BY PROGRAM (the guide's laid-datum.mjs) off the statement by which the dump's own 'gosem.cut.vars' lays the variable. In a bare row this is a premise. The card (YtdeaccbolnlgpaaDoorCards.lean) ties it to the program's text. -/
def laid_cottonpad_exits_best {H : Type} : DataW H := .iface "func table" (.agg [.iface "func" (.lit (.string [99, 111, 116, 116, 111, 110, 112, 97, 100, 47, 101, 120, 105, 116, 115, 46, 104, 105])), .iface "func" (.lit (.string [99, 111, 116, 116, 111, 110, 112, 97, 100, 47, 101, 120, 105, 116, 115, 46, 108, 111])), .iface "func" (.lit (.string [99, 111, 116, 116, 111, 110, 112, 97, 100, 47, 101, 120, 105, 116, 115, 46, 104, 105]))])
def laid_cottonpad_exits_worst {H : Type} : DataW H := .iface "func table" (.agg [.iface "func" (.lit (.string [99, 111, 116, 116, 111, 110, 112, 97, 100, 47, 101, 120, 105, 116, 115, 46, 108, 111])), .iface "func" (.lit (.string [99, 111, 116, 116, 111, 110, 112, 97, 100, 47, 101, 120, 105, 116, 115, 46, 104, 105])), .iface "func" (.lit (.string [99, 111, 116, 116, 111, 110, 112, 97, 100, 47, 101, 120, 105, 116, 115, 46, 108, 111]))])
def laid_cottonpad_exits_nowhere {H : Type} : DataW H := .agg [.lit (.int .i64 (-1)), .lit (.int .i64 (-1))]

/-- 'cottonpadlaw06.ExitsLeaves': WHATEVER THE INPUT: true; the input reads as it did. -/
def exitsLeavesSpec : ChangeSpec := { name := "exitsLeaves", fn := fun _ => fun
  | [d1, d2, d3] => { results := [.lit (.bool true)], args := [d1, d2, d3] }
  | _ => none }
def exitsLeavesRow : OpenClaim := { program := "ytdeaccbolnlgpaadoor", sum := "e9b2746aefedf733e1ae781c3e3a391ed92d180867b6a3d8e49df1808462a86c", func := "cottonpad/cottonpadlaw06.ExitsLeaves", spec := "exitsLeaves", unfollowed := true, recurses := true, named := ["cottonpad/exits.best", "cottonpad/exits.worst"], apart := false, laid := [("cottonpad/exits.best", laid_cottonpad_exits_best), ("cottonpad/exits.worst", laid_cottonpad_exits_worst)] }
def ExitsLeavesSaid : Prop := exitsLeavesRow.holds Tryd.pinned (OpenSpec.ofChange exitsLeavesSpec)

/-- ITS FALSE NEIGHBOUR: 'it returns false'. Refute it at one input. -/
def exitsLeavesWrong : ChangeSpec := { name := "exitsLeaves", fn := fun _ => fun
  | [d1, d2, d3] => { results := [.lit (.bool false)], args := [d1, d2, d3] }
  | _ => none }
def ExitsLeavesWrongFalsely : Prop := exitsLeavesRow.holds Tryd.pinned (OpenSpec.ofChange exitsLeavesWrong)

/-- 'cottonpadlaw06.ExitsSafes': WHATEVER THE INPUT: true; the input reads as it did. -/
def exitsSafesSpec : ChangeSpec := { name := "exitsSafes", fn := fun _ => fun
  | [d1, d2, d3] => { results := [.lit (.bool true)], args := [d1, d2, d3] }
  | _ => none }
def exitsSafesRow : OpenClaim := { program := "ytdeaccbolnlgpaadoor", sum := "e9b2746aefedf733e1ae781c3e3a391ed92d180867b6a3d8e49df1808462a86c", func := "cottonpad/cottonpadlaw06.ExitsSafes", spec := "exitsSafes", unfollowed := true, recurses := true, named := ["cottonpad/exits.worst", "cottonpad/exits.nowhere", "cottonpad/exits.best"], apart := false, laid := [("cottonpad/exits.best", laid_cottonpad_exits_best), ("cottonpad/exits.worst", laid_cottonpad_exits_worst), ("cottonpad/exits.nowhere", laid_cottonpad_exits_nowhere)] }
def ExitsSafesSaid : Prop := exitsSafesRow.holds Tryd.pinned (OpenSpec.ofChange exitsSafesSpec)

/-- ITS FALSE NEIGHBOUR: 'it returns false'. Refute it at one input. -/
def exitsSafesWrong : ChangeSpec := { name := "exitsSafes", fn := fun _ => fun
  | [d1, d2, d3] => { results := [.lit (.bool false)], args := [d1, d2, d3] }
  | _ => none }
def ExitsSafesWrongFalsely : Prop := exitsSafesRow.holds Tryd.pinned (OpenSpec.ofChange exitsSafesWrong)

/-- 'cottonpadlaw06.ExitsExamples': WHATEVER THE INPUT: true; the input reads as it did. -/
def exitsExamplesSpec : ChangeSpec := { name := "exitsExamples", fn := fun _ => fun
  | [] => { results := [.lit (.bool true)], args := [] }
  | _ => none }
def exitsExamplesRow : OpenClaim := { program := "ytdeaccbolnlgpaadoor", sum := "e9b2746aefedf733e1ae781c3e3a391ed92d180867b6a3d8e49df1808462a86c", func := "cottonpad/cottonpadlaw06.ExitsExamples", spec := "exitsExamples", unfollowed := true, recurses := true, named := ["cottonpad/exits.best", "cottonpad/exits.worst", "cottonpad/exits.nowhere"], apart := false, laid := [("cottonpad/exits.best", laid_cottonpad_exits_best), ("cottonpad/exits.worst", laid_cottonpad_exits_worst), ("cottonpad/exits.nowhere", laid_cottonpad_exits_nowhere)] }
def ExitsExamplesSaid : Prop := exitsExamplesRow.holds Tryd.pinned (OpenSpec.ofChange exitsExamplesSpec)

/-- ITS FALSE NEIGHBOUR: 'it returns false'. Refute it at one input. -/
def exitsExamplesWrong : ChangeSpec := { name := "exitsExamples", fn := fun _ => fun
  | [] => { results := [.lit (.bool false)], args := [] }
  | _ => none }
def ExitsExamplesWrongFalsely : Prop := exitsExamplesRow.holds Tryd.pinned (OpenSpec.ofChange exitsExamplesWrong)

/-- 'cottonpadlaw06.ExitsTrue': WHATEVER THE INPUT: true; the input reads as it did. -/
def exitsTrueSpec : ChangeSpec := { name := "exitsTrue", fn := fun _ => fun
  | [d1, d2, d3] => { results := [.lit (.bool true)], args := [d1, d2, d3] }
  | _ => none }
def exitsTrueRow : OpenClaim := { program := "ytdeaccbolnlgpaadoor", sum := "e9b2746aefedf733e1ae781c3e3a391ed92d180867b6a3d8e49df1808462a86c", func := "cottonpad/cottonpadlaw06.ExitsTrue", spec := "exitsTrue", unfollowed := true, recurses := true, named := ["cottonpad/exits.best", "cottonpad/exits.worst", "cottonpad/exits.nowhere"], apart := false, laid := [("cottonpad/exits.best", laid_cottonpad_exits_best), ("cottonpad/exits.worst", laid_cottonpad_exits_worst), ("cottonpad/exits.nowhere", laid_cottonpad_exits_nowhere)] }
def ExitsTrueSaid : Prop := exitsTrueRow.holds Tryd.pinned (OpenSpec.ofChange exitsTrueSpec)

/-- ITS FALSE NEIGHBOUR: 'it returns false'. Refute it at one input. -/
def exitsTrueWrong : ChangeSpec := { name := "exitsTrue", fn := fun _ => fun
  | [d1, d2, d3] => { results := [.lit (.bool false)], args := [d1, d2, d3] }
  | _ => none }
def ExitsTrueWrongFalsely : Prop := exitsTrueRow.holds Tryd.pinned (OpenSpec.ofChange exitsTrueWrong)

/-- 'cottonpadtop.TopSmoky': WHATEVER THE INPUT: true; the input reads as it did. -/
def topSmokySpec : ChangeSpec := { name := "topSmoky", fn := fun _ => fun
  | [d1, d2, d3, d4, d5, d6, d7, d8] => { results := [.lit (.bool true)], args := [d1, d2, d3, d4, d5, d6, d7, d8] }
  | _ => none }
def topSmokyRow : OpenClaim := { program := "ytdeaccbolnlgpaadoor", sum := "e9b2746aefedf733e1ae781c3e3a391ed92d180867b6a3d8e49df1808462a86c", func := "cottonpad/cottonpadtop.TopSmoky", spec := "topSmoky", unfollowed := true, recurses := true, named := ["cottonpad/exits.worst", "cottonpad/exits.nowhere", "cottonpad/exits.best"], apart := false, laid := [("cottonpad/exits.best", laid_cottonpad_exits_best), ("cottonpad/exits.worst", laid_cottonpad_exits_worst), ("cottonpad/exits.nowhere", laid_cottonpad_exits_nowhere)] }
def TopSmokySaid : Prop := topSmokyRow.holds Tryd.pinned (OpenSpec.ofChange topSmokySpec)

/-- ITS FALSE NEIGHBOUR: 'it returns false'. Refute it at one input. -/
def topSmokyWrong : ChangeSpec := { name := "topSmoky", fn := fun _ => fun
  | [d1, d2, d3, d4, d5, d6, d7, d8] => { results := [.lit (.bool false)], args := [d1, d2, d3, d4, d5, d6, d7, d8] }
  | _ => none }
def TopSmokyWrongFalsely : Prop := topSmokyRow.holds Tryd.pinned (OpenSpec.ofChange topSmokyWrong)

/-- 'cottonpadlaw06.ExitsEnds': WHATEVER THE INPUT: true; the input reads as it did. -/
def exitsEndsSpec : ChangeSpec := { name := "exitsEnds", fn := fun _ => fun
  | [d1, d2, d3] => { results := [.lit (.bool true)], args := [d1, d2, d3] }
  | _ => none }
def exitsEndsRow : OpenClaim := { program := "ytdeaccbolnlgpaadoor", sum := "e9b2746aefedf733e1ae781c3e3a391ed92d180867b6a3d8e49df1808462a86c", func := "cottonpad/cottonpadlaw06.ExitsEnds", spec := "exitsEnds", unfollowed := true, recurses := true, named := ["cottonpad/exits.best", "cottonpad/exits.worst", "cottonpad/exits.nowhere"], apart := false, laid := [("cottonpad/exits.best", laid_cottonpad_exits_best), ("cottonpad/exits.worst", laid_cottonpad_exits_worst), ("cottonpad/exits.nowhere", laid_cottonpad_exits_nowhere)] }
def ExitsEndsSaid : Prop := exitsEndsRow.holds Tryd.pinned (OpenSpec.ofChange exitsEndsSpec)

/-- ITS FALSE NEIGHBOUR: 'it returns false'. Refute it at one input. -/
def exitsEndsWrong : ChangeSpec := { name := "exitsEnds", fn := fun _ => fun
  | [d1, d2, d3] => { results := [.lit (.bool false)], args := [d1, d2, d3] }
  | _ => none }
def ExitsEndsWrongFalsely : Prop := exitsEndsRow.holds Tryd.pinned (OpenSpec.ofChange exitsEndsWrong)

/-- 'cottonpadtop.TopAlarmed': WHATEVER THE INPUT: true; the input reads as it did. -/
def topAlarmedSpec : ChangeSpec := { name := "topAlarmed", fn := fun _ => fun
  | [d1, d2, d3, d4, d5] => { results := [.lit (.bool true)], args := [d1, d2, d3, d4, d5] }
  | _ => none }
def topAlarmedRow : OpenClaim := { program := "ytdeaccbolnlgpaadoor", sum := "e9b2746aefedf733e1ae781c3e3a391ed92d180867b6a3d8e49df1808462a86c", func := "cottonpad/cottonpadtop.TopAlarmed", spec := "topAlarmed", unfollowed := true, recurses := true, named := ["cottonpad/exits.best", "cottonpad/exits.worst", "cottonpad/exits.nowhere"], apart := false, laid := [("cottonpad/exits.best", laid_cottonpad_exits_best), ("cottonpad/exits.worst", laid_cottonpad_exits_worst), ("cottonpad/exits.nowhere", laid_cottonpad_exits_nowhere)] }
def TopAlarmedSaid : Prop := topAlarmedRow.holds Tryd.pinned (OpenSpec.ofChange topAlarmedSpec)

/-- ITS FALSE NEIGHBOUR: 'it returns false'. Refute it at one input. -/
def topAlarmedWrong : ChangeSpec := { name := "topAlarmed", fn := fun _ => fun
  | [d1, d2, d3, d4, d5] => { results := [.lit (.bool false)], args := [d1, d2, d3, d4, d5] }
  | _ => none }
def TopAlarmedWrongFalsely : Prop := topAlarmedRow.holds Tryd.pinned (OpenSpec.ofChange topAlarmedWrong)

/-- 'cottonpadlaw06.ExitsShown': WHATEVER THE INPUT: true; the input reads as it did. -/
def exitsShownSpec : ChangeSpec := { name := "exitsShown", fn := fun _ => fun
  | [d1, d2] => { results := [.lit (.bool true)], args := [d1, d2] }
  | _ => none }
def exitsShownRow : OpenClaim := { program := "ytdeaccbolnlgpaadoor", sum := "e9b2746aefedf733e1ae781c3e3a391ed92d180867b6a3d8e49df1808462a86c", func := "cottonpad/cottonpadlaw06.ExitsShown", spec := "exitsShown", unfollowed := true, recurses := true, named := ["cottonpad/exits.best", "cottonpad/exits.worst", "cottonpad/exits.nowhere"], apart := false, laid := [("cottonpad/exits.best", laid_cottonpad_exits_best), ("cottonpad/exits.worst", laid_cottonpad_exits_worst), ("cottonpad/exits.nowhere", laid_cottonpad_exits_nowhere)] }
def ExitsShownSaid : Prop := exitsShownRow.holds Tryd.pinned (OpenSpec.ofChange exitsShownSpec)

/-- ITS FALSE NEIGHBOUR: 'it returns false'. Refute it at one input. -/
def exitsShownWrong : ChangeSpec := { name := "exitsShown", fn := fun _ => fun
  | [d1, d2] => { results := [.lit (.bool false)], args := [d1, d2] }
  | _ => none }
def ExitsShownWrongFalsely : Prop := exitsShownRow.holds Tryd.pinned (OpenSpec.ofChange exitsShownWrong)

/-- 'cottonpadlaw06.ExitsLost': WHATEVER THE INPUT: true; the input reads as it did. -/
def exitsLostSpec : ChangeSpec := { name := "exitsLost", fn := fun _ => fun
  | [d1, d2, d3] => { results := [.lit (.bool true)], args := [d1, d2, d3] }
  | _ => none }
def exitsLostRow : OpenClaim := { program := "ytdeaccbolnlgpaadoor", sum := "e9b2746aefedf733e1ae781c3e3a391ed92d180867b6a3d8e49df1808462a86c", func := "cottonpad/cottonpadlaw06.ExitsLost", spec := "exitsLost", unfollowed := true, recurses := true, named := ["cottonpad/exits.best", "cottonpad/exits.worst", "cottonpad/exits.nowhere"], apart := false, laid := [("cottonpad/exits.best", laid_cottonpad_exits_best), ("cottonpad/exits.worst", laid_cottonpad_exits_worst), ("cottonpad/exits.nowhere", laid_cottonpad_exits_nowhere)] }
def ExitsLostSaid : Prop := exitsLostRow.holds Tryd.pinned (OpenSpec.ofChange exitsLostSpec)

/-- ITS FALSE NEIGHBOUR: 'it returns false'. Refute it at one input. -/
def exitsLostWrong : ChangeSpec := { name := "exitsLost", fn := fun _ => fun
  | [d1, d2, d3] => { results := [.lit (.bool false)], args := [d1, d2, d3] }
  | _ => none }
def ExitsLostWrongFalsely : Prop := exitsLostRow.holds Tryd.pinned (OpenSpec.ofChange exitsLostWrong)

/-- 'cottonpadlaw06.ExitsLater': WHATEVER THE INPUT: true; the input reads as it did. -/
def exitsLaterSpec : ChangeSpec := { name := "exitsLater", fn := fun _ => fun
  | [d1, d2, d3, d4] => { results := [.lit (.bool true)], args := [d1, d2, d3, d4] }
  | _ => none }
def exitsLaterRow : OpenClaim := { program := "ytdeaccbolnlgpaadoor", sum := "e9b2746aefedf733e1ae781c3e3a391ed92d180867b6a3d8e49df1808462a86c", func := "cottonpad/cottonpadlaw06.ExitsLater", spec := "exitsLater", unfollowed := true, recurses := true, named := ["cottonpad/exits.best", "cottonpad/exits.worst", "cottonpad/exits.nowhere"], apart := false, laid := [("cottonpad/exits.best", laid_cottonpad_exits_best), ("cottonpad/exits.worst", laid_cottonpad_exits_worst), ("cottonpad/exits.nowhere", laid_cottonpad_exits_nowhere)] }
def ExitsLaterSaid : Prop := exitsLaterRow.holds Tryd.pinned (OpenSpec.ofChange exitsLaterSpec)

/-- ITS FALSE NEIGHBOUR: 'it returns false'. Refute it at one input. -/
def exitsLaterWrong : ChangeSpec := { name := "exitsLater", fn := fun _ => fun
  | [d1, d2, d3, d4] => { results := [.lit (.bool false)], args := [d1, d2, d3, d4] }
  | _ => none }
def ExitsLaterWrongFalsely : Prop := exitsLaterRow.holds Tryd.pinned (OpenSpec.ofChange exitsLaterWrong)

/-- 'cottonpadlaw06.ExitsSlower': WHATEVER THE INPUT: true; the input reads as it did. -/
def exitsSlowerSpec : ChangeSpec := { name := "exitsSlower", fn := fun _ => fun
  | [d1, d2, d3, d4] => { results := [.lit (.bool true)], args := [d1, d2, d3, d4] }
  | _ => none }
def exitsSlowerRow : OpenClaim := { program := "ytdeaccbolnlgpaadoor", sum := "e9b2746aefedf733e1ae781c3e3a391ed92d180867b6a3d8e49df1808462a86c", func := "cottonpad/cottonpadlaw06.ExitsSlower", spec := "exitsSlower", unfollowed := true, recurses := true, named := ["cottonpad/exits.best", "cottonpad/exits.worst", "cottonpad/exits.nowhere"], apart := false, laid := [("cottonpad/exits.best", laid_cottonpad_exits_best), ("cottonpad/exits.worst", laid_cottonpad_exits_worst), ("cottonpad/exits.nowhere", laid_cottonpad_exits_nowhere)] }
def ExitsSlowerSaid : Prop := exitsSlowerRow.holds Tryd.pinned (OpenSpec.ofChange exitsSlowerSpec)

/-- ITS FALSE NEIGHBOUR: 'it returns false'. Refute it at one input. -/
def exitsSlowerWrong : ChangeSpec := { name := "exitsSlower", fn := fun _ => fun
  | [d1, d2, d3, d4] => { results := [.lit (.bool false)], args := [d1, d2, d3, d4] }
  | _ => none }
def ExitsSlowerWrongFalsely : Prop := exitsSlowerRow.holds Tryd.pinned (OpenSpec.ofChange exitsSlowerWrong)

/-- 'cottonpadlaw06.ExitsMore': WHATEVER THE INPUT: true; the input reads as it did. -/
def exitsMoreSpec : ChangeSpec := { name := "exitsMore", fn := fun _ => fun
  | [d1, d2, d3] => { results := [.lit (.bool true)], args := [d1, d2, d3] }
  | _ => none }
def exitsMoreRow : OpenClaim := { program := "ytdeaccbolnlgpaadoor", sum := "e9b2746aefedf733e1ae781c3e3a391ed92d180867b6a3d8e49df1808462a86c", func := "cottonpad/cottonpadlaw06.ExitsMore", spec := "exitsMore", unfollowed := true, recurses := true, named := ["cottonpad/exits.best", "cottonpad/exits.worst", "cottonpad/exits.nowhere"], apart := false, laid := [("cottonpad/exits.best", laid_cottonpad_exits_best), ("cottonpad/exits.worst", laid_cottonpad_exits_worst), ("cottonpad/exits.nowhere", laid_cottonpad_exits_nowhere)] }
def ExitsMoreSaid : Prop := exitsMoreRow.holds Tryd.pinned (OpenSpec.ofChange exitsMoreSpec)

/-- ITS FALSE NEIGHBOUR: 'it returns false'. Refute it at one input. -/
def exitsMoreWrong : ChangeSpec := { name := "exitsMore", fn := fun _ => fun
  | [d1, d2, d3] => { results := [.lit (.bool false)], args := [d1, d2, d3] }
  | _ => none }
def ExitsMoreWrongFalsely : Prop := exitsMoreRow.holds Tryd.pinned (OpenSpec.ofChange exitsMoreWrong)

/- THE SECOND FORM. 'bulk': how many values and letters a reading holds, each counted each time it is reached (what is shared counts as often as it is met; a slice's spare places count too). A statement '..UptoSaid' is the law's where the arguments, and the package variables that the reading takes, are together of bulk at most 1048576: NARROWER than '..Said'. Prove '..Said' where nothing that the law and all that it calls make is longer than what came in: it says more and counts as full. Else prove '..UptoSaid'. A law counts once. -/
mutual
def uptoBulk {H : Type} : DataW H → Nat
  | .lit (.string bytes) => bytes.length + 1
  | .lit _ => 1
  | .nil => 1
  | .ptr d => uptoBulk d + 1
  | .slice elems spare => uptoBulkAll elems + uptoBulkAll spare + 1
  | .agg parts => uptoBulkAll parts + 1
  | .iface _ d => uptoBulk d + 1
  | .map entries => uptoBulkEntries entries + 1
  | .held _ => 1
def uptoBulkAll {H : Type} : List (DataW H) → Nat
  | [] => 0
  | d :: r => uptoBulk d + uptoBulkAll r
def uptoBulkEntries {H : Type} : List (Lit × DataW H) → Nat
  | [] => 0
  | x :: r => uptoBulkEntry x + uptoBulkEntries r
def uptoBulkEntry {H : Type} : Lit × DataW H → Nat
  | (.string bytes, d) => bytes.length + uptoBulk d + 1
  | (_, d) => uptoBulk d + 1
 end
def uptoSmall : (H : Type) → List (DataW H) → Bool := fun _ ds => decide (uptoBulkAll ds ≤ 1048576)
def OpenSpec.upto (s : _root_.Go.ChangeSpec) : _root_.Go.OpenSpec := { _root_.Go.OpenSpec.ofChange s with cond := some uptoSmall }

/-- 'cottonpadlaw06.ExitsLeaves', WHERE WHAT IT READS IS OF BULK AT MOST 1048576: true; the input reads as it did. -/
def exitsLeavesUptoRow : OpenClaim := { program := "ytdeaccbolnlgpaadoor", sum := "e9b2746aefedf733e1ae781c3e3a391ed92d180867b6a3d8e49df1808462a86c", func := "cottonpad/cottonpadlaw06.ExitsLeaves", spec := "exitsLeaves", unfollowed := true, recurses := true, named := ["cottonpad/exits.best", "cottonpad/exits.worst"], apart := false, laid := [("cottonpad/exits.best", laid_cottonpad_exits_best), ("cottonpad/exits.worst", laid_cottonpad_exits_worst)], narrowed := true }
def ExitsLeavesUptoSaid : Prop := exitsLeavesUptoRow.holds Tryd.pinned (OpenSpec.upto exitsLeavesSpec)

/-- 'cottonpadlaw06.ExitsSafes', WHERE WHAT IT READS IS OF BULK AT MOST 1048576: true; the input reads as it did. -/
def exitsSafesUptoRow : OpenClaim := { program := "ytdeaccbolnlgpaadoor", sum := "e9b2746aefedf733e1ae781c3e3a391ed92d180867b6a3d8e49df1808462a86c", func := "cottonpad/cottonpadlaw06.ExitsSafes", spec := "exitsSafes", unfollowed := true, recurses := true, named := ["cottonpad/exits.worst", "cottonpad/exits.nowhere", "cottonpad/exits.best"], apart := false, laid := [("cottonpad/exits.best", laid_cottonpad_exits_best), ("cottonpad/exits.worst", laid_cottonpad_exits_worst), ("cottonpad/exits.nowhere", laid_cottonpad_exits_nowhere)], narrowed := true }
def ExitsSafesUptoSaid : Prop := exitsSafesUptoRow.holds Tryd.pinned (OpenSpec.upto exitsSafesSpec)

/-- 'cottonpadlaw06.ExitsExamples', WHERE WHAT IT READS IS OF BULK AT MOST 1048576: true; the input reads as it did. -/
def exitsExamplesUptoRow : OpenClaim := { program := "ytdeaccbolnlgpaadoor", sum := "e9b2746aefedf733e1ae781c3e3a391ed92d180867b6a3d8e49df1808462a86c", func := "cottonpad/cottonpadlaw06.ExitsExamples", spec := "exitsExamples", unfollowed := true, recurses := true, named := ["cottonpad/exits.best", "cottonpad/exits.worst", "cottonpad/exits.nowhere"], apart := false, laid := [("cottonpad/exits.best", laid_cottonpad_exits_best), ("cottonpad/exits.worst", laid_cottonpad_exits_worst), ("cottonpad/exits.nowhere", laid_cottonpad_exits_nowhere)], narrowed := true }
def ExitsExamplesUptoSaid : Prop := exitsExamplesUptoRow.holds Tryd.pinned (OpenSpec.upto exitsExamplesSpec)

/-- 'cottonpadlaw06.ExitsTrue', WHERE WHAT IT READS IS OF BULK AT MOST 1048576: true; the input reads as it did. -/
def exitsTrueUptoRow : OpenClaim := { program := "ytdeaccbolnlgpaadoor", sum := "e9b2746aefedf733e1ae781c3e3a391ed92d180867b6a3d8e49df1808462a86c", func := "cottonpad/cottonpadlaw06.ExitsTrue", spec := "exitsTrue", unfollowed := true, recurses := true, named := ["cottonpad/exits.best", "cottonpad/exits.worst", "cottonpad/exits.nowhere"], apart := false, laid := [("cottonpad/exits.best", laid_cottonpad_exits_best), ("cottonpad/exits.worst", laid_cottonpad_exits_worst), ("cottonpad/exits.nowhere", laid_cottonpad_exits_nowhere)], narrowed := true }
def ExitsTrueUptoSaid : Prop := exitsTrueUptoRow.holds Tryd.pinned (OpenSpec.upto exitsTrueSpec)

/-- 'cottonpadtop.TopSmoky', WHERE WHAT IT READS IS OF BULK AT MOST 1048576: true; the input reads as it did. -/
def topSmokyUptoRow : OpenClaim := { program := "ytdeaccbolnlgpaadoor", sum := "e9b2746aefedf733e1ae781c3e3a391ed92d180867b6a3d8e49df1808462a86c", func := "cottonpad/cottonpadtop.TopSmoky", spec := "topSmoky", unfollowed := true, recurses := true, named := ["cottonpad/exits.worst", "cottonpad/exits.nowhere", "cottonpad/exits.best"], apart := false, laid := [("cottonpad/exits.best", laid_cottonpad_exits_best), ("cottonpad/exits.worst", laid_cottonpad_exits_worst), ("cottonpad/exits.nowhere", laid_cottonpad_exits_nowhere)], narrowed := true }
def TopSmokyUptoSaid : Prop := topSmokyUptoRow.holds Tryd.pinned (OpenSpec.upto topSmokySpec)

/-- 'cottonpadlaw06.ExitsEnds', WHERE WHAT IT READS IS OF BULK AT MOST 1048576: true; the input reads as it did. -/
def exitsEndsUptoRow : OpenClaim := { program := "ytdeaccbolnlgpaadoor", sum := "e9b2746aefedf733e1ae781c3e3a391ed92d180867b6a3d8e49df1808462a86c", func := "cottonpad/cottonpadlaw06.ExitsEnds", spec := "exitsEnds", unfollowed := true, recurses := true, named := ["cottonpad/exits.best", "cottonpad/exits.worst", "cottonpad/exits.nowhere"], apart := false, laid := [("cottonpad/exits.best", laid_cottonpad_exits_best), ("cottonpad/exits.worst", laid_cottonpad_exits_worst), ("cottonpad/exits.nowhere", laid_cottonpad_exits_nowhere)], narrowed := true }
def ExitsEndsUptoSaid : Prop := exitsEndsUptoRow.holds Tryd.pinned (OpenSpec.upto exitsEndsSpec)

/-- 'cottonpadtop.TopAlarmed', WHERE WHAT IT READS IS OF BULK AT MOST 1048576: true; the input reads as it did. -/
def topAlarmedUptoRow : OpenClaim := { program := "ytdeaccbolnlgpaadoor", sum := "e9b2746aefedf733e1ae781c3e3a391ed92d180867b6a3d8e49df1808462a86c", func := "cottonpad/cottonpadtop.TopAlarmed", spec := "topAlarmed", unfollowed := true, recurses := true, named := ["cottonpad/exits.best", "cottonpad/exits.worst", "cottonpad/exits.nowhere"], apart := false, laid := [("cottonpad/exits.best", laid_cottonpad_exits_best), ("cottonpad/exits.worst", laid_cottonpad_exits_worst), ("cottonpad/exits.nowhere", laid_cottonpad_exits_nowhere)], narrowed := true }
def TopAlarmedUptoSaid : Prop := topAlarmedUptoRow.holds Tryd.pinned (OpenSpec.upto topAlarmedSpec)

/-- 'cottonpadlaw06.ExitsShown', WHERE WHAT IT READS IS OF BULK AT MOST 1048576: true; the input reads as it did. -/
def exitsShownUptoRow : OpenClaim := { program := "ytdeaccbolnlgpaadoor", sum := "e9b2746aefedf733e1ae781c3e3a391ed92d180867b6a3d8e49df1808462a86c", func := "cottonpad/cottonpadlaw06.ExitsShown", spec := "exitsShown", unfollowed := true, recurses := true, named := ["cottonpad/exits.best", "cottonpad/exits.worst", "cottonpad/exits.nowhere"], apart := false, laid := [("cottonpad/exits.best", laid_cottonpad_exits_best), ("cottonpad/exits.worst", laid_cottonpad_exits_worst), ("cottonpad/exits.nowhere", laid_cottonpad_exits_nowhere)], narrowed := true }
def ExitsShownUptoSaid : Prop := exitsShownUptoRow.holds Tryd.pinned (OpenSpec.upto exitsShownSpec)

/-- 'cottonpadlaw06.ExitsLost', WHERE WHAT IT READS IS OF BULK AT MOST 1048576: true; the input reads as it did. -/
def exitsLostUptoRow : OpenClaim := { program := "ytdeaccbolnlgpaadoor", sum := "e9b2746aefedf733e1ae781c3e3a391ed92d180867b6a3d8e49df1808462a86c", func := "cottonpad/cottonpadlaw06.ExitsLost", spec := "exitsLost", unfollowed := true, recurses := true, named := ["cottonpad/exits.best", "cottonpad/exits.worst", "cottonpad/exits.nowhere"], apart := false, laid := [("cottonpad/exits.best", laid_cottonpad_exits_best), ("cottonpad/exits.worst", laid_cottonpad_exits_worst), ("cottonpad/exits.nowhere", laid_cottonpad_exits_nowhere)], narrowed := true }
def ExitsLostUptoSaid : Prop := exitsLostUptoRow.holds Tryd.pinned (OpenSpec.upto exitsLostSpec)

/-- 'cottonpadlaw06.ExitsLater', WHERE WHAT IT READS IS OF BULK AT MOST 1048576: true; the input reads as it did. -/
def exitsLaterUptoRow : OpenClaim := { program := "ytdeaccbolnlgpaadoor", sum := "e9b2746aefedf733e1ae781c3e3a391ed92d180867b6a3d8e49df1808462a86c", func := "cottonpad/cottonpadlaw06.ExitsLater", spec := "exitsLater", unfollowed := true, recurses := true, named := ["cottonpad/exits.best", "cottonpad/exits.worst", "cottonpad/exits.nowhere"], apart := false, laid := [("cottonpad/exits.best", laid_cottonpad_exits_best), ("cottonpad/exits.worst", laid_cottonpad_exits_worst), ("cottonpad/exits.nowhere", laid_cottonpad_exits_nowhere)], narrowed := true }
def ExitsLaterUptoSaid : Prop := exitsLaterUptoRow.holds Tryd.pinned (OpenSpec.upto exitsLaterSpec)

/-- 'cottonpadlaw06.ExitsSlower', WHERE WHAT IT READS IS OF BULK AT MOST 1048576: true; the input reads as it did. -/
def exitsSlowerUptoRow : OpenClaim := { program := "ytdeaccbolnlgpaadoor", sum := "e9b2746aefedf733e1ae781c3e3a391ed92d180867b6a3d8e49df1808462a86c", func := "cottonpad/cottonpadlaw06.ExitsSlower", spec := "exitsSlower", unfollowed := true, recurses := true, named := ["cottonpad/exits.best", "cottonpad/exits.worst", "cottonpad/exits.nowhere"], apart := false, laid := [("cottonpad/exits.best", laid_cottonpad_exits_best), ("cottonpad/exits.worst", laid_cottonpad_exits_worst), ("cottonpad/exits.nowhere", laid_cottonpad_exits_nowhere)], narrowed := true }
def ExitsSlowerUptoSaid : Prop := exitsSlowerUptoRow.holds Tryd.pinned (OpenSpec.upto exitsSlowerSpec)

/-- 'cottonpadlaw06.ExitsMore', WHERE WHAT IT READS IS OF BULK AT MOST 1048576: true; the input reads as it did. -/
def exitsMoreUptoRow : OpenClaim := { program := "ytdeaccbolnlgpaadoor", sum := "e9b2746aefedf733e1ae781c3e3a391ed92d180867b6a3d8e49df1808462a86c", func := "cottonpad/cottonpadlaw06.ExitsMore", spec := "exitsMore", unfollowed := true, recurses := true, named := ["cottonpad/exits.best", "cottonpad/exits.worst", "cottonpad/exits.nowhere"], apart := false, laid := [("cottonpad/exits.best", laid_cottonpad_exits_best), ("cottonpad/exits.worst", laid_cottonpad_exits_worst), ("cottonpad/exits.nowhere", laid_cottonpad_exits_nowhere)], narrowed := true }
def ExitsMoreUptoSaid : Prop := exitsMoreUptoRow.holds Tryd.pinned (OpenSpec.upto exitsMoreSpec)

end Rows
end Go.Proofs.YtdeaccbolnlgpaaDoor
