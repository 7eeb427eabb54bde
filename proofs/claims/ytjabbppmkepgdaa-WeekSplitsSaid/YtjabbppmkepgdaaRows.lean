/-
  No cell of these rows narrows 'for every input' (looked for: loops, veiled, ifaces, maps, wideKeys, modest, calm, conditions, laid).
  DERIVED. THE GIVEN ROWS OF THIS SEAT. 11 by the template 'for every input the law returns true; each argument reads behind the call as it read before'; 0 by the template 'total and deterministic' (their statements: YtjabbppmkepgdaaTotals.lean).
  GIVEN WITH THE SEED: the statements are not yours to turn. If you find one false, say at which input.
  Laid BY PROGRAM, IN A SANDBOX (cutbox-rows.mjs): the forced cells as the released guide's own fill.sh prints them over the translation edc61cd0f799d2ae… (all of the seat's roots in one cut). By AI agents, Wed Nov 11 2026. No macro, syntax, notation, axiom, sorry.
-/
import Derived.Test.YtjabbppmkepgdaaChecked
import GoSem.Claim
import GoSem.ClaimJoined
import GoSem.ClaimMapViews
import Derived.JoinedTies
import Derived.KernelRfl
namespace Go.Proofs.Ytjabbppmkepgdaa
/- THE CELL 'sum', in the pinned program and in every row, IS THE sha256 OF THE DUMP (.gsa) THAT YtjabbppmkepgdaaProg.lean LOADS. Nothing in Lean hashes anything: it is a label: what it is worth is what the hold of that sum in a sandbox is worth. -/
noncomputable def Try.pinned : Pinned := { name := "ytjabbppmkepgdaa", sum := "edc61cd0f799d2aef353e3707fdd1a4a3b33a6ea7f5fe9cc183aea64b6f4b6e7", checked := Try.checked }
namespace Rows
def none {H : Type} : Left H := { results := [], args := [] }

/-- 'remontoirelaw05.WeekSplits': WHATEVER THE INPUT: true; the input reads as it did. -/
def weekSplitsSpec : ChangeSpec := { name := "weekSplits", fn := fun _ => fun
  | [d1, d2, d3] => { results := [.lit (.bool true)], args := [d1, d2, d3] }
  | _ => none }
def weekSplitsRow : OpenClaim := { program := "ytjabbppmkepgdaa", sum := "edc61cd0f799d2aef353e3707fdd1a4a3b33a6ea7f5fe9cc183aea64b6f4b6e7", func := "remontoire/remontoirelaw05.WeekSplits", spec := "weekSplits", unfollowed := true, recurses := true, apart := false }
def WeekSplitsSaid : Prop := weekSplitsRow.holds Try.pinned (OpenSpec.ofChange weekSplitsSpec)

/-- ITS FALSE NEIGHBOUR: 'it returns false'. Refute it at one input. -/
def weekSplitsWrong : ChangeSpec := { name := "weekSplits", fn := fun _ => fun
  | [d1, d2, d3] => { results := [.lit (.bool false)], args := [d1, d2, d3] }
  | _ => none }
def WeekSplitsWrongFalsely : Prop := weekSplitsRow.holds Try.pinned (OpenSpec.ofChange weekSplitsWrong)

/-- 'remontoirelaw05.WeekNear': WHATEVER THE INPUT: true; the input reads as it did. -/
def weekNearSpec : ChangeSpec := { name := "weekNear", fn := fun _ => fun
  | [d1, d2, d3] => { results := [.lit (.bool true)], args := [d1, d2, d3] }
  | _ => none }
def weekNearRow : OpenClaim := { program := "ytjabbppmkepgdaa", sum := "edc61cd0f799d2aef353e3707fdd1a4a3b33a6ea7f5fe9cc183aea64b6f4b6e7", func := "remontoire/remontoirelaw05.WeekNear", spec := "weekNear", unfollowed := true, recurses := true, apart := false }
def WeekNearSaid : Prop := weekNearRow.holds Try.pinned (OpenSpec.ofChange weekNearSpec)

/-- ITS FALSE NEIGHBOUR: 'it returns false'. Refute it at one input. -/
def weekNearWrong : ChangeSpec := { name := "weekNear", fn := fun _ => fun
  | [d1, d2, d3] => { results := [.lit (.bool false)], args := [d1, d2, d3] }
  | _ => none }
def WeekNearWrongFalsely : Prop := weekNearRow.holds Try.pinned (OpenSpec.ofChange weekNearWrong)

/-- 'remontoirelaw05.WeekBack': WHATEVER THE INPUT: true; the input reads as it did. -/
def weekBackSpec : ChangeSpec := { name := "weekBack", fn := fun _ => fun
  | [d1, d2, d3] => { results := [.lit (.bool true)], args := [d1, d2, d3] }
  | _ => none }
def weekBackRow : OpenClaim := { program := "ytjabbppmkepgdaa", sum := "edc61cd0f799d2aef353e3707fdd1a4a3b33a6ea7f5fe9cc183aea64b6f4b6e7", func := "remontoire/remontoirelaw05.WeekBack", spec := "weekBack", unfollowed := true, recurses := true, apart := false }
def WeekBackSaid : Prop := weekBackRow.holds Try.pinned (OpenSpec.ofChange weekBackSpec)

/-- ITS FALSE NEIGHBOUR: 'it returns false'. Refute it at one input. -/
def weekBackWrong : ChangeSpec := { name := "weekBack", fn := fun _ => fun
  | [d1, d2, d3] => { results := [.lit (.bool false)], args := [d1, d2, d3] }
  | _ => none }
def WeekBackWrongFalsely : Prop := weekBackRow.holds Try.pinned (OpenSpec.ofChange weekBackWrong)

/-- 'remontoirelaw03.CivilDates': WHATEVER THE INPUT: true; the input reads as it did. -/
def civilDatesSpec : ChangeSpec := { name := "civilDates", fn := fun _ => fun
  | [d1, d2, d3] => { results := [.lit (.bool true)], args := [d1, d2, d3] }
  | _ => none }
def civilDatesRow : OpenClaim := { program := "ytjabbppmkepgdaa", sum := "edc61cd0f799d2aef353e3707fdd1a4a3b33a6ea7f5fe9cc183aea64b6f4b6e7", func := "remontoire/remontoirelaw03.CivilDates", spec := "civilDates", unfollowed := true, recurses := true, apart := false }
def CivilDatesSaid : Prop := civilDatesRow.holds Try.pinned (OpenSpec.ofChange civilDatesSpec)

/-- ITS FALSE NEIGHBOUR: 'it returns false'. Refute it at one input. -/
def civilDatesWrong : ChangeSpec := { name := "civilDates", fn := fun _ => fun
  | [d1, d2, d3] => { results := [.lit (.bool false)], args := [d1, d2, d3] }
  | _ => none }
def CivilDatesWrongFalsely : Prop := civilDatesRow.holds Try.pinned (OpenSpec.ofChange civilDatesWrong)

/-- 'remontoirelaw03.CivilSeconds': WHATEVER THE INPUT: true; the input reads as it did. -/
def civilSecondsSpec : ChangeSpec := { name := "civilSeconds", fn := fun _ => fun
  | [d1, d2] => { results := [.lit (.bool true)], args := [d1, d2] }
  | _ => none }
def civilSecondsRow : OpenClaim := { program := "ytjabbppmkepgdaa", sum := "edc61cd0f799d2aef353e3707fdd1a4a3b33a6ea7f5fe9cc183aea64b6f4b6e7", func := "remontoire/remontoirelaw03.CivilSeconds", spec := "civilSeconds", unfollowed := true, recurses := true, apart := false }
def CivilSecondsSaid : Prop := civilSecondsRow.holds Try.pinned (OpenSpec.ofChange civilSecondsSpec)

/-- ITS FALSE NEIGHBOUR: 'it returns false'. Refute it at one input. -/
def civilSecondsWrong : ChangeSpec := { name := "civilSeconds", fn := fun _ => fun
  | [d1, d2] => { results := [.lit (.bool false)], args := [d1, d2] }
  | _ => none }
def CivilSecondsWrongFalsely : Prop := civilSecondsRow.holds Try.pinned (OpenSpec.ofChange civilSecondsWrong)

/-- 'remontoirelaw03.CivilNext': WHATEVER THE INPUT: true; the input reads as it did. -/
def civilNextSpec : ChangeSpec := { name := "civilNext", fn := fun _ => fun
  | [d] => { results := [.lit (.bool true)], args := [d] }
  | _ => none }
def civilNextRow : OpenClaim := { program := "ytjabbppmkepgdaa", sum := "edc61cd0f799d2aef353e3707fdd1a4a3b33a6ea7f5fe9cc183aea64b6f4b6e7", func := "remontoire/remontoirelaw03.CivilNext", spec := "civilNext", unfollowed := true, recurses := true, apart := false }
def CivilNextSaid : Prop := civilNextRow.holds Try.pinned (OpenSpec.ofChange civilNextSpec)

/-- ITS FALSE NEIGHBOUR: 'it returns false'. Refute it at one input. -/
def civilNextWrong : ChangeSpec := { name := "civilNext", fn := fun _ => fun
  | [d] => { results := [.lit (.bool false)], args := [d] }
  | _ => none }
def CivilNextWrongFalsely : Prop := civilNextRow.holds Try.pinned (OpenSpec.ofChange civilNextWrong)

/-- 'remontoirelaw04.LeapTable': WHATEVER THE INPUT: true; the input reads as it did. -/
def leapTableSpec : ChangeSpec := { name := "leapTable", fn := fun _ => fun
  | [] => { results := [.lit (.bool true)], args := [] }
  | _ => none }
def leapTableRow : OpenClaim := { program := "ytjabbppmkepgdaa", sum := "edc61cd0f799d2aef353e3707fdd1a4a3b33a6ea7f5fe9cc183aea64b6f4b6e7", func := "remontoire/remontoirelaw04.LeapTable", spec := "leapTable", unfollowed := true, recurses := true, apart := false }
def LeapTableSaid : Prop := leapTableRow.holds Try.pinned (OpenSpec.ofChange leapTableSpec)

/-- ITS FALSE NEIGHBOUR: 'it returns false'. Refute it at one input. -/
def leapTableWrong : ChangeSpec := { name := "leapTable", fn := fun _ => fun
  | [] => { results := [.lit (.bool false)], args := [] }
  | _ => none }
def LeapTableWrongFalsely : Prop := leapTableRow.holds Try.pinned (OpenSpec.ofChange leapTableWrong)

/-- 'remontoirelaw04.LeapBack': WHATEVER THE INPUT: true; the input reads as it did. -/
def leapBackSpec : ChangeSpec := { name := "leapBack", fn := fun _ => fun
  | [d] => { results := [.lit (.bool true)], args := [d] }
  | _ => none }
def leapBackRow : OpenClaim := { program := "ytjabbppmkepgdaa", sum := "edc61cd0f799d2aef353e3707fdd1a4a3b33a6ea7f5fe9cc183aea64b6f4b6e7", func := "remontoire/remontoirelaw04.LeapBack", spec := "leapBack", unfollowed := true, recurses := true, apart := false }
def LeapBackSaid : Prop := leapBackRow.holds Try.pinned (OpenSpec.ofChange leapBackSpec)

/-- ITS FALSE NEIGHBOUR: 'it returns false'. Refute it at one input. -/
def leapBackWrong : ChangeSpec := { name := "leapBack", fn := fun _ => fun
  | [d] => { results := [.lit (.bool false)], args := [d] }
  | _ => none }
def LeapBackWrongFalsely : Prop := leapBackRow.holds Try.pinned (OpenSpec.ofChange leapBackWrong)

/-- 'remontoirelaw04.LeapTimes': WHATEVER THE INPUT: true; the input reads as it did. -/
def leapTimesSpec : ChangeSpec := { name := "leapTimes", fn := fun _ => fun
  | [d1, d2, d3] => { results := [.lit (.bool true)], args := [d1, d2, d3] }
  | _ => none }
def leapTimesRow : OpenClaim := { program := "ytjabbppmkepgdaa", sum := "edc61cd0f799d2aef353e3707fdd1a4a3b33a6ea7f5fe9cc183aea64b6f4b6e7", func := "remontoire/remontoirelaw04.LeapTimes", spec := "leapTimes", unfollowed := true, recurses := true, apart := false }
def LeapTimesSaid : Prop := leapTimesRow.holds Try.pinned (OpenSpec.ofChange leapTimesSpec)

/-- ITS FALSE NEIGHBOUR: 'it returns false'. Refute it at one input. -/
def leapTimesWrong : ChangeSpec := { name := "leapTimes", fn := fun _ => fun
  | [d1, d2, d3] => { results := [.lit (.bool false)], args := [d1, d2, d3] }
  | _ => none }
def LeapTimesWrongFalsely : Prop := leapTimesRow.holds Try.pinned (OpenSpec.ofChange leapTimesWrong)

/-- 'remontoirelaw18.RepairMeans': WHATEVER THE INPUT: true; the input reads as it did. -/
def repairMeansSpec : ChangeSpec := { name := "repairMeans", fn := fun _ => fun
  | [d1, d2] => { results := [.lit (.bool true)], args := [d1, d2] }
  | _ => none }
def repairMeansRow : OpenClaim := { program := "ytjabbppmkepgdaa", sum := "edc61cd0f799d2aef353e3707fdd1a4a3b33a6ea7f5fe9cc183aea64b6f4b6e7", func := "remontoire/remontoirelaw18.RepairMeans", spec := "repairMeans", unfollowed := true, recurses := true, apart := false }
def RepairMeansSaid : Prop := repairMeansRow.holds Try.pinned (OpenSpec.ofChange repairMeansSpec)

/-- ITS FALSE NEIGHBOUR: 'it returns false'. Refute it at one input. -/
def repairMeansWrong : ChangeSpec := { name := "repairMeans", fn := fun _ => fun
  | [d1, d2] => { results := [.lit (.bool false)], args := [d1, d2] }
  | _ => none }
def RepairMeansWrongFalsely : Prop := repairMeansRow.holds Try.pinned (OpenSpec.ofChange repairMeansWrong)

/-- 'remontoirelaw18.RepairRight': WHATEVER THE INPUT: true; the input reads as it did. -/
def repairRightSpec : ChangeSpec := { name := "repairRight", fn := fun _ => fun
  | [d1, d2, d3] => { results := [.lit (.bool true)], args := [d1, d2, d3] }
  | _ => none }
def repairRightRow : OpenClaim := { program := "ytjabbppmkepgdaa", sum := "edc61cd0f799d2aef353e3707fdd1a4a3b33a6ea7f5fe9cc183aea64b6f4b6e7", func := "remontoire/remontoirelaw18.RepairRight", spec := "repairRight", unfollowed := true, recurses := true, apart := false }
def RepairRightSaid : Prop := repairRightRow.holds Try.pinned (OpenSpec.ofChange repairRightSpec)

/-- ITS FALSE NEIGHBOUR: 'it returns false'. Refute it at one input. -/
def repairRightWrong : ChangeSpec := { name := "repairRight", fn := fun _ => fun
  | [d1, d2, d3] => { results := [.lit (.bool false)], args := [d1, d2, d3] }
  | _ => none }
def RepairRightWrongFalsely : Prop := repairRightRow.holds Try.pinned (OpenSpec.ofChange repairRightWrong)

/- THE SECOND FORM. 'bulk': how many values and letters a reading holds, each counted each time it is reached (what is shared counts as often as it is met; a slice's spare places count too). A statement '..UptoSaid' is the law's where the arguments, and the package variables that the reading takes, are together of bulk at most 1048576: NARROWER than '..Said'. Prove '..Said' where nothing that the law and all that it calls make is longer than what came in: it says more and counts as full. Else prove '..UptoSaid'. A law counts once. -/
mutual
def uptoBulk {H : Type} : DataW H → Nat
  | .lit (.string bytes) => bytes.length + 1
  | .lit _ => 1
  | .nil => 1
  | .ptr d => uptoBulk d + 1
  | .slice elems spare => uptoBulkAll elems + uptoBulkAll spare + 1
  | .agg parts => uptoBulkAll parts + 1
  | .iface _ d => uptoBulk d + 1
  | .map entries => uptoBulkEntries entries + 1
  | .held _ => 1
def uptoBulkAll {H : Type} : List (DataW H) → Nat
  | [] => 0
  | d :: r => uptoBulk d + uptoBulkAll r
def uptoBulkEntries {H : Type} : List (Lit × DataW H) → Nat
  | [] => 0
  | x :: r => uptoBulkEntry x + uptoBulkEntries r
def uptoBulkEntry {H : Type} : Lit × DataW H → Nat
  | (.string bytes, d) => bytes.length + uptoBulk d + 1
  | (_, d) => uptoBulk d + 1
 end
def uptoSmall : (H : Type) → List (DataW H) → Bool := fun _ ds => decide (uptoBulkAll ds ≤ 1048576)
def OpenSpec.upto (s : _root_.Go.ChangeSpec) : _root_.Go.OpenSpec := { _root_.Go.OpenSpec.ofChange s with cond := some uptoSmall }

/-- 'remontoirelaw05.WeekSplits', WHERE WHAT IT READS IS OF BULK AT MOST 1048576: true; the input reads as it did. -/
def weekSplitsUptoRow : OpenClaim := { program := "ytjabbppmkepgdaa", sum := "edc61cd0f799d2aef353e3707fdd1a4a3b33a6ea7f5fe9cc183aea64b6f4b6e7", func := "remontoire/remontoirelaw05.WeekSplits", spec := "weekSplits", unfollowed := true, recurses := true, apart := false, narrowed := true }
def WeekSplitsUptoSaid : Prop := weekSplitsUptoRow.holds Try.pinned (OpenSpec.upto weekSplitsSpec)

/-- 'remontoirelaw05.WeekNear', WHERE WHAT IT READS IS OF BULK AT MOST 1048576: true; the input reads as it did. -/
def weekNearUptoRow : OpenClaim := { program := "ytjabbppmkepgdaa", sum := "edc61cd0f799d2aef353e3707fdd1a4a3b33a6ea7f5fe9cc183aea64b6f4b6e7", func := "remontoire/remontoirelaw05.WeekNear", spec := "weekNear", unfollowed := true, recurses := true, apart := false, narrowed := true }
def WeekNearUptoSaid : Prop := weekNearUptoRow.holds Try.pinned (OpenSpec.upto weekNearSpec)

/-- 'remontoirelaw05.WeekBack', WHERE WHAT IT READS IS OF BULK AT MOST 1048576: true; the input reads as it did. -/
def weekBackUptoRow : OpenClaim := { program := "ytjabbppmkepgdaa", sum := "edc61cd0f799d2aef353e3707fdd1a4a3b33a6ea7f5fe9cc183aea64b6f4b6e7", func := "remontoire/remontoirelaw05.WeekBack", spec := "weekBack", unfollowed := true, recurses := true, apart := false, narrowed := true }
def WeekBackUptoSaid : Prop := weekBackUptoRow.holds Try.pinned (OpenSpec.upto weekBackSpec)

/-- 'remontoirelaw03.CivilDates', WHERE WHAT IT READS IS OF BULK AT MOST 1048576: true; the input reads as it did. -/
def civilDatesUptoRow : OpenClaim := { program := "ytjabbppmkepgdaa", sum := "edc61cd0f799d2aef353e3707fdd1a4a3b33a6ea7f5fe9cc183aea64b6f4b6e7", func := "remontoire/remontoirelaw03.CivilDates", spec := "civilDates", unfollowed := true, recurses := true, apart := false, narrowed := true }
def CivilDatesUptoSaid : Prop := civilDatesUptoRow.holds Try.pinned (OpenSpec.upto civilDatesSpec)

/-- 'remontoirelaw03.CivilSeconds', WHERE WHAT IT READS IS OF BULK AT MOST 1048576: true; the input reads as it did. -/
def civilSecondsUptoRow : OpenClaim := { program := "ytjabbppmkepgdaa", sum := "edc61cd0f799d2aef353e3707fdd1a4a3b33a6ea7f5fe9cc183aea64b6f4b6e7", func := "remontoire/remontoirelaw03.CivilSeconds", spec := "civilSeconds", unfollowed := true, recurses := true, apart := false, narrowed := true }
def CivilSecondsUptoSaid : Prop := civilSecondsUptoRow.holds Try.pinned (OpenSpec.upto civilSecondsSpec)

/-- 'remontoirelaw03.CivilNext', WHERE WHAT IT READS IS OF BULK AT MOST 1048576: true; the input reads as it did. -/
def civilNextUptoRow : OpenClaim := { program := "ytjabbppmkepgdaa", sum := "edc61cd0f799d2aef353e3707fdd1a4a3b33a6ea7f5fe9cc183aea64b6f4b6e7", func := "remontoire/remontoirelaw03.CivilNext", spec := "civilNext", unfollowed := true, recurses := true, apart := false, narrowed := true }
def CivilNextUptoSaid : Prop := civilNextUptoRow.holds Try.pinned (OpenSpec.upto civilNextSpec)

/-- 'remontoirelaw04.LeapTable', WHERE WHAT IT READS IS OF BULK AT MOST 1048576: true; the input reads as it did. -/
def leapTableUptoRow : OpenClaim := { program := "ytjabbppmkepgdaa", sum := "edc61cd0f799d2aef353e3707fdd1a4a3b33a6ea7f5fe9cc183aea64b6f4b6e7", func := "remontoire/remontoirelaw04.LeapTable", spec := "leapTable", unfollowed := true, recurses := true, apart := false, narrowed := true }
def LeapTableUptoSaid : Prop := leapTableUptoRow.holds Try.pinned (OpenSpec.upto leapTableSpec)

/-- 'remontoirelaw04.LeapBack', WHERE WHAT IT READS IS OF BULK AT MOST 1048576: true; the input reads as it did. -/
def leapBackUptoRow : OpenClaim := { program := "ytjabbppmkepgdaa", sum := "edc61cd0f799d2aef353e3707fdd1a4a3b33a6ea7f5fe9cc183aea64b6f4b6e7", func := "remontoire/remontoirelaw04.LeapBack", spec := "leapBack", unfollowed := true, recurses := true, apart := false, narrowed := true }
def LeapBackUptoSaid : Prop := leapBackUptoRow.holds Try.pinned (OpenSpec.upto leapBackSpec)

/-- 'remontoirelaw04.LeapTimes', WHERE WHAT IT READS IS OF BULK AT MOST 1048576: true; the input reads as it did. -/
def leapTimesUptoRow : OpenClaim := { program := "ytjabbppmkepgdaa", sum := "edc61cd0f799d2aef353e3707fdd1a4a3b33a6ea7f5fe9cc183aea64b6f4b6e7", func := "remontoire/remontoirelaw04.LeapTimes", spec := "leapTimes", unfollowed := true, recurses := true, apart := false, narrowed := true }
def LeapTimesUptoSaid : Prop := leapTimesUptoRow.holds Try.pinned (OpenSpec.upto leapTimesSpec)

/-- 'remontoirelaw18.RepairMeans', WHERE WHAT IT READS IS OF BULK AT MOST 1048576: true; the input reads as it did. -/
def repairMeansUptoRow : OpenClaim := { program := "ytjabbppmkepgdaa", sum := "edc61cd0f799d2aef353e3707fdd1a4a3b33a6ea7f5fe9cc183aea64b6f4b6e7", func := "remontoire/remontoirelaw18.RepairMeans", spec := "repairMeans", unfollowed := true, recurses := true, apart := false, narrowed := true }
def RepairMeansUptoSaid : Prop := repairMeansUptoRow.holds Try.pinned (OpenSpec.upto repairMeansSpec)

/-- 'remontoirelaw18.RepairRight', WHERE WHAT IT READS IS OF BULK AT MOST 1048576: true; the input reads as it did. -/
def repairRightUptoRow : OpenClaim := { program := "ytjabbppmkepgdaa", sum := "edc61cd0f799d2aef353e3707fdd1a4a3b33a6ea7f5fe9cc183aea64b6f4b6e7", func := "remontoire/remontoirelaw18.RepairRight", spec := "repairRight", unfollowed := true, recurses := true, apart := false, narrowed := true }
def RepairRightUptoSaid : Prop := repairRightUptoRow.holds Try.pinned (OpenSpec.upto repairRightSpec)

end Rows
end Go.Proofs.Ytjabbppmkepgdaa
