/-
  No cell of these rows narrows 'for every input' (looked for: loops, veiled, ifaces, maps, wideKeys, modest, calm, conditions, laid).
  DERIVED. THE GIVEN ROWS OF THIS SEAT. 7 by the template 'for every input the law returns true; each argument reads behind the call as it read before'; 0 by the template 'total and deterministic' (their statements: YtjojdiefnhbglaaGreatTotals.lean).
  GIVEN WITH THE SEED: the statements are not yours to turn. If you find one false, say at which input.
  Laid BY PROGRAM, IN A SANDBOX (cutbox-rows.mjs): the forced cells as the released guide's own fill.sh prints them over the translation 05fce5b79d8f0bfe… (all of the seat's roots in one cut). By AI agents, Wed Nov 11 2026. No macro, syntax, notation, axiom, sorry.
-/
import Derived.Test.YtjojdiefnhbglaaGreatChecked
import GoSem.Claim
import GoSem.ClaimJoined
import GoSem.ClaimMapViews
import Derived.JoinedTies
import Derived.KernelRfl
namespace Go.Proofs.YtjojdiefnhbglaaGreat
/- THE CELL 'sum', in the pinned program and in every row, IS THE sha256 OF THE DUMP (.gsa) THAT YtjojdiefnhbglaaGreatProg.lean LOADS. Nothing in Lean hashes anything: it is a label: what it is worth is what the hold of that sum in a sandbox is worth. -/
noncomputable def Tryz.pinned : Pinned := { name := "ytjojdiefnhbglaagreat", sum := "05fce5b79d8f0bfe1eb0a2172c201536fa605ccaa4e09210c63e1324bb902947", checked := Tryz.checked }
namespace Rows
def none {H : Type} : Left H := { results := [], args := [] }

/-- 'daybooklaw11.IndexTells': WHATEVER THE INPUT: true; the input reads as it did. -/
def indexTellsSpec : ChangeSpec := { name := "indexTells", fn := fun _ => fun
  | [d1, d2, d3, d4] => { results := [.lit (.bool true)], args := [d1, d2, d3, d4] }
  | _ => none }
def indexTellsRow : OpenClaim := { program := "ytjojdiefnhbglaagreat", sum := "05fce5b79d8f0bfe1eb0a2172c201536fa605ccaa4e09210c63e1324bb902947", func := "daybook/daybooklaw11.IndexTells", spec := "indexTells", inPlace := ["internal/bytealg.Compare", "internal/bytealg.abigen_runtime_cmpstring"], unfollowed := true, recurses := true, apart := false }
def IndexTellsSaid : Prop := indexTellsRow.holds Tryz.pinned (OpenSpec.ofChange indexTellsSpec)

/-- ITS FALSE NEIGHBOUR: 'it returns false'. Refute it at one input. -/
def indexTellsWrong : ChangeSpec := { name := "indexTells", fn := fun _ => fun
  | [d1, d2, d3, d4] => { results := [.lit (.bool false)], args := [d1, d2, d3, d4] }
  | _ => none }
def IndexTellsWrongFalsely : Prop := indexTellsRow.holds Tryz.pinned (OpenSpec.ofChange indexTellsWrong)

/-- 'daybooklaw11.IndexWhole': WHATEVER THE INPUT: true; the input reads as it did. -/
def indexWholeSpec : ChangeSpec := { name := "indexWhole", fn := fun _ => fun
  | [d1, d2, d3, d4, d5] => { results := [.lit (.bool true)], args := [d1, d2, d3, d4, d5] }
  | _ => none }
def indexWholeRow : OpenClaim := { program := "ytjojdiefnhbglaagreat", sum := "05fce5b79d8f0bfe1eb0a2172c201536fa605ccaa4e09210c63e1324bb902947", func := "daybook/daybooklaw11.IndexWhole", spec := "indexWhole", inPlace := ["internal/bytealg.Compare", "internal/bytealg.abigen_runtime_cmpstring"], unfollowed := true, recurses := true, apart := false }
def IndexWholeSaid : Prop := indexWholeRow.holds Tryz.pinned (OpenSpec.ofChange indexWholeSpec)

/-- ITS FALSE NEIGHBOUR: 'it returns false'. Refute it at one input. -/
def indexWholeWrong : ChangeSpec := { name := "indexWhole", fn := fun _ => fun
  | [d1, d2, d3, d4, d5] => { results := [.lit (.bool false)], args := [d1, d2, d3, d4, d5] }
  | _ => none }
def IndexWholeWrongFalsely : Prop := indexWholeRow.holds Tryz.pinned (OpenSpec.ofChange indexWholeWrong)

/-- 'daybooklaw11.IndexNames': WHATEVER THE INPUT: true; the input reads as it did. -/
def indexNamesSpec : ChangeSpec := { name := "indexNames", fn := fun _ => fun
  | [] => { results := [.lit (.bool true)], args := [] }
  | _ => none }
def indexNamesRow : OpenClaim := { program := "ytjojdiefnhbglaagreat", sum := "05fce5b79d8f0bfe1eb0a2172c201536fa605ccaa4e09210c63e1324bb902947", func := "daybook/daybooklaw11.IndexNames", spec := "indexNames", inPlace := ["internal/bytealg.Compare", "internal/bytealg.abigen_runtime_cmpstring"], unfollowed := true, recurses := true, apart := false }
def IndexNamesSaid : Prop := indexNamesRow.holds Tryz.pinned (OpenSpec.ofChange indexNamesSpec)

/-- ITS FALSE NEIGHBOUR: 'it returns false'. Refute it at one input. -/
def indexNamesWrong : ChangeSpec := { name := "indexNames", fn := fun _ => fun
  | [] => { results := [.lit (.bool false)], args := [] }
  | _ => none }
def IndexNamesWrongFalsely : Prop := indexNamesRow.holds Tryz.pinned (OpenSpec.ofChange indexNamesWrong)

/-- 'daybooklaw29.StatsAttrs': WHATEVER THE INPUT: true; the input reads as it did. -/
def statsAttrsSpec : ChangeSpec := { name := "statsAttrs", fn := fun _ => fun
  | [d] => { results := [.lit (.bool true)], args := [d] }
  | _ => none }
def statsAttrsRow : OpenClaim := { program := "ytjojdiefnhbglaagreat", sum := "05fce5b79d8f0bfe1eb0a2172c201536fa605ccaa4e09210c63e1324bb902947", func := "daybook/daybooklaw29.StatsAttrs", spec := "statsAttrs", inPlace := ["internal/bytealg.abigen_runtime_cmpstring"], unfollowed := true, recurses := true, apart := false }
def StatsAttrsSaid : Prop := statsAttrsRow.holds Tryz.pinned (OpenSpec.ofChange statsAttrsSpec)

/-- ITS FALSE NEIGHBOUR: 'it returns false'. Refute it at one input. -/
def statsAttrsWrong : ChangeSpec := { name := "statsAttrs", fn := fun _ => fun
  | [d] => { results := [.lit (.bool false)], args := [d] }
  | _ => none }
def StatsAttrsWrongFalsely : Prop := statsAttrsRow.holds Tryz.pinned (OpenSpec.ofChange statsAttrsWrong)

/-- 'daybooklaw29.StatsHolds': WHATEVER THE INPUT: true; the input reads as it did. -/
def statsHoldsSpec : ChangeSpec := { name := "statsHolds", fn := fun _ => fun
  | [d1, d2] => { results := [.lit (.bool true)], args := [d1, d2] }
  | _ => none }
def statsHoldsRow : OpenClaim := { program := "ytjojdiefnhbglaagreat", sum := "05fce5b79d8f0bfe1eb0a2172c201536fa605ccaa4e09210c63e1324bb902947", func := "daybook/daybooklaw29.StatsHolds", spec := "statsHolds", inPlace := ["internal/bytealg.abigen_runtime_cmpstring"], unfollowed := true, recurses := true, apart := false }
def StatsHoldsSaid : Prop := statsHoldsRow.holds Tryz.pinned (OpenSpec.ofChange statsHoldsSpec)

/-- ITS FALSE NEIGHBOUR: 'it returns false'. Refute it at one input. -/
def statsHoldsWrong : ChangeSpec := { name := "statsHolds", fn := fun _ => fun
  | [d1, d2] => { results := [.lit (.bool false)], args := [d1, d2] }
  | _ => none }
def StatsHoldsWrongFalsely : Prop := statsHoldsRow.holds Tryz.pinned (OpenSpec.ofChange statsHoldsWrong)

/-- 'daybooklaw29.StatsSums': WHATEVER THE INPUT: true; the input reads as it did. -/
def statsSumsSpec : ChangeSpec := { name := "statsSums", fn := fun _ => fun
  | [d1, d2] => { results := [.lit (.bool true)], args := [d1, d2] }
  | _ => none }
def statsSumsRow : OpenClaim := { program := "ytjojdiefnhbglaagreat", sum := "05fce5b79d8f0bfe1eb0a2172c201536fa605ccaa4e09210c63e1324bb902947", func := "daybook/daybooklaw29.StatsSums", spec := "statsSums", inPlace := ["internal/bytealg.abigen_runtime_cmpstring", "slices.overlaps[daybook/stats.Tx]"], unfollowed := true, recurses := true, apart := false }
def StatsSumsSaid : Prop := statsSumsRow.holds Tryz.pinned (OpenSpec.ofChange statsSumsSpec)

/-- ITS FALSE NEIGHBOUR: 'it returns false'. Refute it at one input. -/
def statsSumsWrong : ChangeSpec := { name := "statsSums", fn := fun _ => fun
  | [d1, d2] => { results := [.lit (.bool false)], args := [d1, d2] }
  | _ => none }
def StatsSumsWrongFalsely : Prop := statsSumsRow.holds Tryz.pinned (OpenSpec.ofChange statsSumsWrong)

/-- 'daybooklaw29.StatsNames': WHATEVER THE INPUT: true; the input reads as it did. -/
def statsNamesSpec : ChangeSpec := { name := "statsNames", fn := fun _ => fun
  | [] => { results := [.lit (.bool true)], args := [] }
  | _ => none }
def statsNamesRow : OpenClaim := { program := "ytjojdiefnhbglaagreat", sum := "05fce5b79d8f0bfe1eb0a2172c201536fa605ccaa4e09210c63e1324bb902947", func := "daybook/daybooklaw29.StatsNames", spec := "statsNames", inPlace := ["internal/bytealg.abigen_runtime_cmpstring", "slices.overlaps[daybook/stats.Tx]"], unfollowed := true, recurses := true, apart := false }
def StatsNamesSaid : Prop := statsNamesRow.holds Tryz.pinned (OpenSpec.ofChange statsNamesSpec)

/-- ITS FALSE NEIGHBOUR: 'it returns false'. Refute it at one input. -/
def statsNamesWrong : ChangeSpec := { name := "statsNames", fn := fun _ => fun
  | [] => { results := [.lit (.bool false)], args := [] }
  | _ => none }
def StatsNamesWrongFalsely : Prop := statsNamesRow.holds Tryz.pinned (OpenSpec.ofChange statsNamesWrong)

/- THE SECOND FORM. 'bulk': how many values and letters a reading holds, each counted each time it is reached (what is shared counts as often as it is met; a slice's spare places count too). A statement '..UptoSaid' is the law's where the arguments, and the package variables that the reading takes, are together of bulk at most 1048576: NARROWER than '..Said'. Prove '..Said' where nothing that the law and all that it calls make is longer than what came in: it says more and counts as full. Else prove '..UptoSaid'. A law counts once. -/
mutual
def uptoBulk {H : Type} : DataW H → Nat
  | .lit (.string bytes) => bytes.length + 1
  | .lit _ => 1
  | .nil => 1
  | .ptr d => uptoBulk d + 1
  | .slice elems spare => uptoBulkAll elems + uptoBulkAll spare + 1
  | .agg parts => uptoBulkAll parts + 1
  | .iface _ d => uptoBulk d + 1
  | .map entries => uptoBulkEntries entries + 1
  | .held _ => 1
def uptoBulkAll {H : Type} : List (DataW H) → Nat
  | [] => 0
  | d :: r => uptoBulk d + uptoBulkAll r
def uptoBulkEntries {H : Type} : List (Lit × DataW H) → Nat
  | [] => 0
  | x :: r => uptoBulkEntry x + uptoBulkEntries r
def uptoBulkEntry {H : Type} : Lit × DataW H → Nat
  | (.string bytes, d) => bytes.length + uptoBulk d + 1
  | (_, d) => uptoBulk d + 1
 end
def uptoSmall : (H : Type) → List (DataW H) → Bool := fun _ ds => decide (uptoBulkAll ds ≤ 1048576)
def OpenSpec.upto (s : _root_.Go.ChangeSpec) : _root_.Go.OpenSpec := { _root_.Go.OpenSpec.ofChange s with cond := some uptoSmall }

/-- 'daybooklaw11.IndexTells', WHERE WHAT IT READS IS OF BULK AT MOST 1048576: true; the input reads as it did. -/
def indexTellsUptoRow : OpenClaim := { program := "ytjojdiefnhbglaagreat", sum := "05fce5b79d8f0bfe1eb0a2172c201536fa605ccaa4e09210c63e1324bb902947", func := "daybook/daybooklaw11.IndexTells", spec := "indexTells", inPlace := ["internal/bytealg.Compare", "internal/bytealg.abigen_runtime_cmpstring"], unfollowed := true, recurses := true, apart := false, narrowed := true }
def IndexTellsUptoSaid : Prop := indexTellsUptoRow.holds Tryz.pinned (OpenSpec.upto indexTellsSpec)

/-- 'daybooklaw11.IndexWhole', WHERE WHAT IT READS IS OF BULK AT MOST 1048576: true; the input reads as it did. -/
def indexWholeUptoRow : OpenClaim := { program := "ytjojdiefnhbglaagreat", sum := "05fce5b79d8f0bfe1eb0a2172c201536fa605ccaa4e09210c63e1324bb902947", func := "daybook/daybooklaw11.IndexWhole", spec := "indexWhole", inPlace := ["internal/bytealg.Compare", "internal/bytealg.abigen_runtime_cmpstring"], unfollowed := true, recurses := true, apart := false, narrowed := true }
def IndexWholeUptoSaid : Prop := indexWholeUptoRow.holds Tryz.pinned (OpenSpec.upto indexWholeSpec)

/-- 'daybooklaw11.IndexNames', WHERE WHAT IT READS IS OF BULK AT MOST 1048576: true; the input reads as it did. -/
def indexNamesUptoRow : OpenClaim := { program := "ytjojdiefnhbglaagreat", sum := "05fce5b79d8f0bfe1eb0a2172c201536fa605ccaa4e09210c63e1324bb902947", func := "daybook/daybooklaw11.IndexNames", spec := "indexNames", inPlace := ["internal/bytealg.Compare", "internal/bytealg.abigen_runtime_cmpstring"], unfollowed := true, recurses := true, apart := false, narrowed := true }
def IndexNamesUptoSaid : Prop := indexNamesUptoRow.holds Tryz.pinned (OpenSpec.upto indexNamesSpec)

/-- 'daybooklaw29.StatsAttrs', WHERE WHAT IT READS IS OF BULK AT MOST 1048576: true; the input reads as it did. -/
def statsAttrsUptoRow : OpenClaim := { program := "ytjojdiefnhbglaagreat", sum := "05fce5b79d8f0bfe1eb0a2172c201536fa605ccaa4e09210c63e1324bb902947", func := "daybook/daybooklaw29.StatsAttrs", spec := "statsAttrs", inPlace := ["internal/bytealg.abigen_runtime_cmpstring"], unfollowed := true, recurses := true, apart := false, narrowed := true }
def StatsAttrsUptoSaid : Prop := statsAttrsUptoRow.holds Tryz.pinned (OpenSpec.upto statsAttrsSpec)

/-- 'daybooklaw29.StatsHolds', WHERE WHAT IT READS IS OF BULK AT MOST 1048576: true; the input reads as it did. -/
def statsHoldsUptoRow : OpenClaim := { program := "ytjojdiefnhbglaagreat", sum := "05fce5b79d8f0bfe1eb0a2172c201536fa605ccaa4e09210c63e1324bb902947", func := "daybook/daybooklaw29.StatsHolds", spec := "statsHolds", inPlace := ["internal/bytealg.abigen_runtime_cmpstring"], unfollowed := true, recurses := true, apart := false, narrowed := true }
def StatsHoldsUptoSaid : Prop := statsHoldsUptoRow.holds Tryz.pinned (OpenSpec.upto statsHoldsSpec)

/-- 'daybooklaw29.StatsSums', WHERE WHAT IT READS IS OF BULK AT MOST 1048576: true; the input reads as it did. -/
def statsSumsUptoRow : OpenClaim := { program := "ytjojdiefnhbglaagreat", sum := "05fce5b79d8f0bfe1eb0a2172c201536fa605ccaa4e09210c63e1324bb902947", func := "daybook/daybooklaw29.StatsSums", spec := "statsSums", inPlace := ["internal/bytealg.abigen_runtime_cmpstring", "slices.overlaps[daybook/stats.Tx]"], unfollowed := true, recurses := true, apart := false, narrowed := true }
def StatsSumsUptoSaid : Prop := statsSumsUptoRow.holds Tryz.pinned (OpenSpec.upto statsSumsSpec)

/-- 'daybooklaw29.StatsNames', WHERE WHAT IT READS IS OF BULK AT MOST 1048576: true; the input reads as it did. -/
def statsNamesUptoRow : OpenClaim := { program := "ytjojdiefnhbglaagreat", sum := "05fce5b79d8f0bfe1eb0a2172c201536fa605ccaa4e09210c63e1324bb902947", func := "daybook/daybooklaw29.StatsNames", spec := "statsNames", inPlace := ["internal/bytealg.abigen_runtime_cmpstring", "slices.overlaps[daybook/stats.Tx]"], unfollowed := true, recurses := true, apart := false, narrowed := true }
def StatsNamesUptoSaid : Prop := statsNamesUptoRow.holds Tryz.pinned (OpenSpec.upto statsNamesSpec)

end Rows
end Go.Proofs.YtjojdiefnhbglaaGreat
