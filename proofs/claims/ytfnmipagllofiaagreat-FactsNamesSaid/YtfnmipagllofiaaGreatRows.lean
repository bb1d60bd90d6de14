/-
  No cell of these rows narrows 'for every input' (looked for: loops, veiled, ifaces, maps, wideKeys, modest, calm, conditions, laid).
  DERIVED. THE GIVEN ROWS OF THIS SEAT. 6 by the template 'for every input the law returns true; each argument reads behind the call as it read before'; 0 by the template 'total and deterministic' (their statements: YtfnmipagllofiaaGreatTotals.lean).
  GIVEN WITH THE SEED: the statements are not yours to turn. If you find one false, say at which input.
  Laid BY PROGRAM, IN A SANDBOX (cutbox-rows.mjs): the forced cells as the released guide's own fill.sh prints them over the translation 0dd6fb93abaa9d46… (all of the seat's roots in one cut). By AI agents, Wed Nov 11 2026. No macro, syntax, notation, axiom, sorry.
-/
import Derived.Test.YtfnmipagllofiaaGreatChecked
import GoSem.Claim
import GoSem.ClaimJoined
import GoSem.ClaimMapViews
import Derived.JoinedTies
import Derived.KernelRfl
namespace Go.Proofs.YtfnmipagllofiaaGreat
/- THE CELL 'sum', in the pinned program and in every row, IS THE sha256 OF THE DUMP (.gsa) THAT YtfnmipagllofiaaGreatProg.lean LOADS. Nothing in Lean hashes anything: it is a label: what it is worth is what the hold of that sum in a sandbox is worth. -/
noncomputable def Tryz.pinned : Pinned := { name := "ytfnmipagllofiaagreat", sum := "0dd6fb93abaa9d464e4aeeefb5e0385c1113bc6f1ab881346d379a67c096a7ad", checked := Tryz.checked }
namespace Rows
def none {H : Type} : Left H := { results := [], args := [] }

/-- 'daybooklaw06.FactsTell': WHATEVER THE INPUT: true; the input reads as it did. -/
def factsTellSpec : ChangeSpec := { name := "factsTell", fn := fun _ => fun
  | [d1, d2, d3, d4, d5] => { results := [.lit (.bool true)], args := [d1, d2, d3, d4, d5] }
  | _ => none }
def factsTellRow : OpenClaim := { program := "ytfnmipagllofiaagreat", sum := "0dd6fb93abaa9d464e4aeeefb5e0385c1113bc6f1ab881346d379a67c096a7ad", func := "daybook/daybooklaw06.FactsTell", spec := "factsTell", inPlace := ["internal/bytealg.abigen_runtime_cmpstring"], unfollowed := true, recurses := true, apart := false }
def FactsTellSaid : Prop := factsTellRow.holds Tryz.pinned (OpenSpec.ofChange factsTellSpec)

/-- ITS FALSE NEIGHBOUR: 'it returns false'. Refute it at one input. -/
def factsTellWrong : ChangeSpec := { name := "factsTell", fn := fun _ => fun
  | [d1, d2, d3, d4, d5] => { results := [.lit (.bool false)], args := [d1, d2, d3, d4, d5] }
  | _ => none }
def FactsTellWrongFalsely : Prop := factsTellRow.holds Tryz.pinned (OpenSpec.ofChange factsTellWrong)

/-- 'daybooklaw06.FactsInstants': WHATEVER THE INPUT: true; the input reads as it did. -/
def factsInstantsSpec : ChangeSpec := { name := "factsInstants", fn := fun _ => fun
  | [d1, d2, d3] => { results := [.lit (.bool true)], args := [d1, d2, d3] }
  | _ => none }
def factsInstantsRow : OpenClaim := { program := "ytfnmipagllofiaagreat", sum := "0dd6fb93abaa9d464e4aeeefb5e0385c1113bc6f1ab881346d379a67c096a7ad", func := "daybook/daybooklaw06.FactsInstants", spec := "factsInstants", inPlace := ["internal/bytealg.abigen_runtime_cmpstring"], unfollowed := true, recurses := true, apart := false }
def FactsInstantsSaid : Prop := factsInstantsRow.holds Tryz.pinned (OpenSpec.ofChange factsInstantsSpec)

/-- ITS FALSE NEIGHBOUR: 'it returns false'. Refute it at one input. -/
def factsInstantsWrong : ChangeSpec := { name := "factsInstants", fn := fun _ => fun
  | [d1, d2, d3] => { results := [.lit (.bool false)], args := [d1, d2, d3] }
  | _ => none }
def FactsInstantsWrongFalsely : Prop := factsInstantsRow.holds Tryz.pinned (OpenSpec.ofChange factsInstantsWrong)

/-- 'daybooklaw06.FactsFold': WHATEVER THE INPUT: true; the input reads as it did. -/
def factsFoldSpec : ChangeSpec := { name := "factsFold", fn := fun _ => fun
  | [d1, d2] => { results := [.lit (.bool true)], args := [d1, d2] }
  | _ => none }
def factsFoldRow : OpenClaim := { program := "ytfnmipagllofiaagreat", sum := "0dd6fb93abaa9d464e4aeeefb5e0385c1113bc6f1ab881346d379a67c096a7ad", func := "daybook/daybooklaw06.FactsFold", spec := "factsFold", inPlace := ["internal/bytealg.abigen_runtime_cmpstring"], unfollowed := true, recurses := true, apart := false }
def FactsFoldSaid : Prop := factsFoldRow.holds Tryz.pinned (OpenSpec.ofChange factsFoldSpec)

/-- ITS FALSE NEIGHBOUR: 'it returns false'. Refute it at one input. -/
def factsFoldWrong : ChangeSpec := { name := "factsFold", fn := fun _ => fun
  | [d1, d2] => { results := [.lit (.bool false)], args := [d1, d2] }
  | _ => none }
def FactsFoldWrongFalsely : Prop := factsFoldRow.holds Tryz.pinned (OpenSpec.ofChange factsFoldWrong)

/-- 'daybooklaw06.FactsStay': WHATEVER THE INPUT: true; the input reads as it did. -/
def factsStaySpec : ChangeSpec := { name := "factsStay", fn := fun _ => fun
  | [d1, d2, d3] => { results := [.lit (.bool true)], args := [d1, d2, d3] }
  | _ => none }
def factsStayRow : OpenClaim := { program := "ytfnmipagllofiaagreat", sum := "0dd6fb93abaa9d464e4aeeefb5e0385c1113bc6f1ab881346d379a67c096a7ad", func := "daybook/daybooklaw06.FactsStay", spec := "factsStay", inPlace := ["internal/bytealg.abigen_runtime_cmpstring"], unfollowed := true, recurses := true, apart := false }
def FactsStaySaid : Prop := factsStayRow.holds Tryz.pinned (OpenSpec.ofChange factsStaySpec)

/-- ITS FALSE NEIGHBOUR: 'it returns false'. Refute it at one input. -/
def factsStayWrong : ChangeSpec := { name := "factsStay", fn := fun _ => fun
  | [d1, d2, d3] => { results := [.lit (.bool false)], args := [d1, d2, d3] }
  | _ => none }
def FactsStayWrongFalsely : Prop := factsStayRow.holds Tryz.pinned (OpenSpec.ofChange factsStayWrong)

/-- 'daybooklaw06.FactsChange': WHATEVER THE INPUT: true; the input reads as it did. -/
def factsChangeSpec : ChangeSpec := { name := "factsChange", fn := fun _ => fun
  | [d1, d2] => { results := [.lit (.bool true)], args := [d1, d2] }
  | _ => none }
def factsChangeRow : OpenClaim := { program := "ytfnmipagllofiaagreat", sum := "0dd6fb93abaa9d464e4aeeefb5e0385c1113bc6f1ab881346d379a67c096a7ad", func := "daybook/daybooklaw06.FactsChange", spec := "factsChange", inPlace := ["internal/bytealg.abigen_runtime_cmpstring"], unfollowed := true, recurses := true, apart := false }
def FactsChangeSaid : Prop := factsChangeRow.holds Tryz.pinned (OpenSpec.ofChange factsChangeSpec)

/-- ITS FALSE NEIGHBOUR: 'it returns false'. Refute it at one input. -/
def factsChangeWrong : ChangeSpec := { name := "factsChange", fn := fun _ => fun
  | [d1, d2] => { results := [.lit (.bool false)], args := [d1, d2] }
  | _ => none }
def FactsChangeWrongFalsely : Prop := factsChangeRow.holds Tryz.pinned (OpenSpec.ofChange factsChangeWrong)

/-- 'daybooklaw06.FactsNames': WHATEVER THE INPUT: true; the input reads as it did. -/
def factsNamesSpec : ChangeSpec := { name := "factsNames", fn := fun _ => fun
  | [] => { results := [.lit (.bool true)], args := [] }
  | _ => none }
def factsNamesRow : OpenClaim := { program := "ytfnmipagllofiaagreat", sum := "0dd6fb93abaa9d464e4aeeefb5e0385c1113bc6f1ab881346d379a67c096a7ad", func := "daybook/daybooklaw06.FactsNames", spec := "factsNames", inPlace := ["internal/bytealg.abigen_runtime_cmpstring"], unfollowed := true, recurses := true, apart := false }
def FactsNamesSaid : Prop := factsNamesRow.holds Tryz.pinned (OpenSpec.ofChange factsNamesSpec)

/-- ITS FALSE NEIGHBOUR: 'it returns false'. Refute it at one input. -/
def factsNamesWrong : ChangeSpec := { name := "factsNames", fn := fun _ => fun
  | [] => { results := [.lit (.bool false)], args := [] }
  | _ => none }
def FactsNamesWrongFalsely : Prop := factsNamesRow.holds Tryz.pinned (OpenSpec.ofChange factsNamesWrong)

/- THE SECOND FORM. 'bulk': how many values and letters a reading holds, each counted each time it is reached (what is shared counts as often as it is met; a slice's spare places count too). A statement '..UptoSaid' is the law's where the arguments, and the package variables that the reading takes, are together of bulk at most 1048576: NARROWER than '..Said'. Prove '..Said' where nothing that the law and all that it calls make is longer than what came in: it says more and counts as full. Else prove '..UptoSaid'. A law counts once. -/
mutual
def uptoBulk {H : Type} : DataW H → Nat
  | .lit (.string bytes) => bytes.length + 1
  | .lit _ => 1
  | .nil => 1
  | .ptr d => uptoBulk d + 1
  | .slice elems spare => uptoBulkAll elems + uptoBulkAll spare + 1
  | .agg parts => uptoBulkAll parts + 1
  | .iface _ d => uptoBulk d + 1
  | .map entries => uptoBulkEntries entries + 1
  | .held _ => 1
def uptoBulkAll {H : Type} : List (DataW H) → Nat
  | [] => 0
  | d :: r => uptoBulk d + uptoBulkAll r
def uptoBulkEntries {H : Type} : List (Lit × DataW H) → Nat
  | [] => 0
  | x :: r => uptoBulkEntry x + uptoBulkEntries r
def uptoBulkEntry {H : Type} : Lit × DataW H → Nat
  | (.string bytes, d) => bytes.length + uptoBulk d + 1
  | (_, d) => uptoBulk d + 1
 end
def uptoSmall : (H : Type) → List (DataW H) → Bool := fun _ ds => decide (uptoBulkAll ds ≤ 1048576)
def OpenSpec.upto (s : _root_.Go.ChangeSpec) : _root_.Go.OpenSpec := { _root_.Go.OpenSpec.ofChange s with cond := some uptoSmall }

/-- 'daybooklaw06.FactsTell', WHERE WHAT IT READS IS OF BULK AT MOST 1048576: true; the input reads as it did. -/
def factsTellUptoRow : OpenClaim := { program := "ytfnmipagllofiaagreat", sum := "0dd6fb93abaa9d464e4aeeefb5e0385c1113bc6f1ab881346d379a67c096a7ad", func := "daybook/daybooklaw06.FactsTell", spec := "factsTell", inPlace := ["internal/bytealg.abigen_runtime_cmpstring"], unfollowed := true, recurses := true, apart := false, narrowed := true }
def FactsTellUptoSaid : Prop := factsTellUptoRow.holds Tryz.pinned (OpenSpec.upto factsTellSpec)

/-- 'daybooklaw06.FactsInstants', WHERE WHAT IT READS IS OF BULK AT MOST 1048576: true; the input reads as it did. -/
def factsInstantsUptoRow : OpenClaim := { program := "ytfnmipagllofiaagreat", sum := "0dd6fb93abaa9d464e4aeeefb5e0385c1113bc6f1ab881346d379a67c096a7ad", func := "daybook/daybooklaw06.FactsInstants", spec := "factsInstants", inPlace := ["internal/bytealg.abigen_runtime_cmpstring"], unfollowed := true, recurses := true, apart := false, narrowed := true }
def FactsInstantsUptoSaid : Prop := factsInstantsUptoRow.holds Tryz.pinned (OpenSpec.upto factsInstantsSpec)

/-- 'daybooklaw06.FactsFold', WHERE WHAT IT READS IS OF BULK AT MOST 1048576: true; the input reads as it did. -/
def factsFoldUptoRow : OpenClaim := { program := "ytfnmipagllofiaagreat", sum := "0dd6fb93abaa9d464e4aeeefb5e0385c1113bc6f1ab881346d379a67c096a7ad", func := "daybook/daybooklaw06.FactsFold", spec := "factsFold", inPlace := ["internal/bytealg.abigen_runtime_cmpstring"], unfollowed := true, recurses := true, apart := false, narrowed := true }
def FactsFoldUptoSaid : Prop := factsFoldUptoRow.holds Tryz.pinned (OpenSpec.upto factsFoldSpec)

/-- 'daybooklaw06.FactsStay', WHERE WHAT IT READS IS OF BULK AT MOST 1048576: true; the input reads as it did. -/
def factsStayUptoRow : OpenClaim := { program := "ytfnmipagllofiaagreat", sum := "0dd6fb93abaa9d464e4aeeefb5e0385c1113bc6f1ab881346d379a67c096a7ad", func := "daybook/daybooklaw06.FactsStay", spec := "factsStay", inPlace := ["internal/bytealg.abigen_runtime_cmpstring"], unfollowed := true, recurses := true, apart := false, narrowed := true }
def FactsStayUptoSaid : Prop := factsStayUptoRow.holds Tryz.pinned (OpenSpec.upto factsStaySpec)

/-- 'daybooklaw06.FactsChange', WHERE WHAT IT READS IS OF BULK AT MOST 1048576: true; the input reads as it did. -/
def factsChangeUptoRow : OpenClaim := { program := "ytfnmipagllofiaagreat", sum := "0dd6fb93abaa9d464e4aeeefb5e0385c1113bc6f1ab881346d379a67c096a7ad", func := "daybook/daybooklaw06.FactsChange", spec := "factsChange", inPlace := ["internal/bytealg.abigen_runtime_cmpstring"], unfollowed := true, recurses := true, apart := false, narrowed := true }
def FactsChangeUptoSaid : Prop := factsChangeUptoRow.holds Tryz.pinned (OpenSpec.upto factsChangeSpec)

/-- 'daybooklaw06.FactsNames', WHERE WHAT IT READS IS OF BULK AT MOST 1048576: true; the input reads as it did. -/
def factsNamesUptoRow : OpenClaim := { program := "ytfnmipagllofiaagreat", sum := "0dd6fb93abaa9d464e4aeeefb5e0385c1113bc6f1ab881346d379a67c096a7ad", func := "daybook/daybooklaw06.FactsNames", spec := "factsNames", inPlace := ["internal/bytealg.abigen_runtime_cmpstring"], unfollowed := true, recurses := true, apart := false, narrowed := true }
def FactsNamesUptoSaid : Prop := factsNamesUptoRow.holds Tryz.pinned (OpenSpec.upto factsNamesSpec)

end Rows
end Go.Proofs.YtfnmipagllofiaaGreat
