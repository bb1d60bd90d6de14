/-
  No cell of these rows narrows 'for every input' (looked for: loops, veiled, ifaces, maps, wideKeys, modest, calm, conditions, laid).
  DERIVED. THE GIVEN ROWS OF THIS SEAT. 9 by the template 'for every input the law returns true; each argument reads behind the call as it read before'; 0 by the template 'total and deterministic' (their statements: YtpfalehodcbnbaaTotals.lean).
  GIVEN WITH THE SEED: the statements are not yours to turn. If you find one false, say at which input.
  Laid BY PROGRAM, IN A SANDBOX (cutbox-rows.mjs): the forced cells as the released guide's own fill.sh prints them over the translation 0914eb40370e4685… (all of the seat's roots in one cut). By AI agents, Wed Nov 11 2026. No macro, syntax, notation, axiom, sorry.
-/
import Derived.Test.YtpfalehodcbnbaaChecked
import GoSem.Claim
import GoSem.ClaimJoined
import GoSem.ClaimMapViews
import Derived.JoinedTies
import Derived.KernelRfl
namespace Go.Proofs.Ytpfalehodcbnbaa
/- THE CELL 'sum', in the pinned program and in every row, IS THE sha256 OF THE DUMP (.gsa) THAT YtpfalehodcbnbaaProg.lean LOADS. Nothing in Lean hashes anything: it is a label: what it is worth is what the hold of that sum in a sandbox is worth. -/
noncomputable def Try.pinned : Pinned := { name := "ytpfalehodcbnbaa", sum := "0914eb40370e468576e51629022c917b27891840be86494bc03f3a4bb8d3daae", checked := Try.checked }
namespace Rows
def none {H : Type} : Left H := { results := [], args := [] }

/-- 'daybooklaw01.ValueTells': WHATEVER THE INPUT: true; the input reads as it did. -/
def valueTellsSpec : ChangeSpec := { name := "valueTells", fn := fun _ => fun
  | [d1, d2] => { results := [.lit (.bool true)], args := [d1, d2] }
  | _ => none }
def valueTellsRow : OpenClaim := { program := "ytpfalehodcbnbaa", sum := "0914eb40370e468576e51629022c917b27891840be86494bc03f3a4bb8d3daae", func := "daybook/daybooklaw01.ValueTells", spec := "valueTells", inPlace := ["internal/bytealg.abigen_runtime_cmpstring"], apart := false }
def ValueTellsSaid : Prop := valueTellsRow.holds Try.pinned (OpenSpec.ofChange valueTellsSpec)

/-- ITS FALSE NEIGHBOUR: 'it returns false'. Refute it at one input. -/
def valueTellsWrong : ChangeSpec := { name := "valueTells", fn := fun _ => fun
  | [d1, d2] => { results := [.lit (.bool false)], args := [d1, d2] }
  | _ => none }
def ValueTellsWrongFalsely : Prop := valueTellsRow.holds Try.pinned (OpenSpec.ofChange valueTellsWrong)

/-- 'daybooklaw01.ValueSorts': WHATEVER THE INPUT: true; the input reads as it did. -/
def valueSortsSpec : ChangeSpec := { name := "valueSorts", fn := fun _ => fun
  | [d] => { results := [.lit (.bool true)], args := [d] }
  | _ => none }
def valueSortsRow : OpenClaim := { program := "ytpfalehodcbnbaa", sum := "0914eb40370e468576e51629022c917b27891840be86494bc03f3a4bb8d3daae", func := "daybook/daybooklaw01.ValueSorts", spec := "valueSorts", inPlace := ["internal/bytealg.abigen_runtime_cmpstring"], unfollowed := true, recurses := true, apart := false }
def ValueSortsSaid : Prop := valueSortsRow.holds Try.pinned (OpenSpec.ofChange valueSortsSpec)

/-- ITS FALSE NEIGHBOUR: 'it returns false'. Refute it at one input. -/
def valueSortsWrong : ChangeSpec := { name := "valueSorts", fn := fun _ => fun
  | [d] => { results := [.lit (.bool false)], args := [d] }
  | _ => none }
def ValueSortsWrongFalsely : Prop := valueSortsRow.holds Try.pinned (OpenSpec.ofChange valueSortsWrong)

/-- 'daybooklaw04.DatomPrefixes': WHATEVER THE INPUT: true; the input reads as it did. -/
def datomPrefixesSpec : ChangeSpec := { name := "datomPrefixes", fn := fun _ => fun
  | [d1, d2, d3] => { results := [.lit (.bool true)], args := [d1, d2, d3] }
  | _ => none }
def datomPrefixesRow : OpenClaim := { program := "ytpfalehodcbnbaa", sum := "0914eb40370e468576e51629022c917b27891840be86494bc03f3a4bb8d3daae", func := "daybook/daybooklaw04.DatomPrefixes", spec := "datomPrefixes", inPlace := ["internal/bytealg.abigen_runtime_cmpstring"], unfollowed := true, recurses := true, apart := false }
def DatomPrefixesSaid : Prop := datomPrefixesRow.holds Try.pinned (OpenSpec.ofChange datomPrefixesSpec)

/-- ITS FALSE NEIGHBOUR: 'it returns false'. Refute it at one input. -/
def datomPrefixesWrong : ChangeSpec := { name := "datomPrefixes", fn := fun _ => fun
  | [d1, d2, d3] => { results := [.lit (.bool false)], args := [d1, d2, d3] }
  | _ => none }
def DatomPrefixesWrongFalsely : Prop := datomPrefixesRow.holds Try.pinned (OpenSpec.ofChange datomPrefixesWrong)

/-- 'daybooklaw04.DatomBegins': WHATEVER THE INPUT: true; the input reads as it did. -/
def datomBeginsSpec : ChangeSpec := { name := "datomBegins", fn := fun _ => fun
  | [d1, d2, d3] => { results := [.lit (.bool true)], args := [d1, d2, d3] }
  | _ => none }
def datomBeginsRow : OpenClaim := { program := "ytpfalehodcbnbaa", sum := "0914eb40370e468576e51629022c917b27891840be86494bc03f3a4bb8d3daae", func := "daybook/daybooklaw04.DatomBegins", spec := "datomBegins", inPlace := ["internal/bytealg.abigen_runtime_cmpstring"], unfollowed := true, recurses := true, apart := false }
def DatomBeginsSaid : Prop := datomBeginsRow.holds Try.pinned (OpenSpec.ofChange datomBeginsSpec)

/-- ITS FALSE NEIGHBOUR: 'it returns false'. Refute it at one input. -/
def datomBeginsWrong : ChangeSpec := { name := "datomBegins", fn := fun _ => fun
  | [d1, d2, d3] => { results := [.lit (.bool false)], args := [d1, d2, d3] }
  | _ => none }
def DatomBeginsWrongFalsely : Prop := datomBeginsRow.holds Try.pinned (OpenSpec.ofChange datomBeginsWrong)

/-- 'daybooklaw04.DatomKeeps': WHATEVER THE INPUT: true; the input reads as it did. -/
def datomKeepsSpec : ChangeSpec := { name := "datomKeeps", fn := fun _ => fun
  | [d1, d2, d3, d4] => { results := [.lit (.bool true)], args := [d1, d2, d3, d4] }
  | _ => none }
def datomKeepsRow : OpenClaim := { program := "ytpfalehodcbnbaa", sum := "0914eb40370e468576e51629022c917b27891840be86494bc03f3a4bb8d3daae", func := "daybook/daybooklaw04.DatomKeeps", spec := "datomKeeps", inPlace := ["internal/bytealg.abigen_runtime_cmpstring"], unfollowed := true, recurses := true, apart := false }
def DatomKeepsSaid : Prop := datomKeepsRow.holds Try.pinned (OpenSpec.ofChange datomKeepsSpec)

/-- ITS FALSE NEIGHBOUR: 'it returns false'. Refute it at one input. -/
def datomKeepsWrong : ChangeSpec := { name := "datomKeeps", fn := fun _ => fun
  | [d1, d2, d3, d4] => { results := [.lit (.bool false)], args := [d1, d2, d3, d4] }
  | _ => none }
def DatomKeepsWrongFalsely : Prop := datomKeepsRow.holds Try.pinned (OpenSpec.ofChange datomKeepsWrong)

/-- 'daybooklaw04.DatomTells': WHATEVER THE INPUT: true; the input reads as it did. -/
def datomTellsSpec : ChangeSpec := { name := "datomTells", fn := fun _ => fun
  | [d1, d2, d3, d4] => { results := [.lit (.bool true)], args := [d1, d2, d3, d4] }
  | _ => none }
def datomTellsRow : OpenClaim := { program := "ytpfalehodcbnbaa", sum := "0914eb40370e468576e51629022c917b27891840be86494bc03f3a4bb8d3daae", func := "daybook/daybooklaw04.DatomTells", spec := "datomTells", inPlace := ["internal/bytealg.abigen_runtime_cmpstring"], unfollowed := true, recurses := true, apart := false }
def DatomTellsSaid : Prop := datomTellsRow.holds Try.pinned (OpenSpec.ofChange datomTellsSpec)

/-- ITS FALSE NEIGHBOUR: 'it returns false'. Refute it at one input. -/
def datomTellsWrong : ChangeSpec := { name := "datomTells", fn := fun _ => fun
  | [d1, d2, d3, d4] => { results := [.lit (.bool false)], args := [d1, d2, d3, d4] }
  | _ => none }
def DatomTellsWrongFalsely : Prop := datomTellsRow.holds Try.pinned (OpenSpec.ofChange datomTellsWrong)

/-- 'daybooklaw04.DatomSorts': WHATEVER THE INPUT: true; the input reads as it did. -/
def datomSortsSpec : ChangeSpec := { name := "datomSorts", fn := fun _ => fun
  | [d1, d2] => { results := [.lit (.bool true)], args := [d1, d2] }
  | _ => none }
def datomSortsRow : OpenClaim := { program := "ytpfalehodcbnbaa", sum := "0914eb40370e468576e51629022c917b27891840be86494bc03f3a4bb8d3daae", func := "daybook/daybooklaw04.DatomSorts", spec := "datomSorts", inPlace := ["internal/bytealg.abigen_runtime_cmpstring"], unfollowed := true, recurses := true, apart := false }
def DatomSortsSaid : Prop := datomSortsRow.holds Try.pinned (OpenSpec.ofChange datomSortsSpec)

/-- ITS FALSE NEIGHBOUR: 'it returns false'. Refute it at one input. -/
def datomSortsWrong : ChangeSpec := { name := "datomSorts", fn := fun _ => fun
  | [d1, d2] => { results := [.lit (.bool false)], args := [d1, d2] }
  | _ => none }
def DatomSortsWrongFalsely : Prop := datomSortsRow.holds Try.pinned (OpenSpec.ofChange datomSortsWrong)

/-- 'daybooklaw04.DatomOrders': WHATEVER THE INPUT: true; the input reads as it did. -/
def datomOrdersSpec : ChangeSpec := { name := "datomOrders", fn := fun _ => fun
  | [d1, d2, d3] => { results := [.lit (.bool true)], args := [d1, d2, d3] }
  | _ => none }
def datomOrdersRow : OpenClaim := { program := "ytpfalehodcbnbaa", sum := "0914eb40370e468576e51629022c917b27891840be86494bc03f3a4bb8d3daae", func := "daybook/daybooklaw04.DatomOrders", spec := "datomOrders", inPlace := ["internal/bytealg.abigen_runtime_cmpstring"], unfollowed := true, recurses := true, apart := false }
def DatomOrdersSaid : Prop := datomOrdersRow.holds Try.pinned (OpenSpec.ofChange datomOrdersSpec)

/-- ITS FALSE NEIGHBOUR: 'it returns false'. Refute it at one input. -/
def datomOrdersWrong : ChangeSpec := { name := "datomOrders", fn := fun _ => fun
  | [d1, d2, d3] => { results := [.lit (.bool false)], args := [d1, d2, d3] }
  | _ => none }
def DatomOrdersWrongFalsely : Prop := datomOrdersRow.holds Try.pinned (OpenSpec.ofChange datomOrdersWrong)

/-- 'daybooklaw04.DatomNames': WHATEVER THE INPUT: true; the input reads as it did. -/
def datomNamesSpec : ChangeSpec := { name := "datomNames", fn := fun _ => fun
  | [] => { results := [.lit (.bool true)], args := [] }
  | _ => none }
def datomNamesRow : OpenClaim := { program := "ytpfalehodcbnbaa", sum := "0914eb40370e468576e51629022c917b27891840be86494bc03f3a4bb8d3daae", func := "daybook/daybooklaw04.DatomNames", spec := "datomNames", inPlace := ["internal/bytealg.abigen_runtime_cmpstring"], unfollowed := true, recurses := true, apart := false }
def DatomNamesSaid : Prop := datomNamesRow.holds Try.pinned (OpenSpec.ofChange datomNamesSpec)

/-- ITS FALSE NEIGHBOUR: 'it returns false'. Refute it at one input. -/
def datomNamesWrong : ChangeSpec := { name := "datomNames", fn := fun _ => fun
  | [] => { results := [.lit (.bool false)], args := [] }
  | _ => none }
def DatomNamesWrongFalsely : Prop := datomNamesRow.holds Try.pinned (OpenSpec.ofChange datomNamesWrong)

/- THE SECOND FORM. 'bulk': how many values and letters a reading holds, each counted each time it is reached (what is shared counts as often as it is met; a slice's spare places count too). A statement '..UptoSaid' is the law's where the arguments, and the package variables that the reading takes, are together of bulk at most 1048576: NARROWER than '..Said'. Prove '..Said' where nothing that the law and all that it calls make is longer than what came in: it says more and counts as full. Else prove '..UptoSaid'. A law counts once. -/
mutual
def uptoBulk {H : Type} : DataW H → Nat
  | .lit (.string bytes) => bytes.length + 1
  | .lit _ => 1
  | .nil => 1
  | .ptr d => uptoBulk d + 1
  | .slice elems spare => uptoBulkAll elems + uptoBulkAll spare + 1
  | .agg parts => uptoBulkAll parts + 1
  | .iface _ d => uptoBulk d + 1
  | .map entries => uptoBulkEntries entries + 1
  | .held _ => 1
def uptoBulkAll {H : Type} : List (DataW H) → Nat
  | [] => 0
  | d :: r => uptoBulk d + uptoBulkAll r
def uptoBulkEntries {H : Type} : List (Lit × DataW H) → Nat
  | [] => 0
  | x :: r => uptoBulkEntry x + uptoBulkEntries r
def uptoBulkEntry {H : Type} : Lit × DataW H → Nat
  | (.string bytes, d) => bytes.length + uptoBulk d + 1
  | (_, d) => uptoBulk d + 1
 end
def uptoSmall : (H : Type) → List (DataW H) → Bool := fun _ ds => decide (uptoBulkAll ds ≤ 1048576)
def OpenSpec.upto (s : _root_.Go.ChangeSpec) : _root_.Go.OpenSpec := { _root_.Go.OpenSpec.ofChange s with cond := some uptoSmall }

/-- 'daybooklaw01.ValueTells', WHERE WHAT IT READS IS OF BULK AT MOST 1048576: true; the input reads as it did. -/
def valueTellsUptoRow : OpenClaim := { program := "ytpfalehodcbnbaa", sum := "0914eb40370e468576e51629022c917b27891840be86494bc03f3a4bb8d3daae", func := "daybook/daybooklaw01.ValueTells", spec := "valueTells", inPlace := ["internal/bytealg.abigen_runtime_cmpstring"], apart := false, narrowed := true }
def ValueTellsUptoSaid : Prop := valueTellsUptoRow.holds Try.pinned (OpenSpec.upto valueTellsSpec)

/-- 'daybooklaw01.ValueSorts', WHERE WHAT IT READS IS OF BULK AT MOST 1048576: true; the input reads as it did. -/
def valueSortsUptoRow : OpenClaim := { program := "ytpfalehodcbnbaa", sum := "0914eb40370e468576e51629022c917b27891840be86494bc03f3a4bb8d3daae", func := "daybook/daybooklaw01.ValueSorts", spec := "valueSorts", inPlace := ["internal/bytealg.abigen_runtime_cmpstring"], unfollowed := true, recurses := true, apart := false, narrowed := true }
def ValueSortsUptoSaid : Prop := valueSortsUptoRow.holds Try.pinned (OpenSpec.upto valueSortsSpec)

/-- 'daybooklaw04.DatomPrefixes', WHERE WHAT IT READS IS OF BULK AT MOST 1048576: true; the input reads as it did. -/
def datomPrefixesUptoRow : OpenClaim := { program := "ytpfalehodcbnbaa", sum := "0914eb40370e468576e51629022c917b27891840be86494bc03f3a4bb8d3daae", func := "daybook/daybooklaw04.DatomPrefixes", spec := "datomPrefixes", inPlace := ["internal/bytealg.abigen_runtime_cmpstring"], unfollowed := true, recurses := true, apart := false, narrowed := true }
def DatomPrefixesUptoSaid : Prop := datomPrefixesUptoRow.holds Try.pinned (OpenSpec.upto datomPrefixesSpec)

/-- 'daybooklaw04.DatomBegins', WHERE WHAT IT READS IS OF BULK AT MOST 1048576: true; the input reads as it did. -/
def datomBeginsUptoRow : OpenClaim := { program := "ytpfalehodcbnbaa", sum := "0914eb40370e468576e51629022c917b27891840be86494bc03f3a4bb8d3daae", func := "daybook/daybooklaw04.DatomBegins", spec := "datomBegins", inPlace := ["internal/bytealg.abigen_runtime_cmpstring"], unfollowed := true, recurses := true, apart := false, narrowed := true }
def DatomBeginsUptoSaid : Prop := datomBeginsUptoRow.holds Try.pinned (OpenSpec.upto datomBeginsSpec)

/-- 'daybooklaw04.DatomKeeps', WHERE WHAT IT READS IS OF BULK AT MOST 1048576: true; the input reads as it did. -/
def datomKeepsUptoRow : OpenClaim := { program := "ytpfalehodcbnbaa", sum := "0914eb40370e468576e51629022c917b27891840be86494bc03f3a4bb8d3daae", func := "daybook/daybooklaw04.DatomKeeps", spec := "datomKeeps", inPlace := ["internal/bytealg.abigen_runtime_cmpstring"], unfollowed := true, recurses := true, apart := false, narrowed := true }
def DatomKeepsUptoSaid : Prop := datomKeepsUptoRow.holds Try.pinned (OpenSpec.upto datomKeepsSpec)

/-- 'daybooklaw04.DatomTells', WHERE WHAT IT READS IS OF BULK AT MOST 1048576: true; the input reads as it did. -/
def datomTellsUptoRow : OpenClaim := { program := "ytpfalehodcbnbaa", sum := "0914eb40370e468576e51629022c917b27891840be86494bc03f3a4bb8d3daae", func := "daybook/daybooklaw04.DatomTells", spec := "datomTells", inPlace := ["internal/bytealg.abigen_runtime_cmpstring"], unfollowed := true, recurses := true, apart := false, narrowed := true }
def DatomTellsUptoSaid : Prop := datomTellsUptoRow.holds Try.pinned (OpenSpec.upto datomTellsSpec)

/-- 'daybooklaw04.DatomSorts', WHERE WHAT IT READS IS OF BULK AT MOST 1048576: true; the input reads as it did. -/
def datomSortsUptoRow : OpenClaim := { program := "ytpfalehodcbnbaa", sum := "0914eb40370e468576e51629022c917b27891840be86494bc03f3a4bb8d3daae", func := "daybook/daybooklaw04.DatomSorts", spec := "datomSorts", inPlace := ["internal/bytealg.abigen_runtime_cmpstring"], unfollowed := true, recurses := true, apart := false, narrowed := true }
def DatomSortsUptoSaid : Prop := datomSortsUptoRow.holds Try.pinned (OpenSpec.upto datomSortsSpec)

/-- 'daybooklaw04.DatomOrders', WHERE WHAT IT READS IS OF BULK AT MOST 1048576: true; the input reads as it did. -/
def datomOrdersUptoRow : OpenClaim := { program := "ytpfalehodcbnbaa", sum := "0914eb40370e468576e51629022c917b27891840be86494bc03f3a4bb8d3daae", func := "daybook/daybooklaw04.DatomOrders", spec := "datomOrders", inPlace := ["internal/bytealg.abigen_runtime_cmpstring"], unfollowed := true, recurses := true, apart := false, narrowed := true }
def DatomOrdersUptoSaid : Prop := datomOrdersUptoRow.holds Try.pinned (OpenSpec.upto datomOrdersSpec)

/-- 'daybooklaw04.DatomNames', WHERE WHAT IT READS IS OF BULK AT MOST 1048576: true; the input reads as it did. -/
def datomNamesUptoRow : OpenClaim := { program := "ytpfalehodcbnbaa", sum := "0914eb40370e468576e51629022c917b27891840be86494bc03f3a4bb8d3daae", func := "daybook/daybooklaw04.DatomNames", spec := "datomNames", inPlace := ["internal/bytealg.abigen_runtime_cmpstring"], unfollowed := true, recurses := true, apart := false, narrowed := true }
def DatomNamesUptoSaid : Prop := datomNamesUptoRow.holds Try.pinned (OpenSpec.upto datomNamesSpec)

end Rows
end Go.Proofs.Ytpfalehodcbnbaa
