/-
  No cell of these rows narrows 'for every input' (looked for: loops, veiled, ifaces, maps, wideKeys, modest, calm, conditions, laid).
  DERIVED. THE GIVEN ROWS OF THIS SEAT. 4 by the template 'for every input the law returns true; each argument reads behind the call as it read before'; 0 by the template 'total and deterministic' (their statements: YtjojdiefnhbglaaTotals.lean).
  GIVEN WITH THE SEED: the statements are not yours to turn. If you find one false, say at which input.
  Laid BY PROGRAM, IN A SANDBOX (cutbox-rows.mjs): the forced cells as the released guide's own fill.sh prints them over the translation 8307f4540eb97282… (all of the seat's roots in one cut). By AI agents, Wed Nov 11 2026. No macro, syntax, notation, axiom, sorry.
-/
import Derived.Test.YtjojdiefnhbglaaChecked
import GoSem.Claim
import GoSem.ClaimJoined
import GoSem.ClaimMapViews
import Derived.JoinedTies
import Derived.KernelRfl
namespace Go.Proofs.Ytjojdiefnhbglaa
/- THE CELL 'sum', in the pinned program and in every row, IS THE sha256 OF THE DUMP (.gsa) THAT YtjojdiefnhbglaaProg.lean LOADS. Nothing in Lean hashes anything: it is a label: what it is worth is what the hold of that sum in a sandbox is worth. -/
noncomputable def Try.pinned : Pinned := { name := "ytjojdiefnhbglaa", sum := "8307f4540eb97282f6f609c31f3577f718c49f44bcb0afc6aadc390bd4d66e41", checked := Try.checked }
namespace Rows
def none {H : Type} : Left H := { results := [], args := [] }

/-- 'daybooklaw11.IndexParts': WHATEVER THE INPUT: true; the input reads as it did. -/
def indexPartsSpec : ChangeSpec := { name := "indexParts", fn := fun _ => fun
  | [d1, d2, d3] => { results := [.lit (.bool true)], args := [d1, d2, d3] }
  | _ => none }
def indexPartsRow : OpenClaim := { program := "ytjojdiefnhbglaa", sum := "8307f4540eb97282f6f609c31f3577f718c49f44bcb0afc6aadc390bd4d66e41", func := "daybook/daybooklaw11.IndexParts", spec := "indexParts", inPlace := ["internal/bytealg.Compare"], unfollowed := true, recurses := true, apart := false }
def IndexPartsSaid : Prop := indexPartsRow.holds Try.pinned (OpenSpec.ofChange indexPartsSpec)

/-- ITS FALSE NEIGHBOUR: 'it returns false'. Refute it at one input. -/
def indexPartsWrong : ChangeSpec := { name := "indexParts", fn := fun _ => fun
  | [d1, d2, d3] => { results := [.lit (.bool false)], args := [d1, d2, d3] }
  | _ => none }
def IndexPartsWrongFalsely : Prop := indexPartsRow.holds Try.pinned (OpenSpec.ofChange indexPartsWrong)

/-- 'daybooklaw11.IndexAdds': WHATEVER THE INPUT: true; the input reads as it did. -/
def indexAddsSpec : ChangeSpec := { name := "indexAdds", fn := fun _ => fun
  | [d1, d2, d3, d4] => { results := [.lit (.bool true)], args := [d1, d2, d3, d4] }
  | _ => none }
def indexAddsRow : OpenClaim := { program := "ytjojdiefnhbglaa", sum := "8307f4540eb97282f6f609c31f3577f718c49f44bcb0afc6aadc390bd4d66e41", func := "daybook/daybooklaw11.IndexAdds", spec := "indexAdds", inPlace := ["internal/bytealg.Compare"], unfollowed := true, recurses := true, apart := false }
def IndexAddsSaid : Prop := indexAddsRow.holds Try.pinned (OpenSpec.ofChange indexAddsSpec)

/-- ITS FALSE NEIGHBOUR: 'it returns false'. Refute it at one input. -/
def indexAddsWrong : ChangeSpec := { name := "indexAdds", fn := fun _ => fun
  | [d1, d2, d3, d4] => { results := [.lit (.bool false)], args := [d1, d2, d3, d4] }
  | _ => none }
def IndexAddsWrongFalsely : Prop := indexAddsRow.holds Try.pinned (OpenSpec.ofChange indexAddsWrong)

/-- 'daybooklaw29.StatsCurve': WHATEVER THE INPUT: true; the input reads as it did. -/
def statsCurveSpec : ChangeSpec := { name := "statsCurve", fn := fun _ => fun
  | [d] => { results := [.lit (.bool true)], args := [d] }
  | _ => none }
def statsCurveRow : OpenClaim := { program := "ytjojdiefnhbglaa", sum := "8307f4540eb97282f6f609c31f3577f718c49f44bcb0afc6aadc390bd4d66e41", func := "daybook/daybooklaw29.StatsCurve", spec := "statsCurve", inPlace := ["internal/bytealg.abigen_runtime_cmpstring"], unfollowed := true, recurses := true, apart := false }
def StatsCurveSaid : Prop := statsCurveRow.holds Try.pinned (OpenSpec.ofChange statsCurveSpec)

/-- ITS FALSE NEIGHBOUR: 'it returns false'. Refute it at one input. -/
def statsCurveWrong : ChangeSpec := { name := "statsCurve", fn := fun _ => fun
  | [d] => { results := [.lit (.bool false)], args := [d] }
  | _ => none }
def StatsCurveWrongFalsely : Prop := statsCurveRow.holds Try.pinned (OpenSpec.ofChange statsCurveWrong)

/-- 'daybooklaw29.StatsCounts': WHATEVER THE INPUT: true; the input reads as it did. -/
def statsCountsSpec : ChangeSpec := { name := "statsCounts", fn := fun _ => fun
  | [d1, d2] => { results := [.lit (.bool true)], args := [d1, d2] }
  | _ => none }
def statsCountsRow : OpenClaim := { program := "ytjojdiefnhbglaa", sum := "8307f4540eb97282f6f609c31f3577f718c49f44bcb0afc6aadc390bd4d66e41", func := "daybook/daybooklaw29.StatsCounts", spec := "statsCounts", inPlace := ["internal/bytealg.abigen_runtime_cmpstring", "slices.overlaps[daybook/stats.Tx]"], unfollowed := true, recurses := true, apart := false }
def StatsCountsSaid : Prop := statsCountsRow.holds Try.pinned (OpenSpec.ofChange statsCountsSpec)

/-- ITS FALSE NEIGHBOUR: 'it returns false'. Refute it at one input. -/
def statsCountsWrong : ChangeSpec := { name := "statsCounts", fn := fun _ => fun
  | [d1, d2] => { results := [.lit (.bool false)], args := [d1, d2] }
  | _ => none }
def StatsCountsWrongFalsely : Prop := statsCountsRow.holds Try.pinned (OpenSpec.ofChange statsCountsWrong)

/- THE SECOND FORM. 'bulk': how many values and letters a reading holds, each counted each time it is reached (what is shared counts as often as it is met; a slice's spare places count too). A statement '..UptoSaid' is the law's where the arguments, and the package variables that the reading takes, are together of bulk at most 1048576: NARROWER than '..Said'. Prove '..Said' where nothing that the law and all that it calls make is longer than what came in: it says more and counts as full. Else prove '..UptoSaid'. A law counts once. -/
mutual
def uptoBulk {H : Type} : DataW H → Nat
  | .lit (.string bytes) => bytes.length + 1
  | .lit _ => 1
  | .nil => 1
  | .ptr d => uptoBulk d + 1
  | .slice elems spare => uptoBulkAll elems + uptoBulkAll spare + 1
  | .agg parts => uptoBulkAll parts + 1
  | .iface _ d => uptoBulk d + 1
  | .map entries => uptoBulkEntries entries + 1
  | .held _ => 1
def uptoBulkAll {H : Type} : List (DataW H) → Nat
  | [] => 0
  | d :: r => uptoBulk d + uptoBulkAll r
def uptoBulkEntries {H : Type} : List (Lit × DataW H) → Nat
  | [] => 0
  | x :: r => uptoBulkEntry x + uptoBulkEntries r
def uptoBulkEntry {H : Type} : Lit × DataW H → Nat
  | (.string bytes, d) => bytes.length + uptoBulk d + 1
  | (_, d) => uptoBulk d + 1
 end
def uptoSmall : (H : Type) → List (DataW H) → Bool := fun _ ds => decide (uptoBulkAll ds ≤ 1048576)
def OpenSpec.upto (s : _root_.Go.ChangeSpec) : _root_.Go.OpenSpec := { _root_.Go.OpenSpec.ofChange s with cond := some uptoSmall }

/-- 'daybooklaw11.IndexParts', WHERE WHAT IT READS IS OF BULK AT MOST 1048576: true; the input reads as it did. -/
def indexPartsUptoRow : OpenClaim := { program := "ytjojdiefnhbglaa", sum := "8307f4540eb97282f6f609c31f3577f718c49f44bcb0afc6aadc390bd4d66e41", func := "daybook/daybooklaw11.IndexParts", spec := "indexParts", inPlace := ["internal/bytealg.Compare"], unfollowed := true, recurses := true, apart := false, narrowed := true }
def IndexPartsUptoSaid : Prop := indexPartsUptoRow.holds Try.pinned (OpenSpec.upto indexPartsSpec)

/-- 'daybooklaw11.IndexAdds', WHERE WHAT IT READS IS OF BULK AT MOST 1048576: true; the input reads as it did. -/
def indexAddsUptoRow : OpenClaim := { program := "ytjojdiefnhbglaa", sum := "8307f4540eb97282f6f609c31f3577f718c49f44bcb0afc6aadc390bd4d66e41", func := "daybook/daybooklaw11.IndexAdds", spec := "indexAdds", inPlace := ["internal/bytealg.Compare"], unfollowed := true, recurses := true, apart := false, narrowed := true }
def IndexAddsUptoSaid : Prop := indexAddsUptoRow.holds Try.pinned (OpenSpec.upto indexAddsSpec)

/-- 'daybooklaw29.StatsCurve', WHERE WHAT IT READS IS OF BULK AT MOST 1048576: true; the input reads as it did. -/
def statsCurveUptoRow : OpenClaim := { program := "ytjojdiefnhbglaa", sum := "8307f4540eb97282f6f609c31f3577f718c49f44bcb0afc6aadc390bd4d66e41", func := "daybook/daybooklaw29.StatsCurve", spec := "statsCurve", inPlace := ["internal/bytealg.abigen_runtime_cmpstring"], unfollowed := true, recurses := true, apart := false, narrowed := true }
def StatsCurveUptoSaid : Prop := statsCurveUptoRow.holds Try.pinned (OpenSpec.upto statsCurveSpec)

/-- 'daybooklaw29.StatsCounts', WHERE WHAT IT READS IS OF BULK AT MOST 1048576: true; the input reads as it did. -/
def statsCountsUptoRow : OpenClaim := { program := "ytjojdiefnhbglaa", sum := "8307f4540eb97282f6f609c31f3577f718c49f44bcb0afc6aadc390bd4d66e41", func := "daybook/daybooklaw29.StatsCounts", spec := "statsCounts", inPlace := ["internal/bytealg.abigen_runtime_cmpstring", "slices.overlaps[daybook/stats.Tx]"], unfollowed := true, recurses := true, apart := false, narrowed := true }
def StatsCountsUptoSaid : Prop := statsCountsUptoRow.holds Try.pinned (OpenSpec.upto statsCountsSpec)

end Rows
end Go.Proofs.Ytjojdiefnhbglaa
