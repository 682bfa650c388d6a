/-
  No cell of these rows narrows 'for every input' (looked for: loops, veiled, ifaces, maps, wideKeys, modest, calm, conditions, laid).
  DERIVED. THE GIVEN ROWS OF THIS SEAT. 12 by the template 'for every input the law returns true; each argument reads behind the call as it read before'; 0 by the template 'total and deterministic' (their statements: YtjfgmnfkkehgfaaTotals.lean).
  GIVEN WITH THE SEED: the statements are not yours to turn. If you find one false, say at which input.
  Laid BY PROGRAM, IN A SANDBOX (cutbox-rows.mjs): the forced cells as the released guide's own fill.sh prints them over the translation 27b2694efb492e97… (all of the seat's roots in one cut). By AI agents, Wed Nov 11 2026. No macro, syntax, notation, axiom, sorry.
-/
import Derived.Test.YtjfgmnfkkehgfaaChecked
import GoSem.Claim
import GoSem.ClaimJoined
import GoSem.ClaimMapViews
import Derived.JoinedTies
import Derived.KernelRfl
namespace Go.Proofs.Ytjfgmnfkkehgfaa
/- THE CELL 'sum', in the pinned program and in every row, IS THE sha256 OF THE DUMP (.gsa) THAT YtjfgmnfkkehgfaaProg.lean LOADS. Nothing in Lean hashes anything: it is a label: what it is worth is what the hold of that sum in a sandbox is worth. -/
noncomputable def Try.pinned : Pinned := { name := "ytjfgmnfkkehgfaa", sum := "27b2694efb492e979498dfb438da7b9109339e6ca0f7b97ce5d170083c39f300", checked := Try.checked }
namespace Rows
def none {H : Type} : Left H := { results := [], args := [] }

/-- 'laws.FnExactTakeApart': WHATEVER THE INPUT: true; the input reads as it did. -/
def fnExactTakeApartSpec : ChangeSpec := { name := "fnExactTakeApart", fn := fun _ => fun
  | [d1, d2, d3, d4] => { results := [.lit (.bool true)], args := [d1, d2, d3, d4] }
  | _ => none }
def fnExactTakeApartRow : OpenClaim := { program := "ytjfgmnfkkehgfaa", sum := "27b2694efb492e979498dfb438da7b9109339e6ca0f7b97ce5d170083c39f300", func := "loop.example/g01375/laws.FnExactTakeApart", spec := "fnExactTakeApart", unfollowed := true, recurses := true, apart := false }
def FnExactTakeApartSaid : Prop := fnExactTakeApartRow.holds Try.pinned (OpenSpec.ofChange fnExactTakeApartSpec)

/-- ITS FALSE NEIGHBOUR: 'it returns false'. Refute it at one input. -/
def fnExactTakeApartWrong : ChangeSpec := { name := "fnExactTakeApart", fn := fun _ => fun
  | [d1, d2, d3, d4] => { results := [.lit (.bool false)], args := [d1, d2, d3, d4] }
  | _ => none }
def FnExactTakeApartWrongFalsely : Prop := fnExactTakeApartRow.holds Try.pinned (OpenSpec.ofChange fnExactTakeApartWrong)

/-- 'laws.FnExactFittedOf': WHATEVER THE INPUT: true; the input reads as it did. -/
def fnExactFittedOfSpec : ChangeSpec := { name := "fnExactFittedOf", fn := fun _ => fun
  | [d1, d2] => { results := [.lit (.bool true)], args := [d1, d2] }
  | _ => none }
def fnExactFittedOfRow : OpenClaim := { program := "ytjfgmnfkkehgfaa", sum := "27b2694efb492e979498dfb438da7b9109339e6ca0f7b97ce5d170083c39f300", func := "loop.example/g01375/laws.FnExactFittedOf", spec := "fnExactFittedOf", unfollowed := true, recurses := true, apart := false }
def FnExactFittedOfSaid : Prop := fnExactFittedOfRow.holds Try.pinned (OpenSpec.ofChange fnExactFittedOfSpec)

/-- ITS FALSE NEIGHBOUR: 'it returns false'. Refute it at one input. -/
def fnExactFittedOfWrong : ChangeSpec := { name := "fnExactFittedOf", fn := fun _ => fun
  | [d1, d2] => { results := [.lit (.bool false)], args := [d1, d2] }
  | _ => none }
def FnExactFittedOfWrongFalsely : Prop := fnExactFittedOfRow.holds Try.pinned (OpenSpec.ofChange fnExactFittedOfWrong)

/-- 'laws.FnExactMeansShared': WHATEVER THE INPUT: true; the input reads as it did. -/
def fnExactMeansSharedSpec : ChangeSpec := { name := "fnExactMeansShared", fn := fun _ => fun
  | [d1, d2] => { results := [.lit (.bool true)], args := [d1, d2] }
  | _ => none }
def fnExactMeansSharedRow : OpenClaim := { program := "ytjfgmnfkkehgfaa", sum := "27b2694efb492e979498dfb438da7b9109339e6ca0f7b97ce5d170083c39f300", func := "loop.example/g01375/laws.FnExactMeansShared", spec := "fnExactMeansShared", unfollowed := true, recurses := true, apart := false }
def FnExactMeansSharedSaid : Prop := fnExactMeansSharedRow.holds Try.pinned (OpenSpec.ofChange fnExactMeansSharedSpec)

/-- ITS FALSE NEIGHBOUR: 'it returns false'. Refute it at one input. -/
def fnExactMeansSharedWrong : ChangeSpec := { name := "fnExactMeansShared", fn := fun _ => fun
  | [d1, d2] => { results := [.lit (.bool false)], args := [d1, d2] }
  | _ => none }
def FnExactMeansSharedWrongFalsely : Prop := fnExactMeansSharedRow.holds Try.pinned (OpenSpec.ofChange fnExactMeansSharedWrong)

/-- 'laws.FnExactLagColumns': WHATEVER THE INPUT: true; the input reads as it did. -/
def fnExactLagColumnsSpec : ChangeSpec := { name := "fnExactLagColumns", fn := fun _ => fun
  | [d1, d2] => { results := [.lit (.bool true)], args := [d1, d2] }
  | _ => none }
def fnExactLagColumnsRow : OpenClaim := { program := "ytjfgmnfkkehgfaa", sum := "27b2694efb492e979498dfb438da7b9109339e6ca0f7b97ce5d170083c39f300", func := "loop.example/g01375/laws.FnExactLagColumns", spec := "fnExactLagColumns", unfollowed := true, recurses := true, apart := false }
def FnExactLagColumnsSaid : Prop := fnExactLagColumnsRow.holds Try.pinned (OpenSpec.ofChange fnExactLagColumnsSpec)

/-- ITS FALSE NEIGHBOUR: 'it returns false'. Refute it at one input. -/
def fnExactLagColumnsWrong : ChangeSpec := { name := "fnExactLagColumns", fn := fun _ => fun
  | [d1, d2] => { results := [.lit (.bool false)], args := [d1, d2] }
  | _ => none }
def FnExactLagColumnsWrongFalsely : Prop := fnExactLagColumnsRow.holds Try.pinned (OpenSpec.ofChange fnExactLagColumnsWrong)

/-- 'laws.FnExactColumnFit': WHATEVER THE INPUT: true; the input reads as it did. -/
def fnExactColumnFitSpec : ChangeSpec := { name := "fnExactColumnFit", fn := fun _ => fun
  | [d1, d2] => { results := [.lit (.bool true)], args := [d1, d2] }
  | _ => none }
def fnExactColumnFitRow : OpenClaim := { program := "ytjfgmnfkkehgfaa", sum := "27b2694efb492e979498dfb438da7b9109339e6ca0f7b97ce5d170083c39f300", func := "loop.example/g01375/laws.FnExactColumnFit", spec := "fnExactColumnFit", unfollowed := true, recurses := true, apart := false }
def FnExactColumnFitSaid : Prop := fnExactColumnFitRow.holds Try.pinned (OpenSpec.ofChange fnExactColumnFitSpec)

/-- ITS FALSE NEIGHBOUR: 'it returns false'. Refute it at one input. -/
def fnExactColumnFitWrong : ChangeSpec := { name := "fnExactColumnFit", fn := fun _ => fun
  | [d1, d2] => { results := [.lit (.bool false)], args := [d1, d2] }
  | _ => none }
def FnExactColumnFitWrongFalsely : Prop := fnExactColumnFitRow.holds Try.pinned (OpenSpec.ofChange fnExactColumnFitWrong)

/-- 'laws.FnExactRestOfFit': WHATEVER THE INPUT: true; the input reads as it did. -/
def fnExactRestOfFitSpec : ChangeSpec := { name := "fnExactRestOfFit", fn := fun _ => fun
  | [d1, d2] => { results := [.lit (.bool true)], args := [d1, d2] }
  | _ => none }
def fnExactRestOfFitRow : OpenClaim := { program := "ytjfgmnfkkehgfaa", sum := "27b2694efb492e979498dfb438da7b9109339e6ca0f7b97ce5d170083c39f300", func := "loop.example/g01375/laws.FnExactRestOfFit", spec := "fnExactRestOfFit", unfollowed := true, recurses := true, apart := false }
def FnExactRestOfFitSaid : Prop := fnExactRestOfFitRow.holds Try.pinned (OpenSpec.ofChange fnExactRestOfFitSpec)

/-- ITS FALSE NEIGHBOUR: 'it returns false'. Refute it at one input. -/
def fnExactRestOfFitWrong : ChangeSpec := { name := "fnExactRestOfFit", fn := fun _ => fun
  | [d1, d2] => { results := [.lit (.bool false)], args := [d1, d2] }
  | _ => none }
def FnExactRestOfFitWrongFalsely : Prop := fnExactRestOfFitRow.holds Try.pinned (OpenSpec.ofChange fnExactRestOfFitWrong)

/-- 'laws.FnExactHarmonicFit': WHATEVER THE INPUT: true; the input reads as it did. -/
def fnExactHarmonicFitSpec : ChangeSpec := { name := "fnExactHarmonicFit", fn := fun _ => fun
  | [d1, d2, d3] => { results := [.lit (.bool true)], args := [d1, d2, d3] }
  | _ => none }
def fnExactHarmonicFitRow : OpenClaim := { program := "ytjfgmnfkkehgfaa", sum := "27b2694efb492e979498dfb438da7b9109339e6ca0f7b97ce5d170083c39f300", func := "loop.example/g01375/laws.FnExactHarmonicFit", spec := "fnExactHarmonicFit", inPlace := ["math.Float32frombits", "math.Float64frombits", "math.Float64bits"], unfollowed := true, recurses := true, apart := false }
def FnExactHarmonicFitSaid : Prop := fnExactHarmonicFitRow.holds Try.pinned (OpenSpec.ofChange fnExactHarmonicFitSpec)

/-- ITS FALSE NEIGHBOUR: 'it returns false'. Refute it at one input. -/
def fnExactHarmonicFitWrong : ChangeSpec := { name := "fnExactHarmonicFit", fn := fun _ => fun
  | [d1, d2, d3] => { results := [.lit (.bool false)], args := [d1, d2, d3] }
  | _ => none }
def FnExactHarmonicFitWrongFalsely : Prop := fnExactHarmonicFitRow.holds Try.pinned (OpenSpec.ofChange fnExactHarmonicFitWrong)

/-- 'laws.FnDays': WHATEVER THE INPUT: true; the input reads as it did. -/
def fnDaysSpec : ChangeSpec := { name := "fnDays", fn := fun _ => fun
  | [d1, d2] => { results := [.lit (.bool true)], args := [d1, d2] }
  | _ => none }
def fnDaysRow : OpenClaim := { program := "ytjfgmnfkkehgfaa", sum := "27b2694efb492e979498dfb438da7b9109339e6ca0f7b97ce5d170083c39f300", func := "loop.example/g01375/laws.FnDays", spec := "fnDays", unfollowed := true, recurses := true, apart := false }
def FnDaysSaid : Prop := fnDaysRow.holds Try.pinned (OpenSpec.ofChange fnDaysSpec)

/-- ITS FALSE NEIGHBOUR: 'it returns false'. Refute it at one input. -/
def fnDaysWrong : ChangeSpec := { name := "fnDays", fn := fun _ => fun
  | [d1, d2] => { results := [.lit (.bool false)], args := [d1, d2] }
  | _ => none }
def FnDaysWrongFalsely : Prop := fnDaysRow.holds Try.pinned (OpenSpec.ofChange fnDaysWrong)

/-- 'laws.FnFolded': WHATEVER THE INPUT: true; the input reads as it did. -/
def fnFoldedSpec : ChangeSpec := { name := "fnFolded", fn := fun _ => fun
  | [d1, d2] => { results := [.lit (.bool true)], args := [d1, d2] }
  | _ => none }
def fnFoldedRow : OpenClaim := { program := "ytjfgmnfkkehgfaa", sum := "27b2694efb492e979498dfb438da7b9109339e6ca0f7b97ce5d170083c39f300", func := "loop.example/g01375/laws.FnFolded", spec := "fnFolded", inPlace := ["math.Float32bits"], unfollowed := true, recurses := true, apart := false }
def FnFoldedSaid : Prop := fnFoldedRow.holds Try.pinned (OpenSpec.ofChange fnFoldedSpec)

/-- ITS FALSE NEIGHBOUR: 'it returns false'. Refute it at one input. -/
def fnFoldedWrong : ChangeSpec := { name := "fnFolded", fn := fun _ => fun
  | [d1, d2] => { results := [.lit (.bool false)], args := [d1, d2] }
  | _ => none }
def FnFoldedWrongFalsely : Prop := fnFoldedRow.holds Try.pinned (OpenSpec.ofChange fnFoldedWrong)

/-- 'laws.FnUndone': WHATEVER THE INPUT: true; the input reads as it did. -/
def fnUndoneSpec : ChangeSpec := { name := "fnUndone", fn := fun _ => fun
  | [d1, d2] => { results := [.lit (.bool true)], args := [d1, d2] }
  | _ => none }
def fnUndoneRow : OpenClaim := { program := "ytjfgmnfkkehgfaa", sum := "27b2694efb492e979498dfb438da7b9109339e6ca0f7b97ce5d170083c39f300", func := "loop.example/g01375/laws.FnUndone", spec := "fnUndone", unfollowed := true, recurses := true, apart := false }
def FnUndoneSaid : Prop := fnUndoneRow.holds Try.pinned (OpenSpec.ofChange fnUndoneSpec)

/-- ITS FALSE NEIGHBOUR: 'it returns false'. Refute it at one input. -/
def fnUndoneWrong : ChangeSpec := { name := "fnUndone", fn := fun _ => fun
  | [d1, d2] => { results := [.lit (.bool false)], args := [d1, d2] }
  | _ => none }
def FnUndoneWrongFalsely : Prop := fnUndoneRow.holds Try.pinned (OpenSpec.ofChange fnUndoneWrong)

/-- 'laws.FnApart': WHATEVER THE INPUT: true; the input reads as it did. -/
def fnApartSpec : ChangeSpec := { name := "fnApart", fn := fun _ => fun
  | [d1, d2] => { results := [.lit (.bool true)], args := [d1, d2] }
  | _ => none }
def fnApartRow : OpenClaim := { program := "ytjfgmnfkkehgfaa", sum := "27b2694efb492e979498dfb438da7b9109339e6ca0f7b97ce5d170083c39f300", func := "loop.example/g01375/laws.FnApart", spec := "fnApart", unfollowed := true, recurses := true, apart := false }
def FnApartSaid : Prop := fnApartRow.holds Try.pinned (OpenSpec.ofChange fnApartSpec)

/-- ITS FALSE NEIGHBOUR: 'it returns false'. Refute it at one input. -/
def fnApartWrong : ChangeSpec := { name := "fnApart", fn := fun _ => fun
  | [d1, d2] => { results := [.lit (.bool false)], args := [d1, d2] }
  | _ => none }
def FnApartWrongFalsely : Prop := fnApartRow.holds Try.pinned (OpenSpec.ofChange fnApartWrong)

/-- 'laws.FnNumbersOf': WHATEVER THE INPUT: true; the input reads as it did. -/
def fnNumbersOfSpec : ChangeSpec := { name := "fnNumbersOf", fn := fun _ => fun
  | [d1, d2] => { results := [.lit (.bool true)], args := [d1, d2] }
  | _ => none }
def fnNumbersOfRow : OpenClaim := { program := "ytjfgmnfkkehgfaa", sum := "27b2694efb492e979498dfb438da7b9109339e6ca0f7b97ce5d170083c39f300", func := "loop.example/g01375/laws.FnNumbersOf", spec := "fnNumbersOf", inPlace := ["math.sqrt", "math.archFloor", "math.Float64bits", "math.Float64frombits", "math.archTrunc"], unfollowed := true, recurses := true, apart := false }
def FnNumbersOfSaid : Prop := fnNumbersOfRow.holds Try.pinned (OpenSpec.ofChange fnNumbersOfSpec)

/-- ITS FALSE NEIGHBOUR: 'it returns false'. Refute it at one input. -/
def fnNumbersOfWrong : ChangeSpec := { name := "fnNumbersOf", fn := fun _ => fun
  | [d1, d2] => { results := [.lit (.bool false)], args := [d1, d2] }
  | _ => none }
def FnNumbersOfWrongFalsely : Prop := fnNumbersOfRow.holds Try.pinned (OpenSpec.ofChange fnNumbersOfWrong)

/- THE SECOND FORM. 'bulk': how many values and letters a reading holds, each counted each time it is reached (what is shared counts as often as it is met; a slice's spare places count too). A statement '..UptoSaid' is the law's where the arguments, and the package variables that the reading takes, are together of bulk at most 1048576: NARROWER than '..Said'. Prove '..Said' where nothing that the law and all that it calls make is longer than what came in: it says more and counts as full. Else prove '..UptoSaid'. A law counts once. -/
mutual
def uptoBulk {H : Type} : DataW H → Nat
  | .lit (.string bytes) => bytes.length + 1
  | .lit _ => 1
  | .nil => 1
  | .ptr d => uptoBulk d + 1
  | .slice elems spare => uptoBulkAll elems + uptoBulkAll spare + 1
  | .agg parts => uptoBulkAll parts + 1
  | .iface _ d => uptoBulk d + 1
  | .map entries => uptoBulkEntries entries + 1
  | .held _ => 1
def uptoBulkAll {H : Type} : List (DataW H) → Nat
  | [] => 0
  | d :: r => uptoBulk d + uptoBulkAll r
def uptoBulkEntries {H : Type} : List (Lit × DataW H) → Nat
  | [] => 0
  | x :: r => uptoBulkEntry x + uptoBulkEntries r
def uptoBulkEntry {H : Type} : Lit × DataW H → Nat
  | (.string bytes, d) => bytes.length + uptoBulk d + 1
  | (_, d) => uptoBulk d + 1
 end
def uptoSmall : (H : Type) → List (DataW H) → Bool := fun _ ds => decide (uptoBulkAll ds ≤ 1048576)
def OpenSpec.upto (s : _root_.Go.ChangeSpec) : _root_.Go.OpenSpec := { _root_.Go.OpenSpec.ofChange s with cond := some uptoSmall }

/-- 'laws.FnExactTakeApart', WHERE WHAT IT READS IS OF BULK AT MOST 1048576: true; the input reads as it did. -/
def fnExactTakeApartUptoRow : OpenClaim := { program := "ytjfgmnfkkehgfaa", sum := "27b2694efb492e979498dfb438da7b9109339e6ca0f7b97ce5d170083c39f300", func := "loop.example/g01375/laws.FnExactTakeApart", spec := "fnExactTakeApart", unfollowed := true, recurses := true, apart := false, narrowed := true }
def FnExactTakeApartUptoSaid : Prop := fnExactTakeApartUptoRow.holds Try.pinned (OpenSpec.upto fnExactTakeApartSpec)

/-- 'laws.FnExactFittedOf', WHERE WHAT IT READS IS OF BULK AT MOST 1048576: true; the input reads as it did. -/
def fnExactFittedOfUptoRow : OpenClaim := { program := "ytjfgmnfkkehgfaa", sum := "27b2694efb492e979498dfb438da7b9109339e6ca0f7b97ce5d170083c39f300", func := "loop.example/g01375/laws.FnExactFittedOf", spec := "fnExactFittedOf", unfollowed := true, recurses := true, apart := false, narrowed := true }
def FnExactFittedOfUptoSaid : Prop := fnExactFittedOfUptoRow.holds Try.pinned (OpenSpec.upto fnExactFittedOfSpec)

/-- 'laws.FnExactMeansShared', WHERE WHAT IT READS IS OF BULK AT MOST 1048576: true; the input reads as it did. -/
def fnExactMeansSharedUptoRow : OpenClaim := { program := "ytjfgmnfkkehgfaa", sum := "27b2694efb492e979498dfb438da7b9109339e6ca0f7b97ce5d170083c39f300", func := "loop.example/g01375/laws.FnExactMeansShared", spec := "fnExactMeansShared", unfollowed := true, recurses := true, apart := false, narrowed := true }
def FnExactMeansSharedUptoSaid : Prop := fnExactMeansSharedUptoRow.holds Try.pinned (OpenSpec.upto fnExactMeansSharedSpec)

/-- 'laws.FnExactLagColumns', WHERE WHAT IT READS IS OF BULK AT MOST 1048576: true; the input reads as it did. -/
def fnExactLagColumnsUptoRow : OpenClaim := { program := "ytjfgmnfkkehgfaa", sum := "27b2694efb492e979498dfb438da7b9109339e6ca0f7b97ce5d170083c39f300", func := "loop.example/g01375/laws.FnExactLagColumns", spec := "fnExactLagColumns", unfollowed := true, recurses := true, apart := false, narrowed := true }
def FnExactLagColumnsUptoSaid : Prop := fnExactLagColumnsUptoRow.holds Try.pinned (OpenSpec.upto fnExactLagColumnsSpec)

/-- 'laws.FnExactColumnFit', WHERE WHAT IT READS IS OF BULK AT MOST 1048576: true; the input reads as it did. -/
def fnExactColumnFitUptoRow : OpenClaim := { program := "ytjfgmnfkkehgfaa", sum := "27b2694efb492e979498dfb438da7b9109339e6ca0f7b97ce5d170083c39f300", func := "loop.example/g01375/laws.FnExactColumnFit", spec := "fnExactColumnFit", unfollowed := true, recurses := true, apart := false, narrowed := true }
def FnExactColumnFitUptoSaid : Prop := fnExactColumnFitUptoRow.holds Try.pinned (OpenSpec.upto fnExactColumnFitSpec)

/-- 'laws.FnExactRestOfFit', WHERE WHAT IT READS IS OF BULK AT MOST 1048576: true; the input reads as it did. -/
def fnExactRestOfFitUptoRow : OpenClaim := { program := "ytjfgmnfkkehgfaa", sum := "27b2694efb492e979498dfb438da7b9109339e6ca0f7b97ce5d170083c39f300", func := "loop.example/g01375/laws.FnExactRestOfFit", spec := "fnExactRestOfFit", unfollowed := true, recurses := true, apart := false, narrowed := true }
def FnExactRestOfFitUptoSaid : Prop := fnExactRestOfFitUptoRow.holds Try.pinned (OpenSpec.upto fnExactRestOfFitSpec)

/-- 'laws.FnExactHarmonicFit', WHERE WHAT IT READS IS OF BULK AT MOST 1048576: true; the input reads as it did. -/
def fnExactHarmonicFitUptoRow : OpenClaim := { program := "ytjfgmnfkkehgfaa", sum := "27b2694efb492e979498dfb438da7b9109339e6ca0f7b97ce5d170083c39f300", func := "loop.example/g01375/laws.FnExactHarmonicFit", spec := "fnExactHarmonicFit", inPlace := ["math.Float32frombits", "math.Float64frombits", "math.Float64bits"], unfollowed := true, recurses := true, apart := false, narrowed := true }
def FnExactHarmonicFitUptoSaid : Prop := fnExactHarmonicFitUptoRow.holds Try.pinned (OpenSpec.upto fnExactHarmonicFitSpec)

/-- 'laws.FnDays', WHERE WHAT IT READS IS OF BULK AT MOST 1048576: true; the input reads as it did. -/
def fnDaysUptoRow : OpenClaim := { program := "ytjfgmnfkkehgfaa", sum := "27b2694efb492e979498dfb438da7b9109339e6ca0f7b97ce5d170083c39f300", func := "loop.example/g01375/laws.FnDays", spec := "fnDays", unfollowed := true, recurses := true, apart := false, narrowed := true }
def FnDaysUptoSaid : Prop := fnDaysUptoRow.holds Try.pinned (OpenSpec.upto fnDaysSpec)

/-- 'laws.FnFolded', WHERE WHAT IT READS IS OF BULK AT MOST 1048576: true; the input reads as it did. -/
def fnFoldedUptoRow : OpenClaim := { program := "ytjfgmnfkkehgfaa", sum := "27b2694efb492e979498dfb438da7b9109339e6ca0f7b97ce5d170083c39f300", func := "loop.example/g01375/laws.FnFolded", spec := "fnFolded", inPlace := ["math.Float32bits"], unfollowed := true, recurses := true, apart := false, narrowed := true }
def FnFoldedUptoSaid : Prop := fnFoldedUptoRow.holds Try.pinned (OpenSpec.upto fnFoldedSpec)

/-- 'laws.FnUndone', WHERE WHAT IT READS IS OF BULK AT MOST 1048576: true; the input reads as it did. -/
def fnUndoneUptoRow : OpenClaim := { program := "ytjfgmnfkkehgfaa", sum := "27b2694efb492e979498dfb438da7b9109339e6ca0f7b97ce5d170083c39f300", func := "loop.example/g01375/laws.FnUndone", spec := "fnUndone", unfollowed := true, recurses := true, apart := false, narrowed := true }
def FnUndoneUptoSaid : Prop := fnUndoneUptoRow.holds Try.pinned (OpenSpec.upto fnUndoneSpec)

/-- 'laws.FnApart', WHERE WHAT IT READS IS OF BULK AT MOST 1048576: true; the input reads as it did. -/
def fnApartUptoRow : OpenClaim := { program := "ytjfgmnfkkehgfaa", sum := "27b2694efb492e979498dfb438da7b9109339e6ca0f7b97ce5d170083c39f300", func := "loop.example/g01375/laws.FnApart", spec := "fnApart", unfollowed := true, recurses := true, apart := false, narrowed := true }
def FnApartUptoSaid : Prop := fnApartUptoRow.holds Try.pinned (OpenSpec.upto fnApartSpec)

/-- 'laws.FnNumbersOf', WHERE WHAT IT READS IS OF BULK AT MOST 1048576: true; the input reads as it did. -/
def fnNumbersOfUptoRow : OpenClaim := { program := "ytjfgmnfkkehgfaa", sum := "27b2694efb492e979498dfb438da7b9109339e6ca0f7b97ce5d170083c39f300", func := "loop.example/g01375/laws.FnNumbersOf", spec := "fnNumbersOf", inPlace := ["math.sqrt", "math.archFloor", "math.Float64bits", "math.Float64frombits", "math.archTrunc"], unfollowed := true, recurses := true, apart := false, narrowed := true }
def FnNumbersOfUptoSaid : Prop := fnNumbersOfUptoRow.holds Try.pinned (OpenSpec.upto fnNumbersOfSpec)

end Rows
end Go.Proofs.Ytjfgmnfkkehgfaa
