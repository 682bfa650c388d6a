/-
  No cell of these rows narrows 'for every input' (looked for: loops, veiled, ifaces, maps, wideKeys, modest, calm, conditions, laid).
  DERIVED. THE GIVEN ROWS OF THIS SEAT. 12 by the template 'for every input the law returns true; each argument reads behind the call as it read before'; 0 by the template 'total and deterministic' (their statements: YtjpihhdjmoldjaaTotals.lean).
  GIVEN WITH THE SEED: the statements are not yours to turn. If you find one false, say at which input.
  Laid BY PROGRAM, IN A SANDBOX (cutbox-rows.mjs): the forced cells as the released guide's own fill.sh prints them over the translation 8083a89bbb1d47f2… (all of the seat's roots in one cut). By AI agents, Wed Nov 11 2026. No macro, syntax, notation, axiom, sorry.
-/
import Derived.Test.YtjpihhdjmoldjaaChecked
import GoSem.Claim
import GoSem.ClaimJoined
import GoSem.ClaimMapViews
import Derived.JoinedTies
import Derived.KernelRfl
namespace Go.Proofs.Ytjpihhdjmoldjaa
/- THE CELL 'sum', in the pinned program and in every row, IS THE sha256 OF THE DUMP (.gsa) THAT YtjpihhdjmoldjaaProg.lean LOADS. Nothing in Lean hashes anything: it is a label: what it is worth is what the hold of that sum in a sandbox is worth. -/
noncomputable def Try.pinned : Pinned := { name := "ytjpihhdjmoldjaa", sum := "8083a89bbb1d47f243e1eda78905dbdf72b901584b7d2ff404b66ed98da79c8a", checked := Try.checked }
namespace Rows
def none {H : Type} : Left H := { results := [], args := [] }

/-- 'laws.FnExactWeightFit': WHATEVER THE INPUT: true; the input reads as it did. -/
def fnExactWeightFitSpec : ChangeSpec := { name := "fnExactWeightFit", fn := fun _ => fun
  | [d1, d2, d3] => { results := [.lit (.bool true)], args := [d1, d2, d3] }
  | _ => none }
def fnExactWeightFitRow : OpenClaim := { program := "ytjpihhdjmoldjaa", sum := "8083a89bbb1d47f243e1eda78905dbdf72b901584b7d2ff404b66ed98da79c8a", func := "loop.example/g01375/laws.FnExactWeightFit", spec := "fnExactWeightFit", unfollowed := true, recurses := true, apart := false }
def FnExactWeightFitSaid : Prop := fnExactWeightFitRow.holds Try.pinned (OpenSpec.ofChange fnExactWeightFitSpec)

/-- ITS FALSE NEIGHBOUR: 'it returns false'. Refute it at one input. -/
def fnExactWeightFitWrong : ChangeSpec := { name := "fnExactWeightFit", fn := fun _ => fun
  | [d1, d2, d3] => { results := [.lit (.bool false)], args := [d1, d2, d3] }
  | _ => none }
def FnExactWeightFitWrongFalsely : Prop := fnExactWeightFitRow.holds Try.pinned (OpenSpec.ofChange fnExactWeightFitWrong)

/-- 'laws.FnExactStepOf': WHATEVER THE INPUT: true; the input reads as it did. -/
def fnExactStepOfSpec : ChangeSpec := { name := "fnExactStepOf", fn := fun _ => fun
  | [d] => { results := [.lit (.bool true)], args := [d] }
  | _ => none }
def fnExactStepOfRow : OpenClaim := { program := "ytjpihhdjmoldjaa", sum := "8083a89bbb1d47f243e1eda78905dbdf72b901584b7d2ff404b66ed98da79c8a", func := "loop.example/g01375/laws.FnExactStepOf", spec := "fnExactStepOf", unfollowed := true, recurses := true, apart := false }
def FnExactStepOfSaid : Prop := fnExactStepOfRow.holds Try.pinned (OpenSpec.ofChange fnExactStepOfSpec)

/-- ITS FALSE NEIGHBOUR: 'it returns false'. Refute it at one input. -/
def fnExactStepOfWrong : ChangeSpec := { name := "fnExactStepOf", fn := fun _ => fun
  | [d] => { results := [.lit (.bool false)], args := [d] }
  | _ => none }
def FnExactStepOfWrongFalsely : Prop := fnExactStepOfRow.holds Try.pinned (OpenSpec.ofChange fnExactStepOfWrong)

/-- 'laws.FnExactSeasonOf': WHATEVER THE INPUT: true; the input reads as it did. -/
def fnExactSeasonOfSpec : ChangeSpec := { name := "fnExactSeasonOf", fn := fun _ => fun
  | [d1, d2] => { results := [.lit (.bool true)], args := [d1, d2] }
  | _ => none }
def fnExactSeasonOfRow : OpenClaim := { program := "ytjpihhdjmoldjaa", sum := "8083a89bbb1d47f243e1eda78905dbdf72b901584b7d2ff404b66ed98da79c8a", func := "loop.example/g01375/laws.FnExactSeasonOf", spec := "fnExactSeasonOf", unfollowed := true, recurses := true, apart := false }
def FnExactSeasonOfSaid : Prop := fnExactSeasonOfRow.holds Try.pinned (OpenSpec.ofChange fnExactSeasonOfSpec)

/-- ITS FALSE NEIGHBOUR: 'it returns false'. Refute it at one input. -/
def fnExactSeasonOfWrong : ChangeSpec := { name := "fnExactSeasonOf", fn := fun _ => fun
  | [d1, d2] => { results := [.lit (.bool false)], args := [d1, d2] }
  | _ => none }
def FnExactSeasonOfWrongFalsely : Prop := fnExactSeasonOfRow.holds Try.pinned (OpenSpec.ofChange fnExactSeasonOfWrong)

/-- 'laws.FnExactBestPeriod': WHATEVER THE INPUT: true; the input reads as it did. -/
def fnExactBestPeriodSpec : ChangeSpec := { name := "fnExactBestPeriod", fn := fun _ => fun
  | [d1, d2, d3, d4] => { results := [.lit (.bool true)], args := [d1, d2, d3, d4] }
  | _ => none }
def fnExactBestPeriodRow : OpenClaim := { program := "ytjpihhdjmoldjaa", sum := "8083a89bbb1d47f243e1eda78905dbdf72b901584b7d2ff404b66ed98da79c8a", func := "loop.example/g01375/laws.FnExactBestPeriod", spec := "fnExactBestPeriod", unfollowed := true, recurses := true, apart := false }
def FnExactBestPeriodSaid : Prop := fnExactBestPeriodRow.holds Try.pinned (OpenSpec.ofChange fnExactBestPeriodSpec)

/-- ITS FALSE NEIGHBOUR: 'it returns false'. Refute it at one input. -/
def fnExactBestPeriodWrong : ChangeSpec := { name := "fnExactBestPeriod", fn := fun _ => fun
  | [d1, d2, d3, d4] => { results := [.lit (.bool false)], args := [d1, d2, d3, d4] }
  | _ => none }
def FnExactBestPeriodWrongFalsely : Prop := fnExactBestPeriodRow.holds Try.pinned (OpenSpec.ofChange fnExactBestPeriodWrong)

/-- 'laws.FnExactSelfLikes': WHATEVER THE INPUT: true; the input reads as it did. -/
def fnExactSelfLikesSpec : ChangeSpec := { name := "fnExactSelfLikes", fn := fun _ => fun
  | [d1, d2] => { results := [.lit (.bool true)], args := [d1, d2] }
  | _ => none }
def fnExactSelfLikesRow : OpenClaim := { program := "ytjpihhdjmoldjaa", sum := "8083a89bbb1d47f243e1eda78905dbdf72b901584b7d2ff404b66ed98da79c8a", func := "loop.example/g01375/laws.FnExactSelfLikes", spec := "fnExactSelfLikes", unfollowed := true, recurses := true, apart := false }
def FnExactSelfLikesSaid : Prop := fnExactSelfLikesRow.holds Try.pinned (OpenSpec.ofChange fnExactSelfLikesSpec)

/-- ITS FALSE NEIGHBOUR: 'it returns false'. Refute it at one input. -/
def fnExactSelfLikesWrong : ChangeSpec := { name := "fnExactSelfLikes", fn := fun _ => fun
  | [d1, d2] => { results := [.lit (.bool false)], args := [d1, d2] }
  | _ => none }
def FnExactSelfLikesWrongFalsely : Prop := fnExactSelfLikesRow.holds Try.pinned (OpenSpec.ofChange fnExactSelfLikesWrong)

/-- 'laws.FnExactAheadOf': WHATEVER THE INPUT: true; the input reads as it did. -/
def fnExactAheadOfSpec : ChangeSpec := { name := "fnExactAheadOf", fn := fun _ => fun
  | [d1, d2, d3] => { results := [.lit (.bool true)], args := [d1, d2, d3] }
  | _ => none }
def fnExactAheadOfRow : OpenClaim := { program := "ytjpihhdjmoldjaa", sum := "8083a89bbb1d47f243e1eda78905dbdf72b901584b7d2ff404b66ed98da79c8a", func := "loop.example/g01375/laws.FnExactAheadOf", spec := "fnExactAheadOf", unfollowed := true, recurses := true, apart := false }
def FnExactAheadOfSaid : Prop := fnExactAheadOfRow.holds Try.pinned (OpenSpec.ofChange fnExactAheadOfSpec)

/-- ITS FALSE NEIGHBOUR: 'it returns false'. Refute it at one input. -/
def fnExactAheadOfWrong : ChangeSpec := { name := "fnExactAheadOf", fn := fun _ => fun
  | [d1, d2, d3] => { results := [.lit (.bool false)], args := [d1, d2, d3] }
  | _ => none }
def FnExactAheadOfWrongFalsely : Prop := fnExactAheadOfRow.holds Try.pinned (OpenSpec.ofChange fnExactAheadOfWrong)

/-- 'laws.FnExactFittedOf': WHATEVER THE INPUT: true; the input reads as it did. -/
def fnExactFittedOfSpec : ChangeSpec := { name := "fnExactFittedOf", fn := fun _ => fun
  | [d1, d2] => { results := [.lit (.bool true)], args := [d1, d2] }
  | _ => none }
def fnExactFittedOfRow : OpenClaim := { program := "ytjpihhdjmoldjaa", sum := "8083a89bbb1d47f243e1eda78905dbdf72b901584b7d2ff404b66ed98da79c8a", func := "loop.example/g01375/laws.FnExactFittedOf", spec := "fnExactFittedOf", unfollowed := true, recurses := true, apart := false }
def FnExactFittedOfSaid : Prop := fnExactFittedOfRow.holds Try.pinned (OpenSpec.ofChange fnExactFittedOfSpec)

/-- ITS FALSE NEIGHBOUR: 'it returns false'. Refute it at one input. -/
def fnExactFittedOfWrong : ChangeSpec := { name := "fnExactFittedOf", fn := fun _ => fun
  | [d1, d2] => { results := [.lit (.bool false)], args := [d1, d2] }
  | _ => none }
def FnExactFittedOfWrongFalsely : Prop := fnExactFittedOfRow.holds Try.pinned (OpenSpec.ofChange fnExactFittedOfWrong)

/-- 'laws.FnExactFillGaps': WHATEVER THE INPUT: true; the input reads as it did. -/
def fnExactFillGapsSpec : ChangeSpec := { name := "fnExactFillGaps", fn := fun _ => fun
  | [d1, d2] => { results := [.lit (.bool true)], args := [d1, d2] }
  | _ => none }
def fnExactFillGapsRow : OpenClaim := { program := "ytjpihhdjmoldjaa", sum := "8083a89bbb1d47f243e1eda78905dbdf72b901584b7d2ff404b66ed98da79c8a", func := "loop.example/g01375/laws.FnExactFillGaps", spec := "fnExactFillGaps", unfollowed := true, recurses := true, apart := false }
def FnExactFillGapsSaid : Prop := fnExactFillGapsRow.holds Try.pinned (OpenSpec.ofChange fnExactFillGapsSpec)

/-- ITS FALSE NEIGHBOUR: 'it returns false'. Refute it at one input. -/
def fnExactFillGapsWrong : ChangeSpec := { name := "fnExactFillGaps", fn := fun _ => fun
  | [d1, d2] => { results := [.lit (.bool false)], args := [d1, d2] }
  | _ => none }
def FnExactFillGapsWrongFalsely : Prop := fnExactFillGapsRow.holds Try.pinned (OpenSpec.ofChange fnExactFillGapsWrong)

/-- 'laws.FnExactStartState': WHATEVER THE INPUT: true; the input reads as it did. -/
def fnExactStartStateSpec : ChangeSpec := { name := "fnExactStartState", fn := fun _ => fun
  | [d1, d2] => { results := [.lit (.bool true)], args := [d1, d2] }
  | _ => none }
def fnExactStartStateRow : OpenClaim := { program := "ytjpihhdjmoldjaa", sum := "8083a89bbb1d47f243e1eda78905dbdf72b901584b7d2ff404b66ed98da79c8a", func := "loop.example/g01375/laws.FnExactStartState", spec := "fnExactStartState", unfollowed := true, recurses := true, apart := false }
def FnExactStartStateSaid : Prop := fnExactStartStateRow.holds Try.pinned (OpenSpec.ofChange fnExactStartStateSpec)

/-- ITS FALSE NEIGHBOUR: 'it returns false'. Refute it at one input. -/
def fnExactStartStateWrong : ChangeSpec := { name := "fnExactStartState", fn := fun _ => fun
  | [d1, d2] => { results := [.lit (.bool false)], args := [d1, d2] }
  | _ => none }
def FnExactStartStateWrongFalsely : Prop := fnExactStartStateRow.holds Try.pinned (OpenSpec.ofChange fnExactStartStateWrong)

/-- 'laws.FnExactMeansShared': WHATEVER THE INPUT: true; the input reads as it did. -/
def fnExactMeansSharedSpec : ChangeSpec := { name := "fnExactMeansShared", fn := fun _ => fun
  | [d1, d2] => { results := [.lit (.bool true)], args := [d1, d2] }
  | _ => none }
def fnExactMeansSharedRow : OpenClaim := { program := "ytjpihhdjmoldjaa", sum := "8083a89bbb1d47f243e1eda78905dbdf72b901584b7d2ff404b66ed98da79c8a", func := "loop.example/g01375/laws.FnExactMeansShared", spec := "fnExactMeansShared", unfollowed := true, recurses := true, apart := false }
def FnExactMeansSharedSaid : Prop := fnExactMeansSharedRow.holds Try.pinned (OpenSpec.ofChange fnExactMeansSharedSpec)

/-- ITS FALSE NEIGHBOUR: 'it returns false'. Refute it at one input. -/
def fnExactMeansSharedWrong : ChangeSpec := { name := "fnExactMeansShared", fn := fun _ => fun
  | [d1, d2] => { results := [.lit (.bool false)], args := [d1, d2] }
  | _ => none }
def FnExactMeansSharedWrongFalsely : Prop := fnExactMeansSharedRow.holds Try.pinned (OpenSpec.ofChange fnExactMeansSharedWrong)

/-- 'laws.FnExactLikeSum': WHATEVER THE INPUT: true; the input reads as it did. -/
def fnExactLikeSumSpec : ChangeSpec := { name := "fnExactLikeSum", fn := fun _ => fun
  | [d1, d2] => { results := [.lit (.bool true)], args := [d1, d2] }
  | _ => none }
def fnExactLikeSumRow : OpenClaim := { program := "ytjpihhdjmoldjaa", sum := "8083a89bbb1d47f243e1eda78905dbdf72b901584b7d2ff404b66ed98da79c8a", func := "loop.example/g01375/laws.FnExactLikeSum", spec := "fnExactLikeSum", unfollowed := true, recurses := true, apart := false }
def FnExactLikeSumSaid : Prop := fnExactLikeSumRow.holds Try.pinned (OpenSpec.ofChange fnExactLikeSumSpec)

/-- ITS FALSE NEIGHBOUR: 'it returns false'. Refute it at one input. -/
def fnExactLikeSumWrong : ChangeSpec := { name := "fnExactLikeSum", fn := fun _ => fun
  | [d1, d2] => { results := [.lit (.bool false)], args := [d1, d2] }
  | _ => none }
def FnExactLikeSumWrongFalsely : Prop := fnExactLikeSumRow.holds Try.pinned (OpenSpec.ofChange fnExactLikeSumWrong)

/-- 'laws.FnExactLagColumns': WHATEVER THE INPUT: true; the input reads as it did. -/
def fnExactLagColumnsSpec : ChangeSpec := { name := "fnExactLagColumns", fn := fun _ => fun
  | [d1, d2] => { results := [.lit (.bool true)], args := [d1, d2] }
  | _ => none }
def fnExactLagColumnsRow : OpenClaim := { program := "ytjpihhdjmoldjaa", sum := "8083a89bbb1d47f243e1eda78905dbdf72b901584b7d2ff404b66ed98da79c8a", func := "loop.example/g01375/laws.FnExactLagColumns", spec := "fnExactLagColumns", unfollowed := true, recurses := true, apart := false }
def FnExactLagColumnsSaid : Prop := fnExactLagColumnsRow.holds Try.pinned (OpenSpec.ofChange fnExactLagColumnsSpec)

/-- ITS FALSE NEIGHBOUR: 'it returns false'. Refute it at one input. -/
def fnExactLagColumnsWrong : ChangeSpec := { name := "fnExactLagColumns", fn := fun _ => fun
  | [d1, d2] => { results := [.lit (.bool false)], args := [d1, d2] }
  | _ => none }
def FnExactLagColumnsWrongFalsely : Prop := fnExactLagColumnsRow.holds Try.pinned (OpenSpec.ofChange fnExactLagColumnsWrong)

/- THE SECOND FORM. 'bulk': how many values and letters a reading holds, each counted each time it is reached (what is shared counts as often as it is met; a slice's spare places count too). A statement '..UptoSaid' is the law's where the arguments, and the package variables that the reading takes, are together of bulk at most 1048576: NARROWER than '..Said'. Prove '..Said' where nothing that the law and all that it calls make is longer than what came in: it says more and counts as full. Else prove '..UptoSaid'. A law counts once. -/
mutual
def uptoBulk {H : Type} : DataW H → Nat
  | .lit (.string bytes) => bytes.length + 1
  | .lit _ => 1
  | .nil => 1
  | .ptr d => uptoBulk d + 1
  | .slice elems spare => uptoBulkAll elems + uptoBulkAll spare + 1
  | .agg parts => uptoBulkAll parts + 1
  | .iface _ d => uptoBulk d + 1
  | .map entries => uptoBulkEntries entries + 1
  | .held _ => 1
def uptoBulkAll {H : Type} : List (DataW H) → Nat
  | [] => 0
  | d :: r => uptoBulk d + uptoBulkAll r
def uptoBulkEntries {H : Type} : List (Lit × DataW H) → Nat
  | [] => 0
  | x :: r => uptoBulkEntry x + uptoBulkEntries r
def uptoBulkEntry {H : Type} : Lit × DataW H → Nat
  | (.string bytes, d) => bytes.length + uptoBulk d + 1
  | (_, d) => uptoBulk d + 1
 end
def uptoSmall : (H : Type) → List (DataW H) → Bool := fun _ ds => decide (uptoBulkAll ds ≤ 1048576)
def OpenSpec.upto (s : _root_.Go.ChangeSpec) : _root_.Go.OpenSpec := { _root_.Go.OpenSpec.ofChange s with cond := some uptoSmall }

/-- 'laws.FnExactWeightFit', WHERE WHAT IT READS IS OF BULK AT MOST 1048576: true; the input reads as it did. -/
def fnExactWeightFitUptoRow : OpenClaim := { program := "ytjpihhdjmoldjaa", sum := "8083a89bbb1d47f243e1eda78905dbdf72b901584b7d2ff404b66ed98da79c8a", func := "loop.example/g01375/laws.FnExactWeightFit", spec := "fnExactWeightFit", unfollowed := true, recurses := true, apart := false, narrowed := true }
def FnExactWeightFitUptoSaid : Prop := fnExactWeightFitUptoRow.holds Try.pinned (OpenSpec.upto fnExactWeightFitSpec)

/-- 'laws.FnExactStepOf', WHERE WHAT IT READS IS OF BULK AT MOST 1048576: true; the input reads as it did. -/
def fnExactStepOfUptoRow : OpenClaim := { program := "ytjpihhdjmoldjaa", sum := "8083a89bbb1d47f243e1eda78905dbdf72b901584b7d2ff404b66ed98da79c8a", func := "loop.example/g01375/laws.FnExactStepOf", spec := "fnExactStepOf", unfollowed := true, recurses := true, apart := false, narrowed := true }
def FnExactStepOfUptoSaid : Prop := fnExactStepOfUptoRow.holds Try.pinned (OpenSpec.upto fnExactStepOfSpec)

/-- 'laws.FnExactSeasonOf', WHERE WHAT IT READS IS OF BULK AT MOST 1048576: true; the input reads as it did. -/
def fnExactSeasonOfUptoRow : OpenClaim := { program := "ytjpihhdjmoldjaa", sum := "8083a89bbb1d47f243e1eda78905dbdf72b901584b7d2ff404b66ed98da79c8a", func := "loop.example/g01375/laws.FnExactSeasonOf", spec := "fnExactSeasonOf", unfollowed := true, recurses := true, apart := false, narrowed := true }
def FnExactSeasonOfUptoSaid : Prop := fnExactSeasonOfUptoRow.holds Try.pinned (OpenSpec.upto fnExactSeasonOfSpec)

/-- 'laws.FnExactBestPeriod', WHERE WHAT IT READS IS OF BULK AT MOST 1048576: true; the input reads as it did. -/
def fnExactBestPeriodUptoRow : OpenClaim := { program := "ytjpihhdjmoldjaa", sum := "8083a89bbb1d47f243e1eda78905dbdf72b901584b7d2ff404b66ed98da79c8a", func := "loop.example/g01375/laws.FnExactBestPeriod", spec := "fnExactBestPeriod", unfollowed := true, recurses := true, apart := false, narrowed := true }
def FnExactBestPeriodUptoSaid : Prop := fnExactBestPeriodUptoRow.holds Try.pinned (OpenSpec.upto fnExactBestPeriodSpec)

/-- 'laws.FnExactSelfLikes', WHERE WHAT IT READS IS OF BULK AT MOST 1048576: true; the input reads as it did. -/
def fnExactSelfLikesUptoRow : OpenClaim := { program := "ytjpihhdjmoldjaa", sum := "8083a89bbb1d47f243e1eda78905dbdf72b901584b7d2ff404b66ed98da79c8a", func := "loop.example/g01375/laws.FnExactSelfLikes", spec := "fnExactSelfLikes", unfollowed := true, recurses := true, apart := false, narrowed := true }
def FnExactSelfLikesUptoSaid : Prop := fnExactSelfLikesUptoRow.holds Try.pinned (OpenSpec.upto fnExactSelfLikesSpec)

/-- 'laws.FnExactAheadOf', WHERE WHAT IT READS IS OF BULK AT MOST 1048576: true; the input reads as it did. -/
def fnExactAheadOfUptoRow : OpenClaim := { program := "ytjpihhdjmoldjaa", sum := "8083a89bbb1d47f243e1eda78905dbdf72b901584b7d2ff404b66ed98da79c8a", func := "loop.example/g01375/laws.FnExactAheadOf", spec := "fnExactAheadOf", unfollowed := true, recurses := true, apart := false, narrowed := true }
def FnExactAheadOfUptoSaid : Prop := fnExactAheadOfUptoRow.holds Try.pinned (OpenSpec.upto fnExactAheadOfSpec)

/-- 'laws.FnExactFittedOf', WHERE WHAT IT READS IS OF BULK AT MOST 1048576: true; the input reads as it did. -/
def fnExactFittedOfUptoRow : OpenClaim := { program := "ytjpihhdjmoldjaa", sum := "8083a89bbb1d47f243e1eda78905dbdf72b901584b7d2ff404b66ed98da79c8a", func := "loop.example/g01375/laws.FnExactFittedOf", spec := "fnExactFittedOf", unfollowed := true, recurses := true, apart := false, narrowed := true }
def FnExactFittedOfUptoSaid : Prop := fnExactFittedOfUptoRow.holds Try.pinned (OpenSpec.upto fnExactFittedOfSpec)

/-- 'laws.FnExactFillGaps', WHERE WHAT IT READS IS OF BULK AT MOST 1048576: true; the input reads as it did. -/
def fnExactFillGapsUptoRow : OpenClaim := { program := "ytjpihhdjmoldjaa", sum := "8083a89bbb1d47f243e1eda78905dbdf72b901584b7d2ff404b66ed98da79c8a", func := "loop.example/g01375/laws.FnExactFillGaps", spec := "fnExactFillGaps", unfollowed := true, recurses := true, apart := false, narrowed := true }
def FnExactFillGapsUptoSaid : Prop := fnExactFillGapsUptoRow.holds Try.pinned (OpenSpec.upto fnExactFillGapsSpec)

/-- 'laws.FnExactStartState', WHERE WHAT IT READS IS OF BULK AT MOST 1048576: true; the input reads as it did. -/
def fnExactStartStateUptoRow : OpenClaim := { program := "ytjpihhdjmoldjaa", sum := "8083a89bbb1d47f243e1eda78905dbdf72b901584b7d2ff404b66ed98da79c8a", func := "loop.example/g01375/laws.FnExactStartState", spec := "fnExactStartState", unfollowed := true, recurses := true, apart := false, narrowed := true }
def FnExactStartStateUptoSaid : Prop := fnExactStartStateUptoRow.holds Try.pinned (OpenSpec.upto fnExactStartStateSpec)

/-- 'laws.FnExactMeansShared', WHERE WHAT IT READS IS OF BULK AT MOST 1048576: true; the input reads as it did. -/
def fnExactMeansSharedUptoRow : OpenClaim := { program := "ytjpihhdjmoldjaa", sum := "8083a89bbb1d47f243e1eda78905dbdf72b901584b7d2ff404b66ed98da79c8a", func := "loop.example/g01375/laws.FnExactMeansShared", spec := "fnExactMeansShared", unfollowed := true, recurses := true, apart := false, narrowed := true }
def FnExactMeansSharedUptoSaid : Prop := fnExactMeansSharedUptoRow.holds Try.pinned (OpenSpec.upto fnExactMeansSharedSpec)

/-- 'laws.FnExactLikeSum', WHERE WHAT IT READS IS OF BULK AT MOST 1048576: true; the input reads as it did. -/
def fnExactLikeSumUptoRow : OpenClaim := { program := "ytjpihhdjmoldjaa", sum := "8083a89bbb1d47f243e1eda78905dbdf72b901584b7d2ff404b66ed98da79c8a", func := "loop.example/g01375/laws.FnExactLikeSum", spec := "fnExactLikeSum", unfollowed := true, recurses := true, apart := false, narrowed := true }
def FnExactLikeSumUptoSaid : Prop := fnExactLikeSumUptoRow.holds Try.pinned (OpenSpec.upto fnExactLikeSumSpec)

/-- 'laws.FnExactLagColumns', WHERE WHAT IT READS IS OF BULK AT MOST 1048576: true; the input reads as it did. -/
def fnExactLagColumnsUptoRow : OpenClaim := { program := "ytjpihhdjmoldjaa", sum := "8083a89bbb1d47f243e1eda78905dbdf72b901584b7d2ff404b66ed98da79c8a", func := "loop.example/g01375/laws.FnExactLagColumns", spec := "fnExactLagColumns", unfollowed := true, recurses := true, apart := false, narrowed := true }
def FnExactLagColumnsUptoSaid : Prop := fnExactLagColumnsUptoRow.holds Try.pinned (OpenSpec.upto fnExactLagColumnsSpec)

end Rows
end Go.Proofs.Ytjpihhdjmoldjaa
