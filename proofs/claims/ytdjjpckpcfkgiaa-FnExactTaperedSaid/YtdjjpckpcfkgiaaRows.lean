/-
  No cell of these rows narrows 'for every input' (looked for: loops, veiled, ifaces, maps, wideKeys, modest, calm, conditions, laid).
  DERIVED. THE GIVEN ROWS OF THIS SEAT. 12 by the template 'for every input the law returns true; each argument reads behind the call as it read before'; 0 by the template 'total and deterministic' (their statements: YtdjjpckpcfkgiaaTotals.lean).
  GIVEN WITH THE SEED: the statements are not yours to turn. If you find one false, say at which input.
  Laid BY PROGRAM, IN A SANDBOX (cutbox-rows.mjs): the forced cells as the released guide's own fill.sh prints them over the translation 7d604891bc5d1640… (all of the seat's roots in one cut). By AI agents, Wed Nov 11 2026. No macro, syntax, notation, axiom, sorry.
-/
import Derived.Test.YtdjjpckpcfkgiaaChecked
import GoSem.Claim
import GoSem.ClaimJoined
import GoSem.ClaimMapViews
import Derived.JoinedTies
import Derived.KernelRfl
namespace Go.Proofs.Ytdjjpckpcfkgiaa
/- THE CELL 'sum', in the pinned program and in every row, IS THE sha256 OF THE DUMP (.gsa) THAT YtdjjpckpcfkgiaaProg.lean LOADS. Nothing in Lean hashes anything: it is a label: what it is worth is what the hold of that sum in a sandbox is worth. -/
noncomputable def Try.pinned : Pinned := { name := "ytdjjpckpcfkgiaa", sum := "7d604891bc5d16403d54bd9f7ac195950c1350da5386c0a9a4dcc340303800b9", checked := Try.checked }
namespace Rows
def none {H : Type} : Left H := { results := [], args := [] }

/-- 'laws.FnExactStepState': WHATEVER THE INPUT: true; the input reads as it did. -/
def fnExactStepStateSpec : ChangeSpec := { name := "fnExactStepState", fn := fun _ => fun
  | [d1, d2, d3] => { results := [.lit (.bool true)], args := [d1, d2, d3] }
  | _ => none }
def fnExactStepStateRow : OpenClaim := { program := "ytdjjpckpcfkgiaa", sum := "7d604891bc5d16403d54bd9f7ac195950c1350da5386c0a9a4dcc340303800b9", func := "loop.example/g01375/laws.FnExactStepState", spec := "fnExactStepState", unfollowed := true, recurses := true, apart := false }
def FnExactStepStateSaid : Prop := fnExactStepStateRow.holds Try.pinned (OpenSpec.ofChange fnExactStepStateSpec)

/-- ITS FALSE NEIGHBOUR: 'it returns false'. Refute it at one input. -/
def fnExactStepStateWrong : ChangeSpec := { name := "fnExactStepState", fn := fun _ => fun
  | [d1, d2, d3] => { results := [.lit (.bool false)], args := [d1, d2, d3] }
  | _ => none }
def FnExactStepStateWrongFalsely : Prop := fnExactStepStateRow.holds Try.pinned (OpenSpec.ofChange fnExactStepStateWrong)

/-- 'laws.FnExactSpreadOf': WHATEVER THE INPUT: true; the input reads as it did. -/
def fnExactSpreadOfSpec : ChangeSpec := { name := "fnExactSpreadOf", fn := fun _ => fun
  | [d] => { results := [.lit (.bool true)], args := [d] }
  | _ => none }
def fnExactSpreadOfRow : OpenClaim := { program := "ytdjjpckpcfkgiaa", sum := "7d604891bc5d16403d54bd9f7ac195950c1350da5386c0a9a4dcc340303800b9", func := "loop.example/g01375/laws.FnExactSpreadOf", spec := "fnExactSpreadOf", inPlace := ["math.sqrt"], unfollowed := true, recurses := true, apart := false }
def FnExactSpreadOfSaid : Prop := fnExactSpreadOfRow.holds Try.pinned (OpenSpec.ofChange fnExactSpreadOfSpec)

/-- ITS FALSE NEIGHBOUR: 'it returns false'. Refute it at one input. -/
def fnExactSpreadOfWrong : ChangeSpec := { name := "fnExactSpreadOf", fn := fun _ => fun
  | [d] => { results := [.lit (.bool false)], args := [d] }
  | _ => none }
def FnExactSpreadOfWrongFalsely : Prop := fnExactSpreadOfRow.holds Try.pinned (OpenSpec.ofChange fnExactSpreadOfWrong)

/-- 'laws.FnExactTakeApart': WHATEVER THE INPUT: true; the input reads as it did. -/
def fnExactTakeApartSpec : ChangeSpec := { name := "fnExactTakeApart", fn := fun _ => fun
  | [d1, d2, d3, d4] => { results := [.lit (.bool true)], args := [d1, d2, d3, d4] }
  | _ => none }
def fnExactTakeApartRow : OpenClaim := { program := "ytdjjpckpcfkgiaa", sum := "7d604891bc5d16403d54bd9f7ac195950c1350da5386c0a9a4dcc340303800b9", func := "loop.example/g01375/laws.FnExactTakeApart", spec := "fnExactTakeApart", unfollowed := true, recurses := true, apart := false }
def FnExactTakeApartSaid : Prop := fnExactTakeApartRow.holds Try.pinned (OpenSpec.ofChange fnExactTakeApartSpec)

/-- ITS FALSE NEIGHBOUR: 'it returns false'. Refute it at one input. -/
def fnExactTakeApartWrong : ChangeSpec := { name := "fnExactTakeApart", fn := fun _ => fun
  | [d1, d2, d3, d4] => { results := [.lit (.bool false)], args := [d1, d2, d3, d4] }
  | _ => none }
def FnExactTakeApartWrongFalsely : Prop := fnExactTakeApartRow.holds Try.pinned (OpenSpec.ofChange fnExactTakeApartWrong)

/-- 'laws.FnExactHarmonicAt': WHATEVER THE INPUT: true; the input reads as it did. -/
def fnExactHarmonicAtSpec : ChangeSpec := { name := "fnExactHarmonicAt", fn := fun _ => fun
  | [d1, d2, d3] => { results := [.lit (.bool true)], args := [d1, d2, d3] }
  | _ => none }
def fnExactHarmonicAtRow : OpenClaim := { program := "ytdjjpckpcfkgiaa", sum := "7d604891bc5d16403d54bd9f7ac195950c1350da5386c0a9a4dcc340303800b9", func := "loop.example/g01375/laws.FnExactHarmonicAt", spec := "fnExactHarmonicAt", inPlace := ["math.Float32frombits", "math.Float64frombits", "math.Float64bits"], unfollowed := true, recurses := true, apart := false }
def FnExactHarmonicAtSaid : Prop := fnExactHarmonicAtRow.holds Try.pinned (OpenSpec.ofChange fnExactHarmonicAtSpec)

/-- ITS FALSE NEIGHBOUR: 'it returns false'. Refute it at one input. -/
def fnExactHarmonicAtWrong : ChangeSpec := { name := "fnExactHarmonicAt", fn := fun _ => fun
  | [d1, d2, d3] => { results := [.lit (.bool false)], args := [d1, d2, d3] }
  | _ => none }
def FnExactHarmonicAtWrongFalsely : Prop := fnExactHarmonicAtRow.holds Try.pinned (OpenSpec.ofChange fnExactHarmonicAtWrong)

/-- 'laws.FnExactGuessesOf': WHATEVER THE INPUT: true; the input reads as it did. -/
def fnExactGuessesOfSpec : ChangeSpec := { name := "fnExactGuessesOf", fn := fun _ => fun
  | [d1, d2, d3] => { results := [.lit (.bool true)], args := [d1, d2, d3] }
  | _ => none }
def fnExactGuessesOfRow : OpenClaim := { program := "ytdjjpckpcfkgiaa", sum := "7d604891bc5d16403d54bd9f7ac195950c1350da5386c0a9a4dcc340303800b9", func := "loop.example/g01375/laws.FnExactGuessesOf", spec := "fnExactGuessesOf", unfollowed := true, recurses := true, apart := false }
def FnExactGuessesOfSaid : Prop := fnExactGuessesOfRow.holds Try.pinned (OpenSpec.ofChange fnExactGuessesOfSpec)

/-- ITS FALSE NEIGHBOUR: 'it returns false'. Refute it at one input. -/
def fnExactGuessesOfWrong : ChangeSpec := { name := "fnExactGuessesOf", fn := fun _ => fun
  | [d1, d2, d3] => { results := [.lit (.bool false)], args := [d1, d2, d3] }
  | _ => none }
def FnExactGuessesOfWrongFalsely : Prop := fnExactGuessesOfRow.holds Try.pinned (OpenSpec.ofChange fnExactGuessesOfWrong)

/-- 'laws.FnExactPartLikes': WHATEVER THE INPUT: true; the input reads as it did. -/
def fnExactPartLikesSpec : ChangeSpec := { name := "fnExactPartLikes", fn := fun _ => fun
  | [d1, d2] => { results := [.lit (.bool true)], args := [d1, d2] }
  | _ => none }
def fnExactPartLikesRow : OpenClaim := { program := "ytdjjpckpcfkgiaa", sum := "7d604891bc5d16403d54bd9f7ac195950c1350da5386c0a9a4dcc340303800b9", func := "loop.example/g01375/laws.FnExactPartLikes", spec := "fnExactPartLikes", unfollowed := true, recurses := true, apart := false }
def FnExactPartLikesSaid : Prop := fnExactPartLikesRow.holds Try.pinned (OpenSpec.ofChange fnExactPartLikesSpec)

/-- ITS FALSE NEIGHBOUR: 'it returns false'. Refute it at one input. -/
def fnExactPartLikesWrong : ChangeSpec := { name := "fnExactPartLikes", fn := fun _ => fun
  | [d1, d2] => { results := [.lit (.bool false)], args := [d1, d2] }
  | _ => none }
def FnExactPartLikesWrongFalsely : Prop := fnExactPartLikesRow.holds Try.pinned (OpenSpec.ofChange fnExactPartLikesWrong)

/-- 'laws.FnExactTapered': WHATEVER THE INPUT: true; the input reads as it did. -/
def fnExactTaperedSpec : ChangeSpec := { name := "fnExactTapered", fn := fun _ => fun
  | [d1, d2] => { results := [.lit (.bool true)], args := [d1, d2] }
  | _ => none }
def fnExactTaperedRow : OpenClaim := { program := "ytdjjpckpcfkgiaa", sum := "7d604891bc5d16403d54bd9f7ac195950c1350da5386c0a9a4dcc340303800b9", func := "loop.example/g01375/laws.FnExactTapered", spec := "fnExactTapered", inPlace := ["math.Float32frombits", "math.Float64frombits", "math.Float64bits"], unfollowed := true, recurses := true, apart := false }
def FnExactTaperedSaid : Prop := fnExactTaperedRow.holds Try.pinned (OpenSpec.ofChange fnExactTaperedSpec)

/-- ITS FALSE NEIGHBOUR: 'it returns false'. Refute it at one input. -/
def fnExactTaperedWrong : ChangeSpec := { name := "fnExactTapered", fn := fun _ => fun
  | [d1, d2] => { results := [.lit (.bool false)], args := [d1, d2] }
  | _ => none }
def FnExactTaperedWrongFalsely : Prop := fnExactTaperedRow.holds Try.pinned (OpenSpec.ofChange fnExactTaperedWrong)

/-- 'laws.FnExactCrossLikes': WHATEVER THE INPUT: true; the input reads as it did. -/
def fnExactCrossLikesSpec : ChangeSpec := { name := "fnExactCrossLikes", fn := fun _ => fun
  | [d1, d2, d3] => { results := [.lit (.bool true)], args := [d1, d2, d3] }
  | _ => none }
def fnExactCrossLikesRow : OpenClaim := { program := "ytdjjpckpcfkgiaa", sum := "7d604891bc5d16403d54bd9f7ac195950c1350da5386c0a9a4dcc340303800b9", func := "loop.example/g01375/laws.FnExactCrossLikes", spec := "fnExactCrossLikes", inPlace := ["math.sqrt"], unfollowed := true, recurses := true, apart := false }
def FnExactCrossLikesSaid : Prop := fnExactCrossLikesRow.holds Try.pinned (OpenSpec.ofChange fnExactCrossLikesSpec)

/-- ITS FALSE NEIGHBOUR: 'it returns false'. Refute it at one input. -/
def fnExactCrossLikesWrong : ChangeSpec := { name := "fnExactCrossLikes", fn := fun _ => fun
  | [d1, d2, d3] => { results := [.lit (.bool false)], args := [d1, d2, d3] }
  | _ => none }
def FnExactCrossLikesWrongFalsely : Prop := fnExactCrossLikesRow.holds Try.pinned (OpenSpec.ofChange fnExactCrossLikesWrong)

/-- 'laws.FnExactMiddleSlope': WHATEVER THE INPUT: true; the input reads as it did. -/
def fnExactMiddleSlopeSpec : ChangeSpec := { name := "fnExactMiddleSlope", fn := fun _ => fun
  | [d] => { results := [.lit (.bool true)], args := [d] }
  | _ => none }
def fnExactMiddleSlopeRow : OpenClaim := { program := "ytdjjpckpcfkgiaa", sum := "7d604891bc5d16403d54bd9f7ac195950c1350da5386c0a9a4dcc340303800b9", func := "loop.example/g01375/laws.FnExactMiddleSlope", spec := "fnExactMiddleSlope", unfollowed := true, recurses := true, apart := false }
def FnExactMiddleSlopeSaid : Prop := fnExactMiddleSlopeRow.holds Try.pinned (OpenSpec.ofChange fnExactMiddleSlopeSpec)

/-- ITS FALSE NEIGHBOUR: 'it returns false'. Refute it at one input. -/
def fnExactMiddleSlopeWrong : ChangeSpec := { name := "fnExactMiddleSlope", fn := fun _ => fun
  | [d] => { results := [.lit (.bool false)], args := [d] }
  | _ => none }
def FnExactMiddleSlopeWrongFalsely : Prop := fnExactMiddleSlopeRow.holds Try.pinned (OpenSpec.ofChange fnExactMiddleSlopeWrong)

/-- 'laws.FnExactRankLike': WHATEVER THE INPUT: true; the input reads as it did. -/
def fnExactRankLikeSpec : ChangeSpec := { name := "fnExactRankLike", fn := fun _ => fun
  | [d1, d2] => { results := [.lit (.bool true)], args := [d1, d2] }
  | _ => none }
def fnExactRankLikeRow : OpenClaim := { program := "ytdjjpckpcfkgiaa", sum := "7d604891bc5d16403d54bd9f7ac195950c1350da5386c0a9a4dcc340303800b9", func := "loop.example/g01375/laws.FnExactRankLike", spec := "fnExactRankLike", inPlace := ["math.sqrt"], unfollowed := true, recurses := true, apart := false }
def FnExactRankLikeSaid : Prop := fnExactRankLikeRow.holds Try.pinned (OpenSpec.ofChange fnExactRankLikeSpec)

/-- ITS FALSE NEIGHBOUR: 'it returns false'. Refute it at one input. -/
def fnExactRankLikeWrong : ChangeSpec := { name := "fnExactRankLike", fn := fun _ => fun
  | [d1, d2] => { results := [.lit (.bool false)], args := [d1, d2] }
  | _ => none }
def FnExactRankLikeWrongFalsely : Prop := fnExactRankLikeRow.holds Try.pinned (OpenSpec.ofChange fnExactRankLikeWrong)

/-- 'laws.FnExactEvenSeries': WHATEVER THE INPUT: true; the input reads as it did. -/
def fnExactEvenSeriesSpec : ChangeSpec := { name := "fnExactEvenSeries", fn := fun _ => fun
  | [d] => { results := [.lit (.bool true)], args := [d] }
  | _ => none }
def fnExactEvenSeriesRow : OpenClaim := { program := "ytdjjpckpcfkgiaa", sum := "7d604891bc5d16403d54bd9f7ac195950c1350da5386c0a9a4dcc340303800b9", func := "loop.example/g01375/laws.FnExactEvenSeries", spec := "fnExactEvenSeries", inPlace := ["math.sqrt"], unfollowed := true, recurses := true, apart := false }
def FnExactEvenSeriesSaid : Prop := fnExactEvenSeriesRow.holds Try.pinned (OpenSpec.ofChange fnExactEvenSeriesSpec)

/-- ITS FALSE NEIGHBOUR: 'it returns false'. Refute it at one input. -/
def fnExactEvenSeriesWrong : ChangeSpec := { name := "fnExactEvenSeries", fn := fun _ => fun
  | [d] => { results := [.lit (.bool false)], args := [d] }
  | _ => none }
def FnExactEvenSeriesWrongFalsely : Prop := fnExactEvenSeriesRow.holds Try.pinned (OpenSpec.ofChange fnExactEvenSeriesWrong)

/-- 'laws.FnExactMedianOf': WHATEVER THE INPUT: true; the input reads as it did. -/
def fnExactMedianOfSpec : ChangeSpec := { name := "fnExactMedianOf", fn := fun _ => fun
  | [d] => { results := [.lit (.bool true)], args := [d] }
  | _ => none }
def fnExactMedianOfRow : OpenClaim := { program := "ytdjjpckpcfkgiaa", sum := "7d604891bc5d16403d54bd9f7ac195950c1350da5386c0a9a4dcc340303800b9", func := "loop.example/g01375/laws.FnExactMedianOf", spec := "fnExactMedianOf", unfollowed := true, recurses := true, apart := false }
def FnExactMedianOfSaid : Prop := fnExactMedianOfRow.holds Try.pinned (OpenSpec.ofChange fnExactMedianOfSpec)

/-- ITS FALSE NEIGHBOUR: 'it returns false'. Refute it at one input. -/
def fnExactMedianOfWrong : ChangeSpec := { name := "fnExactMedianOf", fn := fun _ => fun
  | [d] => { results := [.lit (.bool false)], args := [d] }
  | _ => none }
def FnExactMedianOfWrongFalsely : Prop := fnExactMedianOfRow.holds Try.pinned (OpenSpec.ofChange fnExactMedianOfWrong)

/- THE SECOND FORM. 'bulk': how many values and letters a reading holds, each counted each time it is reached (what is shared counts as often as it is met; a slice's spare places count too). A statement '..UptoSaid' is the law's where the arguments, and the package variables that the reading takes, are together of bulk at most 1048576: NARROWER than '..Said'. Prove '..Said' where nothing that the law and all that it calls make is longer than what came in: it says more and counts as full. Else prove '..UptoSaid'. A law counts once. -/
mutual
def uptoBulk {H : Type} : DataW H → Nat
  | .lit (.string bytes) => bytes.length + 1
  | .lit _ => 1
  | .nil => 1
  | .ptr d => uptoBulk d + 1
  | .slice elems spare => uptoBulkAll elems + uptoBulkAll spare + 1
  | .agg parts => uptoBulkAll parts + 1
  | .iface _ d => uptoBulk d + 1
  | .map entries => uptoBulkEntries entries + 1
  | .held _ => 1
def uptoBulkAll {H : Type} : List (DataW H) → Nat
  | [] => 0
  | d :: r => uptoBulk d + uptoBulkAll r
def uptoBulkEntries {H : Type} : List (Lit × DataW H) → Nat
  | [] => 0
  | x :: r => uptoBulkEntry x + uptoBulkEntries r
def uptoBulkEntry {H : Type} : Lit × DataW H → Nat
  | (.string bytes, d) => bytes.length + uptoBulk d + 1
  | (_, d) => uptoBulk d + 1
 end
def uptoSmall : (H : Type) → List (DataW H) → Bool := fun _ ds => decide (uptoBulkAll ds ≤ 1048576)
def OpenSpec.upto (s : _root_.Go.ChangeSpec) : _root_.Go.OpenSpec := { _root_.Go.OpenSpec.ofChange s with cond := some uptoSmall }

/-- 'laws.FnExactStepState', WHERE WHAT IT READS IS OF BULK AT MOST 1048576: true; the input reads as it did. -/
def fnExactStepStateUptoRow : OpenClaim := { program := "ytdjjpckpcfkgiaa", sum := "7d604891bc5d16403d54bd9f7ac195950c1350da5386c0a9a4dcc340303800b9", func := "loop.example/g01375/laws.FnExactStepState", spec := "fnExactStepState", unfollowed := true, recurses := true, apart := false, narrowed := true }
def FnExactStepStateUptoSaid : Prop := fnExactStepStateUptoRow.holds Try.pinned (OpenSpec.upto fnExactStepStateSpec)

/-- 'laws.FnExactSpreadOf', WHERE WHAT IT READS IS OF BULK AT MOST 1048576: true; the input reads as it did. -/
def fnExactSpreadOfUptoRow : OpenClaim := { program := "ytdjjpckpcfkgiaa", sum := "7d604891bc5d16403d54bd9f7ac195950c1350da5386c0a9a4dcc340303800b9", func := "loop.example/g01375/laws.FnExactSpreadOf", spec := "fnExactSpreadOf", inPlace := ["math.sqrt"], unfollowed := true, recurses := true, apart := false, narrowed := true }
def FnExactSpreadOfUptoSaid : Prop := fnExactSpreadOfUptoRow.holds Try.pinned (OpenSpec.upto fnExactSpreadOfSpec)

/-- 'laws.FnExactTakeApart', WHERE WHAT IT READS IS OF BULK AT MOST 1048576: true; the input reads as it did. -/
def fnExactTakeApartUptoRow : OpenClaim := { program := "ytdjjpckpcfkgiaa", sum := "7d604891bc5d16403d54bd9f7ac195950c1350da5386c0a9a4dcc340303800b9", func := "loop.example/g01375/laws.FnExactTakeApart", spec := "fnExactTakeApart", unfollowed := true, recurses := true, apart := false, narrowed := true }
def FnExactTakeApartUptoSaid : Prop := fnExactTakeApartUptoRow.holds Try.pinned (OpenSpec.upto fnExactTakeApartSpec)

/-- 'laws.FnExactHarmonicAt', WHERE WHAT IT READS IS OF BULK AT MOST 1048576: true; the input reads as it did. -/
def fnExactHarmonicAtUptoRow : OpenClaim := { program := "ytdjjpckpcfkgiaa", sum := "7d604891bc5d16403d54bd9f7ac195950c1350da5386c0a9a4dcc340303800b9", func := "loop.example/g01375/laws.FnExactHarmonicAt", spec := "fnExactHarmonicAt", inPlace := ["math.Float32frombits", "math.Float64frombits", "math.Float64bits"], unfollowed := true, recurses := true, apart := false, narrowed := true }
def FnExactHarmonicAtUptoSaid : Prop := fnExactHarmonicAtUptoRow.holds Try.pinned (OpenSpec.upto fnExactHarmonicAtSpec)

/-- 'laws.FnExactGuessesOf', WHERE WHAT IT READS IS OF BULK AT MOST 1048576: true; the input reads as it did. -/
def fnExactGuessesOfUptoRow : OpenClaim := { program := "ytdjjpckpcfkgiaa", sum := "7d604891bc5d16403d54bd9f7ac195950c1350da5386c0a9a4dcc340303800b9", func := "loop.example/g01375/laws.FnExactGuessesOf", spec := "fnExactGuessesOf", unfollowed := true, recurses := true, apart := false, narrowed := true }
def FnExactGuessesOfUptoSaid : Prop := fnExactGuessesOfUptoRow.holds Try.pinned (OpenSpec.upto fnExactGuessesOfSpec)

/-- 'laws.FnExactPartLikes', WHERE WHAT IT READS IS OF BULK AT MOST 1048576: true; the input reads as it did. -/
def fnExactPartLikesUptoRow : OpenClaim := { program := "ytdjjpckpcfkgiaa", sum := "7d604891bc5d16403d54bd9f7ac195950c1350da5386c0a9a4dcc340303800b9", func := "loop.example/g01375/laws.FnExactPartLikes", spec := "fnExactPartLikes", unfollowed := true, recurses := true, apart := false, narrowed := true }
def FnExactPartLikesUptoSaid : Prop := fnExactPartLikesUptoRow.holds Try.pinned (OpenSpec.upto fnExactPartLikesSpec)

/-- 'laws.FnExactTapered', WHERE WHAT IT READS IS OF BULK AT MOST 1048576: true; the input reads as it did. -/
def fnExactTaperedUptoRow : OpenClaim := { program := "ytdjjpckpcfkgiaa", sum := "7d604891bc5d16403d54bd9f7ac195950c1350da5386c0a9a4dcc340303800b9", func := "loop.example/g01375/laws.FnExactTapered", spec := "fnExactTapered", inPlace := ["math.Float32frombits", "math.Float64frombits", "math.Float64bits"], unfollowed := true, recurses := true, apart := false, narrowed := true }
def FnExactTaperedUptoSaid : Prop := fnExactTaperedUptoRow.holds Try.pinned (OpenSpec.upto fnExactTaperedSpec)

/-- 'laws.FnExactCrossLikes', WHERE WHAT IT READS IS OF BULK AT MOST 1048576: true; the input reads as it did. -/
def fnExactCrossLikesUptoRow : OpenClaim := { program := "ytdjjpckpcfkgiaa", sum := "7d604891bc5d16403d54bd9f7ac195950c1350da5386c0a9a4dcc340303800b9", func := "loop.example/g01375/laws.FnExactCrossLikes", spec := "fnExactCrossLikes", inPlace := ["math.sqrt"], unfollowed := true, recurses := true, apart := false, narrowed := true }
def FnExactCrossLikesUptoSaid : Prop := fnExactCrossLikesUptoRow.holds Try.pinned (OpenSpec.upto fnExactCrossLikesSpec)

/-- 'laws.FnExactMiddleSlope', WHERE WHAT IT READS IS OF BULK AT MOST 1048576: true; the input reads as it did. -/
def fnExactMiddleSlopeUptoRow : OpenClaim := { program := "ytdjjpckpcfkgiaa", sum := "7d604891bc5d16403d54bd9f7ac195950c1350da5386c0a9a4dcc340303800b9", func := "loop.example/g01375/laws.FnExactMiddleSlope", spec := "fnExactMiddleSlope", unfollowed := true, recurses := true, apart := false, narrowed := true }
def FnExactMiddleSlopeUptoSaid : Prop := fnExactMiddleSlopeUptoRow.holds Try.pinned (OpenSpec.upto fnExactMiddleSlopeSpec)

/-- 'laws.FnExactRankLike', WHERE WHAT IT READS IS OF BULK AT MOST 1048576: true; the input reads as it did. -/
def fnExactRankLikeUptoRow : OpenClaim := { program := "ytdjjpckpcfkgiaa", sum := "7d604891bc5d16403d54bd9f7ac195950c1350da5386c0a9a4dcc340303800b9", func := "loop.example/g01375/laws.FnExactRankLike", spec := "fnExactRankLike", inPlace := ["math.sqrt"], unfollowed := true, recurses := true, apart := false, narrowed := true }
def FnExactRankLikeUptoSaid : Prop := fnExactRankLikeUptoRow.holds Try.pinned (OpenSpec.upto fnExactRankLikeSpec)

/-- 'laws.FnExactEvenSeries', WHERE WHAT IT READS IS OF BULK AT MOST 1048576: true; the input reads as it did. -/
def fnExactEvenSeriesUptoRow : OpenClaim := { program := "ytdjjpckpcfkgiaa", sum := "7d604891bc5d16403d54bd9f7ac195950c1350da5386c0a9a4dcc340303800b9", func := "loop.example/g01375/laws.FnExactEvenSeries", spec := "fnExactEvenSeries", inPlace := ["math.sqrt"], unfollowed := true, recurses := true, apart := false, narrowed := true }
def FnExactEvenSeriesUptoSaid : Prop := fnExactEvenSeriesUptoRow.holds Try.pinned (OpenSpec.upto fnExactEvenSeriesSpec)

/-- 'laws.FnExactMedianOf', WHERE WHAT IT READS IS OF BULK AT MOST 1048576: true; the input reads as it did. -/
def fnExactMedianOfUptoRow : OpenClaim := { program := "ytdjjpckpcfkgiaa", sum := "7d604891bc5d16403d54bd9f7ac195950c1350da5386c0a9a4dcc340303800b9", func := "loop.example/g01375/laws.FnExactMedianOf", spec := "fnExactMedianOf", unfollowed := true, recurses := true, apart := false, narrowed := true }
def FnExactMedianOfUptoSaid : Prop := fnExactMedianOfUptoRow.holds Try.pinned (OpenSpec.upto fnExactMedianOfSpec)

end Rows
end Go.Proofs.Ytdjjpckpcfkgiaa
