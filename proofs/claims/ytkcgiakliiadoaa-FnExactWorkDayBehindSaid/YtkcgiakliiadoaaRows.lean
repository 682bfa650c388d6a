/-
  No cell of these rows narrows 'for every input' (looked for: loops, veiled, ifaces, maps, wideKeys, modest, calm, conditions, laid).
  DERIVED. THE GIVEN ROWS OF THIS SEAT. 12 by the template 'for every input the law returns true; each argument reads behind the call as it read before'; 0 by the template 'total and deterministic' (their statements: YtkcgiakliiadoaaTotals.lean).
  GIVEN WITH THE SEED: the statements are not yours to turn. If you find one false, say at which input.
  Laid BY PROGRAM, IN A SANDBOX (cutbox-rows.mjs): the forced cells as the released guide's own fill.sh prints them over the translation 7e2612cc23ad7ac0… (all of the seat's roots in one cut). By AI agents, Wed Nov 11 2026. No macro, syntax, notation, axiom, sorry.
-/
import Derived.Test.YtkcgiakliiadoaaChecked
import GoSem.Claim
import GoSem.ClaimJoined
import GoSem.ClaimMapViews
import Derived.JoinedTies
import Derived.KernelRfl
namespace Go.Proofs.Ytkcgiakliiadoaa
/- THE CELL 'sum', in the pinned program and in every row, IS THE sha256 OF THE DUMP (.gsa) THAT YtkcgiakliiadoaaProg.lean LOADS. Nothing in Lean hashes anything: it is a label: what it is worth is what the hold of that sum in a sandbox is worth. -/
noncomputable def Try.pinned : Pinned := { name := "ytkcgiakliiadoaa", sum := "7e2612cc23ad7ac0835d4cc104922338ad6ec70d3654498ebda1cbe6e42a23ba", checked := Try.checked }
namespace Rows
def none {H : Type} : Left H := { results := [], args := [] }

/-- 'laws.FnExactSameState': WHATEVER THE INPUT: true; the input reads as it did. -/
def fnExactSameStateSpec : ChangeSpec := { name := "fnExactSameState", fn := fun _ => fun
  | [d1, d2] => { results := [.lit (.bool true)], args := [d1, d2] }
  | _ => none }
def fnExactSameStateRow : OpenClaim := { program := "ytkcgiakliiadoaa", sum := "7e2612cc23ad7ac0835d4cc104922338ad6ec70d3654498ebda1cbe6e42a23ba", func := "loop.example/g01375/laws.FnExactSameState", spec := "fnExactSameState", inPlace := ["math.Float32bits", "math.Float64bits"], unfollowed := true, recurses := true, apart := false }
def FnExactSameStateSaid : Prop := fnExactSameStateRow.holds Try.pinned (OpenSpec.ofChange fnExactSameStateSpec)

/-- ITS FALSE NEIGHBOUR: 'it returns false'. Refute it at one input. -/
def fnExactSameStateWrong : ChangeSpec := { name := "fnExactSameState", fn := fun _ => fun
  | [d1, d2] => { results := [.lit (.bool false)], args := [d1, d2] }
  | _ => none }
def FnExactSameStateWrongFalsely : Prop := fnExactSameStateRow.holds Try.pinned (OpenSpec.ofChange fnExactSameStateWrong)

/-- 'laws.FnExactSimpleLevels': WHATEVER THE INPUT: true; the input reads as it did. -/
def fnExactSimpleLevelsSpec : ChangeSpec := { name := "fnExactSimpleLevels", fn := fun _ => fun
  | [d1, d2] => { results := [.lit (.bool true)], args := [d1, d2] }
  | _ => none }
def fnExactSimpleLevelsRow : OpenClaim := { program := "ytkcgiakliiadoaa", sum := "7e2612cc23ad7ac0835d4cc104922338ad6ec70d3654498ebda1cbe6e42a23ba", func := "loop.example/g01375/laws.FnExactSimpleLevels", spec := "fnExactSimpleLevels", unfollowed := true, recurses := true, apart := false }
def FnExactSimpleLevelsSaid : Prop := fnExactSimpleLevelsRow.holds Try.pinned (OpenSpec.ofChange fnExactSimpleLevelsSpec)

/-- ITS FALSE NEIGHBOUR: 'it returns false'. Refute it at one input. -/
def fnExactSimpleLevelsWrong : ChangeSpec := { name := "fnExactSimpleLevels", fn := fun _ => fun
  | [d1, d2] => { results := [.lit (.bool false)], args := [d1, d2] }
  | _ => none }
def FnExactSimpleLevelsWrongFalsely : Prop := fnExactSimpleLevelsRow.holds Try.pinned (OpenSpec.ofChange fnExactSimpleLevelsWrong)

/-- 'laws.FnExactChanceNeeds': WHATEVER THE INPUT: true; the input reads as it did. -/
def fnExactChanceNeedsSpec : ChangeSpec := { name := "fnExactChanceNeeds", fn := fun _ => fun
  | [d1, d2, d3] => { results := [.lit (.bool true)], args := [d1, d2, d3] }
  | _ => none }
def fnExactChanceNeedsRow : OpenClaim := { program := "ytkcgiakliiadoaa", sum := "7e2612cc23ad7ac0835d4cc104922338ad6ec70d3654498ebda1cbe6e42a23ba", func := "loop.example/g01375/laws.FnExactChanceNeeds", spec := "fnExactChanceNeeds", unfollowed := true, recurses := true, apart := false }
def FnExactChanceNeedsSaid : Prop := fnExactChanceNeedsRow.holds Try.pinned (OpenSpec.ofChange fnExactChanceNeedsSpec)

/-- ITS FALSE NEIGHBOUR: 'it returns false'. Refute it at one input. -/
def fnExactChanceNeedsWrong : ChangeSpec := { name := "fnExactChanceNeeds", fn := fun _ => fun
  | [d1, d2, d3] => { results := [.lit (.bool false)], args := [d1, d2, d3] }
  | _ => none }
def FnExactChanceNeedsWrongFalsely : Prop := fnExactChanceNeedsRow.holds Try.pinned (OpenSpec.ofChange fnExactChanceNeedsWrong)

/-- 'laws.FnExactSeldomNeeds': WHATEVER THE INPUT: true; the input reads as it did. -/
def fnExactSeldomNeedsSpec : ChangeSpec := { name := "fnExactSeldomNeeds", fn := fun _ => fun
  | [d1, d2] => { results := [.lit (.bool true)], args := [d1, d2] }
  | _ => none }
def fnExactSeldomNeedsRow : OpenClaim := { program := "ytkcgiakliiadoaa", sum := "7e2612cc23ad7ac0835d4cc104922338ad6ec70d3654498ebda1cbe6e42a23ba", func := "loop.example/g01375/laws.FnExactSeldomNeeds", spec := "fnExactSeldomNeeds", unfollowed := true, recurses := true, apart := false }
def FnExactSeldomNeedsSaid : Prop := fnExactSeldomNeedsRow.holds Try.pinned (OpenSpec.ofChange fnExactSeldomNeedsSpec)

/-- ITS FALSE NEIGHBOUR: 'it returns false'. Refute it at one input. -/
def fnExactSeldomNeedsWrong : ChangeSpec := { name := "fnExactSeldomNeeds", fn := fun _ => fun
  | [d1, d2] => { results := [.lit (.bool false)], args := [d1, d2] }
  | _ => none }
def FnExactSeldomNeedsWrongFalsely : Prop := fnExactSeldomNeedsRow.holds Try.pinned (OpenSpec.ofChange fnExactSeldomNeedsWrong)

/-- 'laws.FnExactDoubleLine': WHATEVER THE INPUT: true; the input reads as it did. -/
def fnExactDoubleLineSpec : ChangeSpec := { name := "fnExactDoubleLine", fn := fun _ => fun
  | [d1, d2] => { results := [.lit (.bool true)], args := [d1, d2] }
  | _ => none }
def fnExactDoubleLineRow : OpenClaim := { program := "ytkcgiakliiadoaa", sum := "7e2612cc23ad7ac0835d4cc104922338ad6ec70d3654498ebda1cbe6e42a23ba", func := "loop.example/g01375/laws.FnExactDoubleLine", spec := "fnExactDoubleLine", unfollowed := true, recurses := true, apart := false }
def FnExactDoubleLineSaid : Prop := fnExactDoubleLineRow.holds Try.pinned (OpenSpec.ofChange fnExactDoubleLineSpec)

/-- ITS FALSE NEIGHBOUR: 'it returns false'. Refute it at one input. -/
def fnExactDoubleLineWrong : ChangeSpec := { name := "fnExactDoubleLine", fn := fun _ => fun
  | [d1, d2] => { results := [.lit (.bool false)], args := [d1, d2] }
  | _ => none }
def FnExactDoubleLineWrongFalsely : Prop := fnExactDoubleLineRow.holds Try.pinned (OpenSpec.ofChange fnExactDoubleLineWrong)

/-- 'laws.FnExactWorkDays': WHATEVER THE INPUT: true; the input reads as it did. -/
def fnExactWorkDaysSpec : ChangeSpec := { name := "fnExactWorkDays", fn := fun _ => fun
  | [d1, d2, d3] => { results := [.lit (.bool true)], args := [d1, d2, d3] }
  | _ => none }
def fnExactWorkDaysRow : OpenClaim := { program := "ytkcgiakliiadoaa", sum := "7e2612cc23ad7ac0835d4cc104922338ad6ec70d3654498ebda1cbe6e42a23ba", func := "loop.example/g01375/laws.FnExactWorkDays", spec := "fnExactWorkDays", unfollowed := true, recurses := true, apart := false }
def FnExactWorkDaysSaid : Prop := fnExactWorkDaysRow.holds Try.pinned (OpenSpec.ofChange fnExactWorkDaysSpec)

/-- ITS FALSE NEIGHBOUR: 'it returns false'. Refute it at one input. -/
def fnExactWorkDaysWrong : ChangeSpec := { name := "fnExactWorkDays", fn := fun _ => fun
  | [d1, d2, d3] => { results := [.lit (.bool false)], args := [d1, d2, d3] }
  | _ => none }
def FnExactWorkDaysWrongFalsely : Prop := fnExactWorkDaysRow.holds Try.pinned (OpenSpec.ofChange fnExactWorkDaysWrong)

/-- 'laws.FnExactMovingMean': WHATEVER THE INPUT: true; the input reads as it did. -/
def fnExactMovingMeanSpec : ChangeSpec := { name := "fnExactMovingMean", fn := fun _ => fun
  | [d1, d2] => { results := [.lit (.bool true)], args := [d1, d2] }
  | _ => none }
def fnExactMovingMeanRow : OpenClaim := { program := "ytkcgiakliiadoaa", sum := "7e2612cc23ad7ac0835d4cc104922338ad6ec70d3654498ebda1cbe6e42a23ba", func := "loop.example/g01375/laws.FnExactMovingMean", spec := "fnExactMovingMean", unfollowed := true, recurses := true, apart := false }
def FnExactMovingMeanSaid : Prop := fnExactMovingMeanRow.holds Try.pinned (OpenSpec.ofChange fnExactMovingMeanSpec)

/-- ITS FALSE NEIGHBOUR: 'it returns false'. Refute it at one input. -/
def fnExactMovingMeanWrong : ChangeSpec := { name := "fnExactMovingMean", fn := fun _ => fun
  | [d1, d2] => { results := [.lit (.bool false)], args := [d1, d2] }
  | _ => none }
def FnExactMovingMeanWrongFalsely : Prop := fnExactMovingMeanRow.holds Try.pinned (OpenSpec.ofChange fnExactMovingMeanWrong)

/-- 'laws.FnExactLineFit': WHATEVER THE INPUT: true; the input reads as it did. -/
def fnExactLineFitSpec : ChangeSpec := { name := "fnExactLineFit", fn := fun _ => fun
  | [d] => { results := [.lit (.bool true)], args := [d] }
  | _ => none }
def fnExactLineFitRow : OpenClaim := { program := "ytkcgiakliiadoaa", sum := "7e2612cc23ad7ac0835d4cc104922338ad6ec70d3654498ebda1cbe6e42a23ba", func := "loop.example/g01375/laws.FnExactLineFit", spec := "fnExactLineFit", unfollowed := true, recurses := true, apart := false }
def FnExactLineFitSaid : Prop := fnExactLineFitRow.holds Try.pinned (OpenSpec.ofChange fnExactLineFitSpec)

/-- ITS FALSE NEIGHBOUR: 'it returns false'. Refute it at one input. -/
def fnExactLineFitWrong : ChangeSpec := { name := "fnExactLineFit", fn := fun _ => fun
  | [d] => { results := [.lit (.bool false)], args := [d] }
  | _ => none }
def FnExactLineFitWrongFalsely : Prop := fnExactLineFitRow.holds Try.pinned (OpenSpec.ofChange fnExactLineFitWrong)

/-- 'laws.FnExactWorkDayBehind': WHATEVER THE INPUT: true; the input reads as it did. -/
def fnExactWorkDayBehindSpec : ChangeSpec := { name := "fnExactWorkDayBehind", fn := fun _ => fun
  | [d1, d2, d3] => { results := [.lit (.bool true)], args := [d1, d2, d3] }
  | _ => none }
def fnExactWorkDayBehindRow : OpenClaim := { program := "ytkcgiakliiadoaa", sum := "7e2612cc23ad7ac0835d4cc104922338ad6ec70d3654498ebda1cbe6e42a23ba", func := "loop.example/g01375/laws.FnExactWorkDayBehind", spec := "fnExactWorkDayBehind", unfollowed := true, recurses := true, apart := false }
def FnExactWorkDayBehindSaid : Prop := fnExactWorkDayBehindRow.holds Try.pinned (OpenSpec.ofChange fnExactWorkDayBehindSpec)

/-- ITS FALSE NEIGHBOUR: 'it returns false'. Refute it at one input. -/
def fnExactWorkDayBehindWrong : ChangeSpec := { name := "fnExactWorkDayBehind", fn := fun _ => fun
  | [d1, d2, d3] => { results := [.lit (.bool false)], args := [d1, d2, d3] }
  | _ => none }
def FnExactWorkDayBehindWrongFalsely : Prop := fnExactWorkDayBehindRow.holds Try.pinned (OpenSpec.ofChange fnExactWorkDayBehindWrong)

/-- 'laws.FnExactFoldedBy': WHATEVER THE INPUT: true; the input reads as it did. -/
def fnExactFoldedBySpec : ChangeSpec := { name := "fnExactFoldedBy", fn := fun _ => fun
  | [d1, d2] => { results := [.lit (.bool true)], args := [d1, d2] }
  | _ => none }
def fnExactFoldedByRow : OpenClaim := { program := "ytkcgiakliiadoaa", sum := "7e2612cc23ad7ac0835d4cc104922338ad6ec70d3654498ebda1cbe6e42a23ba", func := "loop.example/g01375/laws.FnExactFoldedBy", spec := "fnExactFoldedBy", unfollowed := true, recurses := true, apart := false }
def FnExactFoldedBySaid : Prop := fnExactFoldedByRow.holds Try.pinned (OpenSpec.ofChange fnExactFoldedBySpec)

/-- ITS FALSE NEIGHBOUR: 'it returns false'. Refute it at one input. -/
def fnExactFoldedByWrong : ChangeSpec := { name := "fnExactFoldedBy", fn := fun _ => fun
  | [d1, d2] => { results := [.lit (.bool false)], args := [d1, d2] }
  | _ => none }
def FnExactFoldedByWrongFalsely : Prop := fnExactFoldedByRow.holds Try.pinned (OpenSpec.ofChange fnExactFoldedByWrong)

/-- 'laws.FnExactGuessOf': WHATEVER THE INPUT: true; the input reads as it did. -/
def fnExactGuessOfSpec : ChangeSpec := { name := "fnExactGuessOf", fn := fun _ => fun
  | [d1, d2] => { results := [.lit (.bool true)], args := [d1, d2] }
  | _ => none }
def fnExactGuessOfRow : OpenClaim := { program := "ytkcgiakliiadoaa", sum := "7e2612cc23ad7ac0835d4cc104922338ad6ec70d3654498ebda1cbe6e42a23ba", func := "loop.example/g01375/laws.FnExactGuessOf", spec := "fnExactGuessOf", unfollowed := true, recurses := true, apart := false }
def FnExactGuessOfSaid : Prop := fnExactGuessOfRow.holds Try.pinned (OpenSpec.ofChange fnExactGuessOfSpec)

/-- ITS FALSE NEIGHBOUR: 'it returns false'. Refute it at one input. -/
def fnExactGuessOfWrong : ChangeSpec := { name := "fnExactGuessOf", fn := fun _ => fun
  | [d1, d2] => { results := [.lit (.bool false)], args := [d1, d2] }
  | _ => none }
def FnExactGuessOfWrongFalsely : Prop := fnExactGuessOfRow.holds Try.pinned (OpenSpec.ofChange fnExactGuessOfWrong)

/-- 'laws.FnExactTimesSeason': WHATEVER THE INPUT: true; the input reads as it did. -/
def fnExactTimesSeasonSpec : ChangeSpec := { name := "fnExactTimesSeason", fn := fun _ => fun
  | [d1, d2, d3] => { results := [.lit (.bool true)], args := [d1, d2, d3] }
  | _ => none }
def fnExactTimesSeasonRow : OpenClaim := { program := "ytkcgiakliiadoaa", sum := "7e2612cc23ad7ac0835d4cc104922338ad6ec70d3654498ebda1cbe6e42a23ba", func := "loop.example/g01375/laws.FnExactTimesSeason", spec := "fnExactTimesSeason", unfollowed := true, recurses := true, apart := false }
def FnExactTimesSeasonSaid : Prop := fnExactTimesSeasonRow.holds Try.pinned (OpenSpec.ofChange fnExactTimesSeasonSpec)

/-- ITS FALSE NEIGHBOUR: 'it returns false'. Refute it at one input. -/
def fnExactTimesSeasonWrong : ChangeSpec := { name := "fnExactTimesSeason", fn := fun _ => fun
  | [d1, d2, d3] => { results := [.lit (.bool false)], args := [d1, d2, d3] }
  | _ => none }
def FnExactTimesSeasonWrongFalsely : Prop := fnExactTimesSeasonRow.holds Try.pinned (OpenSpec.ofChange fnExactTimesSeasonWrong)

/- THE SECOND FORM. 'bulk': how many values and letters a reading holds, each counted each time it is reached (what is shared counts as often as it is met; a slice's spare places count too). A statement '..UptoSaid' is the law's where the arguments, and the package variables that the reading takes, are together of bulk at most 1048576: NARROWER than '..Said'. Prove '..Said' where nothing that the law and all that it calls make is longer than what came in: it says more and counts as full. Else prove '..UptoSaid'. A law counts once. -/
mutual
def uptoBulk {H : Type} : DataW H → Nat
  | .lit (.string bytes) => bytes.length + 1
  | .lit _ => 1
  | .nil => 1
  | .ptr d => uptoBulk d + 1
  | .slice elems spare => uptoBulkAll elems + uptoBulkAll spare + 1
  | .agg parts => uptoBulkAll parts + 1
  | .iface _ d => uptoBulk d + 1
  | .map entries => uptoBulkEntries entries + 1
  | .held _ => 1
def uptoBulkAll {H : Type} : List (DataW H) → Nat
  | [] => 0
  | d :: r => uptoBulk d + uptoBulkAll r
def uptoBulkEntries {H : Type} : List (Lit × DataW H) → Nat
  | [] => 0
  | x :: r => uptoBulkEntry x + uptoBulkEntries r
def uptoBulkEntry {H : Type} : Lit × DataW H → Nat
  | (.string bytes, d) => bytes.length + uptoBulk d + 1
  | (_, d) => uptoBulk d + 1
 end
def uptoSmall : (H : Type) → List (DataW H) → Bool := fun _ ds => decide (uptoBulkAll ds ≤ 1048576)
def OpenSpec.upto (s : _root_.Go.ChangeSpec) : _root_.Go.OpenSpec := { _root_.Go.OpenSpec.ofChange s with cond := some uptoSmall }

/-- 'laws.FnExactSameState', WHERE WHAT IT READS IS OF BULK AT MOST 1048576: true; the input reads as it did. -/
def fnExactSameStateUptoRow : OpenClaim := { program := "ytkcgiakliiadoaa", sum := "7e2612cc23ad7ac0835d4cc104922338ad6ec70d3654498ebda1cbe6e42a23ba", func := "loop.example/g01375/laws.FnExactSameState", spec := "fnExactSameState", inPlace := ["math.Float32bits", "math.Float64bits"], unfollowed := true, recurses := true, apart := false, narrowed := true }
def FnExactSameStateUptoSaid : Prop := fnExactSameStateUptoRow.holds Try.pinned (OpenSpec.upto fnExactSameStateSpec)

/-- 'laws.FnExactSimpleLevels', WHERE WHAT IT READS IS OF BULK AT MOST 1048576: true; the input reads as it did. -/
def fnExactSimpleLevelsUptoRow : OpenClaim := { program := "ytkcgiakliiadoaa", sum := "7e2612cc23ad7ac0835d4cc104922338ad6ec70d3654498ebda1cbe6e42a23ba", func := "loop.example/g01375/laws.FnExactSimpleLevels", spec := "fnExactSimpleLevels", unfollowed := true, recurses := true, apart := false, narrowed := true }
def FnExactSimpleLevelsUptoSaid : Prop := fnExactSimpleLevelsUptoRow.holds Try.pinned (OpenSpec.upto fnExactSimpleLevelsSpec)

/-- 'laws.FnExactChanceNeeds', WHERE WHAT IT READS IS OF BULK AT MOST 1048576: true; the input reads as it did. -/
def fnExactChanceNeedsUptoRow : OpenClaim := { program := "ytkcgiakliiadoaa", sum := "7e2612cc23ad7ac0835d4cc104922338ad6ec70d3654498ebda1cbe6e42a23ba", func := "loop.example/g01375/laws.FnExactChanceNeeds", spec := "fnExactChanceNeeds", unfollowed := true, recurses := true, apart := false, narrowed := true }
def FnExactChanceNeedsUptoSaid : Prop := fnExactChanceNeedsUptoRow.holds Try.pinned (OpenSpec.upto fnExactChanceNeedsSpec)

/-- 'laws.FnExactSeldomNeeds', WHERE WHAT IT READS IS OF BULK AT MOST 1048576: true; the input reads as it did. -/
def fnExactSeldomNeedsUptoRow : OpenClaim := { program := "ytkcgiakliiadoaa", sum := "7e2612cc23ad7ac0835d4cc104922338ad6ec70d3654498ebda1cbe6e42a23ba", func := "loop.example/g01375/laws.FnExactSeldomNeeds", spec := "fnExactSeldomNeeds", unfollowed := true, recurses := true, apart := false, narrowed := true }
def FnExactSeldomNeedsUptoSaid : Prop := fnExactSeldomNeedsUptoRow.holds Try.pinned (OpenSpec.upto fnExactSeldomNeedsSpec)

/-- 'laws.FnExactDoubleLine', WHERE WHAT IT READS IS OF BULK AT MOST 1048576: true; the input reads as it did. -/
def fnExactDoubleLineUptoRow : OpenClaim := { program := "ytkcgiakliiadoaa", sum := "7e2612cc23ad7ac0835d4cc104922338ad6ec70d3654498ebda1cbe6e42a23ba", func := "loop.example/g01375/laws.FnExactDoubleLine", spec := "fnExactDoubleLine", unfollowed := true, recurses := true, apart := false, narrowed := true }
def FnExactDoubleLineUptoSaid : Prop := fnExactDoubleLineUptoRow.holds Try.pinned (OpenSpec.upto fnExactDoubleLineSpec)

/-- 'laws.FnExactWorkDays', WHERE WHAT IT READS IS OF BULK AT MOST 1048576: true; the input reads as it did. -/
def fnExactWorkDaysUptoRow : OpenClaim := { program := "ytkcgiakliiadoaa", sum := "7e2612cc23ad7ac0835d4cc104922338ad6ec70d3654498ebda1cbe6e42a23ba", func := "loop.example/g01375/laws.FnExactWorkDays", spec := "fnExactWorkDays", unfollowed := true, recurses := true, apart := false, narrowed := true }
def FnExactWorkDaysUptoSaid : Prop := fnExactWorkDaysUptoRow.holds Try.pinned (OpenSpec.upto fnExactWorkDaysSpec)

/-- 'laws.FnExactMovingMean', WHERE WHAT IT READS IS OF BULK AT MOST 1048576: true; the input reads as it did. -/
def fnExactMovingMeanUptoRow : OpenClaim := { program := "ytkcgiakliiadoaa", sum := "7e2612cc23ad7ac0835d4cc104922338ad6ec70d3654498ebda1cbe6e42a23ba", func := "loop.example/g01375/laws.FnExactMovingMean", spec := "fnExactMovingMean", unfollowed := true, recurses := true, apart := false, narrowed := true }
def FnExactMovingMeanUptoSaid : Prop := fnExactMovingMeanUptoRow.holds Try.pinned (OpenSpec.upto fnExactMovingMeanSpec)

/-- 'laws.FnExactLineFit', WHERE WHAT IT READS IS OF BULK AT MOST 1048576: true; the input reads as it did. -/
def fnExactLineFitUptoRow : OpenClaim := { program := "ytkcgiakliiadoaa", sum := "7e2612cc23ad7ac0835d4cc104922338ad6ec70d3654498ebda1cbe6e42a23ba", func := "loop.example/g01375/laws.FnExactLineFit", spec := "fnExactLineFit", unfollowed := true, recurses := true, apart := false, narrowed := true }
def FnExactLineFitUptoSaid : Prop := fnExactLineFitUptoRow.holds Try.pinned (OpenSpec.upto fnExactLineFitSpec)

/-- 'laws.FnExactWorkDayBehind', WHERE WHAT IT READS IS OF BULK AT MOST 1048576: true; the input reads as it did. -/
def fnExactWorkDayBehindUptoRow : OpenClaim := { program := "ytkcgiakliiadoaa", sum := "7e2612cc23ad7ac0835d4cc104922338ad6ec70d3654498ebda1cbe6e42a23ba", func := "loop.example/g01375/laws.FnExactWorkDayBehind", spec := "fnExactWorkDayBehind", unfollowed := true, recurses := true, apart := false, narrowed := true }
def FnExactWorkDayBehindUptoSaid : Prop := fnExactWorkDayBehindUptoRow.holds Try.pinned (OpenSpec.upto fnExactWorkDayBehindSpec)

/-- 'laws.FnExactFoldedBy', WHERE WHAT IT READS IS OF BULK AT MOST 1048576: true; the input reads as it did. -/
def fnExactFoldedByUptoRow : OpenClaim := { program := "ytkcgiakliiadoaa", sum := "7e2612cc23ad7ac0835d4cc104922338ad6ec70d3654498ebda1cbe6e42a23ba", func := "loop.example/g01375/laws.FnExactFoldedBy", spec := "fnExactFoldedBy", unfollowed := true, recurses := true, apart := false, narrowed := true }
def FnExactFoldedByUptoSaid : Prop := fnExactFoldedByUptoRow.holds Try.pinned (OpenSpec.upto fnExactFoldedBySpec)

/-- 'laws.FnExactGuessOf', WHERE WHAT IT READS IS OF BULK AT MOST 1048576: true; the input reads as it did. -/
def fnExactGuessOfUptoRow : OpenClaim := { program := "ytkcgiakliiadoaa", sum := "7e2612cc23ad7ac0835d4cc104922338ad6ec70d3654498ebda1cbe6e42a23ba", func := "loop.example/g01375/laws.FnExactGuessOf", spec := "fnExactGuessOf", unfollowed := true, recurses := true, apart := false, narrowed := true }
def FnExactGuessOfUptoSaid : Prop := fnExactGuessOfUptoRow.holds Try.pinned (OpenSpec.upto fnExactGuessOfSpec)

/-- 'laws.FnExactTimesSeason', WHERE WHAT IT READS IS OF BULK AT MOST 1048576: true; the input reads as it did. -/
def fnExactTimesSeasonUptoRow : OpenClaim := { program := "ytkcgiakliiadoaa", sum := "7e2612cc23ad7ac0835d4cc104922338ad6ec70d3654498ebda1cbe6e42a23ba", func := "loop.example/g01375/laws.FnExactTimesSeason", spec := "fnExactTimesSeason", unfollowed := true, recurses := true, apart := false, narrowed := true }
def FnExactTimesSeasonUptoSaid : Prop := fnExactTimesSeasonUptoRow.holds Try.pinned (OpenSpec.upto fnExactTimesSeasonSpec)

end Rows
end Go.Proofs.Ytkcgiakliiadoaa
