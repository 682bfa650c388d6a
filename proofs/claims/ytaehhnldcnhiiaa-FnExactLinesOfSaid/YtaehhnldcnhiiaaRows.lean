/-
  No cell of these rows narrows 'for every input' (looked for: loops, veiled, ifaces, maps, wideKeys, modest, calm, conditions, laid).
  DERIVED. THE GIVEN ROWS OF THIS SEAT. 7 by the template 'for every input the law returns true; each argument reads behind the call as it read before'; 0 by the template 'total and deterministic' (their statements: YtaehhnldcnhiiaaTotals.lean).
  GIVEN WITH THE SEED: the statements are not yours to turn. If you find one false, say at which input.
  Laid BY PROGRAM, IN A SANDBOX (cutbox-rows.mjs): the forced cells as the released guide's own fill.sh prints them over the translation cc01baf53f9acd70… (all of the seat's roots in one cut). By AI agents, Wed Nov 11 2026. No macro, syntax, notation, axiom, sorry.
-/
import Derived.Test.YtaehhnldcnhiiaaChecked
import GoSem.Claim
import GoSem.ClaimJoined
import GoSem.ClaimMapViews
import Derived.JoinedTies
import Derived.KernelRfl
namespace Go.Proofs.Ytaehhnldcnhiiaa
/- THE CELL 'sum', in the pinned program and in every row, IS THE sha256 OF THE DUMP (.gsa) THAT YtaehhnldcnhiiaaProg.lean LOADS. Nothing in Lean hashes anything: it is a label: what it is worth is what the hold of that sum in a sandbox is worth. -/
noncomputable def Try.pinned : Pinned := { name := "ytaehhnldcnhiiaa", sum := "cc01baf53f9acd70b3d0589f4d39120c217450af10ec63dbaa59094adff0c58e", checked := Try.checked }
namespace Rows
def none {H : Type} : Left H := { results := [], args := [] }

/-- 'laws.FnExactLinesOf': WHATEVER THE INPUT: true; the input reads as it did. -/
def fnExactLinesOfSpec : ChangeSpec := { name := "fnExactLinesOf", fn := fun _ => fun
  | [d] => { results := [.lit (.bool true)], args := [d] }
  | _ => none }
def fnExactLinesOfRow : OpenClaim := { program := "ytaehhnldcnhiiaa", sum := "cc01baf53f9acd70b3d0589f4d39120c217450af10ec63dbaa59094adff0c58e", func := "loop.example/g01375/laws.FnExactLinesOf", spec := "fnExactLinesOf", inPlace := ["math.Float32frombits", "math.Float64frombits", "math.Float64bits"], unfollowed := true, recurses := true, apart := false }
def FnExactLinesOfSaid : Prop := fnExactLinesOfRow.holds Try.pinned (OpenSpec.ofChange fnExactLinesOfSpec)

/-- ITS FALSE NEIGHBOUR: 'it returns false'. Refute it at one input. -/
def fnExactLinesOfWrong : ChangeSpec := { name := "fnExactLinesOf", fn := fun _ => fun
  | [d] => { results := [.lit (.bool false)], args := [d] }
  | _ => none }
def FnExactLinesOfWrongFalsely : Prop := fnExactLinesOfRow.holds Try.pinned (OpenSpec.ofChange fnExactLinesOfWrong)

/-- 'laws.FnExactMovingMedian': WHATEVER THE INPUT: true; the input reads as it did. -/
def fnExactMovingMedianSpec : ChangeSpec := { name := "fnExactMovingMedian", fn := fun _ => fun
  | [d1, d2] => { results := [.lit (.bool true)], args := [d1, d2] }
  | _ => none }
def fnExactMovingMedianRow : OpenClaim := { program := "ytaehhnldcnhiiaa", sum := "cc01baf53f9acd70b3d0589f4d39120c217450af10ec63dbaa59094adff0c58e", func := "loop.example/g01375/laws.FnExactMovingMedian", spec := "fnExactMovingMedian", unfollowed := true, recurses := true, apart := false }
def FnExactMovingMedianSaid : Prop := fnExactMovingMedianRow.holds Try.pinned (OpenSpec.ofChange fnExactMovingMedianSpec)

/-- ITS FALSE NEIGHBOUR: 'it returns false'. Refute it at one input. -/
def fnExactMovingMedianWrong : ChangeSpec := { name := "fnExactMovingMedian", fn := fun _ => fun
  | [d1, d2] => { results := [.lit (.bool false)], args := [d1, d2] }
  | _ => none }
def FnExactMovingMedianWrongFalsely : Prop := fnExactMovingMedianRow.holds Try.pinned (OpenSpec.ofChange fnExactMovingMedianWrong)

/-- 'laws.FnExactFarOnes': WHATEVER THE INPUT: true; the input reads as it did. -/
def fnExactFarOnesSpec : ChangeSpec := { name := "fnExactFarOnes", fn := fun _ => fun
  | [d1, d2] => { results := [.lit (.bool true)], args := [d1, d2] }
  | _ => none }
def fnExactFarOnesRow : OpenClaim := { program := "ytaehhnldcnhiiaa", sum := "cc01baf53f9acd70b3d0589f4d39120c217450af10ec63dbaa59094adff0c58e", func := "loop.example/g01375/laws.FnExactFarOnes", spec := "fnExactFarOnes", unfollowed := true, recurses := true, apart := false }
def FnExactFarOnesSaid : Prop := fnExactFarOnesRow.holds Try.pinned (OpenSpec.ofChange fnExactFarOnesSpec)

/-- ITS FALSE NEIGHBOUR: 'it returns false'. Refute it at one input. -/
def fnExactFarOnesWrong : ChangeSpec := { name := "fnExactFarOnes", fn := fun _ => fun
  | [d1, d2] => { results := [.lit (.bool false)], args := [d1, d2] }
  | _ => none }
def FnExactFarOnesWrongFalsely : Prop := fnExactFarOnesRow.holds Try.pinned (OpenSpec.ofChange fnExactFarOnesWrong)

/-- 'laws.FnExactQuantileOf': WHATEVER THE INPUT: true; the input reads as it did. -/
def fnExactQuantileOfSpec : ChangeSpec := { name := "fnExactQuantileOf", fn := fun _ => fun
  | [d1, d2] => { results := [.lit (.bool true)], args := [d1, d2] }
  | _ => none }
def fnExactQuantileOfRow : OpenClaim := { program := "ytaehhnldcnhiiaa", sum := "cc01baf53f9acd70b3d0589f4d39120c217450af10ec63dbaa59094adff0c58e", func := "loop.example/g01375/laws.FnExactQuantileOf", spec := "fnExactQuantileOf", inPlace := ["math.archFloor", "math.Float64bits", "math.Float64frombits", "math.archTrunc"], unfollowed := true, recurses := true, apart := false }
def FnExactQuantileOfSaid : Prop := fnExactQuantileOfRow.holds Try.pinned (OpenSpec.ofChange fnExactQuantileOfSpec)

/-- ITS FALSE NEIGHBOUR: 'it returns false'. Refute it at one input. -/
def fnExactQuantileOfWrong : ChangeSpec := { name := "fnExactQuantileOf", fn := fun _ => fun
  | [d1, d2] => { results := [.lit (.bool false)], args := [d1, d2] }
  | _ => none }
def FnExactQuantileOfWrongFalsely : Prop := fnExactQuantileOfRow.holds Try.pinned (OpenSpec.ofChange fnExactQuantileOfWrong)

/-- 'laws.FnExactTameOnes': WHATEVER THE INPUT: true; the input reads as it did. -/
def fnExactTameOnesSpec : ChangeSpec := { name := "fnExactTameOnes", fn := fun _ => fun
  | [d1, d2] => { results := [.lit (.bool true)], args := [d1, d2] }
  | _ => none }
def fnExactTameOnesRow : OpenClaim := { program := "ytaehhnldcnhiiaa", sum := "cc01baf53f9acd70b3d0589f4d39120c217450af10ec63dbaa59094adff0c58e", func := "loop.example/g01375/laws.FnExactTameOnes", spec := "fnExactTameOnes", unfollowed := true, recurses := true, apart := false }
def FnExactTameOnesSaid : Prop := fnExactTameOnesRow.holds Try.pinned (OpenSpec.ofChange fnExactTameOnesSpec)

/-- ITS FALSE NEIGHBOUR: 'it returns false'. Refute it at one input. -/
def fnExactTameOnesWrong : ChangeSpec := { name := "fnExactTameOnes", fn := fun _ => fun
  | [d1, d2] => { results := [.lit (.bool false)], args := [d1, d2] }
  | _ => none }
def FnExactTameOnesWrongFalsely : Prop := fnExactTameOnesRow.holds Try.pinned (OpenSpec.ofChange fnExactTameOnesWrong)

/-- 'laws.FnBestPeriodOfAll': WHATEVER THE INPUT: true; the input reads as it did. -/
def fnBestPeriodOfAllSpec : ChangeSpec := { name := "fnBestPeriodOfAll", fn := fun _ => fun
  | [d1, d2, d3, d4, d5] => { results := [.lit (.bool true)], args := [d1, d2, d3, d4, d5] }
  | _ => none }
def fnBestPeriodOfAllRow : OpenClaim := { program := "ytaehhnldcnhiiaa", sum := "cc01baf53f9acd70b3d0589f4d39120c217450af10ec63dbaa59094adff0c58e", func := "loop.example/g01375/laws.FnBestPeriodOfAll", spec := "fnBestPeriodOfAll", unfollowed := true, recurses := true, apart := false }
def FnBestPeriodOfAllSaid : Prop := fnBestPeriodOfAllRow.holds Try.pinned (OpenSpec.ofChange fnBestPeriodOfAllSpec)

/-- ITS FALSE NEIGHBOUR: 'it returns false'. Refute it at one input. -/
def fnBestPeriodOfAllWrong : ChangeSpec := { name := "fnBestPeriodOfAll", fn := fun _ => fun
  | [d1, d2, d3, d4, d5] => { results := [.lit (.bool false)], args := [d1, d2, d3, d4, d5] }
  | _ => none }
def FnBestPeriodOfAllWrongFalsely : Prop := fnBestPeriodOfAllRow.holds Try.pinned (OpenSpec.ofChange fnBestPeriodOfAllWrong)

/-- 'laws.FnDays': WHATEVER THE INPUT: true; the input reads as it did. -/
def fnDaysSpec : ChangeSpec := { name := "fnDays", fn := fun _ => fun
  | [d1, d2] => { results := [.lit (.bool true)], args := [d1, d2] }
  | _ => none }
def fnDaysRow : OpenClaim := { program := "ytaehhnldcnhiiaa", sum := "cc01baf53f9acd70b3d0589f4d39120c217450af10ec63dbaa59094adff0c58e", func := "loop.example/g01375/laws.FnDays", spec := "fnDays", unfollowed := true, recurses := true, apart := false }
def FnDaysSaid : Prop := fnDaysRow.holds Try.pinned (OpenSpec.ofChange fnDaysSpec)

/-- ITS FALSE NEIGHBOUR: 'it returns false'. Refute it at one input. -/
def fnDaysWrong : ChangeSpec := { name := "fnDays", fn := fun _ => fun
  | [d1, d2] => { results := [.lit (.bool false)], args := [d1, d2] }
  | _ => none }
def FnDaysWrongFalsely : Prop := fnDaysRow.holds Try.pinned (OpenSpec.ofChange fnDaysWrong)

/- THE SECOND FORM. 'bulk': how many values and letters a reading holds, each counted each time it is reached (what is shared counts as often as it is met; a slice's spare places count too). A statement '..UptoSaid' is the law's where the arguments, and the package variables that the reading takes, are together of bulk at most 1048576: NARROWER than '..Said'. Prove '..Said' where nothing that the law and all that it calls make is longer than what came in: it says more and counts as full. Else prove '..UptoSaid'. A law counts once. -/
mutual
def uptoBulk {H : Type} : DataW H → Nat
  | .lit (.string bytes) => bytes.length + 1
  | .lit _ => 1
  | .nil => 1
  | .ptr d => uptoBulk d + 1
  | .slice elems spare => uptoBulkAll elems + uptoBulkAll spare + 1
  | .agg parts => uptoBulkAll parts + 1
  | .iface _ d => uptoBulk d + 1
  | .map entries => uptoBulkEntries entries + 1
  | .held _ => 1
def uptoBulkAll {H : Type} : List (DataW H) → Nat
  | [] => 0
  | d :: r => uptoBulk d + uptoBulkAll r
def uptoBulkEntries {H : Type} : List (Lit × DataW H) → Nat
  | [] => 0
  | x :: r => uptoBulkEntry x + uptoBulkEntries r
def uptoBulkEntry {H : Type} : Lit × DataW H → Nat
  | (.string bytes, d) => bytes.length + uptoBulk d + 1
  | (_, d) => uptoBulk d + 1
 end
def uptoSmall : (H : Type) → List (DataW H) → Bool := fun _ ds => decide (uptoBulkAll ds ≤ 1048576)
def OpenSpec.upto (s : _root_.Go.ChangeSpec) : _root_.Go.OpenSpec := { _root_.Go.OpenSpec.ofChange s with cond := some uptoSmall }

/-- 'laws.FnExactLinesOf', WHERE WHAT IT READS IS OF BULK AT MOST 1048576: true; the input reads as it did. -/
def fnExactLinesOfUptoRow : OpenClaim := { program := "ytaehhnldcnhiiaa", sum := "cc01baf53f9acd70b3d0589f4d39120c217450af10ec63dbaa59094adff0c58e", func := "loop.example/g01375/laws.FnExactLinesOf", spec := "fnExactLinesOf", inPlace := ["math.Float32frombits", "math.Float64frombits", "math.Float64bits"], unfollowed := true, recurses := true, apart := false, narrowed := true }
def FnExactLinesOfUptoSaid : Prop := fnExactLinesOfUptoRow.holds Try.pinned (OpenSpec.upto fnExactLinesOfSpec)

/-- 'laws.FnExactMovingMedian', WHERE WHAT IT READS IS OF BULK AT MOST 1048576: true; the input reads as it did. -/
def fnExactMovingMedianUptoRow : OpenClaim := { program := "ytaehhnldcnhiiaa", sum := "cc01baf53f9acd70b3d0589f4d39120c217450af10ec63dbaa59094adff0c58e", func := "loop.example/g01375/laws.FnExactMovingMedian", spec := "fnExactMovingMedian", unfollowed := true, recurses := true, apart := false, narrowed := true }
def FnExactMovingMedianUptoSaid : Prop := fnExactMovingMedianUptoRow.holds Try.pinned (OpenSpec.upto fnExactMovingMedianSpec)

/-- 'laws.FnExactFarOnes', WHERE WHAT IT READS IS OF BULK AT MOST 1048576: true; the input reads as it did. -/
def fnExactFarOnesUptoRow : OpenClaim := { program := "ytaehhnldcnhiiaa", sum := "cc01baf53f9acd70b3d0589f4d39120c217450af10ec63dbaa59094adff0c58e", func := "loop.example/g01375/laws.FnExactFarOnes", spec := "fnExactFarOnes", unfollowed := true, recurses := true, apart := false, narrowed := true }
def FnExactFarOnesUptoSaid : Prop := fnExactFarOnesUptoRow.holds Try.pinned (OpenSpec.upto fnExactFarOnesSpec)

/-- 'laws.FnExactQuantileOf', WHERE WHAT IT READS IS OF BULK AT MOST 1048576: true; the input reads as it did. -/
def fnExactQuantileOfUptoRow : OpenClaim := { program := "ytaehhnldcnhiiaa", sum := "cc01baf53f9acd70b3d0589f4d39120c217450af10ec63dbaa59094adff0c58e", func := "loop.example/g01375/laws.FnExactQuantileOf", spec := "fnExactQuantileOf", inPlace := ["math.archFloor", "math.Float64bits", "math.Float64frombits", "math.archTrunc"], unfollowed := true, recurses := true, apart := false, narrowed := true }
def FnExactQuantileOfUptoSaid : Prop := fnExactQuantileOfUptoRow.holds Try.pinned (OpenSpec.upto fnExactQuantileOfSpec)

/-- 'laws.FnExactTameOnes', WHERE WHAT IT READS IS OF BULK AT MOST 1048576: true; the input reads as it did. -/
def fnExactTameOnesUptoRow : OpenClaim := { program := "ytaehhnldcnhiiaa", sum := "cc01baf53f9acd70b3d0589f4d39120c217450af10ec63dbaa59094adff0c58e", func := "loop.example/g01375/laws.FnExactTameOnes", spec := "fnExactTameOnes", unfollowed := true, recurses := true, apart := false, narrowed := true }
def FnExactTameOnesUptoSaid : Prop := fnExactTameOnesUptoRow.holds Try.pinned (OpenSpec.upto fnExactTameOnesSpec)

/-- 'laws.FnBestPeriodOfAll', WHERE WHAT IT READS IS OF BULK AT MOST 1048576: true; the input reads as it did. -/
def fnBestPeriodOfAllUptoRow : OpenClaim := { program := "ytaehhnldcnhiiaa", sum := "cc01baf53f9acd70b3d0589f4d39120c217450af10ec63dbaa59094adff0c58e", func := "loop.example/g01375/laws.FnBestPeriodOfAll", spec := "fnBestPeriodOfAll", unfollowed := true, recurses := true, apart := false, narrowed := true }
def FnBestPeriodOfAllUptoSaid : Prop := fnBestPeriodOfAllUptoRow.holds Try.pinned (OpenSpec.upto fnBestPeriodOfAllSpec)

/-- 'laws.FnDays', WHERE WHAT IT READS IS OF BULK AT MOST 1048576: true; the input reads as it did. -/
def fnDaysUptoRow : OpenClaim := { program := "ytaehhnldcnhiiaa", sum := "cc01baf53f9acd70b3d0589f4d39120c217450af10ec63dbaa59094adff0c58e", func := "loop.example/g01375/laws.FnDays", spec := "fnDays", unfollowed := true, recurses := true, apart := false, narrowed := true }
def FnDaysUptoSaid : Prop := fnDaysUptoRow.holds Try.pinned (OpenSpec.upto fnDaysSpec)

end Rows
end Go.Proofs.Ytaehhnldcnhiiaa
