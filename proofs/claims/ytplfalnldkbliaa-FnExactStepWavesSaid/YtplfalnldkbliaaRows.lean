/-
  No cell of these rows narrows 'for every input' (looked for: loops, veiled, ifaces, maps, wideKeys, modest, calm, conditions, laid).
  DERIVED. THE GIVEN ROWS OF THIS SEAT. 5 by the template 'for every input the law returns true; each argument reads behind the call as it read before'; 0 by the template 'total and deterministic' (their statements: YtplfalnldkbliaaTotals.lean).
  GIVEN WITH THE SEED: the statements are not yours to turn. If you find one false, say at which input.
  Laid BY PROGRAM, IN A SANDBOX (cutbox-rows.mjs): the forced cells as the released guide's own fill.sh prints them over the translation b7884e8b705bb37d… (all of the seat's roots in one cut). By AI agents, Wed Nov 11 2026. No macro, syntax, notation, axiom, sorry.
-/
import Derived.Test.YtplfalnldkbliaaChecked
import GoSem.Claim
import GoSem.ClaimJoined
import GoSem.ClaimMapViews
import Derived.JoinedTies
import Derived.KernelRfl
namespace Go.Proofs.Ytplfalnldkbliaa
/- THE CELL 'sum', in the pinned program and in every row, IS THE sha256 OF THE DUMP (.gsa) THAT YtplfalnldkbliaaProg.lean LOADS. Nothing in Lean hashes anything: it is a label: what it is worth is what the hold of that sum in a sandbox is worth. -/
noncomputable def Try.pinned : Pinned := { name := "ytplfalnldkbliaa", sum := "b7884e8b705bb37df27a0aa22521baf8e0c9f783761ca2788f422ac3606b2af5", checked := Try.checked }
namespace Rows
def none {H : Type} : Left H := { results := [], args := [] }

/-- 'laws.FnExactValidShares': WHATEVER THE INPUT: true; the input reads as it did. -/
def fnExactValidSharesSpec : ChangeSpec := { name := "fnExactValidShares", fn := fun _ => fun
  | [d] => { results := [.lit (.bool true)], args := [d] }
  | _ => none }
def fnExactValidSharesRow : OpenClaim := { program := "ytplfalnldkbliaa", sum := "b7884e8b705bb37df27a0aa22521baf8e0c9f783761ca2788f422ac3606b2af5", func := "loop.example/g01375/laws.FnExactValidShares", spec := "fnExactValidShares", apart := false }
def FnExactValidSharesSaid : Prop := fnExactValidSharesRow.holds Try.pinned (OpenSpec.ofChange fnExactValidSharesSpec)

/-- ITS FALSE NEIGHBOUR: 'it returns false'. Refute it at one input. -/
def fnExactValidSharesWrong : ChangeSpec := { name := "fnExactValidShares", fn := fun _ => fun
  | [d] => { results := [.lit (.bool false)], args := [d] }
  | _ => none }
def FnExactValidSharesWrongFalsely : Prop := fnExactValidSharesRow.holds Try.pinned (OpenSpec.ofChange fnExactValidSharesWrong)

/-- 'laws.FnExactValidState': WHATEVER THE INPUT: true; the input reads as it did. -/
def fnExactValidStateSpec : ChangeSpec := { name := "fnExactValidState", fn := fun _ => fun
  | [d] => { results := [.lit (.bool true)], args := [d] }
  | _ => none }
def fnExactValidStateRow : OpenClaim := { program := "ytplfalnldkbliaa", sum := "b7884e8b705bb37df27a0aa22521baf8e0c9f783761ca2788f422ac3606b2af5", func := "loop.example/g01375/laws.FnExactValidState", spec := "fnExactValidState", unfollowed := true, recurses := true, apart := false }
def FnExactValidStateSaid : Prop := fnExactValidStateRow.holds Try.pinned (OpenSpec.ofChange fnExactValidStateSpec)

/-- ITS FALSE NEIGHBOUR: 'it returns false'. Refute it at one input. -/
def fnExactValidStateWrong : ChangeSpec := { name := "fnExactValidState", fn := fun _ => fun
  | [d] => { results := [.lit (.bool false)], args := [d] }
  | _ => none }
def FnExactValidStateWrongFalsely : Prop := fnExactValidStateRow.holds Try.pinned (OpenSpec.ofChange fnExactValidStateWrong)

/-- 'laws.FnExactPairCount': WHATEVER THE INPUT: true; the input reads as it did. -/
def fnExactPairCountSpec : ChangeSpec := { name := "fnExactPairCount", fn := fun _ => fun
  | [d1, d2] => { results := [.lit (.bool true)], args := [d1, d2] }
  | _ => none }
def fnExactPairCountRow : OpenClaim := { program := "ytplfalnldkbliaa", sum := "b7884e8b705bb37df27a0aa22521baf8e0c9f783761ca2788f422ac3606b2af5", func := "loop.example/g01375/laws.FnExactPairCount", spec := "fnExactPairCount", unfollowed := true, recurses := true, apart := false }
def FnExactPairCountSaid : Prop := fnExactPairCountRow.holds Try.pinned (OpenSpec.ofChange fnExactPairCountSpec)

/-- ITS FALSE NEIGHBOUR: 'it returns false'. Refute it at one input. -/
def fnExactPairCountWrong : ChangeSpec := { name := "fnExactPairCount", fn := fun _ => fun
  | [d1, d2] => { results := [.lit (.bool false)], args := [d1, d2] }
  | _ => none }
def FnExactPairCountWrongFalsely : Prop := fnExactPairCountRow.holds Try.pinned (OpenSpec.ofChange fnExactPairCountWrong)

/-- 'laws.FnExactStepWaves': WHATEVER THE INPUT: true; the input reads as it did. -/
def fnExactStepWavesSpec : ChangeSpec := { name := "fnExactStepWaves", fn := fun _ => fun
  | [d] => { results := [.lit (.bool true)], args := [d] }
  | _ => none }
def fnExactStepWavesRow : OpenClaim := { program := "ytplfalnldkbliaa", sum := "b7884e8b705bb37df27a0aa22521baf8e0c9f783761ca2788f422ac3606b2af5", func := "loop.example/g01375/laws.FnExactStepWaves", spec := "fnExactStepWaves", unfollowed := true, recurses := true, apart := false }
def FnExactStepWavesSaid : Prop := fnExactStepWavesRow.holds Try.pinned (OpenSpec.ofChange fnExactStepWavesSpec)

/-- ITS FALSE NEIGHBOUR: 'it returns false'. Refute it at one input. -/
def fnExactStepWavesWrong : ChangeSpec := { name := "fnExactStepWaves", fn := fun _ => fun
  | [d] => { results := [.lit (.bool false)], args := [d] }
  | _ => none }
def FnExactStepWavesWrongFalsely : Prop := fnExactStepWavesRow.holds Try.pinned (OpenSpec.ofChange fnExactStepWavesWrong)

/-- 'laws.FnExactBackOfWaves': WHATEVER THE INPUT: true; the input reads as it did. -/
def fnExactBackOfWavesSpec : ChangeSpec := { name := "fnExactBackOfWaves", fn := fun _ => fun
  | [d1, d2] => { results := [.lit (.bool true)], args := [d1, d2] }
  | _ => none }
def fnExactBackOfWavesRow : OpenClaim := { program := "ytplfalnldkbliaa", sum := "b7884e8b705bb37df27a0aa22521baf8e0c9f783761ca2788f422ac3606b2af5", func := "loop.example/g01375/laws.FnExactBackOfWaves", spec := "fnExactBackOfWaves", unfollowed := true, recurses := true, apart := false }
def FnExactBackOfWavesSaid : Prop := fnExactBackOfWavesRow.holds Try.pinned (OpenSpec.ofChange fnExactBackOfWavesSpec)

/-- ITS FALSE NEIGHBOUR: 'it returns false'. Refute it at one input. -/
def fnExactBackOfWavesWrong : ChangeSpec := { name := "fnExactBackOfWaves", fn := fun _ => fun
  | [d1, d2] => { results := [.lit (.bool false)], args := [d1, d2] }
  | _ => none }
def FnExactBackOfWavesWrongFalsely : Prop := fnExactBackOfWavesRow.holds Try.pinned (OpenSpec.ofChange fnExactBackOfWavesWrong)

/- THE SECOND FORM. 'bulk': how many values and letters a reading holds, each counted each time it is reached (what is shared counts as often as it is met; a slice's spare places count too). A statement '..UptoSaid' is the law's where the arguments, and the package variables that the reading takes, are together of bulk at most 1048576: NARROWER than '..Said'. Prove '..Said' where nothing that the law and all that it calls make is longer than what came in: it says more and counts as full. Else prove '..UptoSaid'. A law counts once. -/
mutual
def uptoBulk {H : Type} : DataW H → Nat
  | .lit (.string bytes) => bytes.length + 1
  | .lit _ => 1
  | .nil => 1
  | .ptr d => uptoBulk d + 1
  | .slice elems spare => uptoBulkAll elems + uptoBulkAll spare + 1
  | .agg parts => uptoBulkAll parts + 1
  | .iface _ d => uptoBulk d + 1
  | .map entries => uptoBulkEntries entries + 1
  | .held _ => 1
def uptoBulkAll {H : Type} : List (DataW H) → Nat
  | [] => 0
  | d :: r => uptoBulk d + uptoBulkAll r
def uptoBulkEntries {H : Type} : List (Lit × DataW H) → Nat
  | [] => 0
  | x :: r => uptoBulkEntry x + uptoBulkEntries r
def uptoBulkEntry {H : Type} : Lit × DataW H → Nat
  | (.string bytes, d) => bytes.length + uptoBulk d + 1
  | (_, d) => uptoBulk d + 1
 end
def uptoSmall : (H : Type) → List (DataW H) → Bool := fun _ ds => decide (uptoBulkAll ds ≤ 1048576)
def OpenSpec.upto (s : _root_.Go.ChangeSpec) : _root_.Go.OpenSpec := { _root_.Go.OpenSpec.ofChange s with cond := some uptoSmall }

/-- 'laws.FnExactValidShares', WHERE WHAT IT READS IS OF BULK AT MOST 1048576: true; the input reads as it did. -/
def fnExactValidSharesUptoRow : OpenClaim := { program := "ytplfalnldkbliaa", sum := "b7884e8b705bb37df27a0aa22521baf8e0c9f783761ca2788f422ac3606b2af5", func := "loop.example/g01375/laws.FnExactValidShares", spec := "fnExactValidShares", apart := false, narrowed := true }
def FnExactValidSharesUptoSaid : Prop := fnExactValidSharesUptoRow.holds Try.pinned (OpenSpec.upto fnExactValidSharesSpec)

/-- 'laws.FnExactValidState', WHERE WHAT IT READS IS OF BULK AT MOST 1048576: true; the input reads as it did. -/
def fnExactValidStateUptoRow : OpenClaim := { program := "ytplfalnldkbliaa", sum := "b7884e8b705bb37df27a0aa22521baf8e0c9f783761ca2788f422ac3606b2af5", func := "loop.example/g01375/laws.FnExactValidState", spec := "fnExactValidState", unfollowed := true, recurses := true, apart := false, narrowed := true }
def FnExactValidStateUptoSaid : Prop := fnExactValidStateUptoRow.holds Try.pinned (OpenSpec.upto fnExactValidStateSpec)

/-- 'laws.FnExactPairCount', WHERE WHAT IT READS IS OF BULK AT MOST 1048576: true; the input reads as it did. -/
def fnExactPairCountUptoRow : OpenClaim := { program := "ytplfalnldkbliaa", sum := "b7884e8b705bb37df27a0aa22521baf8e0c9f783761ca2788f422ac3606b2af5", func := "loop.example/g01375/laws.FnExactPairCount", spec := "fnExactPairCount", unfollowed := true, recurses := true, apart := false, narrowed := true }
def FnExactPairCountUptoSaid : Prop := fnExactPairCountUptoRow.holds Try.pinned (OpenSpec.upto fnExactPairCountSpec)

/-- 'laws.FnExactStepWaves', WHERE WHAT IT READS IS OF BULK AT MOST 1048576: true; the input reads as it did. -/
def fnExactStepWavesUptoRow : OpenClaim := { program := "ytplfalnldkbliaa", sum := "b7884e8b705bb37df27a0aa22521baf8e0c9f783761ca2788f422ac3606b2af5", func := "loop.example/g01375/laws.FnExactStepWaves", spec := "fnExactStepWaves", unfollowed := true, recurses := true, apart := false, narrowed := true }
def FnExactStepWavesUptoSaid : Prop := fnExactStepWavesUptoRow.holds Try.pinned (OpenSpec.upto fnExactStepWavesSpec)

/-- 'laws.FnExactBackOfWaves', WHERE WHAT IT READS IS OF BULK AT MOST 1048576: true; the input reads as it did. -/
def fnExactBackOfWavesUptoRow : OpenClaim := { program := "ytplfalnldkbliaa", sum := "b7884e8b705bb37df27a0aa22521baf8e0c9f783761ca2788f422ac3606b2af5", func := "loop.example/g01375/laws.FnExactBackOfWaves", spec := "fnExactBackOfWaves", unfollowed := true, recurses := true, apart := false, narrowed := true }
def FnExactBackOfWavesUptoSaid : Prop := fnExactBackOfWavesUptoRow.holds Try.pinned (OpenSpec.upto fnExactBackOfWavesSpec)

end Rows
end Go.Proofs.Ytplfalnldkbliaa
