/- The state at the beginning of a series. -/
import Derived.Test.YtjfgmnfkkehgfaaLvFnJ
namespace Go.Proofs.LV
open Go
set_option linter.unusedVariables false
set_option linter.unusedSimpArgs false

def stL (xs : List Nat) (k : Nat) : Nat := meanM (xs.take k)
def stS (xs : List Nat) (k : Nat) : Nat := if 2 * k ≤ xs.length then fdiv .f32 (fsub .f32 (meanM ((xs.drop k).take k)) (stL xs k)) (fofi .f32 k) else 0
def stX (xs : List Nat) (k : Nat) : List Nat := if k = 1 then [0] else lessOneM (xs.take k) (stL xs k)
def stOk (xs : List Nat) (per : Int) : Bool := seriesM xs && (inM per 1 24 && (decide (per ≤ xs.length) && validStateM (stL xs per.toNat) (stS xs per.toNat) (stX xs per.toNat) 0))
def iv (b : Bool) (x : Nat) : Nat := if b = true then x else 0
def ivi (b : Bool) (x : Int) : Int := if b = true then x else 0
def ivl (b : Bool) (x : List Nat) : List Nat := if b = true then x else []






theorem stX_len (xs : List Nat) (k : Nat) (h1 : 1 ≤ k) (h : k ≤ xs.length) : (stX xs k).length = k := by
  unfold stX
  split
  · rename_i h; simp [h]
  · rw [lessOne_len, List.length_take]; omega

end Go.Proofs.LV
