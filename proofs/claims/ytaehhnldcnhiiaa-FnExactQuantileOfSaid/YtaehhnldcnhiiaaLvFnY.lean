/- One step of smoothing. -/
import Derived.Test.YtaehhnldcnhiiaaLvFnO
import Derived.Test.YtaehhnldcnhiiaaLvFnL
import Derived.Test.YtaehhnldcnhiiaaLvBad
namespace Go.Proofs.LV
open Go
set_option linter.unusedVariables false
set_option linter.unusedSimpArgs false

def ssE (l s : Nat) (xs : List Nat) (t : Int) (d x : Nat) : Nat := fsub .f32 x (guessM l s xs t d)
def ssL (l s : Nat) (xs : List Nat) (t : Int) (a b c d x : Nat) : Nat := fadd .f32 (fadd .f32 l (fmul .f32 d s)) (fmul .f32 a (ssE l s xs t d x))
def ssS (l s : Nat) (xs : List Nat) (t : Int) (a b c d x : Nat) : Nat := fadd .f32 (fmul .f32 d s) (fmul .f32 (fmul .f32 a b) (ssE l s xs t d x))
def ssX (l s : Nat) (xs : List Nat) (t : Int) (a b c d x : Nat) : List Nat := xs.set t.toNat (fadd .f32 (xs.getD t.toNat 0) (fmul .f32 (fmul .f32 c (fsub .f32 1065353216 a)) (ssE l s xs t d x)))
def ssT (xs : List Nat) (t : Int) : Int := Int.tmod (IntKind.wrap .i64 (t + 1)) xs.length
def ssOk (l s : Nat) (xs : List Nat) (t : Int) (a b c d x : Nat) : Bool := (validStateM l s xs t && sharesM a b c d) && (finM x && (validStateM (ssL l s xs t a b c d x) (ssS l s xs t a b c d x) (ssX l s xs t a b c d x) (ssT xs t) && finM (ssE l s xs t d x)))



theorem valid_t {l s : Nat} {xs : List Nat} {t : Int} (h : validStateM l s xs t = true) : (0 ≤ t ∧ t < xs.length) ∧ xs.length ≤ 24 := by
  simp [validStateM, inM] at h
  omega
theorem ss_len (l s : Nat) (xs : List Nat) (t : Int) (a b c d x : Nat) : (ssX l s xs t a b c d x).length = xs.length := by simp [ssX]
theorem ss_bad {l s : Nat} {xs : List Nat} {t : Int} {d x : Nat} (hx : finM x = true) (h : finM (guessM l s xs t d) = false) : finM (ssE l s xs t d x) = false := bad_sub hx h
end Go.Proofs.LV
