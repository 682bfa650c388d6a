/- Texts that belong together. -/
import Derived.Test.YtdffgjembkanoaaLvExtX
import Derived.Test.YtdffgjembkanoaaLvFnS
import Derived.Test.YtdffgjembkanoaaLvFnJX
import Derived.Test.YtdffgjembkanoaaLvFnMX
import Derived.Test.YtdffgjembkanoaaLvBad
namespace Go.Proofs.LV
open Go Ieee
set_option linter.unusedVariables false
set_option linter.unusedSimpArgs false

theorem log2_mul_pow {n : Nat} (hn : n ≠ 0) (a : Nat) : (n * 2 ^ a).log2 = n.log2 + a := by
  have h1 : 2 ^ n.log2 ≤ n := Nat.log2_self_le hn
  have h2 : n < 2 ^ (n.log2 + 1) := Nat.lt_log2_self
  have h0 : n * 2 ^ a ≠ 0 := Nat.mul_ne_zero hn (by have := Nat.two_pow_pos a; omega)
  have u : n.log2 + a ≤ (n * 2 ^ a).log2 := (Nat.le_log2 h0).2 (by rw [Nat.pow_add]; exact Nat.mul_le_mul_right _ h1)
  have l : (n * 2 ^ a).log2 < n.log2 + a + 1 := (Nat.log2_lt h0).2 (by
    rw [show n.log2 + a + 1 = n.log2 + 1 + a by omega, Nat.pow_add]; exact Nat.mul_lt_mul_of_pos_right h2 (Nat.two_pow_pos a))
  omega
theorem cut_shift (neg : Bool) {n : Nat} (hn : n ≠ 0) (d a : Nat) : Toward.even.cut neg (n * 2 ^ a) (d + a) = Toward.even.cut neg n d := by
  unfold Toward.cut
  rw [log2_mul_pow hn]
  have e : min (d + a) (n.log2 + a + 2) = min d (n.log2 + 2) + a := by omega
  rw [e]
  simp only [Nat.one_shiftLeft]
  generalize min d (n.log2 + 2) = g
  have p := Nat.two_pow_pos a
  rw [Nat.pow_add, Nat.mul_div_mul_right _ _ p, Nat.mul_mod_mul_right]
  have e1 : (2 ^ g * 2 ^ a < 2 * (n % 2 ^ g * 2 ^ a)) = (2 ^ g < 2 * (n % 2 ^ g)) := by
    rw [← Nat.mul_assoc]; exact propext ⟨fun h => Nat.lt_of_mul_lt_mul_right h, fun h => Nat.mul_lt_mul_of_pos_right h p⟩
  have e2 : (2 ^ g * 2 ^ a == 2 * (n % 2 ^ g * 2 ^ a)) = (2 ^ g == 2 * (n % 2 ^ g)) := by
    rw [← Nat.mul_assoc, Bool.eq_iff_iff]
    simp only [beq_iff_eq]
    exact ⟨fun h => Nat.eq_of_mul_eq_mul_right p h, fun h => congrArg (· * 2 ^ a) h⟩
  simp only [e1, e2]
theorem nearest_shift (f : Format) (neg : Bool) (mag : Nat) (place : Int) (a : Nat) : f.nearest neg (mag * 2 ^ a) (place - a) = f.nearest neg mag place := by
  unfold Format.nearest
  by_cases h0 : mag = 0
  · simp [h0]
  have h1 : mag * 2 ^ a ≠ 0 := Nat.mul_ne_zero h0 (by have := Nat.two_pow_pos a; omega)
  rw [if_neg h0, if_neg h1, log2_mul_pow h0]
  have e : place - (a : Int) + ((mag.log2 + a : Nat) : Int) - f.fractionBits = place + mag.log2 - f.fractionBits := by omega
  simp only [e]
  generalize max (place + (mag.log2 : Int) - f.fractionBits) f.leastPlace = last
  have key : Toward.even.cut neg ((mag * 2 ^ a) <<< (place - a - last).toNat) (last - (place - a)).toNat = Toward.even.cut neg (mag <<< (place - last).toNat) (last - place).toNat := by
    by_cases c1 : place ≤ last
    · rw [show (place - a - last).toNat = 0 by omega, show (place - last).toNat = 0 by omega, show (last - (place - a)).toNat = (last - place).toNat + a by omega]
      simp only [Nat.shiftLeft_zero]
      exact cut_shift neg h0 _ _
    · by_cases c2 : (a : Int) ≤ place - last
      · rw [show (last - (place - a)).toNat = 0 by omega, show (last - place).toNat = 0 by omega, Nat.shiftLeft_eq, Nat.shiftLeft_eq, Nat.mul_assoc, ← Nat.pow_add]
        congr 3
        omega
      · rw [show (place - a - last).toNat = 0 by omega, Nat.shiftLeft_zero, show (last - place).toNat = 0 by omega, Nat.shiftLeft_eq]
        have e3 : mag * 2 ^ a = mag * 2 ^ (place - last).toNat * 2 ^ (last - (place - a)).toNat := by
          rw [Nat.mul_assoc, ← Nat.pow_add]; congr 2; omega
        rw [e3]
        have h2 : mag * 2 ^ (place - last).toNat ≠ 0 := Nat.mul_ne_zero h0 (by have := Nat.two_pow_pos (place - last).toNat; omega)
        have := cut_shift neg h2 0 (last - (place - a)).toNat
        rw [Nat.zero_add] at this
        exact this
  rw [key]
theorem read_two : single.read 1073741824 = .number false (2 ^ 23) (-22) := by decide +kernel
theorem read_half : single.read 1056964608 = .number false (2 ^ 23) (-24) := by decide +kernel
theorem read_mag {x : Nat} {s : Bool} {m : Nat} {e : Int} (h : single.read x = .number s m e) : m < 2 ^ 24 := (read32_bounds h).1
theorem half_eq (x : Nat) : fdiv .f32 x 1073741824 = fmul .f32 1056964608 x := by
  unfold fdiv fmul
  show (Format.div single x 1073741824).getD _ = (Format.mul single 1056964608 x).getD _
  unfold Format.div Format.mul
  rw [read_two, read_half]
  cases h : single.read x with
  | nan s t => rfl
  | infinity s => simp [Datum.quotient, Datum.product, Bool.xor_comm]
  | number s m e =>
    have hm := read_mag h
    simp only [Datum.quotient, Datum.product]
    rw [if_neg (by decide)]
    simp only [Option.map_some, Option.getD_some, Format.write]
    have hl : m.log2 ≤ 23 := by
      by_cases h0 : m = 0
      · subst h0; decide
      · have := (Nat.log2_lt h0).2 hm; omega
    have l23 : (2 ^ 23 : Nat).log2 = 23 := by decide
    have hsf : single.fractionBits = 23 := rfl
    rw [l23, hsf]
    generalize hmore : 23 + 2 + 23 - m.log2 = more
    have h25 : 25 ≤ more := by omega
    have e1 : m <<< more = m * 2 ^ (more - 23) * 2 ^ 23 := by
      rw [Nat.shiftLeft_eq, Nat.mul_assoc, ← Nat.pow_add]; congr 2; omega
    rw [e1, Nat.mul_div_cancel _ (by decide), Nat.mul_mod_left]
    simp only [bne_self_eq_false, Bool.toNat_false, Nat.add_zero, Bool.xor_false, Bool.false_xor]
    have a1 := nearest_shift single s m (e - 1) 23
    have a2 := nearest_shift single s m (e - 1) (more - 22)
    rw [show e - 1 - ((23 : Nat) : Int) = -24 + e by omega, Nat.mul_comm m (2 ^ 23)] at a1
    rw [a1]
    rw [show e - 1 - ((more - 22 : Nat) : Int) = e - -22 - (more : Int) - 1 by omega] at a2
    rw [← a2]
    congr 1
    rw [Nat.mul_comm 2, Nat.mul_assoc]
    congr 1
    rw [← Nat.pow_succ]
    congr 1
    omega
end Go.Proofs.LV

namespace Go.Proofs.LV
open Go
set_option linter.unusedVariables false
set_option linter.unusedSimpArgs false




end Go.Proofs.LV

namespace Go.Proofs.LV
open Go
set_option linter.unusedVariables false
set_option linter.unusedSimpArgs false

def stL (xs : List Nat) (k : Nat) : Nat := meanM (xs.take k)
def stS (xs : List Nat) (k : Nat) : Nat := if 2 * k ≤ xs.length then fdiv .f32 (fsub .f32 (meanM ((xs.drop k).take k)) (stL xs k)) (fofi .f32 k) else 0
def stX (xs : List Nat) (k : Nat) : List Nat := if k = 1 then [0] else lessOneM (xs.take k) (stL xs k)
def stOk (xs : List Nat) (per : Int) : Bool := seriesM xs && (inM per 1 24 && (decide (per ≤ xs.length) && validStateM (stL xs per.toNat) (stS xs per.toNat) (stX xs per.toNat) 0))
def iv (b : Bool) (x : Nat) : Nat := if b = true then x else 0
def ivi (b : Bool) (x : Int) : Int := if b = true then x else 0
def ivl (b : Bool) (x : List Nat) : List Nat := if b = true then x else []






theorem stX_len (xs : List Nat) (k : Nat) (h1 : 1 ≤ k) (h : k ≤ xs.length) : (stX xs k).length = k := by
  unfold stX
  split
  · rename_i h; simp [h]
  · rw [lessOne_len, List.length_take]; omega

end Go.Proofs.LV

namespace Go.Proofs.LV
open Go
set_option linter.unusedVariables false
set_option linter.unusedSimpArgs false

def ssE (l s : Nat) (xs : List Nat) (t : Int) (d x : Nat) : Nat := fsub .f32 x (guessM l s xs t d)
def ssL (l s : Nat) (xs : List Nat) (t : Int) (a b c d x : Nat) : Nat := fadd .f32 (fadd .f32 l (fmul .f32 d s)) (fmul .f32 a (ssE l s xs t d x))
def ssS (l s : Nat) (xs : List Nat) (t : Int) (a b c d x : Nat) : Nat := fadd .f32 (fmul .f32 d s) (fmul .f32 (fmul .f32 a b) (ssE l s xs t d x))
def ssX (l s : Nat) (xs : List Nat) (t : Int) (a b c d x : Nat) : List Nat := xs.set t.toNat (fadd .f32 (xs.getD t.toNat 0) (fmul .f32 (fmul .f32 c (fsub .f32 1065353216 a)) (ssE l s xs t d x)))
def ssT (xs : List Nat) (t : Int) : Int := Int.tmod (IntKind.wrap .i64 (t + 1)) xs.length
def ssOk (l s : Nat) (xs : List Nat) (t : Int) (a b c d x : Nat) : Bool := (validStateM l s xs t && sharesM a b c d) && (finM x && (validStateM (ssL l s xs t a b c d x) (ssS l s xs t a b c d x) (ssX l s xs t a b c d x) (ssT xs t) && finM (ssE l s xs t d x)))



theorem valid_t {l s : Nat} {xs : List Nat} {t : Int} (h : validStateM l s xs t = true) : (0 ≤ t ∧ t < xs.length) ∧ xs.length ≤ 24 := by
  simp [validStateM, inM] at h
  omega
theorem ss_len (l s : Nat) (xs : List Nat) (t : Int) (a b c d x : Nat) : (ssX l s xs t a b c d x).length = xs.length := by simp [ssX]
theorem ss_bad {l s : Nat} {xs : List Nat} {t : Int} {d x : Nat} (hx : finM x = true) (h : finM (guessM l s xs t d) = false) : finM (ssE l s xs t d x) = false := bad_sub hx h
end Go.Proofs.LV
