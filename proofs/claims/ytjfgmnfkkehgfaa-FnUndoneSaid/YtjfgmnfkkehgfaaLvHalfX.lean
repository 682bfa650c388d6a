/- Texts that belong together. -/
import Derived.Test.YtjfgmnfkkehgfaaLvExtX
import Derived.Test.YtjfgmnfkkehgfaaLvFnIX
import GoSem.Extern.MathFloor
namespace Go.Proofs.LV
open Go Ieee
set_option linter.unusedVariables false
set_option linter.unusedSimpArgs false

theorem log2_mul_pow {n : Nat} (hn : n ≠ 0) (a : Nat) : (n * 2 ^ a).log2 = n.log2 + a := by
  have h1 : 2 ^ n.log2 ≤ n := Nat.log2_self_le hn
  have h2 : n < 2 ^ (n.log2 + 1) := Nat.lt_log2_self
  have h0 : n * 2 ^ a ≠ 0 := Nat.mul_ne_zero hn (by have := Nat.two_pow_pos a; omega)
  have u : n.log2 + a ≤ (n * 2 ^ a).log2 := (Nat.le_log2 h0).2 (by rw [Nat.pow_add]; exact Nat.mul_le_mul_right _ h1)
  have l : (n * 2 ^ a).log2 < n.log2 + a + 1 := (Nat.log2_lt h0).2 (by
    rw [show n.log2 + a + 1 = n.log2 + 1 + a by omega, Nat.pow_add]; exact Nat.mul_lt_mul_of_pos_right h2 (Nat.two_pow_pos a))
  omega
theorem cut_shift (neg : Bool) {n : Nat} (hn : n ≠ 0) (d a : Nat) : Toward.even.cut neg (n * 2 ^ a) (d + a) = Toward.even.cut neg n d := by
  unfold Toward.cut
  rw [log2_mul_pow hn]
  have e : min (d + a) (n.log2 + a + 2) = min d (n.log2 + 2) + a := by omega
  rw [e]
  simp only [Nat.one_shiftLeft]
  generalize min d (n.log2 + 2) = g
  have p := Nat.two_pow_pos a
  rw [Nat.pow_add, Nat.mul_div_mul_right _ _ p, Nat.mul_mod_mul_right]
  have e1 : (2 ^ g * 2 ^ a < 2 * (n % 2 ^ g * 2 ^ a)) = (2 ^ g < 2 * (n % 2 ^ g)) := by
    rw [← Nat.mul_assoc]; exact propext ⟨fun h => Nat.lt_of_mul_lt_mul_right h, fun h => Nat.mul_lt_mul_of_pos_right h p⟩
  have e2 : (2 ^ g * 2 ^ a == 2 * (n % 2 ^ g * 2 ^ a)) = (2 ^ g == 2 * (n % 2 ^ g)) := by
    rw [← Nat.mul_assoc, Bool.eq_iff_iff]
    simp only [beq_iff_eq]
    exact ⟨fun h => Nat.eq_of_mul_eq_mul_right p h, fun h => congrArg (· * 2 ^ a) h⟩
  simp only [e1, e2]
theorem nearest_shift (f : Format) (neg : Bool) (mag : Nat) (place : Int) (a : Nat) : f.nearest neg (mag * 2 ^ a) (place - a) = f.nearest neg mag place := by
  unfold Format.nearest
  by_cases h0 : mag = 0
  · simp [h0]
  have h1 : mag * 2 ^ a ≠ 0 := Nat.mul_ne_zero h0 (by have := Nat.two_pow_pos a; omega)
  rw [if_neg h0, if_neg h1, log2_mul_pow h0]
  have e : place - (a : Int) + ((mag.log2 + a : Nat) : Int) - f.fractionBits = place + mag.log2 - f.fractionBits := by omega
  simp only [e]
  generalize max (place + (mag.log2 : Int) - f.fractionBits) f.leastPlace = last
  have key : Toward.even.cut neg ((mag * 2 ^ a) <<< (place - a - last).toNat) (last - (place - a)).toNat = Toward.even.cut neg (mag <<< (place - last).toNat) (last - place).toNat := by
    by_cases c1 : place ≤ last
    · rw [show (place - a - last).toNat = 0 by omega, show (place - last).toNat = 0 by omega, show (last - (place - a)).toNat = (last - place).toNat + a by omega]
      simp only [Nat.shiftLeft_zero]
      exact cut_shift neg h0 _ _
    · by_cases c2 : (a : Int) ≤ place - last
      · rw [show (last - (place - a)).toNat = 0 by omega, show (last - place).toNat = 0 by omega, Nat.shiftLeft_eq, Nat.shiftLeft_eq, Nat.mul_assoc, ← Nat.pow_add]
        congr 3
        omega
      · rw [show (place - a - last).toNat = 0 by omega, Nat.shiftLeft_zero, show (last - place).toNat = 0 by omega, Nat.shiftLeft_eq]
        have e3 : mag * 2 ^ a = mag * 2 ^ (place - last).toNat * 2 ^ (last - (place - a)).toNat := by
          rw [Nat.mul_assoc, ← Nat.pow_add]; congr 2; omega
        rw [e3]
        have h2 : mag * 2 ^ (place - last).toNat ≠ 0 := Nat.mul_ne_zero h0 (by have := Nat.two_pow_pos (place - last).toNat; omega)
        have := cut_shift neg h2 0 (last - (place - a)).toNat
        rw [Nat.zero_add] at this
        exact this
  rw [key]
theorem read_two : single.read 1073741824 = .number false (2 ^ 23) (-22) := by decide +kernel
theorem read_half : single.read 1056964608 = .number false (2 ^ 23) (-24) := by decide +kernel
theorem read_mag {x : Nat} {s : Bool} {m : Nat} {e : Int} (h : single.read x = .number s m e) : m < 2 ^ 24 := (read32_bounds h).1
theorem half_eq (x : Nat) : fdiv .f32 x 1073741824 = fmul .f32 1056964608 x := by
  unfold fdiv fmul
  show (Format.div single x 1073741824).getD _ = (Format.mul single 1056964608 x).getD _
  unfold Format.div Format.mul
  rw [read_two, read_half]
  cases h : single.read x with
  | nan s t => rfl
  | infinity s => simp [Datum.quotient, Datum.product, Bool.xor_comm]
  | number s m e =>
    have hm := read_mag h
    simp only [Datum.quotient, Datum.product]
    rw [if_neg (by decide)]
    simp only [Option.map_some, Option.getD_some, Format.write]
    have hl : m.log2 ≤ 23 := by
      by_cases h0 : m = 0
      · subst h0; decide
      · have := (Nat.log2_lt h0).2 hm; omega
    have l23 : (2 ^ 23 : Nat).log2 = 23 := by decide
    have hsf : single.fractionBits = 23 := rfl
    rw [l23, hsf]
    generalize hmore : 23 + 2 + 23 - m.log2 = more
    have h25 : 25 ≤ more := by omega
    have e1 : m <<< more = m * 2 ^ (more - 23) * 2 ^ 23 := by
      rw [Nat.shiftLeft_eq, Nat.mul_assoc, ← Nat.pow_add]; congr 2; omega
    rw [e1, Nat.mul_div_cancel _ (by decide), Nat.mul_mod_left]
    simp only [bne_self_eq_false, Bool.toNat_false, Nat.add_zero, Bool.xor_false, Bool.false_xor]
    have a1 := nearest_shift single s m (e - 1) 23
    have a2 := nearest_shift single s m (e - 1) (more - 22)
    rw [show e - 1 - ((23 : Nat) : Int) = -24 + e by omega, Nat.mul_comm m (2 ^ 23)] at a1
    rw [a1]
    rw [show e - 1 - ((more - 22 : Nat) : Int) = e - -22 - (more : Int) - 1 by omega] at a2
    rw [← a2]
    congr 1
    rw [Nat.mul_comm 2, Nat.mul_assoc]
    congr 1
    rw [← Nat.pow_succ]
    congr 1
    omega
end Go.Proofs.LV

namespace Go.Proofs.LV
open Go Ieee
set_option linter.unusedVariables false
set_option linter.unusedSimpArgs false

end Go.Proofs.LV

namespace Go.Proofs.LV
open Go Ieee
set_option linter.unusedVariables false
set_option linter.unusedSimpArgs false

/-- what it stands for, in least steps -/
def val (x : Nat) : Int := sg (sign double x) (units double.binade (rung double x))
def fin64 (x : Nat) : Prop := rung double x < double.infRung
/-- finite, and not above 2^J least steps -/
def bd (J : Nat) (x : Nat) : Prop := fin64 x ∧ (val x).natAbs ≤ 2 ^ J

/-! ### the order -/
theorem cmp_lt {a b c d : Int} (h : compare a b = compare c d) : (a < b ↔ c < d) ∧ (a = b ↔ c = d) := by
  simp only [compare, compareOfLessAndEq] at h
  refine ⟨⟨fun h1 => ?_, fun h1 => ?_⟩, ⟨fun h1 => ?_, fun h1 => ?_⟩⟩
  · rw [if_pos h1] at h; split at h
    · assumption
    · split at h <;> cases h
  · rw [if_pos h1] at h; split at h
    · assumption
    · split at h <;> cases h
  · rw [if_neg (by omega), if_pos h1] at h; split at h
    · cases h
    · split at h
      · assumption
      · cases h
  · have h1' : ¬ c < d := by omega
    rw [if_neg h1', if_pos h1] at h; split at h
    · cases h
    · split at h
      · assumption
      · cases h
/-! ### a word that is written -/
/-! ### sums -/
/-! ### products, quotients -/
end Go.Proofs.LV
