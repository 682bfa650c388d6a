/- Texts that belong together. -/
import Derived.Test.YtjfgmnfkkehgfaaLvFnCX
import Derived.Test.YtjfgmnfkkehgfaaLvExtX
import GoSem.Extern.MathSqrt
import Derived.Test.YtjfgmnfkkehgfaaLvFnF
import Derived.Test.YtjfgmnfkkehgfaaLvFnJX
import Derived.Test.YtjfgmnfkkehgfaaLvFnOO
import Derived.Test.YtjfgmnfkkehgfaaLvFnDD
import GoSem.Extern.MathFloor
namespace Go.Proofs.LV
open Go Ieee
set_option linter.unusedVariables false
set_option linter.unusedSimpArgs false

/-! ### how great -/
theorem kept_le (neg : Bool) (mag : Nat) (place last : Int) (fb : Nat) (h0 : mag ≠ 0) (h : place + mag.log2 - fb ≤ last) : Toward.even.cut neg (mag <<< (place - last).toNat) (last - place).toNat ≤ 2 ^ (fb + 1) := by
  have hb : mag < 2 ^ (mag.log2 + 1) := Nat.lt_log2_self
  by_cases hd : (last - place).toNat = 0
  · rw [hd, cut_zero, Nat.shiftLeft_eq]
    apply Nat.le_of_lt
    calc mag * 2 ^ (place - last).toNat < 2 ^ (mag.log2 + 1) * 2 ^ (place - last).toNat := Nat.mul_lt_mul_of_pos_right hb (Nat.two_pow_pos _)
      _ = 2 ^ (mag.log2 + 1 + (place - last).toNat) := (Nat.pow_add ..).symm
      _ ≤ 2 ^ (fb + 1) := Nat.pow_le_pow_right (by omega) (by omega)
  · have hs : (place - last).toNat = 0 := by omega
    rw [hs, Nat.shiftLeft_zero]
    unfold Toward.cut
    simp only
    generalize hg : min (last - place).toNat (mag.log2 + 2) = g
    have hlow : mag / (1 <<< g) < 2 ^ (fb + 1) := by
      rw [Nat.shiftLeft_eq, Nat.one_mul, Nat.div_lt_iff_lt_mul (Nat.two_pow_pos _), ← Nat.pow_add]
      exact Nat.lt_of_lt_of_le hb (Nat.pow_le_pow_right (by omega) (by omega))
    have hm : ∀ b : Bool, b.toNat ≤ 1 := fun b => by cases b <;> simp
    exact Nat.le_trans (Nat.add_le_add_left (hm _) _) hlow
theorem nearest_rung (f : Format) (neg : Bool) (mag : Nat) (place K : Int) (h0 : mag ≠ 0) (hK : place + mag.log2 ≤ K) (hL : f.leastPlace + f.fractionBits ≤ K) :
    ∃ r, f.nearest neg mag place = f.word neg r ∧ r ≤ ((K - f.fractionBits - f.leastPlace).toNat + 2) * f.binade ∧ r ≤ f.infRung := by
  unfold Format.nearest
  rw [if_neg h0]
  refine ⟨_, rfl, ?_, Nat.min_le_right _ _⟩
  refine Nat.le_trans (Nat.min_le_left _ _) ?_
  generalize hl : max (place + (mag.log2 : Int) - f.fractionBits) f.leastPlace = last
  have h1 := kept_le neg mag place last f.fractionBits h0 (by omega)
  have h2 : (last - f.leastPlace).toNat ≤ (K - f.fractionBits - f.leastPlace).toNat := by omega
  have h3 := Nat.mul_le_mul_right f.binade h2
  have h4 : 2 ^ (f.fractionBits + 1) = 2 * f.binade := by unfold Format.binade; rw [Nat.pow_succ, Nat.mul_comm]
  rw [Nat.add_mul]
  omega
theorem rung_word (f : Format) (neg : Bool) (r : Nat) (h : r ≤ f.infRung) : rung f (f.word neg r) = r := (read_word_rung f neg r (Nat.lt_of_le_of_lt h f.infRung_lt)).1
end Go.Proofs.LV

namespace Go.Proofs.LV
open Go Ieee
set_option linter.unusedVariables false
set_option linter.unusedSimpArgs false

theorem finM_iff (x : Nat) : finM x = decide (rung single x < single.infRung) := by
  unfold finM fsub Format.sub
  show feq .f32 ((Option.map single.write ((single.read x).sum (single.read x).opposite)).getD (fnan .f32)) 0 = _
  rcases Nat.lt_trichotomy (rung single x) single.infRung with h | h | h
  · obtain ⟨m, p, e, _⟩ := read_num h
    have ez : (Option.map single.write ((single.read x).sum (single.read x).opposite)) = some 0 := by
      rw [e]
      generalize sign single x = s
      have : Datum.sum (.number s m (single.leastPlace + (p : Nat))) (Datum.opposite (.number s m (single.leastPlace + (p : Nat)))) = some (.number false 0 (single.leastPlace + (p : Nat))) := by
        cases s <;> simp [Datum.sum, Datum.opposite, signed] <;> omega
      rw [this, Option.map_some]
      show some (single.nearest false 0 _) = some 0
      unfold Format.nearest; rw [if_pos rfl]; rfl
    rw [ez, Option.getD_some, decide_eq_true h]; decide
  · have e := read_inf (fmt_ok .f32) h
    have e : single.read x = .infinity (sign single x) := e
    have ez : (Option.map single.write ((single.read x).sum (single.read x).opposite)) = none := by
      rw [e]
      cases sign single x <;> rfl
    rw [ez]
    have : ¬ (rung single x < single.infRung) := by omega
    rw [decide_eq_false this]; decide
  · have e := read_nan (fmt_ok .f32) h
    have e : (single.read x).isNaN = true := e
    have ez : (Option.map single.write ((single.read x).sum (single.read x).opposite)) = none := by
      cases h3 : single.read x <;> simp [h3, Datum.isNaN] at e
      rfl
    rw [ez]
    have : ¬ (rung single x < single.infRung) := by omega
    rw [decide_eq_false this]; decide
/-! ### what is greater than 0 has a root greater than 0 -/
theorem cut_ge (neg : Bool) (n d : Nat) (h : d ≤ n.log2 + 2) : n / 2 ^ d ≤ Toward.even.cut neg n d := by
  unfold Toward.cut
  simp only
  rw [Nat.min_eq_left h, Nat.shiftLeft_eq, Nat.one_mul]
  exact Nat.le_add_right _ _
end Go.Proofs.LV

namespace Go.Proofs.LV
open Go
set_option linter.unusedVariables false
set_option linter.unusedSimpArgs false

end Go.Proofs.LV

namespace Go.Proofs.LV
open Go
set_option linter.unusedVariables false
set_option linter.unusedSimpArgs false


end Go.Proofs.LV

namespace Go.Proofs.LV
open Go
set_option linter.unusedVariables false
set_option linter.unusedSimpArgs false

end Go.Proofs.LV

namespace Go.Proofs.LV
open Go Ieee
set_option linter.unusedVariables false
set_option linter.unusedSimpArgs false

theorem log2_mul_pow {n : Nat} (hn : n ≠ 0) (a : Nat) : (n * 2 ^ a).log2 = n.log2 + a := by
  have h1 : 2 ^ n.log2 ≤ n := Nat.log2_self_le hn
  have h2 : n < 2 ^ (n.log2 + 1) := Nat.lt_log2_self
  have h0 : n * 2 ^ a ≠ 0 := Nat.mul_ne_zero hn (by have := Nat.two_pow_pos a; omega)
  have u : n.log2 + a ≤ (n * 2 ^ a).log2 := (Nat.le_log2 h0).2 (by rw [Nat.pow_add]; exact Nat.mul_le_mul_right _ h1)
  have l : (n * 2 ^ a).log2 < n.log2 + a + 1 := (Nat.log2_lt h0).2 (by
    rw [show n.log2 + a + 1 = n.log2 + 1 + a by omega, Nat.pow_add]; exact Nat.mul_lt_mul_of_pos_right h2 (Nat.two_pow_pos a))
  omega
end Go.Proofs.LV

namespace Go.Proofs.LV
open Go Ieee
set_option linter.unusedVariables false
set_option linter.unusedSimpArgs false

end Go.Proofs.LV

namespace Go.Proofs.LV
open Go Ieee
set_option linter.unusedVariables false
set_option linter.unusedSimpArgs false

/-- what it stands for, in least steps -/
def val (x : Nat) : Int := sg (sign double x) (units double.binade (rung double x))
def fin64 (x : Nat) : Prop := rung double x < double.infRung
/-- finite, and not above 2^J least steps -/
def bd (J : Nat) (x : Nat) : Prop := fin64 x ∧ (val x).natAbs ≤ 2 ^ J

/-! ### the order -/
theorem cmp_lt {a b c d : Int} (h : compare a b = compare c d) : (a < b ↔ c < d) ∧ (a = b ↔ c = d) := by
  simp only [compare, compareOfLessAndEq] at h
  refine ⟨⟨fun h1 => ?_, fun h1 => ?_⟩, ⟨fun h1 => ?_, fun h1 => ?_⟩⟩
  · rw [if_pos h1] at h; split at h
    · assumption
    · split at h <;> cases h
  · rw [if_pos h1] at h; split at h
    · assumption
    · split at h <;> cases h
  · rw [if_neg (by omega), if_pos h1] at h; split at h
    · cases h
    · split at h
      · assumption
      · cases h
  · have h1' : ¬ c < d := by omega
    rw [if_neg h1', if_pos h1] at h; split at h
    · cases h
    · split at h
      · assumption
      · cases h
/-! ### a word that is written -/
/-! ### sums -/
/-! ### products, quotients -/
end Go.Proofs.LV
