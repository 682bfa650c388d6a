/- Texts that belong together. -/
import Derived.Test.YtjfgmnfkkehgfaaLvRatTX
import Derived.Test.YtjfgmnfkkehgfaaLvSqrtX
import Derived.Test.YtjfgmnfkkehgfaaLvFnF
import Derived.Test.YtjfgmnfkkehgfaaLvFnGX
import Derived.Test.YtjfgmnfkkehgfaaLvFnMX
import Derived.Test.YtjfgmnfkkehgfaaLvFnQQ
namespace Go.Proofs.LV
open Go Ieee
set_option linter.unusedVariables false

theorem rootFrom_spec (n : Nat) : ∀ todo root, root * root ≤ n → n < (root + 2 ^ todo) * (root + 2 ^ todo) →
    Datum.rootFrom n todo root * Datum.rootFrom n todo root ≤ n ∧ n < (Datum.rootFrom n todo root + 1) * (Datum.rootFrom n todo root + 1)
  | 0, root, h1, h2 => by simpa [Datum.rootFrom] using ⟨h1, h2⟩
  | todo + 1, root, h1, h2 => by
    unfold Datum.rootFrom
    simp only [Nat.shiftLeft_eq, Nat.one_mul]
    split
    · rename_i h
      refine rootFrom_spec n todo _ h ?_
      rw [Nat.add_assoc, ← Nat.two_mul, ← Nat.pow_succ']
      exact h2
    · rename_i h
      exact rootFrom_spec n todo root h1 (by omega)
theorem root_whole (n : Nat) : Datum.rootFrom n (n.log2 / 2 + 1) 0 * Datum.rootFrom n (n.log2 / 2 + 1) 0 ≤ n ∧ n < (Datum.rootFrom n (n.log2 / 2 + 1) 0 + 1) * (Datum.rootFrom n (n.log2 / 2 + 1) 0 + 1) := by
  refine rootFrom_spec n _ 0 (by omega) ?_
  rw [Nat.zero_add, ← Nat.pow_add]
  have h := @Nat.lt_log2_self n
  exact Nat.lt_of_lt_of_le h (Nat.pow_le_pow_right (by omega) (by omega))

/-- narrowing -/
theorem conv_down {x : Nat} (hx : df x) (h1 : -1000000000000 ≤ dv x) (h2 : dv x ≤ 1000000000000) : Rd single (fconv .f64 .f32 x) (dv x) := by
  obtain ⟨s, m, e, r1, r2, _⟩ := read_rv hx
  have e1 : fconv .f64 .f32 x = single.nearest s m e := by
    unfold fconv
    rw [if_neg (by decide)]
    show (match double.read x with | .nan _ _ => fnan .f32 | .infinity n => FloatKind.f32.encode (.infinity n) | .number n m e => FloatKind.f32.encode (.number n m e)) = _
    rw [r1]; rfl
  have hp := zp_two m e
  have hb : (m : Rat) * 2 ^ e ≤ 1000000000000 := by
    have : dv x = sgR s ((m : Rat) * 2 ^ e) := r2
    rw [this] at h1 h2
    cases s
    · exact h2
    · have h1 : -1000000000000 ≤ -((m : Rat) * 2 ^ e) := h1
      grind
  have := rd_near single s m e (top .f32) (Rat.le_trans hb (topS (Rat.le_refl))) (top_ok .f32).1 (top_ok .f32).2
  rw [e1]
  have r2 : dv x = sgR s ((m : Rat) * 2 ^ e) := r2
  rw [r2]
  exact this

/-- the root of a double -/
theorem sqrt_near {x : Nat} (hx : df x) (h1 : 0 < dv x) (h2 : dv x ≤ 1000000000000) :
    ∃ w q : Rat, 2 ^ 52 ≤ w ∧ 0 < q ∧ (w * q) * (w * q) ≤ dv x ∧ dv x ≤ ((w + 1) * q) * ((w + 1) * q) ∧ df (fsqrt x) ∧ Nr (dv (fsqrt x)) (w * q) ((w + 1) * q * e53 + eta + q) := by
  obtain ⟨s, m, i, r1, r2, _⟩ := read_rv hx
  have r2 : dv x = sgR s ((m : Rat) * 2 ^ i) := r2
  have hp := zp_two m i
  have hs : s = false := by
    cases s with
    | false => rfl
    | true =>
      have r2 : dv x = -((m : Rat) * 2 ^ i) := r2
      grind
  subst hs
  have r2 : dv x = (m : Rat) * 2 ^ i := r2
  have hm : m ≠ 0 := by
    intro h; subst h
    have : ((0 : Nat) : Rat) = 0 := rfl
    rw [this] at r2; grind
  generalize hmore : 2 * 54 - m.log2 + ((i - (2 * 54 - m.log2 : Nat)) % 2).toNat = more
  have ev : (i - (more : Int)) % 2 = 0 := by
    rw [← hmore]; omega
  have hlow : 108 ≤ m.log2 + more := by rw [← hmore]; omega
  have hn0 : m <<< more ≠ 0 := by
    rw [Nat.shiftLeft_eq]; exact Nat.mul_ne_zero hm (by have := Nat.two_pow_pos more; omega)
  have hlog : 108 ≤ (m <<< more).log2 := by
    rw [Nat.le_log2 hn0, Nat.shiftLeft_eq]
    have a : 2 ^ m.log2 ≤ m := Nat.log2_self_le hm
    calc 2 ^ 108 ≤ 2 ^ (m.log2 + more) := Nat.pow_le_pow_right (by omega) hlow
      _ = 2 ^ m.log2 * 2 ^ more := Nat.pow_add ..
      _ ≤ m * 2 ^ more := Nat.mul_le_mul_right _ a
  obtain ⟨w1, w2⟩ := root_whole (m <<< more)
  have e1 : fsqrt x = double.nearest false (2 * Datum.rootFrom (m <<< more) ((m <<< more).log2 / 2 + 1) 0 + (Datum.rootFrom (m <<< more) ((m <<< more).log2 / 2 + 1) 0 * Datum.rootFrom (m <<< more) ((m <<< more).log2 / 2 + 1) 0 != m <<< more).toNat) ((i - more) / 2 - 1) := by
    unfold fsqrt
    have : FloatKind.f64.format.sqrt x = ((double.read x).root 54).map double.write := rfl
    rw [this, r1]
    simp only [Datum.root]
    rw [if_neg hm]
    simp only [Bool.false_eq_true, if_false, Option.map_some, Option.getD_some]
    rw [← hmore]
    rfl
  have wlow : 2 ^ 52 ≤ Datum.rootFrom (m <<< more) ((m <<< more).log2 / 2 + 1) 0 := by
    generalize Datum.rootFrom (m <<< more) ((m <<< more).log2 / 2 + 1) 0 = w at *
    rcases Nat.lt_or_ge w (2 ^ 52) with h | h
    · exfalso
      have h3 : (w + 1) * (w + 1) ≤ 2 ^ 52 * 2 ^ 52 := Nat.mul_le_mul h h
      have h4 : 2 ^ 108 ≤ m <<< more := (Nat.le_log2 hn0).1 hlog
      have : (2 : Nat) ^ 52 * 2 ^ 52 < 2 ^ 108 := by decide
      omega
    · exact h
  generalize Datum.rootFrom (m <<< more) ((m <<< more).log2 / 2 + 1) 0 = w at *
  have q0 := zp_pos ((i - (more : Int)) / 2)
  have hsq : (2 : Rat) ^ ((i - (more : Int)) / 2) * 2 ^ ((i - (more : Int)) / 2) = 2 ^ (i - (more : Int)) := by rw [← zp_add]; congr 1; omega
  have hv : dv x = ((m <<< more : Nat) : Rat) * ((2 : Rat) ^ ((i - (more : Int)) / 2) * 2 ^ ((i - (more : Int)) / 2)) := by
    rw [hsq, r2, Nat.shiftLeft_eq, Rat.natCast_mul, Rat.mul_assoc, ← zp_nat, ← zp_add]
    congr 2; omega
  have hE : (2 : Rat) ^ ((i - (more : Int)) / 2 - 1) * 2 = 2 ^ ((i - (more : Int)) / 2) := by
    have := zp_one ((i - (more : Int)) / 2 - 1)
    rw [show (i - (more : Int)) / 2 - 1 + 1 = (i - (more : Int)) / 2 from by omega] at this
    rw [this]; grind
  generalize (2 : Rat) ^ ((i - (more : Int)) / 2) = q at *
  have n1 := nat_le_rat w1
  have n2 := nat_le_rat (Nat.le_of_lt w2)
  rw [Rat.natCast_mul] at n1 n2
  rw [nat_succ] at n2
  have wr : (2 : Rat) ^ 52 ≤ (w : Rat) := by have := nat_le_rat wlow; exact this
  have hw0 := nat_rat w
  have qq : 0 ≤ q * q := Rat.mul_nonneg (Rat.le_of_lt q0) (Rat.le_of_lt q0)
  have a1 := Rat.mul_le_mul_of_nonneg_right n1 qq
  have a2 := Rat.mul_le_mul_of_nonneg_right n2 qq
  generalize hst : ((w * w != m <<< more).toNat) = st at *
  have st1 : st ≤ 1 := by rw [← hst]; cases (w * w != m <<< more) <;> decide
  have st2 := nat_le_rat st1
  have st0 := nat_rat st
  have st3 : ((1 : Nat) : Rat) = 1 := rfl
  rw [st3] at st2
  have hD : (((2 * w + st : Nat) : Nat) : Rat) * 2 ^ ((i - (more : Int)) / 2 - 1) = (w : Rat) * q + (st : Rat) * (q / 2) := by
    rw [Rat.natCast_add, Rat.natCast_mul]
    have : ((2 : Nat) : Rat) = 2 := rfl
    rw [this, ← hE]; grind
  rw [← hv] at a1 a2
  clear hmore ev hlow hlog hn0 w1 w2 wlow hsq r1 r2 hp hm hst st1 hE n1 n2 hv
  have sq0 : 0 ≤ (st : Rat) * (q / 2) ∧ (st : Rat) * (q / 2) ≤ q / 2 := by
    have hq2 : 0 ≤ q / 2 := by grind
    exact ⟨Rat.mul_nonneg st0 hq2, by have := Rat.mul_le_mul_of_nonneg_right st2 hq2; grind⟩
  have wq : (0 : Rat) ≤ w * q := Rat.mul_nonneg hw0 (Rat.le_of_lt q0)
  have wq1 : (1 : Rat) * q ≤ w * q := Rat.mul_le_mul_of_nonneg_right (Rat.le_trans (by decide +kernel) wr) (Rat.le_of_lt q0)
  have small : (w : Rat) * q ≤ 2000000 := by
    rcases Rat.le_total (a := (w : Rat) * q) (b := 2000000) with h | h
    · exact h
    · have := mul_mono (show (0 : Rat) ≤ 2000000 by decide) (show (0 : Rat) ≤ 2000000 by decide) h h
      grind
  have hK : (((2 * w + st : Nat) : Nat) : Rat) * 2 ^ ((i - (more : Int)) / 2 - 1) ≤ 2 ^ (top .f64) := Rat.le_trans (by rw [hD]; grind) (topD (B := 10000000) (by decide))
  have rd := rd_near double false (2 * w + st) ((i - (more : Int)) / 2 - 1) (top .f64) hK (top_ok .f64).1 (top_ok .f64).2
  rw [← e1] at rd
  have rdq : sgR false ((((2 * w + st : Nat) : Nat) : Rat) * 2 ^ ((i - (more : Int)) / 2 - 1)) = (w : Rat) * q + (st : Rat) * (q / 2) := hD
  rw [rdq] at rd
  obtain ⟨f1, f2⟩ := rd_use (B := ((w : Rat) + 1) * q) rd (by grind) (by grind) p53 etaD
  refine ⟨w, q, wr, q0, by grind, by grind, f1, ?_⟩
  have f2 : Nr (dv (fsqrt x)) _ _ := f2
  obtain ⟨g1, g2⟩ := f2
  exact ⟨by grind, by grind⟩
/-- the library's root of a single: its square is near -/
theorem root_near {x : Nat} (hx : sf x) (h1 : 1 / 10000 ≤ sv x) (h2 : sv x ≤ 10000000) :
    sf (rootM x) ∧ 1 / 1000 ≤ sv (rootM x) ∧ sv (rootM x) ≤ 10000 ∧ sv x * (1 - 1 / 1000000) ≤ sv (rootM x) * sv (rootM x) ∧ sv (rootM x) * sv (rootM x) ≤ sv x * (1 + 1 / 1000000) := by
  obtain ⟨c1, c2⟩ := conv_up hx
  obtain ⟨w, q, k1, k2, k3, k4, k5, k6⟩ := sqrt_near c1 (by rw [c2]; grind) (by rw [c2]; grind)
  rw [c2] at k3 k4
  obtain ⟨k7, k8⟩ := k6
  have hw : (4000000000000000 : Rat) ≤ w := Rat.le_trans (by decide +kernel) k1
  clear k1
  have hq : q ≤ w * q * (1 / 4000000000000000) := by
    have := Rat.mul_le_mul_of_nonneg_right hw (Rat.le_of_lt k2)
    grind
  generalize hz : w * q = z at *
  have z0 : 0 ≤ z := by grind
  have hz1 : (w + 1) * q = z + q := by grind
  rw [hz1] at k4 k7 k8
  -- z is neither small nor great
  have zhi : z ≤ 4000 := by
    rcases Rat.le_total (a := z) (b := 4000) with h | h
    · exact h
    · have := mul_mono (show (0 : Rat) ≤ 4000 by decide) (show (0 : Rat) ≤ 4000 by decide) h h
      grind
  have zlo : 1 / 110 ≤ z := by
    rcases Rat.le_total (a := 1 / 110) (b := z) with h | h
    · exact h
    · have hh : z + q ≤ 1 / 105 := by grind
      have := mul_mono (show (0 : Rat) ≤ z + q by grind) (show (0 : Rat) ≤ z + q by grind) hh hh
      grind
  have e1 : (z + q) * e53 + eta + q ≤ z * (1 / 1000000000000000) := by
    have a : (e53 : Rat) ≤ 1 / 9000000000000000 := by decide +kernel
    have b : (eta : Rat) ≤ 1 / 110 * (1 / 1000000000000000000) := by decide +kernel
    have c := Rat.mul_le_mul_of_nonneg_left a (show 0 ≤ z + q by grind)
    grind
  generalize hy : fsqrt (fconv .f32 .f64 x) = y at *
  have y1 : z * (1 - 1 / 1000000000000000) ≤ dv y ∧ dv y ≤ z * (1 + 1 / 1000000000000000) := ⟨by grind, by grind⟩
  have rd := conv_down k5 (by grind) (by grind)
  have hr : rootM x = fconv .f64 .f32 y := by unfold rootM; rw [hy]
  rw [← hr] at rd
  obtain ⟨f1, f2⟩ := rd_use (B := z * (1 + 1 / 1000000000000000)) rd (by grind) y1.2 p24 etaS
  have f2 : Nr (sv (rootM x)) _ _ := f2
  obtain ⟨g1, g2⟩ := f2
  have e2 : z * (1 + 1 / 1000000000000000) * e24 + eta ≤ z * (1 / 16000000) := by
    have a : (1 + 1 / 1000000000000000) * e24 ≤ 1 / 16500000 := by decide +kernel
    have b : (eta : Rat) ≤ 1 / 110 * (1 / 1000000000000000000) := by decide +kernel
    have c := Rat.mul_le_mul_of_nonneg_left a z0
    grind
  generalize sv (rootM x) = r at *
  have r1 : z * (1 - 1 / 10000000) ≤ r ∧ r ≤ z * (1 + 1 / 10000000) := ⟨by grind, by grind⟩
  have p0 : 0 ≤ z * (1 - 1 / 10000000) := by grind
  have m1 := mul_mono p0 p0 r1.1 r1.1
  have m2 := mul_mono (show 0 ≤ r by grind) (show 0 ≤ r by grind) r1.2 r1.2
  have q0 : 0 ≤ q := Rat.le_of_lt k2
  have zq : z * q ≤ z * (z * (1 / 4000000000000000)) := Rat.mul_le_mul_of_nonneg_left hq z0
  have qq : q * q ≤ z * (1 / 4000000000000000) * (z * (1 / 4000000000000000)) := mul_mono q0 q0 hq hq
  have zz : 0 ≤ z * z := Rat.mul_nonneg z0 z0
  refine ⟨f1, by grind, by grind, ?_, ?_⟩
  · -- from below
    have : sv x ≤ z * z * (1 + 1 / 1000000000000000) := by grind
    grind
  · grind
end Go.Proofs.LV

namespace Go.Proofs.LV
open Go Ieee
set_option linter.unusedVariables false

def eC (n : Nat) : Rat := 65 * n
def eE (n : Nat) : Rat := 130 * n * e24 + (n + 1) * eta
def eN (n : Nat) : Rat := n * (eE n + ((eC n + eE n + 1) * n * e24 + eta))
end Go.Proofs.LV

namespace Go.Proofs.LV
open Go Ieee
set_option linter.unusedVariables false

theorem sq_le {z m : Rat} (hm : 0 ≤ m) (h : z * z ≤ m * m) : z ≤ m := by
  rcases Rat.le_total (a := z) (b := m) with h1 | h1
  · exact h1
  · rcases Decidable.em (z = m) with h2 | h2
    · rw [h2]; exact Rat.le_refl
    · exfalso
      have h3 : m < z := Rat.lt_of_le_of_ne h1 (fun h => h2 h.symm)
      have : 0 < (z - m) * (z + m) := Rat.mul_pos (by grind) (by grind)
      grind
theorem sq_abs {z m : Rat} (hm : 0 ≤ m) (h : z * z ≤ m * m) : -m ≤ z ∧ z ≤ m := ⟨by have := sq_le (z := -z) hm (by grind); grind, sq_le hm h⟩
theorem sq_nonneg (z : Rat) : 0 ≤ z * z := by
  rcases Rat.le_total (a := 0) (b := z) with h | h
  · exact Rat.mul_nonneg h h
  · have := Rat.mul_nonneg (show 0 ≤ -z by grind) (show 0 ≤ -z by grind); grind
theorem sumQ_mono {f : Nat → Rat} (hf : ∀ i, 0 ≤ f i) {k : Nat} : ∀ n, k ≤ n → sumQ k f ≤ sumQ n f
  | 0, h => by have : k = 0 := by omega
               subst this; exact Rat.le_refl
  | n + 1, h => by
    rcases Nat.lt_or_ge n k with h1 | h1
    · have : k = n + 1 := by omega
      subst this; exact Rat.le_refl
    · have := sumQ_mono hf n h1
      have := hf n
      show sumQ k f ≤ sumQ n f + f n
      grind
/-- a sum from the left: the error measured by what the sums never pass -/
theorem acc_rel {g : Nat → Nat} {t : Nat → Rat} {n : Nat} (hn : n ≤ 22) {T : Rat} (hT : 0 ≤ T) (hTB : T ≤ 100000) (h : ∀ i, i < n → sf (g i) ∧ Nr (sv (g i)) (t i) (2 * T * e24 + eta)) (hA : ∀ k, k ≤ n → -T ≤ sumQ k t ∧ sumQ k t ≤ T) :
    sf (accN (fun i s => fadd .f32 s (g i)) n 0) ∧ Nr (sv (accN (fun i s => fadd .f32 s (g i)) n 0)) (sumQ n t) (T * (1 / 100000) + 200 * eta) := by
  have etap : (0 : Rat) ≤ eta := by decide +kernel
  have e24p : (0 : Rat) ≤ e24 := by decide +kernel
  have key : ∀ k, k ≤ n → sf (accN (fun i s => fadd .f32 s (g i)) k 0) ∧ Nr (sv (accN (fun i s => fadd .f32 s (g i)) k 0)) (sumQ k t) (k * (4 * T * e24 + 4 * eta)) := by
    intro k
    induction k with
    | zero =>
      intro _
      refine ⟨zero_sf, ?_⟩
      have z : sv (accN (fun i s => fadd .f32 s (g i)) 0 0) = 0 := zero_rv _
      rw [z]
      show Nr 0 0 (((0 : Nat) : Rat) * _)
      have : ((0 : Nat) : Rat) = 0 := rfl
      rw [this]
      exact ⟨by grind, by grind⟩
    | succ k ih =>
      intro hk
      obtain ⟨h1, h2, h3⟩ := ih (by omega)
      obtain ⟨g1, g2, g3⟩ := h k (by omega)
      obtain ⟨a1, a2⟩ := hA (k + 1) hk
      have e : sumQ (k + 1) t = sumQ k t + t k := rfl
      rw [e] at a1 a2
      have k22 : (k : Rat) ≤ 22 := nat_le_rat (show k ≤ 22 by omega)
      have k0 := nat_rat k
      have small : (22 : Rat) * (4 * e24) ≤ 1 / 4 := by decide +kernel
      have K0 : 0 ≤ 4 * T * e24 + 4 * eta := by have := Rat.mul_nonneg hT e24p; grind
      have kK := Rat.mul_le_mul_of_nonneg_right k22 K0
      have sT := Rat.mul_le_mul_of_nonneg_left small hT
      have s2 : (2 : Rat) * e24 ≤ 1 / 4 := by decide +kernel
      have sT2 := Rat.mul_le_mul_of_nonneg_left s2 hT
      have teta : 0 ≤ T * e24 := Rat.mul_nonneg hT e24p
      have e24s : (e24 : Rat) ≤ 1 / 1000 := by decide +kernel
      have etae := Rat.mul_le_mul_of_nonneg_left e24s etap
      have eta0 := Rat.mul_nonneg etap e24p
      have eta1 : (eta : Rat) ≤ 1 := by decide +kernel
      obtain ⟨r1, r2, r3⟩ := s_add (B := 2 * T + 200 * eta) h1 g1 (by grind) (by grind) (by grind)
      refine ⟨r1, ?_⟩
      show Nr (sv (fadd .f32 _ (g k))) (sumQ k t + t k) _
      rw [nat_succ]
      exact ⟨by grind, by grind⟩
  obtain ⟨a, b, c⟩ := key n (Nat.le_refl n)
  have n22 : (n : Rat) ≤ 22 := nat_le_rat hn
  have n0 := nat_rat n
  have K0 : 0 ≤ 4 * T * e24 + 4 * eta := by have := Rat.mul_nonneg hT e24p; grind
  have nK := Rat.mul_le_mul_of_nonneg_right n22 K0
  have small : (22 : Rat) * (4 * e24) ≤ 1 / 100000 := by decide +kernel
  have sT := Rat.mul_le_mul_of_nonneg_left small hT
  exact ⟨a, by grind, by grind⟩

def r2 (x : Nat → Nat) (n : Nat) : Rat := sumQ n fun i => sv (x i) * sv (x i)
end Go.Proofs.LV

namespace Go.Proofs.LV
open Go Ieee
set_option linter.unusedVariables false
set_option linter.unusedSimpArgs false

/-! ### sorted lists -/
theorem pairwise_get {R : Nat → Nat → Prop} : ∀ {l : List Nat}, l.Pairwise R → ∀ {i j : Nat}, i < j → j < l.length → R (l.getD i 0) (l.getD j 0)
  | [], _, i, j, _, h => absurd h (by simp)
  | x :: l, hp, i, j, hij, h => by
    rw [List.pairwise_cons] at hp
    obtain ⟨k, rfl⟩ : ∃ k, j = k + 1 := ⟨j - 1, by omega⟩
    have hk : k < l.length := by simpa using h
    cases i with
    | zero =>
      have e : (x :: l).getD (k + 1) 0 = l.getD k 0 := by simp [List.getD]
      rw [e]
      exact hp.1 _ (getD_mem hk)
    | succ i =>
      have e1 : (x :: l).getD (k + 1) 0 = l.getD k 0 := by simp [List.getD]
      have e2 : (x :: l).getD (i + 1) 0 = l.getD i 0 := by simp [List.getD]
      rw [e1, e2]
      exact pairwise_get hp.2 (by omega) hk
theorem sv_le_of {x y : Nat} (h : srung .f32 x ≤ srung .f32 y) : sv x ≤ sv y := Rat.not_lt.1 fun hlt => by
  have := (srung_rv .f32 y x).1.2 hlt
  omega
section
variable {b : Nat} {xs : List Nat}
theorem sort_HL (h : HL b xs) : HL b (sortM KS xs) := fun i hi => h.mem (sort_mem (getD_mem hi))
theorem sort_mono {i j : Nat} (hij : i ≤ j) (hj : j < xs.length) : sv ((sortM KS xs).getD i 0) ≤ sv ((sortM KS xs).getD j 0) := by
  by_cases h : i = j
  · subst h; exact Rat.le_refl
  · exact sv_le_of (pairwise_get (sortM_sorted (K := KS) xs) (by omega) (by rw [sort_len]; exact hj))
theorem sort_has {i : Nat} (hi : i < xs.length) : ∃ j, j < xs.length ∧ (sortM KS xs).getD j 0 = xs.getD i 0 := by
  have h1 : xs.getD i 0 ∈ sortM KS xs := (same_mem (sortM_same xs)).2 (getD_mem hi)
  obtain ⟨j, hj, e⟩ := mem_getD h1
  rw [sort_len] at hj
  exact ⟨j, hj, e⟩
theorem sort_ends {i : Nat} (hi : i < xs.length) : sv ((sortM KS xs).getD 0 0) ≤ sv (xs.getD i 0) ∧ sv (xs.getD i 0) ≤ sv ((sortM KS xs).getD (xs.length - 1) 0) := by
  obtain ⟨j, hj, e⟩ := sort_has hi
  rw [← e]
  exact ⟨sort_mono (by omega) hj, sort_mono (by omega) (by omega)⟩
end
/-! ### quantiles -/
def shW (a : Nat) : Nat := fdiv .f32 (fofi .f32 (a : Int)) 1098907648
theorem q_tab : ∀ n, n < 21 → ∀ a, a < 17 → (qK (n + 1) (shW a) == a * n / 16 && (fsub .f32 (qP (n + 1) (shW a)) (fofi .f32 (qK (n + 1) (shW a) : Int)) == shW (a * n % 16) && isShareM (shW a))) = true := by decide +kernel
theorem sh_words : shW 0 = 0 ∧ shW 16 = 1065353216 ∧ shW 8 = 1056964608 := by decide +kernel
theorem sixteen_sf : sf 1098907648 ∧ sv 1098907648 = 16 := by
  have hf : fnt single 1098907648 := by unfold fnt; decide
  exact ⟨hf, lit_neg (n := 19) (m := 8388608) hf (by decide) (by decide +kernel)⟩
theorem zp4 : (2 : Rat) ^ (-4 : Int) = 1 / 16 := zp_neg 4 _ (by decide +kernel)
theorem sh_val {m : Nat} (h : m ≤ 16) : sf (shW m) ∧ sv (shW m) = (m : Rat) / 16 ∧ Gr (-4) 16 (sv (shW m)) := by
  obtain ⟨f1, f2⟩ := fofi_rv .f32 (n := (m : Int)) (nat_small (by omega))
  have f2 : sv (fofi .f32 (m : Int)) = (m : Rat) := f2
  obtain ⟨s1, s2⟩ := sixteen_sf
  have hg : Gr (-4) 16 ((m : Rat) / 16) := ⟨(m : Int), by rw [zp4]; show _ = ((m : Nat) : Rat) * _; grind, by omega⟩
  have := div_gr .f32 (q := (m : Rat) / 16) (j := -4) (b := 16) f1 s1 (by show sv 1098907648 ≠ 0; rw [s2]; decide) (by show _ * sv 1098907648 = sv _; rw [s2, f2]; grind) hg (by decide) (by decide) (by decide)
  have e : sv (shW m) = (m : Rat) / 16 := this.2
  exact ⟨this.1, e, by rw [e]; exact hg⟩
/-- what lies between two neighbours -/
theorem between {b x y m : Nat} (hb : b ≤ 200) (hx : Hg b x) (hy : Hg b y) (hm : m ≤ 16) : sf (fadd .f32 x (fmul .f32 (shW m) (fsub .f32 y x))) ∧ sv (fadd .f32 x (fmul .f32 (shW m) (fsub .f32 y x))) = sv x + (m : Rat) / 16 * (sv y - sv x) := by
  obtain ⟨d1, d2⟩ := hy.sub hx (by omega)
  obtain ⟨s1, s2, s3⟩ := sh_val hm
  obtain ⟨p1, p2⟩ := mul_gr .f32 (i := -4) (j := -1) (a := 16) (b := b + b) s1 d1.1 s3 d1.2 (by show _ < 2 ^ 24; omega) (by decide) (by decide)
  have p2 : sv (fmul .f32 (shW m) (fsub .f32 y x)) = sv (shW m) * sv (fsub .f32 y x) := p2
  have g1 : Gr (-5) (16 * (b + b)) (sv (fmul .f32 (shW m) (fsub .f32 y x))) := by rw [p2]; exact s3.mul d1.2
  have g2 : Gr (-5) (b * 2 ^ 4) (sv x) := hx.2.fine 4
  obtain ⟨q1, q2⟩ := add_gr .f32 hx.1 p1 g2 g1 (by show _ < 2 ^ 24; omega) (by decide) (by decide)
  have q2 : sv (fadd .f32 x (fmul .f32 (shW m) (fsub .f32 y x))) = sv x + sv (fmul .f32 (shW m) (fsub .f32 y x)) := q2
  exact ⟨q1, by rw [q2, p2, s2, d2]⟩
section
variable {b : Nat} {xs : List Nat}
theorem q_cases (h : HL b xs) (hb : b ≤ 200) (hl : 1 ≤ xs.length ∧ xs.length ≤ 21) {a : Nat} (ha : a ≤ 16) : sf (qV xs (shW a)) ∧ isShareM (shW a) = true ∧
    ((a * (xs.length - 1) / 16 + 1 < xs.length ∧ sv (qV xs (shW a)) = sv ((sortM KS xs).getD (a * (xs.length - 1) / 16) 0) + ((a * (xs.length - 1) % 16 : Nat) : Rat) / 16 * (sv ((sortM KS xs).getD (a * (xs.length - 1) / 16 + 1) 0) - sv ((sortM KS xs).getD (a * (xs.length - 1) / 16) 0))) ∨
      (¬ a * (xs.length - 1) / 16 + 1 < xs.length ∧ sv (qV xs (shW a)) = sv ((sortM KS xs).getD (xs.length - 1) 0))) := by
  have ht := q_tab (xs.length - 1) (by omega) a (by omega)
  simp only [Bool.and_eq_true, beq_iff_eq] at ht
  rw [show xs.length - 1 + 1 = xs.length by omega] at ht
  obtain ⟨t1, t2, t3⟩ := ht
  have hs := sort_HL h
  have sl := sort_len xs
  unfold qV
  rw [t1] at t2 ⊢
  rw [t2]
  generalize hk : a * (xs.length - 1) / 16 = k at *
  have hm : a * (xs.length - 1) % 16 < 16 := Nat.mod_lt _ (by omega)
  generalize a * (xs.length - 1) % 16 = m at *
  by_cases hlt : k + 1 < xs.length
  · rw [if_pos hlt]
    obtain ⟨b1, b2⟩ := between hb (hs k (by omega)) (hs (k + 1) (by omega)) (m := m) (by omega)
    exact ⟨b1, t3, .inl ⟨hlt, b2⟩⟩
  · rw [if_neg hlt]
    exact ⟨(hs _ (by omega)).1, t3, .inr ⟨hlt, rfl⟩⟩
theorem lerp {x y t : Rat} (h : x ≤ y) (h0 : 0 ≤ t) (h1 : t ≤ 1) : x ≤ x + t * (y - x) ∧ x + t * (y - x) ≤ y := by
  have p1 : 0 ≤ t * (y - x) := Rat.mul_nonneg h0 (by grind)
  have p2 : 0 ≤ (1 - t) * (y - x) := Rat.mul_nonneg (by grind) (by grind)
  constructor <;> grind
theorem nat_div16 {m : Nat} (h : m ≤ 16) : (0 : Rat) ≤ (m : Rat) / 16 ∧ (m : Rat) / 16 ≤ 1 := by
  have h0 := nat_rat m
  have h1 : (m : Rat) ≤ 16 := nat_le_rat h
  constructor <;> grind
/-- quantiles lie within; the first, the last, and the one in the middle -/
theorem q_facts (h : HL b xs) (hb : b ≤ 200) (hl : 1 ≤ xs.length ∧ xs.length ≤ 21) :
    (∀ a, a ≤ 16 → sf (qV xs (shW a)) ∧ isShareM (shW a) = true ∧ sv ((sortM KS xs).getD 0 0) ≤ sv (qV xs (shW a)) ∧ sv (qV xs (shW a)) ≤ sv ((sortM KS xs).getD (xs.length - 1) 0)) ∧
    sv (qV xs (shW 0)) = sv ((sortM KS xs).getD 0 0) ∧ sv (qV xs (shW 16)) = sv ((sortM KS xs).getD (xs.length - 1) 0) ∧ sf (medM xs) ∧ sv (qV xs (shW 8)) = sv (medM xs) := by
  have hs := sort_HL h
  have sl := sort_len xs
  refine ⟨fun a ha => ?_, ?_, ?_, ?_⟩
  · obtain ⟨c1, c2, c3⟩ := q_cases h hb hl ha
    refine ⟨c1, c2, ?_⟩
    have hm : a * (xs.length - 1) % 16 < 16 := Nat.mod_lt _ (by omega)
    obtain ⟨m0, m1⟩ := nat_div16 (m := a * (xs.length - 1) % 16) (by omega)
    rcases c3 with ⟨k1, k2⟩ | ⟨k1, k2⟩
    · rw [k2]
      obtain ⟨l1, l2⟩ := lerp (sort_mono (xs := xs) (i := a * (xs.length - 1) / 16) (j := a * (xs.length - 1) / 16 + 1) (by omega) k1) m0 m1
      have g1 := sort_mono (xs := xs) (i := 0) (j := a * (xs.length - 1) / 16) (by omega) (by omega)
      have g2 := sort_mono (xs := xs) (i := a * (xs.length - 1) / 16 + 1) (j := xs.length - 1) (by omega) (by omega)
      exact ⟨Rat.le_trans g1 l1, Rat.le_trans l2 g2⟩
    · rw [k2]
      exact ⟨sort_mono (by omega) (by omega), Rat.le_refl⟩
  · obtain ⟨c1, c2, c3⟩ := q_cases h hb hl (a := 0) (by omega)
    rw [show 0 * (xs.length - 1) / 16 = 0 by simp, show 0 * (xs.length - 1) % 16 = 0 by simp] at c3
    rcases c3 with ⟨k1, k2⟩ | ⟨k1, k2⟩
    · rw [k2]
      have : ((0 : Nat) : Rat) = 0 := rfl
      rw [this]; grind
    · rw [k2, show xs.length - 1 = 0 by omega]
  · obtain ⟨c1, c2, c3⟩ := q_cases h hb hl (a := 16) (by omega)
    rw [show 16 * (xs.length - 1) / 16 = xs.length - 1 by omega] at c3
    rcases c3 with ⟨k1, k2⟩ | ⟨k1, k2⟩
    · omega
    · exact k2
  · obtain ⟨c1, c2, c3⟩ := q_cases h hb hl (a := 8) (by omega)
    rcases Nat.mod_two_eq_zero_or_one xs.length with hp | hp
    · have hmed : medM xs = fmul .f32 1056964608 (fadd .f32 ((sortM KS xs).getD (xs.length / 2 - 1) 0) ((sortM KS xs).getD (xs.length / 2) 0)) := by unfold medM; rw [if_neg (by omega)]
      obtain ⟨a1, a2⟩ := (hs (xs.length / 2 - 1) (by omega)).add (hs (xs.length / 2) (by omega)) (by omega)
      obtain ⟨h1, h2⟩ := half_sf
      have hg : Gr (-1) 1 (rv single 1056964608) := ⟨1, by rw [show rv single 1056964608 = 1 / 2 from h2, half_zp]; decide +kernel, by decide⟩
      obtain ⟨p1, p2⟩ := mul_gr .f32 (i := -1) (j := -1) (a := 1) (b := b + b) h1 a1.1 hg a1.2 (by show _ < 2 ^ 24; omega) (by decide) (by decide)
      rw [hmed]
      refine ⟨p1, ?_⟩
      have p2 : sv (fmul .f32 1056964608 (fadd .f32 ((sortM KS xs).getD (xs.length / 2 - 1) 0) ((sortM KS xs).getD (xs.length / 2) 0))) = sv 1056964608 * sv (fadd .f32 ((sortM KS xs).getD (xs.length / 2 - 1) 0) ((sortM KS xs).getD (xs.length / 2) 0)) := p2
      rw [p2, h2, a2]
      have e1 : 8 * (xs.length - 1) / 16 = xs.length / 2 - 1 := by omega
      have e2 : 8 * (xs.length - 1) % 16 = 8 := by omega
      rw [e1, e2, show xs.length / 2 - 1 + 1 = xs.length / 2 by omega] at c3
      have e3 : ((8 : Nat) : Rat) = 8 := rfl
      rcases c3 with ⟨k1, k2⟩ | ⟨k1, k2⟩
      · rw [k2, e3]; grind
      · omega
    · have hmed : medM xs = (sortM KS xs).getD (xs.length / 2) 0 := by unfold medM; rw [if_pos hp]
      rw [hmed]
      refine ⟨(hs _ (by omega)).1, ?_⟩
      have e1 : 8 * (xs.length - 1) / 16 = xs.length / 2 := by omega
      have e2 : 8 * (xs.length - 1) % 16 = 0 := by omega
      rw [e1, e2] at c3
      have e3 : ((0 : Nat) : Rat) = 0 := rfl
      rcases c3 with ⟨k1, k2⟩ | ⟨k1, k2⟩
      · rw [k2, e3]; grind
      · rw [k2, show xs.length - 1 = xs.length / 2 by omega]
end
end Go.Proofs.LV
