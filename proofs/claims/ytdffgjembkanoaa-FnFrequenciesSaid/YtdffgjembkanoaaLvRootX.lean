/- Texts that belong together. -/
import Derived.Test.YtdffgjembkanoaaLvFnWX
import Derived.Test.YtdffgjembkanoaaLvFnDX
import Derived.Test.YtdffgjembkanoaaLvFreq2
import Derived.Test.YtdffgjembkanoaaLvFnCC
import Derived.Test.YtdffgjembkanoaaLvFnUU
namespace Go.Proofs.LV
open Go Ieee
set_option linter.unusedVariables false

/-- narrowing -/
theorem conv_down {x : Nat} (hx : df x) (h1 : -1000000000000 ≤ dv x) (h2 : dv x ≤ 1000000000000) : Rd single (fconv .f64 .f32 x) (dv x) := by
  obtain ⟨s, m, e, r1, r2, _⟩ := read_rv hx
  have e1 : fconv .f64 .f32 x = single.nearest s m e := by
    unfold fconv
    rw [if_neg (by decide)]
    show (match double.read x with | .nan _ _ => fnan .f32 | .infinity n => FloatKind.f32.encode (.infinity n) | .number n m e => FloatKind.f32.encode (.number n m e)) = _
    rw [r1]; rfl
  have hp := zp_two m e
  have hb : (m : Rat) * 2 ^ e ≤ 1000000000000 := by
    have : dv x = sgR s ((m : Rat) * 2 ^ e) := r2
    rw [this] at h1 h2
    cases s
    · exact h2
    · have h1 : -1000000000000 ≤ -((m : Rat) * 2 ^ e) := h1
      grind
  have := rd_near single s m e (top .f32) (Rat.le_trans hb (topS (Rat.le_refl))) (top_ok .f32).1 (top_ok .f32).2
  rw [e1]
  have r2 : dv x = sgR s ((m : Rat) * 2 ^ e) := r2
  rw [r2]
  exact this

end Go.Proofs.LV

namespace Go.Proofs.LV
open Go Ieee
set_option linter.unusedVariables false

def eC (n : Nat) : Rat := 65 * n
def eE (n : Nat) : Rat := 130 * n * e24 + (n + 1) * eta
def eN (n : Nat) : Rat := n * (eE n + ((eC n + eE n + 1) * n * e24 + eta))
end Go.Proofs.LV

namespace Go.Proofs.LV
open Go
set_option linter.unusedVariables false
set_option linter.unusedSimpArgs false

/-! ### likenesses of two series -/
end Go.Proofs.LV

namespace Go.Proofs.LV
open Go Ieee
set_option linter.unusedVariables false

theorem sq_le {z m : Rat} (hm : 0 ≤ m) (h : z * z ≤ m * m) : z ≤ m := by
  rcases Rat.le_total (a := z) (b := m) with h1 | h1
  · exact h1
  · rcases Decidable.em (z = m) with h2 | h2
    · rw [h2]; exact Rat.le_refl
    · exfalso
      have h3 : m < z := Rat.lt_of_le_of_ne h1 (fun h => h2 h.symm)
      have : 0 < (z - m) * (z + m) := Rat.mul_pos (by grind) (by grind)
      grind
theorem sq_nonneg (z : Rat) : 0 ≤ z * z := by
  rcases Rat.le_total (a := 0) (b := z) with h | h
  · exact Rat.mul_nonneg h h
  · have := Rat.mul_nonneg (show 0 ≤ -z by grind) (show 0 ≤ -z by grind); grind
/-- Cauchy and Schwarz -/
theorem sumQ_cs (x y : Nat → Rat) : ∀ k, sumQ k (fun i => x i * y i) * sumQ k (fun i => x i * y i) ≤ sumQ k (fun i => x i * x i) * sumQ k (fun i => y i * y i)
  | 0 => by show (0 : Rat) * 0 ≤ 0 * 0; exact Rat.le_refl
  | k + 1 => by
    have ih := sumQ_cs x y k
    have hX := sumQ_nonneg (f := fun i => x i * x i) k (fun i _ => sq_nonneg _)
    have hY := sumQ_nonneg (f := fun i => y i * y i) k (fun i _ => sq_nonneg _)
    show (sumQ k (fun i => x i * y i) + x k * y k) * (sumQ k (fun i => x i * y i) + x k * y k) ≤ (sumQ k (fun i => x i * x i) + x k * x k) * (sumQ k (fun i => y i * y i) + y k * y k)
    generalize sumQ k (fun i => x i * y i) = A at *
    generalize sumQ k (fun i => x i * x i) = X at *
    generalize sumQ k (fun i => y i * y i) = Y at *
    generalize x k = a at *
    generalize y k = b at *
    have pa := sq_nonneg a
    have pb := sq_nonneg b
    have hP := Rat.mul_nonneg hX pb
    have hQ := Rat.mul_nonneg hY pa
    have h1 := Rat.mul_le_mul_of_nonneg_right ih (Rat.mul_nonneg pa pb)
    have h2 := sq_nonneg (X * (b * b) - Y * (a * a))
    have h3 : A * a * b ≤ (X * (b * b) + Y * (a * a)) / 2 := sq_le (by grind) (by grind)
    grind
theorem sumQ_mono {f : Nat → Rat} (hf : ∀ i, 0 ≤ f i) {k : Nat} : ∀ n, k ≤ n → sumQ k f ≤ sumQ n f
  | 0, h => by have : k = 0 := by omega
               subst this; exact Rat.le_refl
  | n + 1, h => by
    rcases Nat.lt_or_ge n k with h1 | h1
    · have : k = n + 1 := by omega
      subst this; exact Rat.le_refl
    · have := sumQ_mono hf n h1
      have := hf n
      show sumQ k f ≤ sumQ n f + f n
      grind
def r2 (x : Nat → Nat) (n : Nat) : Rat := sumQ n fun i => sv (x i) * sv (x i)
end Go.Proofs.LV

namespace Go.Proofs.LV
open Go Ieee
set_option linter.unusedVariables false
set_option linter.unusedSimpArgs false

/-- a sum from the left: the error measured by what the sums never pass -/
theorem acc_rel20 {g : Nat → Nat} {t : Nat → Rat} {n : Nat} (hn : n ≤ 20) {T : Rat} (hT : 0 ≤ T) (hTB : T ≤ 100000) (h : ∀ i, i < n → sf (g i) ∧ Nr (sv (g i)) (t i) (2 * T * e24 + eta)) (hA : ∀ k, k ≤ n → -T ≤ sumQ k t ∧ sumQ k t ≤ T) :
    sf (accN (fun i s => fadd .f32 s (g i)) n 0) ∧ Nr (sv (accN (fun i s => fadd .f32 s (g i)) n 0)) (sumQ n t) (T * (5 / 1000000) + 200 * eta) := by
  have etap : (0 : Rat) ≤ eta := by decide +kernel
  have e24p : (0 : Rat) ≤ e24 := by decide +kernel
  have key : ∀ k, k ≤ n → sf (accN (fun i s => fadd .f32 s (g i)) k 0) ∧ Nr (sv (accN (fun i s => fadd .f32 s (g i)) k 0)) (sumQ k t) (k * (4 * T * e24 + 4 * eta)) := by
    intro k
    induction k with
    | zero =>
      intro _
      refine ⟨zero_sf, ?_⟩
      have z : sv (accN (fun i s => fadd .f32 s (g i)) 0 0) = 0 := zero_rv _
      rw [z]
      show Nr 0 0 (((0 : Nat) : Rat) * _)
      have : ((0 : Nat) : Rat) = 0 := rfl
      rw [this]
      exact ⟨by grind, by grind⟩
    | succ k ih =>
      intro hk
      obtain ⟨h1, h2, h3⟩ := ih (by omega)
      obtain ⟨g1, g2, g3⟩ := h k (by omega)
      obtain ⟨a1, a2⟩ := hA (k + 1) hk
      have e : sumQ (k + 1) t = sumQ k t + t k := rfl
      rw [e] at a1 a2
      have k22 : (k : Rat) ≤ 20 := nat_le_rat (show k ≤ 20 by omega)
      have k0 := nat_rat k
      have small : (20 : Rat) * (4 * e24) ≤ 1 / 4 := by decide +kernel
      have K0 : 0 ≤ 4 * T * e24 + 4 * eta := by have := Rat.mul_nonneg hT e24p; grind
      have kK := Rat.mul_le_mul_of_nonneg_right k22 K0
      have sT := Rat.mul_le_mul_of_nonneg_left small hT
      have s2 : (2 : Rat) * e24 ≤ 1 / 4 := by decide +kernel
      have sT2 := Rat.mul_le_mul_of_nonneg_left s2 hT
      have teta : 0 ≤ T * e24 := Rat.mul_nonneg hT e24p
      have e24s : (e24 : Rat) ≤ 1 / 1000 := by decide +kernel
      have etae := Rat.mul_le_mul_of_nonneg_left e24s etap
      have eta0 := Rat.mul_nonneg etap e24p
      have eta1 : (eta : Rat) ≤ 1 := by decide +kernel
      obtain ⟨r1, r2, r3⟩ := s_add (B := 2 * T + 200 * eta) h1 g1 (by grind) (by grind) (by grind)
      refine ⟨r1, ?_⟩
      show Nr (sv (fadd .f32 _ (g k))) (sumQ k t + t k) _
      rw [nat_succ]
      exact ⟨by grind, by grind⟩
  obtain ⟨a, b, c⟩ := key n (Nat.le_refl n)
  have n22 : (n : Rat) ≤ 20 := nat_le_rat hn
  have n0 := nat_rat n
  have K0 : 0 ≤ 4 * T * e24 + 4 * eta := by have := Rat.mul_nonneg hT e24p; grind
  have nK := Rat.mul_le_mul_of_nonneg_right n22 K0
  have small : (20 : Rat) * (4 * e24) ≤ 5 / 1000000 := by decide +kernel
  have sT := Rat.mul_le_mul_of_nonneg_left small hT
  exact ⟨a, by grind, by grind⟩

/-! ### sums of sums -/
theorem sumQ_swap (F : Nat → Nat → Rat) : ∀ m n, (sumQ m fun k => sumQ n fun j => F k j) = sumQ n fun j => sumQ m fun k => F k j
  | 0, n => by
    show 0 = sumQ n fun _ => 0
    rw [sumQ_const]; grind
  | m + 1, n => by
    show (sumQ m fun k => sumQ n fun j => F k j) + sumQ n (fun j => F m j) = sumQ n fun j => (sumQ m fun k => F k j) + F m j
    rw [sumQ_add, sumQ_swap F m n]
theorem sumQ_delta (f : Nat → Rat) (i : Nat) (c : Rat) : ∀ n, (sumQ n fun j => (if i = j then c else 0) * f j) = if i < n then c * f i else 0
  | 0 => rfl
  | n + 1 => by
    show (sumQ n fun j => (if i = j then c else 0) * f j) + (if i = n then c else 0) * f n = _
    rw [sumQ_delta f i c n]
    by_cases h : i = n
    · subst h; rw [if_neg (by omega), if_pos rfl, if_pos (by omega)]; grind
    · rw [if_neg h]
      by_cases h2 : i < n
      · rw [if_pos h2, if_pos (by omega)]; grind
      · rw [if_neg h2, if_neg (by omega)]; grind
theorem sumQ_mono' {f g : Nat → Rat} : ∀ n, (∀ i, i < n → f i ≤ g i) → sumQ n f ≤ sumQ n g
  | 0, _ => Rat.le_refl
  | n + 1, h => by
    have := sumQ_mono' n fun i hi => h i (by omega)
    have := h n (by omega)
    show sumQ n f + f n ≤ sumQ n g + g n
    grind
/-- a sum of products where one side is measured by sizes -/
theorem sumQ_size {f x : Nat → Rat} {c : Rat} (n : Nat) (h : ∀ i, i < n → -c ≤ f i ∧ f i ≤ c) : -(c * sumQ n fun i => rabs (x i)) ≤ (sumQ n fun i => f i * x i) ∧ (sumQ n fun i => f i * x i) ≤ c * sumQ n fun i => rabs (x i) := by
  have key : ∀ i, i < n → -(c * rabs (x i)) ≤ f i * x i ∧ f i * x i ≤ c * rabs (x i) := fun i hi => by
    obtain ⟨h1, h2⟩ := h i hi
    have hx := rabs_nonneg (x i)
    have a1 := Rat.mul_le_mul_of_nonneg_right h1 hx
    have a2 := Rat.mul_le_mul_of_nonneg_right h2 hx
    by_cases h0 : 0 ≤ x i
    · have e : rabs (x i) = x i := if_pos h0
      rw [e] at a1 a2 ⊢
      exact ⟨by grind, by grind⟩
    · have e : rabs (x i) = - x i := if_neg h0
      rw [e] at a1 a2 ⊢
      exact ⟨by grind, by grind⟩
  have e : c * sumQ n (fun i => rabs (x i)) = sumQ n fun i => c * rabs (x i) := (sumQ_mul c _ n).symm
  have e2 : -(c * sumQ n (fun i => rabs (x i))) = sumQ n fun i => -(c * rabs (x i)) := by
    have e3 := sumQ_mul (-1) (fun i => c * rabs (x i)) n
    rw [e, ← Rat.one_mul (sumQ n fun i => c * rabs (x i)), ← Rat.neg_mul, ← e3]
    exact sumQ_congr n fun i _ => by grind
  rw [e2, e]
  exact ⟨sumQ_mono' n fun i hi => (key i hi).1, sumQ_mono' n fun i hi => (key i hi).2⟩
/-! ### the lines of a series -/
def al (a : List Nat) (i : Nat) : Rat := sv (a.getD i 0)
def tT (a : List Nat) (n : Nat) : Rat := sumQ n fun i => rabs (al a i)
def rR (a : List Nat) (n : Nat) : Rat := sumQ n fun i => al a i * al a i
structure SA (a : List Nat) (n : Nat) : Prop where
  hn : 1 ≤ n ∧ n ≤ 20
  ln : a.length = n
  bd : ∀ i, i < n → sf (a.getD i 0) ∧ -4 ≤ al a i ∧ al a i ≤ 4
def lA (a : List Nat) (n k : Nat) : Rat := sumQ n fun j => sv (pc n k j) * al a j
def lB (a : List Nat) (n k : Nat) : Rat := sumQ n fun j => (- sv (ps n k j)) * al a j
theorem tT_bd {a : List Nat} {n : Nat} (s : SA a n) : 0 ≤ tT a n ∧ tT a n ≤ 80 := by
  have h1 := sumQ_nonneg (f := fun i => rabs (al a i)) n fun i _ => rabs_nonneg _
  have h2 := sumQ_le (f := fun i => rabs (al a i)) (C := 4) n fun i hi => by
    obtain ⟨_, b1, b2⟩ := s.bd i hi
    have := rabs_nonneg (al a i)
    exact ⟨by grind, rabs_le b1 b2⟩
  have h3 : (n : Rat) ≤ 20 := nat_le_rat s.hn.2
  exact ⟨h1, by unfold tT; grind⟩
theorem tT_sq {a : List Nat} {n : Nat} : tT a n * tT a n ≤ n * rR a n := by
  have h := sumQ_cs (fun i => rabs (al a i)) (fun _ => 1) n
  have e1 : (sumQ n fun i => rabs (al a i) * 1) = tT a n := sumQ_congr n fun i _ => by grind
  have e2 : (sumQ n fun i => rabs (al a i) * rabs (al a i)) = rR a n := sumQ_congr n fun i _ => by unfold rabs; split <;> grind
  have e3 : (sumQ n fun _ => (1 : Rat) * 1) = n := by rw [sumQ_const]; grind
  rw [e1, e2, e3] at h
  grind
theorem ln_split (a : List Nat) (n k : Nat) (hl : a.length = n) : ∀ m, lnM a k m = (accN (fun i s => fadd .f32 s (fmul .f32 (qc n k i) (a.getD i 0))) m 0, accN (fun i s => fadd .f32 s (fmul .f32 (qs n k i) (a.getD i 0))) m 0)
  | 0 => rfl
  | m + 1 => by
    have e : lnM a k (m + 1) = (fadd .f32 (lnM a k m).1 (fmul .f32 (phM (lnQ a.length k m)).1 (a.getD m 0)), fadd .f32 (lnM a k m).2 (fmul .f32 (phM (lnQ a.length k m)).2 (a.getD m 0))) := rfl
    have e2 : lnQ a.length (k : Int) m = fneg .f64 (xw n (k * m)) := by
      unfold lnQ xw
      rw [hl, Int.natCast_mul]
    rw [e, ln_split a n k hl m, e2]; rfl
theorem part_bd {a : List Nat} {n : Nat} {f : Nat → Rat} (hf : ∀ i, i < n → -(10001 / 10000) ≤ f i ∧ f i ≤ 10001 / 10000) : ∀ m, m ≤ n → -(10001 / 10000 * tT a n) ≤ (sumQ m fun j => f j * al a j) ∧ (sumQ m fun j => f j * al a j) ≤ 10001 / 10000 * tT a n := by
  intro m hm
  obtain ⟨h1, h2⟩ := sumQ_size (x := al a) m fun i hi => hf i (by omega)
  have h3 := sumQ_mono (f := fun i => rabs (al a i)) (fun i => rabs_nonneg _) n hm
  have h4 : sumQ m (fun i => rabs (al a i)) ≤ tT a n := h3
  exact ⟨by grind, by grind⟩
def lE (a : List Nat) (n : Nat) : Rat := 10001 / 10000 * tT a n * (5 / 1000000) + 200 * eta
theorem acc_line {a : List Nat} {n : Nat} (s : SA a n) {w : Nat → Nat} {f : Nat → Rat} (hw : ∀ i, i < n → sf (w i) ∧ sv (w i) = f i) (hf : ∀ i, i < n → -(10001 / 10000) ≤ f i ∧ f i ≤ 10001 / 10000) :
    sf (accN (fun i z => fadd .f32 z (fmul .f32 (w i) (a.getD i 0))) n 0) ∧ Nr (sv (accN (fun i z => fadd .f32 z (fmul .f32 (w i) (a.getD i 0))) n 0)) (sumQ n fun j => f j * al a j) (lE a n) := by
  obtain ⟨t0, t1⟩ := tT_bd s
  have e24p : (0 : Rat) ≤ e24 := by decide +kernel
  refine acc_rel20 (g := fun i => fmul .f32 (w i) (a.getD i 0)) (t := fun j => f j * al a j) (T := 10001 / 10000 * tT a n) s.hn.2 (by grind) (by grind) (fun i hi => ?_) (part_bd hf)
  obtain ⟨w1, w2⟩ := hw i hi
  obtain ⟨a1, a2, a3⟩ := s.bd i hi
  obtain ⟨f1, f2⟩ := hf i hi
  have hx := rabs_nonneg (al a i)
  have hle : rabs (al a i) ≤ tT a n := by
    have h3 := sumQ_mono (f := fun i => rabs (al a i)) (fun i => rabs_nonneg _) n (show i + 1 ≤ n by omega)
    have h4 := sumQ_nonneg (f := fun i => rabs (al a i)) i fun i _ => rabs_nonneg _
    have h5 : sumQ i (fun i => rabs (al a i)) + rabs (al a i) ≤ tT a n := h3
    grind
  obtain ⟨l1, l2⟩ := sumQ_size (f := fun _ => f i) (x := fun _ => al a i) (c := 10001 / 10000) 1 fun _ _ => ⟨f1, f2⟩
  have l1 : -(10001 / 10000 * (0 + rabs (al a i))) ≤ 0 + f i * al a i := l1
  have l2 : 0 + f i * al a i ≤ 10001 / 10000 * (0 + rabs (al a i)) := l2
  obtain ⟨m1, m2⟩ := s_mul (B := 10001 / 10000 * tT a n) w1 a1 (by rw [w2]; show _ ≤ f i * al a i; grind) (by rw [w2]; show f i * al a i ≤ _; grind) (by grind)
  rw [w2] at m2
  have h6 : 0 ≤ 10001 / 10000 * tT a n * e24 := Rat.mul_nonneg (by grind) e24p
  obtain ⟨m3, m4⟩ := m2
  exact ⟨m1, by show _ - f i * al a i ≤ _; unfold al; grind, by show f i * al a i - _ ≤ _; unfold al; grind⟩
structure LF (a : List Nat) (n k : Nat) : Prop where
  fu : sf (lnM a k n).1
  fv : sf (lnM a k n).2
  nu : Nr (sv (lnM a k n).1) (lA a n k) (lE a n)
  nv : Nr (sv (lnM a k n).2) (lB a n k) (lE a n)
  bu : -(10001 / 10000 * tT a n) ≤ lA a n k ∧ lA a n k ≤ 10001 / 10000 * tT a n
  bv : -(10001 / 10000 * tT a n) ≤ lB a n k ∧ lB a n k ≤ 10001 / 10000 * tT a n
theorem line_of {a : List Nat} {n k : Nat} (s : SA a n) (hk : k < n / 2 + 1) : LF a n k := by
  have p := fun i (hi : i < n) => ph_of s.hn.2 hk hi
  have b1 : ∀ i, i < n → -(10001 / 10000) ≤ - sv (ps n k i) ∧ - sv (ps n k i) ≤ 10001 / 10000 := fun i hi => by
    obtain ⟨h1, h2⟩ := (p i hi).bs
    exact ⟨by grind, by grind⟩
  have h1 := acc_line s (w := qc n k) (f := fun i => sv (pc n k i)) (fun i hi => ⟨(p i hi).qc, (p i hi).ec⟩) (fun i hi => (p i hi).bc)
  have h2 := acc_line s (w := qs n k) (f := fun i => - sv (ps n k i)) (fun i hi => ⟨(p i hi).qs, (p i hi).es⟩) b1
  have e := ln_split a n k s.ln n
  have q1 := part_bd (a := a) (f := fun i => sv (pc n k i)) (fun i hi => (p i hi).bc) n (Nat.le_refl n)
  have q2 := part_bd (a := a) (f := fun i => - sv (ps n k i)) b1 n (Nat.le_refl n)
  refine ⟨?_, ?_, ?_, ?_, q1, q2⟩
  · rw [e]; exact h1.1
  · rw [e]; exact h2.1
  · rw [e]; exact h1.2
  · rw [e]; exact h2.2

/-! ### back again -/
def vV (a : List Nat) (n i : Nat) : Rat := sumQ (n / 2 + 1) fun k => wQ n k * (sv (pc n k i) * lA a n k - sv (ps n k i) * lB a n k)
theorem vV_gram {a : List Nat} {n i : Nat} : vV a n i = sumQ n fun j => (sumQ (n / 2 + 1) fun k => wQ n k * (sv (pc n k i) * sv (pc n k j) + sv (ps n k i) * sv (ps n k j))) * al a j := by
  have e : ∀ k, wQ n k * (sv (pc n k i) * lA a n k - sv (ps n k i) * lB a n k) = sumQ n fun j => wQ n k * (sv (pc n k i) * sv (pc n k j) + sv (ps n k i) * sv (ps n k j)) * al a j := fun k => by
    unfold lA lB
    rw [← sumQ_mul, ← sumQ_mul, ← sumQ_sub, ← sumQ_mul]
    exact sumQ_congr n fun j _ => by grind
  unfold vV
  rw [sumQ_congr _ fun k _ => e k, sumQ_swap]
  refine sumQ_congr n fun j _ => ?_
  rw [Rat.mul_comm, ← sumQ_mul]
  exact sumQ_congr _ fun k _ => by grind
theorem vV_near {a : List Nat} {n i : Nat} (s : SA a n) (hi : i < n) : Nr (vV a n i) (n * al a i) ((n : Rat) / 10000000 * tT a n) := by
  have e := sumQ_delta (al a) i n n
  rw [if_pos hi] at e
  have h := sumQ_size (f := fun j => (sumQ (n / 2 + 1) fun k => wQ n k * (sv (pc n k i) * sv (pc n k j) + sv (ps n k i) * sv (ps n k j))) - (if i = j then (n : Rat) else 0)) (x := al a) (c := (n : Rat) / 10000000) n fun j hj => by
    obtain ⟨g1, g2⟩ := gram_near s.hn.2 hi hj
    exact ⟨by grind, by grind⟩
  have e2 : (sumQ n fun j => ((sumQ (n / 2 + 1) fun k => wQ n k * (sv (pc n k i) * sv (pc n k j) + sv (ps n k i) * sv (ps n k j))) - (if i = j then (n : Rat) else 0)) * al a j) = vV a n i - n * al a i := by
    rw [vV_gram, ← e, ← sumQ_sub]
    exact sumQ_congr n fun j _ => by grind
  rw [e2] at h
  have h1 : -((n : Rat) / 10000000 * tT a n) ≤ vV a n i - n * al a i := h.1
  have h2 : vV a n i - n * al a i ≤ (n : Rat) / 10000000 * tT a n := h.2
  exact ⟨by grind, by grind⟩
/-- the squares of the lines -/
theorem sq_lines (a : List Nat) (n : Nat) : (sumQ (n / 2 + 1) fun k => wQ n k * (lA a n k * lA a n k + lB a n k * lB a n k)) = sumQ n fun i => al a i * vV a n i := by
  have e : ∀ k, wQ n k * (lA a n k * lA a n k + lB a n k * lB a n k) = sumQ n fun i => al a i * (wQ n k * (sv (pc n k i) * lA a n k - sv (ps n k i) * lB a n k)) := fun k => by
    have e1 : lA a n k * lA a n k = sumQ n fun j => lA a n k * (sv (pc n k j) * al a j) := by rw [sumQ_mul]; rfl
    have e2 : lB a n k * lB a n k = sumQ n fun j => lB a n k * ((- sv (ps n k j)) * al a j) := by rw [sumQ_mul]; rfl
    rw [e1, e2, ← sumQ_add, ← sumQ_mul]
    exact sumQ_congr n fun j _ => by grind
  rw [sumQ_congr _ fun k _ => e k, sumQ_swap]
  refine sumQ_congr n fun i _ => ?_
  unfold vV
  rw [sumQ_mul]
theorem sq_near {a : List Nat} {n : Nat} (s : SA a n) : Nr (sumQ (n / 2 + 1) fun k => wQ n k * (lA a n k * lA a n k + lB a n k * lB a n k)) (n * rR a n) ((n : Rat) / 10000000 * (tT a n * tT a n)) := by
  rw [sq_lines]
  have h := sumQ_size (f := fun i => vV a n i - n * al a i) (x := al a) (c := (n : Rat) / 10000000 * tT a n) n fun i hi => by
    obtain ⟨g1, g2⟩ := vV_near s hi
    exact ⟨by grind, by grind⟩
  have e2 : (sumQ n fun i => (vV a n i - n * al a i) * al a i) = (sumQ n fun i => al a i * vV a n i) - n * rR a n := by
    unfold rR
    rw [← sumQ_mul, ← sumQ_sub]
    exact sumQ_congr n fun j _ => by grind
  rw [e2] at h
  obtain ⟨h1, h2⟩ := h
  have e3 : sumQ n (fun i => rabs (al a i)) = tT a n := rfl
  rw [e3] at h1 h2
  exact ⟨by grind, by grind⟩

end Go.Proofs.LV

namespace Go.Proofs.LV
open Go Ieee
set_option linter.unusedVariables false
set_option linter.unusedSimpArgs false

theorem narrowF {x : Nat} (h : sf (fconv .f64 .f32 x)) : fconvOk .f64 .f32 x = true := by
  unfold fconvOk
  unfold fconv at h
  simp only [reduceCtorEq, if_false] at h ⊢
  split
  · rename_i n m e hd
    rw [hd] at h
    obtain ⟨s, a, b, hr, _⟩ := read_rv (f := single) h
    show (!(single.read (FloatKind.f32.encode (.number n m e))).isInfinity) = true
    rw [hr]; rfl
  · rfl
theorem two_v : sf 1073741824 ∧ sv 1073741824 = 2 := by
  have hf : fnt single 1073741824 := by unfold fnt; decide
  exact ⟨hf, lit_neg (n := 22) (m := 8388608) hf (by decide) (by decide +kernel)⟩
theorem nat_fofi {n : Nat} (hn : n ≤ 1000) : sf (fofi .f32 (n : Int)) ∧ sv (fofi .f32 (n : Int)) = n := by
  have h := fofi_rv .f32 (n := (n : Int)) (by have : ((n : Int)).natAbs = n := rfl; rw [this]; have : (2 : Nat) ^ (FloatKind.f32.format.fractionBits + 1) = 16777216 := by decide
                                              omega)
  exact ⟨h.1, h.2⟩
/-- a narrowed number -/
theorem dn_near {x : Nat} {B : Rat} (hx : df x) (h1 : -B ≤ dv x) (h2 : dv x ≤ B) (hB : B ≤ 1000000000000) : sf (dn x) ∧ Nr (sv (dn x)) (dv x) (B * e24 + eta) ∧ fconvOk .f64 .f32 x = true := by
  have h := conv_down hx (by grind) (by grind)
  obtain ⟨a, b⟩ := rd_use h h1 h2 p24 etaS
  exact ⟨a, b, narrowF a⟩
theorem mul_size {c d a b L : Rat} (hL : 0 ≤ L) (ha : -L ≤ a ∧ a ≤ L) (hb : -L ≤ b ∧ b ≤ L) : -(L * (rabs c + rabs d)) ≤ a * c + b * d ∧ a * c + b * d ≤ L * (rabs c + rabs d) := by
  have h1 := sumQ_size (f := fun _ => a) (x := fun _ => c) (c := L) 1 fun _ _ => ha
  have h2 := sumQ_size (f := fun _ => b) (x := fun _ => d) (c := L) 1 fun _ _ => hb
  have h1 : -(L * (0 + rabs c)) ≤ 0 + a * c ∧ 0 + a * c ≤ L * (0 + rabs c) := h1
  have h2 : -(L * (0 + rabs d)) ≤ 0 + b * d ∧ 0 + b * d ≤ L * (0 + rabs d) := h2
  exact ⟨by grind, by grind⟩
/-- products of complex numbers, narrowed -/
theorem mu_near {a b c d : Nat} (ha : sf a) (hb : sf b) (hc : sf c) (hd : sf d) (a1 : -81 ≤ sv a ∧ sv a ≤ 81) (b1 : -81 ≤ sv b ∧ sv b ≤ 81) (h : rabs (sv c) + rabs (sv d) ≤ 1415 / 1000) :
    (sf (dn (muU a b c d)) ∧ Nr (sv (dn (muU a b c d))) (sv a * sv c - sv b * sv d) (8 / 1000000) ∧ fconvOk .f64 .f32 (muU a b c d) = true) ∧
    (sf (dn (muV a b c d)) ∧ fconvOk .f64 .f32 (muV a b c d) = true) ∧ -115 ≤ sv a * sv c - sv b * sv d ∧ sv a * sv c - sv b * sv d ≤ 115 := by
  obtain ⟨ua, va⟩ := conv_up ha
  obtain ⟨ub, vb⟩ := conv_up hb
  obtain ⟨uc, vc⟩ := conv_up hc
  obtain ⟨ud, vd⟩ := conv_up hd
  have rc := rabs_nonneg (sv c); have rd := rabs_nonneg (sv d)
  have z0 : rabs 0 = 0 := by decide
  have nb : -81 ≤ - sv b ∧ - sv b ≤ 81 := ⟨by grind, by grind⟩
  have m1 := mul_size (c := sv c) (d := 0) (b := 0) (L := 81) (by decide) a1 ⟨by decide, by decide⟩
  have m2 := mul_size (c := sv d) (d := 0) (b := 0) (L := 81) (by decide) b1 ⟨by decide, by decide⟩
  have m3 := mul_size (c := sv d) (d := 0) (b := 0) (L := 81) (by decide) a1 ⟨by decide, by decide⟩
  have m4 := mul_size (c := sv c) (d := 0) (b := 0) (L := 81) (by decide) b1 ⟨by decide, by decide⟩
  have m5 := mul_size (c := sv c) (d := sv d) (L := 81) (by decide) a1 nb
  have m6 := mul_size (c := sv d) (d := sv c) (L := 81) (by decide) a1 b1
  rw [z0] at m1 m2 m3 m4
  have tiny : (400 : Rat) * e53 + 3 * eta ≤ 1 / 10000000000 := by decide +kernel
  have e53p : (0 : Rat) ≤ e53 := by decide +kernel
  have etap : (0 : Rat) ≤ eta := by decide +kernel
  obtain ⟨p1, p2, p3⟩ := d_mul (B := 120) ua uc (by rw [va, vc]; grind) (by rw [va, vc]; grind) (by decide)
  obtain ⟨q1, q2, q3⟩ := d_mul (B := 120) ub ud (by rw [vb, vd]; grind) (by rw [vb, vd]; grind) (by decide)
  obtain ⟨r1, r2, r3⟩ := d_mul (B := 120) ua ud (by rw [va, vd]; grind) (by rw [va, vd]; grind) (by decide)
  obtain ⟨s1, s2, s3⟩ := d_mul (B := 120) ub uc (by rw [vb, vc]; grind) (by rw [vb, vc]; grind) (by decide)
  rw [va, vc] at p2 p3
  rw [vb, vd] at q2 q3
  rw [va, vd] at r2 r3
  rw [vb, vc] at s2 s3
  obtain ⟨x1, x2, x3⟩ := d_sub (B := 116) p1 q1 (by grind) (by grind) (by decide)
  obtain ⟨y1, y2, y3⟩ := d_add (B := 116) r1 s1 (by grind) (by grind) (by decide)
  have small : (117 : Rat) * e24 + eta ≤ 7 / 1000000 := by decide +kernel
  have u1 := dn_near (B := 117) (x := muU a b c d) x1 (by show _ ≤ dv (fsub .f64 _ _); grind) (by show dv (fsub .f64 _ _) ≤ _; grind) (by decide)
  have v1 := dn_near (B := 117) (x := muV a b c d) y1 (by show _ ≤ dv (fadd .f64 _ _); grind) (by show dv (fadd .f64 _ _) ≤ _; grind) (by decide)
  obtain ⟨u2, ⟨u3, u4⟩, u5⟩ := u1
  have eU : dv (muU a b c d) = dv (fsub .f64 (fmul .f64 (up a) (up c)) (fmul .f64 (up b) (up d))) := rfl
  rw [eU] at u3 u4
  exact ⟨⟨u2, ⟨by grind, by grind⟩, u5⟩, ⟨v1.1, v1.2.2⟩, by grind, by grind⟩

section
variable {a : List Nat} {n : Nat}
theorem lE_le (s : SA a n) : 0 ≤ lE a n ∧ lE a n ≤ 401 / 1000000 := by
  obtain ⟨t0, t1⟩ := tT_bd s
  have etap : (0 : Rat) ≤ eta ∧ 200 * eta ≤ 1 / 1000000000 := by decide +kernel
  unfold lE
  exact ⟨by grind, by grind⟩
theorem line_bd {k : Nat} (s : SA a n) (hk : k < n / 2 + 1) : (-81 ≤ sv (lnM a k n).1 ∧ sv (lnM a k n).1 ≤ 81) ∧ (-81 ≤ sv (lnM a k n).2 ∧ sv (lnM a k n).2 ≤ 81) := by
  obtain ⟨t0, t1⟩ := tT_bd s
  obtain ⟨e0, e1⟩ := lE_le s
  have l := line_of s hk
  obtain ⟨u1, u2⟩ := l.nu
  obtain ⟨v1, v2⟩ := l.nv
  obtain ⟨x1, x2⟩ := l.bu
  obtain ⟨y1, y2⟩ := l.bv
  exact ⟨⟨by grind, by grind⟩, ⟨by grind, by grind⟩⟩
theorem lns_k (s : SA a n) {k : Nat} (hk : k < n / 2 + 1) : (lnsM a (n / 2 + 1)).getD k (0, 0) = lnM a k n := by
  rw [lns_at _ _ hk, s.ln]
theorem back_angle (n k i : Nat) : fdiv .f64 (fofi .f64 ((k : Int) * i)) (fofi .f64 n) = xw n (k * i) := by
  unfold xw; rw [Int.natCast_mul]
theorem lines_fin (s : SA a n) : finAllC (lnsM a (n / 2 + 1)) = true := by
  unfold finAllC
  rw [List.all_eq_true]
  intro z hz
  obtain ⟨k, hk, rfl⟩ := List.mem_iff_getElem.1 hz
  have hl := lns_len a (n / 2 + 1)
  have e := lns_k s (k := k) (by omega)
  have e2 : (lnsM a (n / 2 + 1)).getD k (0, 0) = (lnsM a (n / 2 + 1))[k] := by rw [List.getD_eq_getElem?_getD, List.getElem?_eq_getElem hk]; rfl
  rw [← e2, e]
  have l := line_of s (k := k) (by omega)
  unfold finC
  rw [(finM_sf _).2 l.fu, (finM_sf _).2 l.fv]; rfl
theorem freq_ok (s : SA a n) {i k : Nat} (hi : i < n) (hk : k < n / 2 + 1) :
    fconvOk .f64 .f32 (muU ((lnsM a (n / 2 + 1)).getD k (0, 0)).1 ((lnsM a (n / 2 + 1)).getD k (0, 0)).2 (phM (fdiv .f64 (fofi .f64 ((k : Int) * i)) (fofi .f64 n))).1 (phM (fdiv .f64 (fofi .f64 ((k : Int) * i)) (fofi .f64 n))).2) = true ∧
    fconvOk .f64 .f32 (muV ((lnsM a (n / 2 + 1)).getD k (0, 0)).1 ((lnsM a (n / 2 + 1)).getD k (0, 0)).2 (phM (fdiv .f64 (fofi .f64 ((k : Int) * i)) (fofi .f64 n))).1 (phM (fdiv .f64 (fofi .f64 ((k : Int) * i)) (fofi .f64 n))).2) = true := by
  rw [lns_k s hk, back_angle]
  have l := line_of s hk
  have p := ph_of s.hn.2 hk hi
  obtain ⟨b1, b2⟩ := line_bd s hk
  have m := mu_near l.fu l.fv p.pc p.ps b1 b2 p.bb
  exact ⟨m.1.2.2, m.2.1.2⟩
theorem bkX_near (s : SA a n) {i k : Nat} (hi : i < n) (hk : k < n / 2 + 1) :
    sf (bkX (lnsM a (n / 2 + 1)) n i k) ∧ Nr (sv (bkX (lnsM a (n / 2 + 1)) n i k)) (wQ n k * (sv (lnM a k n).1 * sv (pc n k i) - sv (lnM a k n).2 * sv (ps n k i))) (31 / 1000000) ∧
    -231 ≤ wQ n k * (sv (lnM a k n).1 * sv (pc n k i) - sv (lnM a k n).2 * sv (ps n k i)) ∧ wQ n k * (sv (lnM a k n).1 * sv (pc n k i) - sv (lnM a k n).2 * sv (ps n k i)) ≤ 231 := by
  have l := line_of s hk
  have p := ph_of s.hn.2 hk hi
  obtain ⟨b1, b2⟩ := line_bd s hk
  obtain ⟨⟨m1, ⟨m2, m3⟩, _⟩, _, m4, m5⟩ := mu_near l.fu l.fv p.pc p.ps b1 b2 p.bb
  have ez : bkZ (lnsM a (n / 2 + 1)) n i k = dn (muU (lnM a k n).1 (lnM a k n).2 (pc n k i) (ps n k i)) := by
    unfold bkZ
    rw [lns_k s hk, back_angle]; rfl
  have small : (240 : Rat) * e24 + eta ≤ 149 / 10000000 := by decide +kernel
  obtain ⟨t1, t2⟩ := two_v
  unfold bkX wQ
  rw [ez]
  by_cases h : k ≠ 0 ∧ 2 * k ≠ n
  · rw [if_pos h, if_pos h]
    obtain ⟨r1, r2, r3⟩ := s_mul (B := 240) m1 t1 (by rw [t2]; grind) (by rw [t2]; grind) (by decide)
    rw [t2] at r2 r3
    exact ⟨r1, ⟨by grind, by grind⟩, by grind, by grind⟩
  · rw [if_neg h, if_neg h]
    exact ⟨m1, ⟨by grind, by grind⟩, by grind, by grind⟩
theorem bkS_near (s : SA a n) {i : Nat} (hi : i < n) : sf (bkS (lnsM a (n / 2 + 1)) n i (n / 2 + 1)) ∧ Nr (sv (bkS (lnsM a (n / 2 + 1)) n i (n / 2 + 1))) (n * al a i) (n * (770 / 1000000)) := by
  have hn := s.hn
  have hm : (n / 2 + 1 : Nat) ≤ 11 := by omega
  have hmn : (n / 2 + 1 : Nat) ≤ n := by omega
  obtain ⟨t0, t1⟩ := tT_bd s
  obtain ⟨e0, e1⟩ := lE_le s
  have h := acc_nearS (g := fun k => bkX (lnsM a (n / 2 + 1)) n i k) (t := fun k => wQ n k * (sv (lnM a k n).1 * sv (pc n k i) - sv (lnM a k n).2 * sv (ps n k i))) (C := 231) (E := 31 / 1000000) (N := 11) (by decide) (by decide +kernel) (n / 2 + 1) (nat_le_rat hm) (by decide +kernel)
    fun k hk => bkX_near s hi hk
  obtain ⟨h1, h2, h3⟩ := h
  have small : (31 : Rat) / 1000000 + ((231 + 31 / 1000000 + 1) * 11 * e24 + eta) ≤ 185 / 1000000 := by decide +kernel
  have m1 : ((n / 2 + 1 : Nat) : Rat) ≤ n := nat_le_rat hmn
  have k1 := Rat.mul_le_mul_of_nonneg_left small (nat_rat (n / 2 + 1))
  have k2 := Rat.mul_le_mul_of_nonneg_right m1 (show (0 : Rat) ≤ 185 / 1000000 by decide +kernel)
  -- lines against what they should be
  have e2 : (sumQ (n / 2 + 1) fun k => wQ n k * (sv (lnM a k n).1 * sv (pc n k i) - sv (lnM a k n).2 * sv (ps n k i))) - vV a n i = sumQ (n / 2 + 1) fun k => wQ n k * ((sv (lnM a k n).1 - lA a n k) * sv (pc n k i) + (lB a n k - sv (lnM a k n).2) * sv (ps n k i)) := by
    unfold vV
    rw [← sumQ_sub]
    exact sumQ_congr _ fun k _ => by grind
  have key : ∀ k, k < n / 2 + 1 → wQ n k * -(1415 / 1000 * lE a n) ≤ wQ n k * ((sv (lnM a k n).1 - lA a n k) * sv (pc n k i) + (lB a n k - sv (lnM a k n).2) * sv (ps n k i)) ∧ wQ n k * ((sv (lnM a k n).1 - lA a n k) * sv (pc n k i) + (lB a n k - sv (lnM a k n).2) * sv (ps n k i)) ≤ wQ n k * (1415 / 1000 * lE a n) := fun k hk => by
    have l := line_of s hk
    have p := ph_of s.hn.2 hk hi
    obtain ⟨u1, u2⟩ := l.nu
    obtain ⟨v1, v2⟩ := l.nv
    have hw : 0 ≤ wQ n k := by unfold wQ; split <;> decide
    have z := mul_size (c := sv (pc n k i)) (d := sv (ps n k i)) (L := lE a n) e0 (a := sv (lnM a k n).1 - lA a n k) (b := lB a n k - sv (lnM a k n).2) ⟨by grind, by grind⟩ ⟨by grind, by grind⟩
    have hb := Rat.mul_le_mul_of_nonneg_left p.bb e0
    exact ⟨Rat.mul_le_mul_of_nonneg_left (by grind) hw, Rat.mul_le_mul_of_nonneg_left (by grind) hw⟩
  have s1 := sumQ_mono' (n / 2 + 1) fun k hk => (key k hk).1
  have s2 := sumQ_mono' (n / 2 + 1) fun k hk => (key k hk).2
  rw [← e2] at s1 s2
  have w1 : (sumQ (n / 2 + 1) fun k => wQ n k * (1415 / 1000 * lE a n)) = n * (1415 / 1000 * lE a n) := by
    rw [sumQ_congr (g := fun k => (1415 / 1000 * lE a n) * wQ n k) _ fun k _ => by grind, sumQ_mul, wQ_sum hn]; grind
  have w2 : (sumQ (n / 2 + 1) fun k => wQ n k * -(1415 / 1000 * lE a n)) = -(n * (1415 / 1000 * lE a n)) := by
    rw [sumQ_congr (g := fun k => -(1415 / 1000 * lE a n) * wQ n k) _ fun k _ => by grind, sumQ_mul, wQ_sum hn]; grind
  rw [w2] at s1
  rw [w1] at s2
  obtain ⟨g1, g2⟩ := vV_near s hi
  have n0 := nat_rat n
  have q1 := Rat.mul_le_mul_of_nonneg_left t1 (show (0 : Rat) ≤ (n : Rat) / 10000000 by grind)
  have q2 := Rat.mul_le_mul_of_nonneg_left e1 n0
  exact ⟨h1, by show sv (accN _ _ _) - _ ≤ _; grind, by show _ - sv (accN _ _ _) ≤ _; grind⟩
theorem back_near (s : SA a n) {i : Nat} (hi : i < n) : sf ((bkM (lnsM a (n / 2 + 1)) n n).getD i 0) ∧ Nr (sv ((bkM (lnsM a (n / 2 + 1)) n n).getD i 0)) (al a i) (780 / 1000000) := by
  have hn := s.hn
  have ll := lns_len a (n / 2 + 1)
  have e : (bkM (lnsM a (n / 2 + 1)) n n).getD i 0 = fdiv .f32 (bkS (lnsM a (n / 2 + 1)) n i (n / 2 + 1)) (fofi .f32 n) := by
    unfold bkM
    rw [tab_get _ _ _ _ hi, ll]
  obtain ⟨h1, h2, h3⟩ := bkS_near s hi
  obtain ⟨f1, f2⟩ := nat_fofi (n := n) (by omega)
  obtain ⟨_, b1, b2⟩ := s.bd i hi
  have n1 : (1 : Rat) ≤ n := nat_le_rat hn.1
  rw [e]
  generalize hS : sv (bkS (lnsM a (n / 2 + 1)) n i (n / 2 + 1)) = S at *
  have hq : S / n * n = S := Rat.div_mul_cancel (by grind)
  obtain ⟨c1, c2⟩ := div_bound (x := S / n - al a i) (d := n) (e := n * (770 / 1000000)) (b := 770 / 1000000) (by grind) (by grind) (by grind) (by grind)
  have small : (5 : Rat) * e23 + eta ≤ 1 / 1000000 := by decide +kernel
  obtain ⟨r1, r2, r3⟩ := s_div (B := 5) (q := S / n) h1 f1 (by rw [f2]; grind) (by rw [f2, hS]; exact hq) (by grind) (by grind) (by decide)
  exact ⟨r1, by grind, by grind⟩
end

end Go.Proofs.LV

namespace Go.Proofs.LV
open Go Ieee
set_option linter.unusedVariables false
set_option linter.unusedSimpArgs false

theorem dlit {x m n : Nat} {v : Rat} (hf : fnt double x) (hr : double.read x = .number false m (-(n : Int))) (hv : v * ((2 ^ n : Nat) : Rat) = m) : df x ∧ dv x = v := ⟨hf, lit_neg hf hr hv⟩
theorem one_dv : df 4607182418800017408 ∧ dv 4607182418800017408 = 1 := by
  have hf : fnt double 4607182418800017408 := by unfold fnt; decide
  exact dlit (n := 52) (m := 4503599627370496) hf (by decide) (by decide +kernel)
theorem two_dv : df 4611686018427387904 ∧ dv 4611686018427387904 = 2 := by
  have hf : fnt double 4611686018427387904 := by unfold fnt; decide
  exact dlit (n := 51) (m := 4503599627370496) hf (by decide) (by decide +kernel)
theorem sq_diff {u A T E : Rat} (hT : 0 ≤ T) (hA : -T ≤ A ∧ A ≤ T) (hu : Nr u A E) (hE : 0 ≤ E) : Nr (u * u) (A * A) (E * (2 * T + E)) := by
  obtain ⟨h1, h2⟩ := hu
  have h := mul_size (c := u + A) (d := 0) (a := u - A) (b := 0) (L := E) hE ⟨by grind, by grind⟩ ⟨by grind, by grind⟩
  have z0 : rabs 0 = 0 := by decide
  have r : rabs (u + A) ≤ 2 * T + E := rabs_le (by grind) (by grind)
  have r2 := Rat.mul_le_mul_of_nonneg_left r hE
  rw [z0] at h
  exact ⟨by grind, by grind⟩
/-- a power -/
theorem pw_near {u v : Nat} {L : Rat} (hu : sf u) (hv : sf v) (hL : 0 ≤ L ∧ L ≤ 100) (bu : -L ≤ sv u ∧ sv u ≤ L) (bv : -L ≤ sv v ∧ sv v ≤ L) :
    df (pwW u v) ∧ sf (dn (pwW u v)) ∧ Nr (sv (dn (pwW u v))) (sv u * sv u + sv v * sv v) (2 / 10000000 * (L * L) + 1 / 10000000) ∧ fconvOk .f64 .f32 (pwW u v) = true := by
  obtain ⟨uu, vu⟩ := conv_up hu
  obtain ⟨uv, vv⟩ := conv_up hv
  have e53p : (0 : Rat) ≤ e53 := by decide +kernel
  have etap : (0 : Rat) ≤ eta := by decide +kernel
  have hLL : L * L ≤ 100 * 100 := mul_mono hL.1 hL.1 hL.2 hL.2
  have hL0 := Rat.mul_nonneg hL.1 hL.1
  have sq : ∀ {x : Rat}, -L ≤ x ∧ x ≤ L → 0 ≤ x * x ∧ x * x ≤ L * L := fun {x} h => by
    refine ⟨sq_nonneg x, ?_⟩
    have := Rat.mul_nonneg (show 0 ≤ L - x by grind) (show 0 ≤ L + x by grind)
    grind
  obtain ⟨a1, a2⟩ := sq bu
  obtain ⟨b1, b2⟩ := sq bv
  obtain ⟨p1, p2, p3⟩ := d_mul (B := L * L) uu uu (by rw [vu]; grind) (by rw [vu]; grind) (by grind)
  obtain ⟨q1, q2, q3⟩ := d_mul (B := L * L) uv uv (by rw [vv]; grind) (by rw [vv]; grind) (by grind)
  rw [vu] at p2 p3
  rw [vv] at q2 q3
  have k1 := Rat.mul_le_mul_of_nonneg_right hLL e53p
  have k0 := Rat.mul_nonneg hL0 e53p
  have t1 : (100 : Rat) * 100 * e53 + eta ≤ 1 / 100000000 := by decide +kernel
  have t2 : 30002 * e53 + eta ≤ 1 / 100000000 := by decide +kernel
  obtain ⟨r1, r2, r3⟩ := d_add (B := 30002) p1 q1 (by grind) (by grind) (by decide)
  have eW : dv (pwW u v) = dv (fadd .f64 (fmul .f64 (up u) (up u)) (fmul .f64 (up v) (up v))) := rfl
  rw [← eW] at r2 r3
  obtain ⟨s1, ⟨s2, s3⟩, s4⟩ := dn_near (B := 2 * (L * L) + 1 / 10000000) (x := pwW u v) r1 (by grind) (by grind) (by grind)
  have e24s : (2 : Rat) * e24 ≤ 2 / 10000000 := by decide +kernel
  have e24t : 1 / 10000000 * e24 + eta ≤ 1 / 100000000 := by decide +kernel
  have k2 := Rat.mul_le_mul_of_nonneg_right e24s hL0
  exact ⟨r1, s1, ⟨by grind, by grind⟩, s4⟩
section
variable {a : List Nat} {n : Nat}
def lL (a : List Nat) (n : Nat) : Rat := 10001 / 10000 * tT a n + lE a n
theorem lL_bd (s : SA a n) : 0 ≤ lL a n ∧ lL a n ≤ 81 ∧ lL a n * lL a n ≤ 1001 / 1000 * (tT a n * tT a n) + 1 / 1000000 ∧ lE a n * (2 * (10001 / 10000 * tT a n) + lE a n) ≤ 1003 / 100000000 * (tT a n * tT a n) + 1 / 5000000 := by
  obtain ⟨t0, t1⟩ := tT_bd s
  obtain ⟨e0, e1⟩ := lE_le s
  have etap : (0 : Rat) ≤ 200 * eta ∧ 200 * eta ≤ 1 / 1000000000 := by decide +kernel
  have h0 : lE a n ≤ 5001 / 1000000000 * tT a n + 1 / 1000000000 := by unfold lE; grind
  have h1 : lL a n ≤ 10002 / 10000 * tT a n + 1 / 1000000000 := by unfold lL; grind
  have hl : 0 ≤ lL a n := by unfold lL; grind
  have m1 := mul_mono hl hl h1 h1
  have m2 := mul_mono (a := lE a n) (b := 5001 / 1000000000 * tT a n + 1 / 1000000000) (d := 2 * (10001 / 10000 * tT a n) + lE a n) (c := 20003 / 10000 * tT a n + 1 / 1000000000) e0 (by grind) h0 (by grind)
  have tt := Rat.mul_nonneg t0 t0
  exact ⟨hl, by unfold lL; grind, by grind, by grind⟩
theorem line_L {k : Nat} (s : SA a n) (hk : k < n / 2 + 1) : (-lL a n ≤ sv (lnM a k n).1 ∧ sv (lnM a k n).1 ≤ lL a n) ∧ (-lL a n ≤ sv (lnM a k n).2 ∧ sv (lnM a k n).2 ≤ lL a n) := by
  have l := line_of s hk
  obtain ⟨u1, u2⟩ := l.nu
  obtain ⟨v1, v2⟩ := l.nv
  obtain ⟨x1, x2⟩ := l.bu
  obtain ⟨y1, y2⟩ := l.bv
  unfold lL
  exact ⟨⟨by grind, by grind⟩, ⟨by grind, by grind⟩⟩
theorem pow_ok (s : SA a n) {k : Nat} (hk : k < n / 2 + 1) : fconvOk .f64 .f32 (pwW (lnM a k n).1 (lnM a k n).2) = true := by
  have l := line_of s hk
  obtain ⟨l0, l1, _⟩ := lL_bd s
  obtain ⟨b1, b2⟩ := line_L s hk
  exact (pw_near l.fu l.fv ⟨l0, by grind⟩ b1 b2).2.2.2
theorem pow_near (s : SA a n) {k : Nat} (hk : k < n / 2 + 1) : sf ((lpM a (n / 2 + 1)).getD k 0) ∧
    Nr (n * sv ((lpM a (n / 2 + 1)).getD k 0)) (lA a n k * lA a n k + lB a n k * lB a n k) (21 / 1000000 * (tT a n * tT a n) + 1 / 1000000) ∧ 0 ≤ n * sv ((lpM a (n / 2 + 1)).getD k 0) + 1 ∧ sv ((lpM a (n / 2 + 1)).getD k 0) ≤ 14000 ∧ -14000 ≤ sv ((lpM a (n / 2 + 1)).getD k 0) := by
  have hn := s.hn
  have l := line_of s hk
  obtain ⟨l0, l1, l2, l3⟩ := lL_bd s
  obtain ⟨b1, b2⟩ := line_L s hk
  obtain ⟨t0, t1⟩ := tT_bd s
  obtain ⟨e0, e1⟩ := lE_le s
  have tt := Rat.mul_nonneg t0 t0
  have tt2 : tT a n * tT a n ≤ 80 * 80 := mul_mono t0 t0 t1 t1
  obtain ⟨_, p1, ⟨p2, p3⟩, _⟩ := pw_near l.fu l.fv ⟨l0, by grind⟩ b1 b2
  obtain ⟨u1, u2⟩ := sq_diff (T := 10001 / 10000 * tT a n) (by grind) l.bu l.nu e0
  obtain ⟨v1, v2⟩ := sq_diff (T := 10001 / 10000 * tT a n) (by grind) l.bv l.nv e0
  have sA := sq_nonneg (lA a n k)
  have sB := sq_nonneg (lB a n k)
  have sq : ∀ {x : Rat}, -(10001 / 10000 * tT a n) ≤ x ∧ x ≤ 10001 / 10000 * tT a n → x * x ≤ 1001 / 1000 * (tT a n * tT a n) := fun {x} h => by
    have := Rat.mul_nonneg (show 0 ≤ 10001 / 10000 * tT a n - x by grind) (show 0 ≤ 10001 / 10000 * tT a n + x by grind)
    grind
  have qA := sq l.bu
  have qB := sq l.bv
  have e : (lpM a (n / 2 + 1)).getD k 0 = fdiv .f32 (dn (pwW (lnM a k n).1 (lnM a k n).2)) (fofi .f32 n) := by
    unfold lpM
    rw [tab_get _ _ _ _ hk, s.ln]
  obtain ⟨f1, f2⟩ := nat_fofi (n := n) (by omega)
  have n1 : (1 : Rat) ≤ n := nat_le_rat hn.1
  rw [e]
  generalize hS : sv (dn (pwW (lnM a k n).1 (lnM a k n).2)) = S at *
  have hq : S / n * n = S := Rat.div_mul_cancel (by grind)
  generalize hQ : S / n = Q at *
  have hB : S ≤ (21 / 10 * (tT a n * tT a n) + 1 / 10) ∧ -(21 / 10 * (tT a n * tT a n) + 1 / 10) ≤ S := ⟨by grind, by grind⟩
  generalize hb0 : 21 / 10 * (tT a n * tT a n) + 1 / 10 = b0 at *
  have hb1 : 0 ≤ b0 := by grind
  have hQn : b0 / n * n = b0 := Rat.div_mul_cancel (by grind)
  generalize b0 / n = b at *
  have hbn : 0 ≤ b := by
    have := div_bound (x := -b) (d := n) (e := 0) (b := 0) (by grind)
    refine Rat.not_lt.1 fun h => ?_
    have := Rat.mul_lt_mul_of_pos_right h (show (0 : Rat) < n by grind)
    grind
  obtain ⟨c1, c2⟩ := div_bound (x := Q) (d := n) (e := b0) (b := b) (by grind) (by grind) (by grind) (by grind)
  have bb : b ≤ b0 := by
    have := Rat.mul_le_mul_of_nonneg_left n1 hbn
    grind
  obtain ⟨r1, r2, r3⟩ := s_div (B := b) (q := Q) p1 f1 (by rw [f2]; grind) (by rw [f2, hS]; exact hq) (by grind) (by grind) (by grind)
  have hr1 := Rat.mul_le_mul_of_nonneg_right r2 (show (0 : Rat) ≤ n by grind)
  have hr2 := Rat.mul_le_mul_of_nonneg_right r3 (show (0 : Rat) ≤ n by grind)
  have e23p : (0 : Rat) ≤ e23 := by decide +kernel
  have e23s : (21 / 10 : Rat) * e23 ≤ 3 / 10000000 := by decide +kernel
  have e23t : (1 / 10 : Rat) * e23 + 20 * eta ≤ 1 / 10000000 := by decide +kernel
  have etap : (0 : Rat) ≤ eta := by decide +kernel
  have n20 : (n : Rat) ≤ 20 := nat_le_rat hn.2
  have ne := Rat.mul_le_mul_of_nonneg_right n20 etap
  have k1 := Rat.mul_le_mul_of_nonneg_right e23s tt
  have e3 : (b * e23 + eta) * n = b0 * e23 + n * eta := by rw [← hQn]; grind
  rw [e3] at hr1 hr2
  have k2 : b0 * e23 + n * eta ≤ 3 / 10000000 * (tT a n * tT a n) + 1 / 10000000 := by rw [← hb0]; grind
  have e23u : b0 * e23 ≤ 1 := by
    have h1 : b0 ≤ 14000 := by grind
    have h2 := Rat.mul_le_mul_of_nonneg_right h1 e23p
    have h3 : (14000 : Rat) * e23 ≤ 1 := by decide +kernel
    grind
  have e23v : b * e23 ≤ 1 := by
    have h2 := Rat.mul_le_mul_of_nonneg_right bb e23p
    grind
  have eta1 : eta ≤ 1 := by decide +kernel
  exact ⟨r1, ⟨by grind, by grind⟩, by grind, by grind, by grind⟩
/-- powers, each once or twice, in doubles -/
def pX (n : Nat) (P : List Nat) (k : Nat) : Nat := if k ≠ 0 ∧ 2 * k ≠ n then fmul .f64 (up (P.getD k 0)) 4611686018427387904 else up (P.getD k 0)
theorem pX_near (s : SA a n) {k : Nat} (hk : k < n / 2 + 1) : df (pX n (lpM a (n / 2 + 1)) k) ∧ Nr (dv (pX n (lpM a (n / 2 + 1)) k)) (wQ n k * sv ((lpM a (n / 2 + 1)).getD k 0)) (1 / 10000000000) ∧
    -28000 ≤ wQ n k * sv ((lpM a (n / 2 + 1)).getD k 0) ∧ wQ n k * sv ((lpM a (n / 2 + 1)).getD k 0) ≤ 28000 := by
  obtain ⟨p1, _, _, p4, p5⟩ := pow_near s hk
  obtain ⟨u1, u2⟩ := conv_up p1
  obtain ⟨t1, t2⟩ := two_dv
  have small : (28000 : Rat) * e53 + eta ≤ 1 / 10000000000 := by decide +kernel
  unfold pX wQ
  by_cases h : k ≠ 0 ∧ 2 * k ≠ n
  · rw [if_pos h, if_pos h]
    obtain ⟨r1, r2, r3⟩ := d_mul (B := 28000) u1 t1 (by rw [t2, u2]; grind) (by rw [t2, u2]; grind) (by decide)
    rw [t2, u2] at r2 r3
    exact ⟨r1, ⟨by grind, by grind⟩, by grind, by grind⟩
  · rw [if_neg h, if_neg h]
    exact ⟨u1, ⟨by grind, by grind⟩, by grind, by grind⟩
theorem rR_nonneg (a : List Nat) (n : Nat) : 0 ≤ rR a n := sumQ_nonneg n fun i _ => sq_nonneg _
theorem rR_le (s : SA a n) : rR a n ≤ 320 := by
  have h2 := sumQ_le (f := fun i => al a i * al a i) (C := 16) n fun i hi => by
    obtain ⟨_, b1, b2⟩ := s.bd i hi
    have h := Rat.mul_nonneg (show 0 ≤ 4 - al a i by grind) (show 0 ≤ 4 + al a i by grind)
    have := sq_nonneg (al a i)
    exact ⟨by grind, by grind⟩
  have h3 : (n : Rat) ≤ 20 := nat_le_rat s.hn.2
  unfold rR
  grind
theorem psum_near (s : SA a n) : df (accN (fun k z => fadd .f64 z (pX n (lpM a (n / 2 + 1)) k)) (n / 2 + 1) 0) ∧
    Nr (dv (accN (fun k z => fadd .f64 z (pX n (lpM a (n / 2 + 1)) k)) (n / 2 + 1) 0)) (rR a n) (45 / 100000 * rR a n + 2 / 1000000) := by
  have hn := s.hn
  have hm : (n / 2 + 1 : Nat) ≤ 11 := by omega
  obtain ⟨h1, h2, h3⟩ := acc_nearD (g := fun k => pX n (lpM a (n / 2 + 1)) k) (t := fun k => wQ n k * sv ((lpM a (n / 2 + 1)).getD k 0)) (C := 28000) (E := 1 / 10000000000) (N := 11) (by decide) (by decide +kernel) (n / 2 + 1) (nat_le_rat hm) (by decide +kernel)
    fun k hk => pX_near s hk
  have small : (1 / 10000000000 + ((28000 + 1 / 10000000000 + 1) * 11 * e53 + eta) : Rat) ≤ 1 / 1000000000 := by decide +kernel
  have k1 := Rat.mul_le_mul_of_nonneg_left small (nat_rat (n / 2 + 1))
  have k2 : ((n / 2 + 1 : Nat) : Rat) ≤ 11 := nat_le_rat hm
  have k3 := Rat.mul_le_mul_of_nonneg_right k2 (show (0 : Rat) ≤ 1 / 1000000000 by decide +kernel)
  generalize hD : 21 / 1000000 * (tT a n * tT a n) + 1 / 1000000 = D at *
  have key : ∀ k, k < n / 2 + 1 → wQ n k * -D ≤ wQ n k * (n * sv ((lpM a (n / 2 + 1)).getD k 0) - (lA a n k * lA a n k + lB a n k * lB a n k)) ∧ wQ n k * (n * sv ((lpM a (n / 2 + 1)).getD k 0) - (lA a n k * lA a n k + lB a n k * lB a n k)) ≤ wQ n k * D := fun k hk => by
    obtain ⟨_, ⟨p2, p3⟩, _⟩ := pow_near s hk
    have hw : 0 ≤ wQ n k := by unfold wQ; split <;> decide
    exact ⟨Rat.mul_le_mul_of_nonneg_left (by grind) hw, Rat.mul_le_mul_of_nonneg_left (by grind) hw⟩
  have s1 := sumQ_mono' (n / 2 + 1) fun k hk => (key k hk).1
  have s2 := sumQ_mono' (n / 2 + 1) fun k hk => (key k hk).2
  have w1 : (sumQ (n / 2 + 1) fun k => wQ n k * D) = n * D := by
    rw [sumQ_congr (g := fun k => D * wQ n k) _ fun k _ => by grind, sumQ_mul, wQ_sum hn]; grind
  have w2 : (sumQ (n / 2 + 1) fun k => wQ n k * -D) = -(n * D) := by
    rw [sumQ_congr (g := fun k => (-D) * wQ n k) _ fun k _ => by grind, sumQ_mul, wQ_sum hn]; grind
  have e2 : (sumQ (n / 2 + 1) fun k => wQ n k * (n * sv ((lpM a (n / 2 + 1)).getD k 0) - (lA a n k * lA a n k + lB a n k * lB a n k))) = n * (sumQ (n / 2 + 1) fun k => wQ n k * sv ((lpM a (n / 2 + 1)).getD k 0)) - sumQ (n / 2 + 1) fun k => wQ n k * (lA a n k * lA a n k + lB a n k * lB a n k) := by
    rw [← sumQ_mul, ← sumQ_sub]
    exact sumQ_congr _ fun k _ => by grind
  rw [w2, e2] at s1
  rw [w1, e2] at s2
  obtain ⟨g1, g2⟩ := sq_near s
  generalize (sumQ (n / 2 + 1) fun k => wQ n k * sv ((lpM a (n / 2 + 1)).getD k 0)) = V at *
  generalize (sumQ (n / 2 + 1) fun k => wQ n k * (lA a n k * lA a n k + lB a n k * lB a n k)) = W at *
  have n1 : (1 : Rat) ≤ n := nat_le_rat hn.1
  have n20 : (n : Rat) ≤ 20 := nat_le_rat hn.2
  have hT := tT_sq (a := a) (n := n)
  have r0 := rR_nonneg a n
  have hT2 := Rat.mul_le_mul_of_nonneg_right n20 r0
  obtain ⟨c1, c2⟩ := div_bound (x := V - rR a n) (d := n) (e := n * (D + 1 / 10000000 * (tT a n * tT a n))) (b := D + 1 / 10000000 * (tT a n * tT a n)) (by grind) (by grind) (by grind) (by grind)
  exact ⟨h1, by grind, by grind⟩
theorem squares_near (s : SA a n) : df (accN (fun i z => fadd .f64 z (fmul .f64 (up (a.getD i 0)) (up (a.getD i 0)))) n 0) ∧
    Nr (dv (accN (fun i z => fadd .f64 z (fmul .f64 (up (a.getD i 0)) (up (a.getD i 0)))) n 0)) (rR a n) (1 / 1000000000) := by
  have hn := s.hn
  have n20 : (n : Rat) ≤ 20 := nat_le_rat hn.2
  have small0 : (16 : Rat) * e53 + eta ≤ 1 / 1000000000000 := by decide +kernel
  obtain ⟨h1, h2, h3⟩ := acc_nearD (g := fun i => fmul .f64 (up (a.getD i 0)) (up (a.getD i 0))) (t := fun i => al a i * al a i) (C := 16) (E := 1 / 1000000000000) (N := 20) (by decide) (by decide +kernel) n n20 (by decide +kernel)
    fun i hi => by
      obtain ⟨x1, b1, b2⟩ := s.bd i hi
      obtain ⟨u1, u2⟩ := conv_up x1
      have h := Rat.mul_nonneg (show 0 ≤ 4 - al a i by grind) (show 0 ≤ 4 + al a i by grind)
      have h0 := sq_nonneg (al a i)
      have e : sv (a.getD i 0) = al a i := rfl
      obtain ⟨r1, r2, r3⟩ := d_mul (B := 16) u1 u1 (by rw [u2, e]; grind) (by rw [u2, e]; grind) (by decide)
      rw [u2, e] at r2 r3
      exact ⟨r1, ⟨by grind, by grind⟩, by grind, by grind⟩
  have small : (1 / 1000000000000 + ((16 + 1 / 1000000000000 + 1) * 20 * e53 + eta) : Rat) ≤ 1 / 20000000000 := by decide +kernel
  have k1 := Rat.mul_le_mul_of_nonneg_left small (nat_rat n)
  have k3 := Rat.mul_le_mul_of_nonneg_right n20 (show (0 : Rat) ≤ 1 / 20000000000 by decide +kernel)
  exact ⟨h1, by unfold rR; grind, by unfold rR; grind⟩
/-- powers add up to the squares, nearly -/
theorem powers_held (s : SA a n) {S Q : Nat} (hS : S = accN (fun k z => fadd .f64 z (pX n (lpM a (n / 2 + 1)) k)) (n / 2 + 1) 0) (hQ : Q = accN (fun i z => fadd .f64 z (fmul .f64 (up (a.getD i 0)) (up (a.getD i 0)))) n 0) :
    fgt .f64 (gapD S Q) (fmul .f64 4562254508917369340 (fadd .f64 4607182418800017408 Q)) = false := by
  subst hS hQ
  obtain ⟨p1, p2, p3⟩ := psum_near s
  obtain ⟨q1, q2, q3⟩ := squares_near s
  generalize accN (fun k z => fadd .f64 z (pX n (lpM a (n / 2 + 1)) k)) (n / 2 + 1) 0 = S at *
  generalize accN (fun i z => fadd .f64 z (fmul .f64 (up (a.getD i 0)) (up (a.getD i 0)))) n 0 = Q at *
  have r0 := rR_nonneg a n
  have r1 := rR_le s
  obtain ⟨o1, o2⟩ := one_dv
  obtain ⟨k1, k2, k3⟩ := c001
  obtain ⟨g1, g2, g3⟩ := gap_le (G := 45 / 100000 * rR a n + 3 / 1000000) p1 q1 ⟨by grind, by grind⟩ (by grind)
  obtain ⟨a1, a2, a3⟩ := d_add (B := 400) o1 q1 (by rw [o2]; grind) (by rw [o2]; grind) (by decide)
  rw [o2] at a2 a3
  have s1 : (400 : Rat) * e53 + eta ≤ 1 / 1000000000 := by decide +kernel
  have m0 := mul_mono (a := 9 / 10000) (b := dv 4562254508917369340) (d := 1 + rR a n - 1 / 10000000) (c := dv (fadd .f64 4607182418800017408 Q)) (by decide +kernel) (by grind) k2 (by grind)
  have m1 := mul_mono (a := dv 4562254508917369340) (b := 1 / 50) (d := dv (fadd .f64 4607182418800017408 Q)) (c := 400) (by grind) (by grind) (by grind) (by grind)
  obtain ⟨b1, b2, b3⟩ := d_mul (B := 8) k1 a1 (by grind) (by grind) (by decide)
  have s2 : (8 : Rat) * e53 + eta ≤ 1 / 1000000000 := by decide +kernel
  have e53p : (0 : Rat) ≤ e53 ∧ e53 ≤ 1 / 1000000000 ∧ eta ≤ 1 / 1000000000 := by decide +kernel
  have e5 := Rat.mul_le_mul_of_nonneg_left e53p.2.1 (show 0 ≤ 45 / 100000 * rR a n + 3 / 1000000 by grind)
  rw [fgt_rv (k := .f64) g1 b1]
  refine decide_eq_false fun hlt => ?_
  have hlt : dv (fmul .f64 4562254508917369340 (fadd .f64 4607182418800017408 Q)) < dv (gapD S Q) := hlt
  grind
/-- each number comes back, nearly -/
theorem back_held (s : SA a n) {i : Nat} (hi : i < n) : fgt .f64 (gapD (up ((bkM (lnsM a (n / 2 + 1)) n n).getD i 0)) (up (a.getD i 0))) 4562254508917369340 = false := by
  obtain ⟨b1, b2, b3⟩ := back_near s hi
  obtain ⟨x1, _, _⟩ := s.bd i hi
  obtain ⟨u1, u2⟩ := conv_up b1
  obtain ⟨v1, v2⟩ := conv_up x1
  obtain ⟨k1, k2, k3⟩ := c001
  have e : sv (a.getD i 0) = al a i := rfl
  obtain ⟨g1, g2, g3⟩ := gap_le (G := 780 / 1000000) u1 v1 ⟨by rw [u2, v2, e]; grind, by rw [u2, v2, e]; grind⟩ (by decide +kernel)
  have e53p : (780 / 1000000 : Rat) + 780 / 1000000 * e53 + eta ≤ 9 / 10000 := by decide +kernel
  rw [fgt_rv (k := .f64) g1 k1]
  refine decide_eq_false fun hlt => ?_
  have hlt : dv 4562254508917369340 < dv (gapD (up ((bkM (lnsM a (n / 2 + 1)) n n).getD i 0)) (up (a.getD i 0))) := hlt
  grind
end

end Go.Proofs.LV
