/- Pairs that go together, waves of steps led back. -/
import Derived.Test.YtjfgmnfkkehgfaaLvFnB
namespace Go.Proofs.LV
open Go
set_option linter.unusedVariables false
set_option linter.unusedSimpArgs false

/-- the sum of the first n -/
def sumN : Nat → (Nat → Int) → Int
  | 0, _ => 0
  | n + 1, f => sumN n f + f n
def signM (x y : Nat) : Int := if flt .f32 x y = true then -1 else if fgt .f32 x y = true then 1 else 0
def pairM (xs ys : List Nat) (k i : Nat) : Int := signM (xs.getD k 0) (xs.getD i 0) * signM (ys.getD k 0) (ys.getD i 0)
def pairsM (xs ys : List Nat) : Int := sumN xs.length fun k => sumN k fun i => pairM xs ys k i

theorem sumN_bound {f : Nat → Int} {B : Int} (hB : 0 ≤ B) (n : Nat) (h : ∀ i, i < n → -B ≤ f i ∧ f i ≤ B) : -(B * n) ≤ sumN n f ∧ sumN n f ≤ B * n := by
  induction n with
  | zero => simp [sumN]
  | succ n ih =>
    have := ih (fun i hi => h i (by omega))
    have := h n (by omega)
    simp only [sumN]
    rw [Int.natCast_succ, Int.mul_add]
    omega
theorem sumN_congr {f g : Nat → Int} (n : Nat) (h : ∀ i, i < n → f i = g i) : sumN n f = sumN n g := by
  induction n with
  | zero => rfl
  | succ n ih => simp only [sumN, ih (fun i hi => h i (by omega)), h n (by omega)]
theorem sumN_add (f g : Nat → Int) (n : Nat) : (sumN n fun i => f i + g i) = sumN n f + sumN n g := by
  induction n with
  | zero => rfl
  | succ n ih => simp only [sumN, ih]; omega
/-- the sums over a triangle, by rows and by columns -/
theorem triangle (t : Nat → Nat → Int) (n : Nat) : (sumN n fun k => sumN k fun i => t k i) = sumN n fun i => sumN (n - (i + 1)) fun j => t (i + 1 + j) i := by
  induction n with
  | zero => rfl
  | succ n ih =>
    have e : (sumN n fun i => sumN (n + 1 - (i + 1)) fun j => t (i + 1 + j) i) = (sumN n fun i => sumN (n - (i + 1)) fun j => t (i + 1 + j) i) + sumN n fun i => t n i := by
      rw [← sumN_add]
      refine sumN_congr n fun i hi => ?_
      rw [show n + 1 - (i + 1) = (n - (i + 1)) + 1 by omega]
      simp only [sumN]
      rw [show i + 1 + (n - (i + 1)) = n by omega]
    show (sumN n fun k => sumN k fun i => t k i) + (sumN n fun i => t n i) = (sumN n fun i => sumN (n + 1 - (i + 1)) fun j => t (i + 1 + j) i) + sumN (n + 1 - (n + 1)) fun j => t (n + 1 + j) n
    rw [e, ih, Nat.sub_self]
    simp only [sumN]; omega
theorem sign_bound (x y : Nat) : signM x y = -1 ∨ signM x y = 0 ∨ signM x y = 1 := by
  unfold signM; split
  · simp
  · split <;> simp
theorem pair_bound (xs ys : List Nat) (k i : Nat) : -1 ≤ pairM xs ys k i ∧ pairM xs ys k i ≤ 1 := by
  unfold pairM
  rcases sign_bound (xs.getD k 0) (xs.getD i 0) with h | h | h <;> rcases sign_bound (ys.getD k 0) (ys.getD i 0) with h' | h' | h' <;> rw [h, h'] <;> decide
theorem row_bound (xs ys : List Nat) (k n : Nat) : -(n : Int) ≤ sumN n (fun i => pairM xs ys k i) ∧ sumN n (fun i => pairM xs ys k i) ≤ n := by
  have := sumN_bound (B := 1) (f := fun i => pairM xs ys k i) (by omega) n (fun i _ => pair_bound xs ys k i)
  omega
theorem rows_bound (xs ys : List Nat) (k : Nat) (hk : k ≤ 96) : -9216 ≤ (sumN k fun k => sumN k fun i => pairM xs ys k i) ∧ (sumN k fun k => sumN k fun i => pairM xs ys k i) ≤ 9216 := by
  have := sumN_bound (B := 96) (f := fun k => sumN k fun i => pairM xs ys k i) (by omega) k (fun i hi => by have := row_bound xs ys i i; omega)
  omega
theorem series_len {xs : List Nat} (h : seriesM xs = true) : 1 ≤ xs.length ∧ xs.length ≤ 96 := by
  simp only [seriesM, Bool.and_eq_true, decide_eq_true_eq] at h
  omega
theorem two_len {xs ys : List Nat} (h : twoM xs ys = true) : 1 ≤ xs.length ∧ xs.length ≤ 96 ∧ ys.length = xs.length := by
  simp only [twoM, Bool.and_eq_true, beq_iff_eq] at h
  have := series_len h.1.1
  omega


theorem sign_cases (x y : Nat) : (flt .f32 x y = true ∧ fgt .f32 x y = false ∧ signM x y = -1) ∨ (flt .f32 x y = false ∧ fgt .f32 x y = true ∧ signM x y = 1) ∨ (flt .f32 x y = false ∧ fgt .f32 x y = false ∧ signM x y = 0) := by
  unfold signM flt fgt
  cases h : FloatKind.f32.format.order x y with
  | none => simp
  | some o => cases o <;> simp

def backsM (xs ys : List Nat) (n : Nat) : List Nat := (List.range n).flatMap fun i => [fadd .f32 (xs.getD i 0) (ys.getD i 0), fsub .f32 (xs.getD i 0) (ys.getD i 0)]
def backOkM (xs ys : List Nat) : Bool := twoM xs ys && (!decide ((xs.length : Int) > 48) && finAllM (backsM xs ys xs.length))

theorem backs_len (xs ys : List Nat) : ∀ n, (backsM xs ys n).length = 2 * n
  | 0 => rfl
  | n + 1 => by
    have := backs_len xs ys n
    simp only [backsM, List.range_succ, List.flatMap_append, List.length_append] at this ⊢
    simp [List.flatMap, this]; simp [List.flatMap] at this; omega
theorem backs_next (xs ys : List Nat) (n : Nat) : backsM xs ys (n + 1) = backsM xs ys n ++ [fadd .f32 (xs.getD n 0) (ys.getD n 0), fsub .f32 (xs.getD n 0) (ys.getD n 0)] := by
  simp [backsM, List.range_succ, List.flatMap_append]



theorem sz_ok {n : Nat} {i : Int} (h : decide (szM n i < 0) = false) : (n : Int) ≤ i := by
  have := of_decide_eq_false h
  unfold szM at this
  split at this <;> omega

end Go.Proofs.LV
