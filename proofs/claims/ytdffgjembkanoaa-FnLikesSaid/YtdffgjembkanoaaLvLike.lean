/- Likenesses: none passes 1, nearly. -/
import Derived.Test.YtdffgjembkanoaaLvCutX
import Derived.Test.YtdffgjembkanoaaLvFit
import Derived.Test.YtdffgjembkanoaaLvFnJ
import Derived.Test.YtdffgjembkanoaaLvFnN
import Derived.Test.YtdffgjembkanoaaLvLawW
namespace Go.Proofs.LV
open Go Ieee
set_option linter.unusedVariables false

theorem sq_le {z m : Rat} (hm : 0 ≤ m) (h : z * z ≤ m * m) : z ≤ m := by
  rcases Rat.le_total (a := z) (b := m) with h1 | h1
  · exact h1
  · rcases Decidable.em (z = m) with h2 | h2
    · rw [h2]; exact Rat.le_refl
    · exfalso
      have h3 : m < z := Rat.lt_of_le_of_ne h1 (fun h => h2 h.symm)
      have : 0 < (z - m) * (z + m) := Rat.mul_pos (by grind) (by grind)
      grind
theorem sq_abs {z m : Rat} (hm : 0 ≤ m) (h : z * z ≤ m * m) : -m ≤ z ∧ z ≤ m := ⟨by have := sq_le (z := -z) hm (by grind); grind, sq_le hm h⟩
theorem sq_nonneg (z : Rat) : 0 ≤ z * z := by
  rcases Rat.le_total (a := 0) (b := z) with h | h
  · exact Rat.mul_nonneg h h
  · have := Rat.mul_nonneg (show 0 ≤ -z by grind) (show 0 ≤ -z by grind); grind
/-- Cauchy and Schwarz -/
theorem sumQ_cs (x y : Nat → Rat) : ∀ k, sumQ k (fun i => x i * y i) * sumQ k (fun i => x i * y i) ≤ sumQ k (fun i => x i * x i) * sumQ k (fun i => y i * y i)
  | 0 => by show (0 : Rat) * 0 ≤ 0 * 0; exact Rat.le_refl
  | k + 1 => by
    have ih := sumQ_cs x y k
    have hX := sumQ_nonneg (f := fun i => x i * x i) k (fun i _ => sq_nonneg _)
    have hY := sumQ_nonneg (f := fun i => y i * y i) k (fun i _ => sq_nonneg _)
    show (sumQ k (fun i => x i * y i) + x k * y k) * (sumQ k (fun i => x i * y i) + x k * y k) ≤ (sumQ k (fun i => x i * x i) + x k * x k) * (sumQ k (fun i => y i * y i) + y k * y k)
    generalize sumQ k (fun i => x i * y i) = A at *
    generalize sumQ k (fun i => x i * x i) = X at *
    generalize sumQ k (fun i => y i * y i) = Y at *
    generalize x k = a at *
    generalize y k = b at *
    have pa := sq_nonneg a
    have pb := sq_nonneg b
    have hP := Rat.mul_nonneg hX pb
    have hQ := Rat.mul_nonneg hY pa
    have h1 := Rat.mul_le_mul_of_nonneg_right ih (Rat.mul_nonneg pa pb)
    have h2 := sq_nonneg (X * (b * b) - Y * (a * a))
    have h3 : A * a * b ≤ (X * (b * b) + Y * (a * a)) / 2 := sq_le (by grind) (by grind)
    grind
theorem sumQ_mono {f : Nat → Rat} (hf : ∀ i, 0 ≤ f i) {k : Nat} : ∀ n, k ≤ n → sumQ k f ≤ sumQ n f
  | 0, h => by have : k = 0 := by omega
               subst this; exact Rat.le_refl
  | n + 1, h => by
    rcases Nat.lt_or_ge n k with h1 | h1
    · have : k = n + 1 := by omega
      subst this; exact Rat.le_refl
    · have := sumQ_mono hf n h1
      have := hf n
      show sumQ k f ≤ sumQ n f + f n
      grind
theorem sumQ_shift (f : Nat → Rat) (l : Nat) : ∀ k, sumQ (k + l) f = sumQ l f + sumQ k (fun i => f (i + l))
  | 0 => by rw [Nat.zero_add]; show _ = _ + (0 : Rat); grind
  | k + 1 => by
    rw [show k + 1 + l = (k + l) + 1 from by omega]
    show sumQ (k + l) f + f (k + l) = sumQ l f + (sumQ k (fun i => f (i + l)) + f (k + l))
    rw [sumQ_shift f l k]; grind
theorem sumQ_part {f : Nat → Rat} (hf : ∀ i, 0 ≤ f i) {k l n : Nat} (h : k + l ≤ n) : sumQ k (fun i => f (i + l)) ≤ sumQ n f := by
  have h1 := sumQ_mono hf n h
  rw [sumQ_shift] at h1
  have := sumQ_nonneg (f := f) l (fun i _ => hf i)
  grind
/-- a sum from the left: the error measured by what the sums never pass -/
theorem acc_rel {g : Nat → Nat} {t : Nat → Rat} {n : Nat} (hn : n ≤ 22) {T : Rat} (hT : 0 ≤ T) (hTB : T ≤ 100000) (h : ∀ i, i < n → sf (g i) ∧ Nr (sv (g i)) (t i) (2 * T * e24 + eta)) (hA : ∀ k, k ≤ n → -T ≤ sumQ k t ∧ sumQ k t ≤ T) :
    sf (accN (fun i s => fadd .f32 s (g i)) n 0) ∧ Nr (sv (accN (fun i s => fadd .f32 s (g i)) n 0)) (sumQ n t) (T * (1 / 100000) + 200 * eta) := by
  have etap : (0 : Rat) ≤ eta := by decide +kernel
  have e24p : (0 : Rat) ≤ e24 := by decide +kernel
  have key : ∀ k, k ≤ n → sf (accN (fun i s => fadd .f32 s (g i)) k 0) ∧ Nr (sv (accN (fun i s => fadd .f32 s (g i)) k 0)) (sumQ k t) (k * (4 * T * e24 + 4 * eta)) := by
    intro k
    induction k with
    | zero =>
      intro _
      refine ⟨zero_sf, ?_⟩
      have z : sv (accN (fun i s => fadd .f32 s (g i)) 0 0) = 0 := zero_rv _
      rw [z]
      show Nr 0 0 (((0 : Nat) : Rat) * _)
      have : ((0 : Nat) : Rat) = 0 := rfl
      rw [this]
      exact ⟨by grind, by grind⟩
    | succ k ih =>
      intro hk
      obtain ⟨h1, h2, h3⟩ := ih (by omega)
      obtain ⟨g1, g2, g3⟩ := h k (by omega)
      obtain ⟨a1, a2⟩ := hA (k + 1) hk
      have e : sumQ (k + 1) t = sumQ k t + t k := rfl
      rw [e] at a1 a2
      have k22 : (k : Rat) ≤ 22 := nat_le_rat (show k ≤ 22 by omega)
      have k0 := nat_rat k
      have small : (22 : Rat) * (4 * e24) ≤ 1 / 4 := by decide +kernel
      have K0 : 0 ≤ 4 * T * e24 + 4 * eta := by have := Rat.mul_nonneg hT e24p; grind
      have kK := Rat.mul_le_mul_of_nonneg_right k22 K0
      have sT := Rat.mul_le_mul_of_nonneg_left small hT
      have s2 : (2 : Rat) * e24 ≤ 1 / 4 := by decide +kernel
      have sT2 := Rat.mul_le_mul_of_nonneg_left s2 hT
      have teta : 0 ≤ T * e24 := Rat.mul_nonneg hT e24p
      have e24s : (e24 : Rat) ≤ 1 / 1000 := by decide +kernel
      have etae := Rat.mul_le_mul_of_nonneg_left e24s etap
      have eta0 := Rat.mul_nonneg etap e24p
      have eta1 : (eta : Rat) ≤ 1 := by decide +kernel
      obtain ⟨r1, r2, r3⟩ := s_add (B := 2 * T + 200 * eta) h1 g1 (by grind) (by grind) (by grind)
      refine ⟨r1, ?_⟩
      show Nr (sv (fadd .f32 _ (g k))) (sumQ k t + t k) _
      rw [nat_succ]
      exact ⟨by grind, by grind⟩
  obtain ⟨a, b, c⟩ := key n (Nat.le_refl n)
  have n22 : (n : Rat) ≤ 22 := nat_le_rat hn
  have n0 := nat_rat n
  have K0 : 0 ≤ 4 * T * e24 + 4 * eta := by have := Rat.mul_nonneg hT e24p; grind
  have nK := Rat.mul_le_mul_of_nonneg_right n22 K0
  have small : (22 : Rat) * (4 * e24) ≤ 1 / 100000 := by decide +kernel
  have sT := Rat.mul_le_mul_of_nonneg_left small hT
  exact ⟨a, by grind, by grind⟩

/-- a list of numbers, each less the mean -/
def Of (x : Nat → Nat) (n : Nat) : Prop := ∀ i, i < n → sf (x i) ∧ -9 ≤ sv (x i) ∧ sv (x i) ≤ 9
def r2 (x : Nat → Nat) (n : Nat) : Rat := sumQ n fun i => sv (x i) * sv (x i)
theorem r2_le {x : Nat → Nat} {n : Nat} (hn : n ≤ 22) (h : Of x n) : 0 ≤ r2 x n ∧ r2 x n ≤ 1782 := by
  refine ⟨sumQ_nonneg _ (fun i _ => sq_nonneg _), ?_⟩
  have := sumQ_le (f := fun i => sv (x i) * sv (x i)) (C := 81) n (fun i hi => by
    obtain ⟨_, a, b⟩ := h i hi
    have s := sq_nonneg (sv (x i))
    refine ⟨by grind, ?_⟩
    rcases Rat.le_total (a := 0) (b := sv (x i)) with h1 | h1
    · have := mul_mono h1 h1 b b; grind
    · have := mul_mono (show 0 ≤ -sv (x i) by grind) (show 0 ≤ -sv (x i) by grind) (show -sv (x i) ≤ 9 by grind) (show -sv (x i) ≤ 9 by grind); grind)
  have n22 : (n : Rat) ≤ 22 := nat_le_rat hn
  unfold r2; grind
theorem like_core {x y : Nat → Nat} {n m lx ly : Nat} (hn : n ≤ 22) (hx : Of x n) (hy : Of y n) (h1 : m + lx ≤ n) (h2 : m + ly ≤ n) {T : Rat} (hT : 0 ≤ T) (hTB : T ≤ 100000) (hTT : r2 x n * r2 y n ≤ T * T) :
    sf (accN (fun j s => fadd .f32 s (fmul .f32 (x (j + lx)) (y (j + ly)))) m 0) ∧ Nr (sv (accN (fun j s => fadd .f32 s (fmul .f32 (x (j + lx)) (y (j + ly)))) m 0)) (sumQ m fun j => sv (x (j + lx)) * sv (y (j + ly))) (T * (1 / 100000) + 200 * eta) ∧
    -T ≤ (sumQ m fun j => sv (x (j + lx)) * sv (y (j + ly))) ∧ (sumQ m fun j => sv (x (j + lx)) * sv (y (j + ly))) ≤ T := by
  have part : ∀ k, k ≤ m → -T ≤ (sumQ k fun j => sv (x (j + lx)) * sv (y (j + ly))) ∧ (sumQ k fun j => sv (x (j + lx)) * sv (y (j + ly))) ≤ T := by
    intro k hk
    refine sq_abs hT ?_
    have a := sumQ_cs (fun j => sv (x (j + lx))) (fun j => sv (y (j + ly))) k
    have b := sumQ_part (f := fun i => sv (x i) * sv (x i)) (fun i => sq_nonneg _) (k := k) (l := lx) (n := n) (by omega)
    have c := sumQ_part (f := fun i => sv (y i) * sv (y i)) (fun i => sq_nonneg _) (k := k) (l := ly) (n := n) (by omega)
    have d := mul_mono (sumQ_nonneg (f := fun j => sv (x (j + lx)) * sv (x (j + lx))) k (fun i _ => sq_nonneg _)) (sumQ_nonneg (f := fun j => sv (y (j + ly)) * sv (y (j + ly))) k (fun i _ => sq_nonneg _)) b c
    exact Rat.le_trans a (Rat.le_trans d hTT)
  have := acc_rel (g := fun j => fmul .f32 (x (j + lx)) (y (j + ly))) (t := fun j => sv (x (j + lx)) * sv (y (j + ly))) (n := m) (by omega) hT hTB (fun j hj => by
    obtain ⟨p1, p2⟩ := part j (by omega)
    obtain ⟨p3, p4⟩ := part (j + 1) (by omega)
    have e : (sumQ (j + 1) fun j => sv (x (j + lx)) * sv (y (j + ly))) = (sumQ j fun j => sv (x (j + lx)) * sv (y (j + ly))) + sv (x (j + lx)) * sv (y (j + ly)) := rfl
    rw [e] at p3 p4
    exact s_mul (B := 2 * T) (hx _ (by omega)).1 (hy _ (by omega)).1 (by grind) (by grind) (by grind)) part
  exact ⟨this.1, this.2, part m (Nat.le_refl m)⟩
/-- a quotient of what is at most T and what is nearly T -/
theorem like_div {a d : Nat} {T : Rat} (hT : 1 / 1000 ≤ T) (ha : sf a) (hd : sf d) (h1 : -(T * (1 + 1 / 50000)) ≤ sv a) (h2 : sv a ≤ T * (1 + 1 / 50000)) (h3 : T * (1 - 1 / 40000) ≤ sv d) :
    sf (fdiv .f32 a d) ∧ -(10002 / 10000) ≤ sv (fdiv .f32 a d) ∧ sv (fdiv .f32 a d) ≤ 10002 / 10000 := by
  have d0 : 0 < sv d := by grind
  have hq : sv a / sv d * sv d = sv a := by grind
  generalize sv a / sv d = q at *
  have hb : -(10001 / 10000) ≤ q ∧ q ≤ 10001 / 10000 := div_bound (e := T * (1 + 1 / 50000)) d0 (by grind) (by grind) (by grind)
  obtain ⟨r1, r2, r3⟩ := s_div (B := 10001 / 10000) (q := q) ha hd (by grind) hq hb.1 hb.2 (by decide +kernel)
  have k1 : (10001 : Rat) / 10000 * e23 + eta ≤ 1 / 10000 := by decide +kernel
  exact ⟨r1, by grind, by grind⟩
/-- what is left of a drawn list: nothing, or not too little -/
theorem off_cases {xs : List Nat} {n : Nat} (hn : 3 ≤ n ∧ n ≤ 22) (hl : xs.length = n) (hq : ∀ i, i < n → Qx (xs.getD i 0)) :
    Of (fun i => (offM xs).getD i 0) n ∧ ((∀ i, i < n → sv ((offM xs).getD i 0) = 0) ∨ 1 / 70 ≤ r2 (fun i => (offM xs).getD i 0) n) := by
  have hS : Sm xs n := ⟨hl, fun i hi => by have := q_bound (hq i hi); exact ⟨(hq i hi).1, by grind, by grind⟩⟩
  obtain ⟨m1, m2⟩ := mean_near hn hS
  have hav : -4 ≤ avQ xs n ∧ avQ xs n ≤ 4 := by
    have n3 : (3 : Rat) ≤ n := nat_le_rat hn.1
    have hs := sumQ_le (f := fun i => sv (xs.getD i 0)) (C := 4) n (fun i hi => q_bound (hq i hi))
    have e : avQ xs n * n = sumQ n fun i => sv (xs.getD i 0) := by unfold avQ; grind
    rw [← e] at hs
    exact div_bound (d := n) (by grind) hs.1 hs.2 (by grind)
  have eO : ∀ i, i < n → (offM xs).getD i 0 = fsub .f32 (xs.getD i 0) (meanM xs) := fun i hi => by
    unfold offM lessOneM; rw [tab_at _ _ (by rw [hl]; exact hi)]
  have hsub : ∀ i, i < n → sf ((offM xs).getD i 0) ∧ Nr (sv ((offM xs).getD i 0)) (sv (xs.getD i 0) - sv (meanM xs)) (1 / 100000) := fun i hi => by
    rw [eO i hi]
    have b := q_bound (hq i hi)
    obtain ⟨x, y⟩ := m2
    obtain ⟨r1, r2, r3⟩ := s_sub (B := 9) (hq i hi).1 m1 (by grind) (by grind) (by decide)
    have k : (9 : Rat) * e24 + eta ≤ 1 / 100000 := by decide +kernel
    exact ⟨r1, by grind, by grind⟩
  refine ⟨fun i hi => ?_, ?_⟩
  · obtain ⟨a, b, c⟩ := hsub i hi
    have bb := q_bound (hq i hi)
    obtain ⟨x, y⟩ := m2
    exact ⟨a, by grind, by grind⟩
  by_cases hc : ∀ i, i < n → sv (xs.getD i 0) = sv (xs.getD 0 0)
  · left
    have n3 : (3 : Rat) ≤ n := nat_le_rat hn.1
    -- the mean is exact
    obtain ⟨a1, a2, a3⟩ := acc_gr (g := fun i => xs.getD i 0) (j := -2) (b := 16) (by omega) (by omega) n (by omega) (fun i hi => hq i hi)
    rw [sumQ_congr (g := fun _ => sv (xs.getD 0 0)) n hc, sumQ_const] at a3
    obtain ⟨f1, f2⟩ := fofi_n (n := n) (by omega)
    have hm : sf (meanM xs) ∧ sv (meanM xs) = sv (xs.getD 0 0) := by
      unfold meanM sumM
      rw [hl]
      exact div_gr .f32 (q := sv (xs.getD 0 0)) a1 f1 (by show sv _ ≠ 0; rw [f2]; grind) (by show _ * sv _ = sv _; rw [f2, a3]; grind) (hq 0 (by omega)).2 (by decide) (by decide) (by decide)
    intro i hi
    rw [eO i hi]
    obtain ⟨c, d⟩ := sub_gr .f32 (hq i hi).1 hm.1 (hq i hi).2 (by show Gr (-2) 16 (sv _); rw [hm.2]; exact (hq 0 (by omega)).2) (by decide) (by decide) (by decide)
    have d : sv (fsub .f32 (xs.getD i 0) (meanM xs)) = sv (xs.getD i 0) - sv (meanM xs) := d
    rw [d, hm.2, hc i hi]; grind
  · right
    obtain ⟨i, hi⟩ := Classical.not_forall.1 hc
    obtain ⟨hi, hne⟩ := Classical.not_imp.1 hi
    -- the two differ by a quarter at least
    obtain ⟨c, c1, _⟩ := (hq i hi).2
    obtain ⟨d, d1, _⟩ := (hq 0 (by omega)).2
    have qt : (2 : Rat) ^ (-2 : Int) = 1 / 4 := zp_neg 2 _ (by decide +kernel)
    rw [qt] at c1 d1
    have hcd : c ≠ d := by intro h; rw [h] at c1; exact hne (by rw [c1, d1])
    obtain ⟨a1, a2, a3⟩ := hsub i hi
    obtain ⟨b1, b2, b3⟩ := hsub 0 (by omega)
    have hbig : ∃ k, k < n ∧ 1 / 69 ≤ sv ((offM xs).getD k 0) * sv ((offM xs).getD k 0) := by
      have h4 : ∀ {z : Rat}, (1 / 8 - 1 / 1000 ≤ z ∨ z ≤ -(1 / 8 - 1 / 1000)) → 1 / 69 ≤ z * z := by
        intro z h
        rcases h with h | h
        · have := mul_mono (show (0 : Rat) ≤ 1 / 8 - 1 / 1000 by decide +kernel) (show (0 : Rat) ≤ 1 / 8 - 1 / 1000 by decide +kernel) h h; grind
        · have h' : 1 / 8 - 1 / 1000 ≤ -z := by grind
          have := mul_mono (show (0 : Rat) ≤ 1 / 8 - 1 / 1000 by decide +kernel) (show (0 : Rat) ≤ 1 / 8 - 1 / 1000 by decide +kernel) h' h'; grind
      rcases Int.lt_or_gt_of_ne hcd with h | h
      · have h5 : (c : Rat) + 1 ≤ d := by have := Rat.intCast_le_intCast.2 (show c + 1 ≤ d by omega); rw [Rat.intCast_add] at this; exact this
        rcases Rat.le_total (a := sv ((offM xs).getD i 0)) (b := -(1 / 8 - 1 / 1000)) with h6 | h6
        · exact ⟨i, hi, h4 (.inr h6)⟩
        · exact ⟨0, by omega, h4 (.inl (by grind))⟩
      · have h5 : (d : Rat) + 1 ≤ c := by have := Rat.intCast_le_intCast.2 (show d + 1 ≤ c by omega); rw [Rat.intCast_add] at this; exact this
        rcases Rat.le_total (a := 1 / 8 - 1 / 1000) (b := sv ((offM xs).getD i 0)) with h6 | h6
        · exact ⟨i, hi, h4 (.inl h6)⟩
        · exact ⟨0, by omega, h4 (.inr (by grind))⟩
    obtain ⟨k, hk, hk2⟩ := hbig
    have := sumQ_part (f := fun i => sv ((offM xs).getD i 0) * sv ((offM xs).getD i 0)) (fun i => sq_nonneg _) (k := 1) (l := k) (n := n) (by omega)
    have e : (sumQ 1 fun i => sv ((offM xs).getD (i + k) 0) * sv ((offM xs).getD (i + k) 0)) = 0 + sv ((offM xs).getD (0 + k) 0) * sv ((offM xs).getD (0 + k) 0) := rfl
    rw [e, Nat.zero_add] at this
    unfold r2
    grind
end Go.Proofs.LV
