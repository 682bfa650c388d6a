/- Spreads, and series that are made even. -/
import Derived.Test.YtjfgmnfkkehgfaaLvRootX
namespace Go.Proofs.LV
open Go Ieee
set_option linter.unusedVariables false
set_option linter.unusedSimpArgs false

/-! ### spreads -/
theorem sumQ_two {f : Nat → Rat} (hf : ∀ i, 0 ≤ f i) {i j : Nat} (hij : i < j) : ∀ n, j < n → f i + f j ≤ sumQ n f
  | n + 1, h => by
    have e : sumQ (n + 1) f = sumQ n f + f n := rfl
    rw [e]
    by_cases hj : j = n
    · subst hj
      have : f i ≤ sumQ j f := by
        have h1 := sumQ_mono hf (k := i + 1) j (by omega)
        have e1 : sumQ (i + 1) f = sumQ i f + f i := rfl
        have := sumQ_nonneg (f := f) i (fun k _ => hf k)
        grind
      grind
    · have := sumQ_two hf hij n (by omega)
      have := hf n
      grind
theorem sumQ_one {f : Nat → Rat} (hf : ∀ i, 0 ≤ f i) {i n : Nat} (h : i < n) : f i ≤ sumQ n f := by
  have h1 := sumQ_mono hf (k := i + 1) n (by omega)
  have e1 : sumQ (i + 1) f = sumQ i f + f i := rfl
  have := sumQ_nonneg (f := f) i (fun k _ => hf k)
  grind
theorem sumQ_mono2 {f g : Nat → Rat} : ∀ n, (∀ i, i < n → f i ≤ g i) → sumQ n f ≤ sumQ n g
  | 0, _ => Rat.le_refl
  | n + 1, h => by
    have := sumQ_mono2 n (fun i hi => h i (by omega))
    have := h n (by omega)
    show sumQ n f + f n ≤ sumQ n g + g n
    grind
/-- the sum of the squares of a list -/
theorem dot_sq {x : Nat → Nat} {n : Nat} (hn : n ≤ 22) (h : ∀ i, i < n → sf (x i) ∧ -60 ≤ sv (x i) ∧ sv (x i) ≤ 60) :
    sf (accN (fun i s => fadd .f32 s (fmul .f32 (x i) (x i))) n 0) ∧ Nr (sv (accN (fun i s => fadd .f32 s (fmul .f32 (x i) (x i))) n 0)) (r2 x n) (r2 x n * (1 / 100000) + 200 * eta) ∧ 0 ≤ r2 x n ∧ r2 x n ≤ 100000 := by
  have h0 : 0 ≤ r2 x n := sumQ_nonneg _ (fun i _ => sq_nonneg _)
  have hT : r2 x n ≤ 100000 := by
    have := sumQ_le (f := fun i => sv (x i) * sv (x i)) (C := 3600) n (fun i hi => by
      obtain ⟨_, a, b⟩ := h i hi
      have := mul_abs_le (A := 60) (B := 60) (by decide) (by decide) a b a b
      have : (60 : Rat) * 60 = 3600 := by decide +kernel
      constructor <;> grind)
    have n22 : (n : Rat) ≤ 22 := nat_le_rat hn
    show sumQ n _ ≤ _
    grind
  have := acc_rel (g := fun i => fmul .f32 (x i) (x i)) (t := fun i => sv (x i) * sv (x i)) hn (T := r2 x n) h0 hT (fun i hi => by
    obtain ⟨a, b, c⟩ := h i hi
    have one : sv (x i) * sv (x i) ≤ r2 x n := sumQ_one (f := fun i => sv (x i) * sv (x i)) (fun i => sq_nonneg _) hi
    have p := sq_nonneg (sv (x i))
    obtain ⟨m1, m2, m3⟩ := s_mul (B := r2 x n) a a (by grind) one (Rat.le_trans hT (by decide +kernel))
    have e24p : (0 : Rat) ≤ e24 := by decide +kernel
    have := Rat.mul_nonneg h0 e24p
    exact ⟨m1, by grind, by grind⟩) (fun k hk => by
    have := sumQ_nonneg (f := fun i => sv (x i) * sv (x i)) k (fun i _ => sq_nonneg _)
    have := sumQ_mono (f := fun i => sv (x i) * sv (x i)) (fun i => sq_nonneg _) n hk
    exact ⟨by grind, this⟩)
  exact ⟨this.1, this.2, h0, hT⟩
/-- the root of the mean of squares -/
theorem spread_core {S n : Nat} {T : Rat} (hn : 1 ≤ n ∧ n ≤ 22) (hS : sf S) (hN : Nr (sv S) T (T * (1 / 100000) + 200 * eta)) (h1 : 1 / 10 ≤ T) (h2 : T ≤ 100000) :
    sf (rootM (fdiv .f32 S (fofi .f32 (n : Int)))) ∧ 1 / 1000 ≤ sv (rootM (fdiv .f32 S (fofi .f32 (n : Int)))) ∧ sv (rootM (fdiv .f32 S (fofi .f32 (n : Int)))) ≤ 10000 ∧
      T * (1 - 1 / 50000) ≤ (n : Rat) * (sv (rootM (fdiv .f32 S (fofi .f32 (n : Int)))) * sv (rootM (fdiv .f32 S (fofi .f32 (n : Int))))) ∧ (n : Rat) * (sv (rootM (fdiv .f32 S (fofi .f32 (n : Int)))) * sv (rootM (fdiv .f32 S (fofi .f32 (n : Int))))) ≤ T * (1 + 1 / 50000) := by
  obtain ⟨f1, f2⟩ := fofi_rv .f32 (n := (n : Int)) (nat_small (by omega))
  have f2 : sv (fofi .f32 (n : Int)) = (n : Rat) := f2
  have n1 : (1 : Rat) ≤ n := nat_le_rat hn.1
  have n22 : (n : Rat) ≤ 22 := nat_le_rat hn.2
  obtain ⟨N1, N2⟩ := hN
  have he : 200 * eta ≤ 1 / 10 * (1 / 1000000) := by decide +kernel
  have S1 : T * (1 - 11 / 1000000 - 1 / 1000000) ≤ sv S := by grind
  have S2 : sv S ≤ T * (1 + 11 / 1000000 + 1 / 1000000) := by grind
  obtain ⟨q, hq⟩ : ∃ q : Rat, q * (n : Rat) = sv S := ⟨sv S / (n : Rat), Rat.div_mul_cancel (by grind)⟩
  have q0 : 0 ≤ q := by
    refine Rat.not_lt.1 fun hlt => ?_
    have := Rat.mul_lt_mul_of_pos_right hlt (show (0 : Rat) < n by grind)
    grind
  have qS : q ≤ sv S := by
    have := Rat.mul_le_mul_of_nonneg_left n1 q0
    grind
  have qlo : 1 / 250 ≤ q := by
    have := Rat.mul_le_mul_of_nonneg_left n22 q0
    grind
  obtain ⟨d1, d2, d3⟩ := s_div (B := q) hS f1 (by rw [f2]; grind) (q := q) (by rw [f2]; exact hq) (by grind) Rat.le_refl (by grind)
  have k1 : e23 ≤ 1 / 8000000 := by decide +kernel
  have k2 : eta ≤ 1 / 250 * (1 / 100000000) := by decide +kernel
  have k3 := Rat.mul_le_mul_of_nonneg_left k1 q0
  generalize fdiv .f32 S (fofi .f32 (n : Int)) = Z at *
  have z1 : q * (1 - 1 / 4000000) ≤ sv Z := by grind
  have z2 : sv Z ≤ q * (1 + 1 / 4000000) := by grind
  obtain ⟨r1, r2, r3, r4, r5⟩ := root_near d1 (by grind) (by grind)
  refine ⟨r1, r2, r3, ?_, ?_⟩
  · have a1 := Rat.mul_le_mul_of_nonneg_left r4 (show (0 : Rat) ≤ n by grind)
    have a2 := Rat.mul_le_mul_of_nonneg_left z1 (show (0 : Rat) ≤ n by grind)
    grind
  · have a1 := Rat.mul_le_mul_of_nonneg_left r5 (show (0 : Rat) ≤ n by grind)
    have a2 := Rat.mul_le_mul_of_nonneg_left z2 (show (0 : Rat) ≤ n by grind)
    grind
/-- the mean of a list on the half grid -/
theorem mean_ex {w : List Nat} (h : HL 100 w) (hl : 1 ≤ w.length ∧ w.length ≤ 96) :
    ∃ q : Rat, q * (w.length : Rat) = (sumQ w.length fun i => sv (w.getD i 0)) ∧ sf (meanM w) ∧ Nr (sv (meanM w)) q (1 / 100000) ∧ -50 ≤ q ∧ q ≤ 50 := by
  obtain ⟨s1, s2, s3⟩ := acc_gr (g := fun i => w.getD i 0) (j := -1) (b := 100) (by omega) (by omega) w.length (by omega) (fun i hi => h i hi)
  obtain ⟨f1, f2⟩ := fofi_rv .f32 (n := (w.length : Int)) (nat_small hl.2)
  have f2 : sv (fofi .f32 (w.length : Int)) = (w.length : Rat) := f2
  have hn : (1 : Rat) ≤ (w.length : Rat) := nat_le_rat hl.1
  obtain ⟨q, hq⟩ : ∃ q : Rat, q * (w.length : Rat) = sumQ w.length fun i => sv (w.getD i 0) := ⟨(sumQ w.length fun i => sv (w.getD i 0)) / (w.length : Rat), Rat.div_mul_cancel (by grind)⟩
  have h2 := sumQ_between (lo := -50) (hi := 50) w.length (fun i hi => by have := (h i hi).bound b100; exact this)
  obtain ⟨k1, k2⟩ := rat_div_between (by grind) hq h2.1 h2.2
  obtain ⟨d1, d2, d3⟩ := s_div (B := 50) s1 f1 (by rw [f2]; grind) (q := q) (by rw [f2, hq]; exact s3.symm) k1 k2 (by decide +kernel)
  have hE : 50 * e23 + eta ≤ 1 / 100000 := by decide +kernel
  exact ⟨q, hq, d1, ⟨Rat.le_trans d2 hE, Rat.le_trans d3 hE⟩, k1, k2⟩
/-- numbers that are all the same -/
theorem mean_all {w : List Nat} (h : HL 100 w) (hl : 1 ≤ w.length ∧ w.length ≤ 96) {c : Rat} (hc : ∀ i, i < w.length → sv (w.getD i 0) = c) : sf (meanM w) ∧ sv (meanM w) = c := by
  obtain ⟨s1, s2, s3⟩ := acc_gr (g := fun i => w.getD i 0) (j := -1) (b := 100) (by omega) (by omega) w.length (by omega) (fun i hi => h i hi)
  obtain ⟨f1, f2⟩ := fofi_rv .f32 (n := (w.length : Int)) (nat_small hl.2)
  have f2 : sv (fofi .f32 (w.length : Int)) = (w.length : Rat) := f2
  have hn : (1 : Rat) ≤ (w.length : Rat) := nat_le_rat hl.1
  rw [sumQ_congr (g := fun _ => c) w.length hc, sumQ_const] at s3
  have hg : Gr (-1) 100 c := by rw [← hc 0 (by omega)]; exact (h 0 (by omega)).2
  have := div_gr .f32 (q := c) (j := -1) (b := 100) s1 f1 (by show sv _ ≠ 0; rw [f2]; grind) (by show c * sv _ = sv _; rw [f2, s3]; grind) hg (by decide) (by decide) (by decide)
  exact this
theorem off_at (xs : List Nat) {i : Nat} (hi : i < xs.length) : (offM xs).getD i 0 = fsub .f32 (xs.getD i 0) (meanM xs) := tab_at' _ _ hi
theorem spread_is (xs : List Nat) : spreadM xs = rootM (fdiv .f32 (accN (fun i s => fadd .f32 s (fmul .f32 ((offM xs).getD i 0) ((offM xs).getD i 0))) xs.length 0) (fofi .f32 (xs.length : Int))) := by
  have e : squaresM xs = accN (fun i s => fadd .f32 s (fmul .f32 ((offM xs).getD i 0) ((offM xs).getD i 0))) xs.length 0 := by
    show accN _ (lessOneM xs (meanM xs)).length 0 = _
    rw [lessOne_len]; rfl
  unfold spreadM
  rw [e]
/-- a root of nothing -/
theorem rung_zero {x : Nat} (hx : sf x) (h : sv x = 0) : single.read x = single.read 0 ∨ single.read x = single.read 2147483648 := by
  have h1 : srung .f32 x = srung .f32 0 := (srung_rv .f32 x 0).2.2 (by show sv x = sv 0; rw [h]; exact (zero_rv _).symm)
  have h0 : rung single x = 0 := by
    have e : srung .f32 0 = 0 := by decide
    rw [e] at h1
    unfold srung sg at h1
    have h1 : (if sign single x = true then -((rung single x : Nat) : Int) else (rung single x : Nat)) = 0 := h1
    split at h1 <;> omega
  unfold rung at h0
  have e2 : single.signWeight = 2147483648 := by decide
  rw [e2] at h0
  cases hs : (x / 2147483648 % 2 == 1) with
  | false =>
    left
    unfold Format.read
    simp only [e2, h0, hs]
    rfl
  | true =>
    right
    unfold Format.read
    simp only [e2, h0, hs]
    rfl
theorem root_zero {x : Nat} (hx : sf x) (h : sv x = 0) : sf (rootM x) ∧ sv (rootM x) = 0 := by
  have key : ∀ y : Nat, single.read x = single.read y → rootM x = rootM y := by
    intro y e
    unfold rootM
    have : fconv .f32 .f64 x = fconv .f32 .f64 y := by unfold fconv FloatKind.decode FloatKind.format; simp only [reduceCtorEq, if_false]; rw [e]
    rw [this]
  rcases rung_zero hx h with e | e <;> rw [key _ e]
  · have : rootM 0 = 0 := by decide +kernel
    rw [this]; exact ⟨zero_sf, zero_rv _⟩
  · have : rootM 2147483648 = 2147483648 := by decide +kernel
    rw [this]
    have hf : fnt single 2147483648 := by unfold fnt; decide
    refine ⟨hf, ?_⟩
    have e1 := rv_read (s := true) (m := 0) (e := -149) hf (by decide +kernel)
    show rv single _ = 0
    rw [e1]; decide +kernel
theorem HL46 : ((46 : Nat) : Rat) * 2 ^ (-1 : Int) ≤ 23 := by decide +kernel
theorem half_gap {a b x y : Nat} (hx : Hg a x) (hy : Hg b y) (h : sv x ≠ sv y) : 1 / 4 ≤ (sv x - sv y) * (sv x - sv y) := by
  obtain ⟨c, hc, _⟩ := hx.2.sub hy.2
  rw [hc, half_zp]
  have c0 : c ≠ 0 := by
    intro e
    rw [e] at hc
    have : ((0 : Int) : Rat) = 0 := rfl
    rw [this] at hc
    grind
  have h1 : 1 ≤ c * c := by
    rcases Int.lt_or_gt_of_ne c0 with h | h
    · have := Int.mul_le_mul (show 1 ≤ -c by omega) (show 1 ≤ -c by omega) (by omega) (by omega)
      rw [Int.neg_mul_neg] at this; omega
    · have := Int.mul_le_mul (show 1 ≤ c by omega) (show 1 ≤ c by omega) (by omega) (by omega)
      omega
  have h2 : ((1 : Int) : Rat) ≤ ((c * c : Int) : Rat) := Rat.intCast_le_intCast.2 h1
  rw [Rat.intCast_mul] at h2
  have e1 : ((1 : Int) : Rat) = 1 := rfl
  rw [e1] at h2
  grind
/-- the list, each less the mean: what is told of it -/
structure OffT (xs : List Nat) (T : Rat) (n : Nat) : Prop where
  ln : xs.length = n
  r : ∀ i, i < n → sf ((offM xs).getD i 0) ∧ -60 ≤ sv ((offM xs).getD i 0) ∧ sv ((offM xs).getD i 0) ≤ 60
  t : r2 (fun i => (offM xs).getD i 0) n = T
  sm : -(n * (1 / 60000)) ≤ (sumQ n fun i => sv ((offM xs).getD i 0)) ∧ (sumQ n fun i => sv ((offM xs).getD i 0)) ≤ n * (1 / 60000)
theorem off_near {xs : List Nat} (h : HL 46 xs) (hl : 1 ≤ xs.length ∧ xs.length ≤ 22) : ∃ q : Rat, (∀ i, i < xs.length → sf ((offM xs).getD i 0) ∧ Nr (sv ((offM xs).getD i 0)) (sv (xs.getD i 0) - q) (1 / 70000)) ∧
    q * (xs.length : Rat) = (sumQ xs.length fun i => sv (xs.getD i 0)) ∧ (-23 ≤ q ∧ q ≤ 23) ∧ (sf (meanM xs) ∧ Nr (sv (meanM xs)) q (1 / 100000)) := by
  obtain ⟨q, q1, q2, q3, _, _⟩ := mean_ex (h.mono (show 46 ≤ 100 by omega)) ⟨hl.1, by omega⟩
  have hn : (1 : Rat) ≤ (xs.length : Rat) := nat_le_rat hl.1
  have hb := sumQ_between (lo := -23) (hi := 23) xs.length (fun i hi => (h i hi).bound HL46)
  obtain ⟨k1, k2⟩ := rat_div_between (by grind) q1 hb.1 hb.2
  refine ⟨q, fun i hi => ?_, q1, ⟨k1, k2⟩, q2, q3⟩
  obtain ⟨x1, x2⟩ := (h i hi).bound HL46
  obtain ⟨m1, m2⟩ := q3
  rw [off_at _ hi]
  obtain ⟨d1, d2, d3⟩ := s_sub (B := 50) (h i hi).1 q2 (by grind) (by grind) (by decide +kernel)
  have hE : 50 * e24 + eta ≤ 1 / 300000 := by decide +kernel
  exact ⟨d1, by grind, by grind⟩
theorem off_t {xs : List Nat} (h : HL 46 xs) (hl : 1 ≤ xs.length ∧ xs.length ≤ 22) : ∃ T, OffT xs T xs.length := by
  obtain ⟨q, o1, o2, o3, _⟩ := off_near h hl
  refine ⟨_, ⟨rfl, fun i hi => ?_, rfl, ?_⟩⟩
  · obtain ⟨a, b, c⟩ := o1 i hi
    obtain ⟨x1, x2⟩ := (h i hi).bound HL46
    exact ⟨a, by grind, by grind⟩
  · have e : (sumQ xs.length fun i => sv ((offM xs).getD i 0)) = (sumQ xs.length fun i => (sv ((offM xs).getD i 0) - (sv (xs.getD i 0) - q))) := by
      rw [sumQ_sub (fun i => sv ((offM xs).getD i 0)) (fun i => sv (xs.getD i 0) - q), sumQ_sub (fun i => sv (xs.getD i 0)) (fun _ => q), sumQ_const, ← o2]
      grind
    rw [e]
    exact sumQ_le (C := 1 / 60000) xs.length (fun i hi => by
      obtain ⟨a, b, c⟩ := o1 i hi
      constructor <;> grind)
/-- a spread: either all numbers are the same, or it is not small -/
theorem spread_cases {xs : List Nat} (h : HL 46 xs) (hl : 1 ≤ xs.length ∧ xs.length ≤ 22) {T : Rat} (o : OffT xs T xs.length) :
    (sf (spreadM xs) ∧ sv (spreadM xs) = 0) ∨
    (1 / 10 ≤ T ∧ sf (spreadM xs) ∧ 6 / 100 ≤ sv (spreadM xs) ∧ T * (1 - 1 / 50000) ≤ (xs.length : Rat) * (sv (spreadM xs) * sv (spreadM xs)) ∧ (xs.length : Rat) * (sv (spreadM xs) * sv (spreadM xs)) ≤ T * (1 + 1 / 50000)) := by
  obtain ⟨D1, D2, D3, D4⟩ := dot_sq (x := fun i => (offM xs).getD i 0) hl.2 o.r
  rw [spread_is]
  by_cases hall : ∀ i, i < xs.length → sv (xs.getD i 0) = sv (xs.getD 0 0)
  · left
    obtain ⟨m1, m2⟩ := mean_all (h.mono (show 46 ≤ 100 by omega)) ⟨hl.1, by omega⟩ hall
    have hr : ∀ i, i < xs.length → sf ((offM xs).getD i 0) ∧ sv ((offM xs).getD i 0) = 0 := fun i hi => by
      rw [off_at _ hi]
      have hm : Gr (-1) 46 (sv (meanM xs)) := by rw [m2]; exact (h 0 (by omega)).2
      obtain ⟨a, b⟩ := sub_gr .f32 (h i hi).1 m1 (h i hi).2 hm (by decide) (by decide) (by decide)
      have b : sv (fsub .f32 (xs.getD i 0) (meanM xs)) = sv (xs.getD i 0) - sv (meanM xs) := b
      exact ⟨a, by rw [b, m2, hall i hi]; grind⟩
    have z : Gr (-1) 0 (0 : Rat) := Gr.zero _ _
    have hacc := acc_gr (g := fun i => fmul .f32 ((offM xs).getD i 0) ((offM xs).getD i 0)) (j := -1) (b := 0) (by omega) (by omega) xs.length (by omega) (fun i hi => by
      obtain ⟨a, b⟩ := hr i hi
      have ga : Gr 0 0 (rv single ((offM xs).getD i 0)) := by rw [show rv single ((offM xs).getD i 0) = 0 from b]; exact Gr.zero _ _
      obtain ⟨p1, p2⟩ := mul_gr .f32 (i := 0) (j := 0) (a := 0) (b := 0) a a ga ga (by decide) (by decide) (by decide)
      have p2 : sv (fmul .f32 ((offM xs).getD i 0) ((offM xs).getD i 0)) = sv ((offM xs).getD i 0) * sv ((offM xs).getD i 0) := p2
      exact ⟨p1, by rw [p2, b]; simp only [Rat.mul_zero]; exact Gr.zero _ _⟩)
    obtain ⟨s1, s2, _⟩ := hacc
    generalize accN (fun i s => fadd .f32 s (fmul .f32 ((offM xs).getD i 0) ((offM xs).getD i 0))) xs.length 0 = S at *
    have hS0 : sv S = 0 := by
      obtain ⟨c, hc, hb⟩ := s2
      rw [hc]
      have : c = 0 := by omega
      rw [this]
      have : ((0 : Int) : Rat) = 0 := rfl
      rw [this, Rat.zero_mul]
    obtain ⟨f1, f2⟩ := fofi_rv .f32 (n := (xs.length : Int)) (nat_small (by omega))
    have f2 : sv (fofi .f32 (xs.length : Int)) = (xs.length : Rat) := f2
    have hn : (1 : Rat) ≤ (xs.length : Rat) := nat_le_rat hl.1
    obtain ⟨d1, d2⟩ := div_gr .f32 (q := 0) (j := -1) (b := 0) s1 f1 (by show sv _ ≠ 0; rw [f2]; grind) (by show 0 * _ = sv S; rw [hS0, Rat.zero_mul]) z (by decide) (by decide) (by decide)
    exact root_zero d1 d2
  · right
    simp only [Classical.not_forall] at hall
    obtain ⟨i, hi, hne⟩ := hall
    have hi0 : 0 < i := by
      apply Nat.pos_of_ne_zero
      intro e; rw [e] at hne; exact hne rfl
    obtain ⟨q, o1, o2, o3, _⟩ := off_near h hl
    have g := half_gap (h i hi) (h 0 (by omega)) hne
    obtain ⟨_, a1, a2⟩ := o1 i hi
    obtain ⟨_, b1, b2⟩ := o1 0 (by omega)
    have tw := sumQ_two (f := fun i => sv ((offM xs).getD i 0) * sv ((offM xs).getD i 0)) (fun i => sq_nonneg _) hi0 xs.length hi
    have hT : sv ((offM xs).getD 0 0) * sv ((offM xs).getD 0 0) + sv ((offM xs).getD i 0) * sv ((offM xs).getD i 0) ≤ T := by rw [← o.t]; exact tw
    obtain ⟨x1, x2⟩ := (h i hi).bound HL46
    obtain ⟨y1, y2⟩ := (h 0 (by omega)).bound HL46
    have hT1 : 1 / 10 ≤ T := by
      generalize sv ((offM xs).getD 0 0) = u at *
      generalize sv ((offM xs).getD i 0) = v at *
      generalize sv (xs.getD i 0) = X at *
      generalize sv (xs.getD 0 0) = Y at *
      have p := sq_nonneg (u + v)
      have e : (v - u) - (X - Y) ≤ 1 / 30000 ∧ (X - Y) - (v - u) ≤ 1 / 30000 := by constructor <;> grind
      have m := mul_abs_le (a := (v - u) - (X - Y)) (b := (v - u) + (X - Y)) (A := 1 / 30000) (B := 100) (by decide +kernel) (by decide +kernel) (by grind) e.1 (by grind) (by grind)
      have k : (1 : Rat) / 30000 * 100 ≤ 1 / 300 := by decide +kernel
      grind
    rw [o.t] at D2 D3 D4
    obtain ⟨c1, c2, c3, c4, c5⟩ := spread_core hl D1 D2 hT1 D4
    have hn : (1 : Rat) ≤ (xs.length : Rat) := nat_le_rat hl.1
    have hn2 : (xs.length : Rat) ≤ 22 := nat_le_rat hl.2
    refine ⟨hT1, c1, ?_, c4, c5⟩
    generalize sv (rootM _) = D at *
    refine Rat.not_lt.1 fun hlt => ?_
    have hd : D * D ≤ 6 / 100 * (6 / 100) := mul_mono (by grind) (by grind) (Rat.le_of_lt hlt) (Rat.le_of_lt hlt)
    have k : (6 : Rat) / 100 * (6 / 100) = 36 / 10000 := by decide +kernel
    rw [k] at hd
    have p := sq_nonneg D
    have := Rat.mul_le_mul_of_nonneg_right hn2 p
    clear hne g tw hT D1 D2 c1
    grind
/-- a spread is no more than the width -/
theorem spread_le {xs : List Nat} (h : HL 46 xs) (hl : 1 ≤ xs.length ∧ xs.length ≤ 22) {lo hi : Rat} (hb : ∀ i, i < xs.length → lo ≤ sv (xs.getD i 0) ∧ sv (xs.getD i 0) ≤ hi) (hw : lo ≤ hi ∧ hi - lo ≤ 46) :
    sf (spreadM xs) ∧ 0 ≤ sv (spreadM xs) ∧ sv (spreadM xs) ≤ hi - lo + 6 / 10000 := by
  obtain ⟨T, o⟩ := off_t h hl
  obtain ⟨q, o1, o2, o3, _⟩ := off_near h hl
  have hn : (1 : Rat) ≤ (xs.length : Rat) := nat_le_rat hl.1
  rcases spread_cases h hl o with ⟨a, b⟩ | ⟨a, b, c, d, e⟩
  · rw [b]; exact ⟨a, Rat.le_refl, by grind⟩
  · refine ⟨b, by grind, ?_⟩
    have hbs := sumQ_between xs.length hb
    obtain ⟨k1, k2⟩ := rat_div_between (by grind) o2 hbs.1 hbs.2
    have hR0 : 0 ≤ hi - lo + 1 / 60000 := by grind
    have hT : T ≤ (xs.length : Rat) * ((hi - lo + 1 / 60000) * (hi - lo + 1 / 60000)) := by
      rw [← o.t]
      have := sumQ_le (f := fun i => sv ((offM xs).getD i 0) * sv ((offM xs).getD i 0)) (C := (hi - lo + 1 / 60000) * (hi - lo + 1 / 60000)) xs.length (fun i hi => by
        obtain ⟨_, a1, a2⟩ := o1 i hi
        obtain ⟨x1, x2⟩ := hb i hi
        exact mul_abs_le hR0 hR0 (by grind) (by grind) (by grind) (by grind))
      exact this.2
    generalize hR : hi - lo + 1 / 60000 = R at *
    generalize sv (spreadM xs) = D at *
    have e2 : (xs.length : Rat) * (D * D) ≤ (xs.length : Rat) * (R * R * (1 + 1 / 50000)) := by
      have := Rat.mul_le_mul_of_nonneg_right hT (show (0 : Rat) ≤ 1 + 1 / 50000 by decide +kernel)
      grind
    have e3 : D * D ≤ R * R * (1 + 1 / 50000) := Rat.le_of_mul_le_mul_left e2 (by grind)
    have e4 : D * D ≤ (R * (1 + 11 / 1000000)) * (R * (1 + 11 / 1000000)) := by
      have p := sq_nonneg R
      have k : (1 : Rat) + 1 / 50000 ≤ (1 + 11 / 1000000) * (1 + 11 / 1000000) := by decide +kernel
      have := Rat.mul_le_mul_of_nonneg_left k p
      grind
    have e5 := sq_le (z := D) (m := R * (1 + 11 / 1000000)) (by grind) e4
    grind
/-- what is made even: its mean and its spread -/
theorem even_near {xs : List Nat} (h : HL 46 xs) (hl : 1 ≤ xs.length ∧ xs.length ≤ 22) (hp : 0 < sv (spreadM xs)) :
    (∀ i, i < xs.length → sf ((evenM xs).getD i 0)) ∧ (sf (meanM (evenM xs)) ∧ -(4 / 10000) ≤ sv (meanM (evenM xs)) ∧ sv (meanM (evenM xs)) ≤ 4 / 10000) ∧
      (sf (spreadM (evenM xs)) ∧ 1 - 7 / 10000 ≤ sv (spreadM (evenM xs)) ∧ sv (spreadM (evenM xs)) ≤ 1 + 7 / 10000) := by
  obtain ⟨T, o⟩ := off_t h hl
  have n1 : (1 : Rat) ≤ (xs.length : Rat) := nat_le_rat hl.1
  have n22 : (xs.length : Rat) ≤ 22 := nat_le_rat hl.2
  rcases spread_cases h hl o with ⟨a, b⟩ | ⟨a, b, c, d, e⟩
  · grind
  have ev : ∀ i, i < xs.length → (evenM xs).getD i 0 = fdiv .f32 ((offM xs).getD i 0) (spreadM xs) := fun i hi => by
    rw [off_at _ hi]; exact tab_at' _ _ hi
  have le : (evenM xs).length = xs.length := tab_len _ _
  generalize hD : sv (spreadM xs) = D at *
  have D0 : 0 < D := by grind
  have Dne : D ≠ 0 := by grind
  have DD : 0 < D * D := Rat.mul_pos D0 D0
  -- the exact quotients
  generalize hy : (fun i : Nat => sv ((offM xs).getD i 0) / D) = y at *
  have yD : ∀ i, y i * D = sv ((offM xs).getD i 0) := fun i => by rw [← hy]; exact Rat.div_mul_cancel Dne
  obtain ⟨Y, hY⟩ : ∃ Y : Rat, Y = sumQ xs.length fun i => y i * y i := ⟨_, rfl⟩
  have hYT : Y * (D * D) = T := by
    rw [hY, ← o.t, Rat.mul_comm, ← sumQ_mul]
    exact sumQ_congr xs.length (fun i hi => by show _ = sv _ * sv _; rw [← yD i]; grind)
  have hY1 : Y * (1 - 1 / 50000) ≤ xs.length := by
    refine Rat.le_of_mul_le_mul_right ?_ DD
    rw [← hYT] at d; grind
  have hY2 : (xs.length : Rat) ≤ Y * (1 + 1 / 50000) := by
    refine Rat.le_of_mul_le_mul_right ?_ DD
    rw [← hYT] at e; grind
  have hY3 : Y ≤ xs.length + 1 / 1000 := by grind
  have hY4 : (xs.length : Rat) - 1 / 1000 ≤ Y := by grind
  have hY5 : Y ≤ xs.length * (1 + 3 / 100000) := by grind
  have hY6 : xs.length * (1 - 3 / 100000) ≤ Y := by grind
  have yb : ∀ i, i < xs.length → -5 ≤ y i ∧ y i ≤ 5 := fun i hi => by
    have one : y i * y i ≤ Y := by rw [hY]; exact sumQ_one (f := fun i => y i * y i) (fun i => sq_nonneg _) hi
    have : y i * y i ≤ 5 * 5 := by
      have k : (5 : Rat) * 5 = 25 := by decide +kernel
      rw [k]; grind
    exact sq_abs (by decide) this
  -- the numbers
  have hev : ∀ i, i < xs.length → sf ((evenM xs).getD i 0) ∧ Nr (sv ((evenM xs).getD i 0)) (y i) (1 / 1000000) := fun i hi => by
    obtain ⟨y1, y2⟩ := yb i hi
    rw [ev i hi]
    obtain ⟨d1, d2, d3⟩ := s_div (B := 5) (o.r i hi).1 b (by show sv _ ≠ 0; rw [hD]; exact Dne) (q := y i) (by show y i * sv (spreadM xs) = _; rw [hD]; exact yD i) y1 y2 (by decide +kernel)
    have hE : 5 * e23 + eta ≤ 1 / 1000000 := by decide +kernel
    exact ⟨d1, by grind, by grind⟩
  -- their mean
  have hs := acc_nearS (g := fun i => (evenM xs).getD i 0) (t := y) (C := 5) (E := 1 / 1000000) (N := 22) (by decide) (by decide +kernel) xs.length n22 (by decide +kernel) (fun i hi => by
    obtain ⟨y1, y2⟩ := yb i hi
    obtain ⟨a1, a2⟩ := hev i hi
    exact ⟨a1, a2, y1, y2⟩)
  obtain ⟨s1, s2, s3⟩ := hs
  have hE : 1 / 1000000 + ((5 + 1 / 1000000 + 1) * 22 * e24 + eta) ≤ 1 / 100000 := by decide +kernel
  have hE2 := Rat.mul_le_mul_of_nonneg_left hE (show (0 : Rat) ≤ (xs.length : Rat) by grind)
  have hsum : -(xs.length * (29 / 100000)) ≤ sumQ xs.length y ∧ sumQ xs.length y ≤ xs.length * (29 / 100000) := by
    have e1 : D * sumQ xs.length y = sumQ xs.length fun i => sv ((offM xs).getD i 0) := by
      rw [← sumQ_mul]
      exact sumQ_congr xs.length (fun i hi => by rw [← yD i]; grind)
    obtain ⟨m1, m2⟩ := o.sm
    rw [← e1] at m1 m2
    have hb : (xs.length : Rat) * (1 / 60000) ≤ xs.length * (29 / 100000) * D := by
      have := Rat.mul_le_mul_of_nonneg_left c (show (0 : Rat) ≤ (xs.length : Rat) by grind)
      grind
    exact div_bound D0 (by grind) (by grind) hb
  obtain ⟨f1, f2⟩ := fofi_rv .f32 (n := (xs.length : Int)) (nat_small (by omega))
  have f2 : sv (fofi .f32 (xs.length : Int)) = (xs.length : Rat) := f2
  have em : meanM (evenM xs) = fdiv .f32 (accN (fun i s => fadd .f32 s ((evenM xs).getD i 0)) xs.length 0) (fofi .f32 (xs.length : Int)) := by
    unfold meanM sumM
    rw [le]
  obtain ⟨q, hq⟩ : ∃ q : Rat, q * (xs.length : Rat) = sv (accN (fun i s => fadd .f32 s ((evenM xs).getD i 0)) xs.length 0) := ⟨_, Rat.div_mul_cancel (show (xs.length : Rat) ≠ 0 by grind)⟩
  have q12 : -(299 / 1000000 + 1 / 1000000) ≤ q ∧ q ≤ 299 / 1000000 + 1 / 1000000 := by
    refine div_bound (d := (xs.length : Rat)) (e := (299 / 1000000 + 1 / 1000000) * xs.length) (by grind) ?_ ?_ Rat.le_refl
    · rw [hq]; grind
    · rw [hq]; grind
  obtain ⟨m1, m2, m3⟩ := s_div (B := 1) s1 f1 (by rw [f2]; grind) (q := q) (by rw [f2]; exact hq) (by grind) (by grind) (by decide +kernel)
  rw [← em] at m1 m2 m3
  have hE3 : 1 * e23 + eta ≤ 1 / 1000000 := by decide +kernel
  have mb : -(301 / 1000000) ≤ sv (meanM (evenM xs)) ∧ sv (meanM (evenM xs)) ≤ 301 / 1000000 := by constructor <;> grind
  refine ⟨fun i hi => (hev i hi).1, ⟨m1, by grind, by grind⟩, ?_⟩
  -- their spread
  have hr : ∀ i, i < xs.length → sf ((offM (evenM xs)).getD i 0) ∧ Nr (sv ((offM (evenM xs)).getD i 0)) (y i) (303 / 1000000) := fun i hi => by
    obtain ⟨y1, y2⟩ := yb i hi
    obtain ⟨a1, a2, a3⟩ := hev i hi
    rw [off_at _ (by rw [le]; exact hi)]
    obtain ⟨d1, d2, d3⟩ := s_sub (B := 6) a1 m1 (by grind) (by grind) (by decide +kernel)
    have hE : 6 * e24 + eta ≤ 1 / 1000000 := by decide +kernel
    exact ⟨d1, by grind, by grind⟩
  obtain ⟨D1, D2, D3, D4⟩ := dot_sq (x := fun i => (offM (evenM xs)).getD i 0) hl.2 (fun i hi => by
    obtain ⟨y1, y2⟩ := yb i hi
    obtain ⟨a1, a2, a3⟩ := hr i hi
    exact ⟨a1, by grind, by grind⟩)
  have hT' : r2 (fun i => (offM (evenM xs)).getD i 0) xs.length ≤ xs.length * (1 + 66 / 100000) ∧ xs.length * (1 - 66 / 100000) ≤ r2 (fun i => (offM (evenM xs)).getD i 0) xs.length := by
    have tm : ∀ i, i < xs.length → sv ((offM (evenM xs)).getD i 0) * sv ((offM (evenM xs)).getD i 0) ≤ y i * y i + 303 / 1000000 * (1 + y i * y i) + 1 / 10000000 ∧
        y i * y i - 303 / 1000000 * (1 + y i * y i) ≤ sv ((offM (evenM xs)).getD i 0) * sv ((offM (evenM xs)).getD i 0) := fun i hi => by
      obtain ⟨_, a2, a3⟩ := hr i hi
      generalize sv ((offM (evenM xs)).getD i 0) = v at *
      generalize y i = u at *
      -- v = u + w
      have w1 : -(303 / 1000000) ≤ v - u ∧ v - u ≤ 303 / 1000000 := by constructor <;> grind
      have ww := mul_abs_le (a := v - u) (b := v - u) (A := 303 / 1000000) (B := 303 / 1000000) (by decide +kernel) (by decide +kernel) w1.1 w1.2 w1.1 w1.2
      have k : (303 : Rat) / 1000000 * (303 / 1000000) ≤ 1 / 10000000 := by decide +kernel
      have p1 := sq_nonneg (1 - u)
      have p2 := sq_nonneg (1 + u)
      have w0 := sq_nonneg (v - u)
      have c1 : 0 ≤ (303 / 1000000 - (v - u)) * ((1 + u) * (1 + u)) := Rat.mul_nonneg (by grind) p2
      have c2 : 0 ≤ (303 / 1000000 + (v - u)) * ((1 - u) * (1 - u)) := Rat.mul_nonneg (by grind) p1
      have c3 : 0 ≤ (303 / 1000000 - (v - u)) * ((1 - u) * (1 - u)) := Rat.mul_nonneg (by grind) p1
      have c4 : 0 ≤ (303 / 1000000 + (v - u)) * ((1 + u) * (1 + u)) := Rat.mul_nonneg (by grind) p2
      constructor <;> grind
    have hc : ∀ c : Rat, (sumQ xs.length fun _ => c) = xs.length * c := fun c => sumQ_const c _
    have u1 := sumQ_mono2 xs.length (fun i hi => (tm i hi).1)
    have u2 := sumQ_mono2 xs.length (fun i hi => (tm i hi).2)
    have e1 : (sumQ xs.length fun i => y i * y i + 303 / 1000000 * (1 + y i * y i) + 1 / 10000000) = Y + 303 / 1000000 * (xs.length + Y) + xs.length * (1 / 10000000) := by
      rw [sumQ_add (fun i => y i * y i + 303 / 1000000 * (1 + y i * y i)) (fun _ => 1 / 10000000), hc, sumQ_add (fun i => y i * y i) (fun i => 303 / 1000000 * (1 + y i * y i)), sumQ_mul, sumQ_add (fun _ => 1) (fun i => y i * y i), hc, ← hY]
      grind
    have e2 : (sumQ xs.length fun i => y i * y i - 303 / 1000000 * (1 + y i * y i)) = Y - 303 / 1000000 * (xs.length + Y) := by
      rw [sumQ_sub (fun i => y i * y i) (fun i => 303 / 1000000 * (1 + y i * y i)), sumQ_mul, sumQ_add (fun _ => 1) (fun i => y i * y i), hc, ← hY]
      grind
    rw [e1] at u1
    rw [e2] at u2
    constructor
    · show sumQ _ _ ≤ _
      grind
    · show _ ≤ sumQ _ _
      grind
  rw [spread_is, le]
  obtain ⟨c1, c2, c3, c4, c5⟩ := spread_core hl D1 D2 (by grind) D4
  generalize sv (rootM _) = E at *
  generalize r2 (fun i => (offM (evenM xs)).getD i 0) xs.length = T' at *
  clear hr hev D1 D2 yb yD hy ev em hq
  obtain ⟨t1, t2⟩ := hT'
  have z1 : E * E ≤ 1 + 69 / 100000 := Rat.le_of_mul_le_mul_left (c := (xs.length : Rat)) (by grind) (by grind)
  have z2 : 1 - 69 / 100000 ≤ E * E := Rat.le_of_mul_le_mul_left (c := (xs.length : Rat)) (by grind) (by grind)
  refine ⟨c1, ?_, ?_⟩
  · refine Rat.not_lt.1 fun hlt => ?_
    have := mul_mono (show 0 ≤ E by grind) (show 0 ≤ E by grind) (show E ≤ 1 - 7 / 10000 by grind) (show E ≤ 1 - 7 / 10000 by grind)
    have k : (1 - 7 / 10000 : Rat) * (1 - 7 / 10000) ≤ 1 - 13 / 10000 := by decide +kernel
    grind
  · refine Rat.not_lt.1 fun hlt => ?_
    have := mul_mono (show (0 : Rat) ≤ 1 + 7 / 10000 by decide +kernel) (show (0 : Rat) ≤ 1 + 7 / 10000 by decide +kernel) (show 1 + 7 / 10000 ≤ E by grind) (show 1 + 7 / 10000 ≤ E by grind)
    have k : 1 + 14 / 10000 ≤ (1 + 7 / 10000 : Rat) * (1 + 7 / 10000) := by decide +kernel
    grind
end Go.Proofs.LV
