/- Texts that belong together. -/
import Derived.Test.YtjfgmnfkkehgfaaLvCutX
import Derived.Test.YtjfgmnfkkehgfaaLvSortX
import Derived.Test.YtjfgmnfkkehgfaaLvFnOO
namespace Go.Proofs.LV
open Go Ieee
set_option linter.unusedVariables false
set_option linter.unusedSimpArgs false

/-! ### spreads -/
theorem sumQ_two {f : Nat → Rat} (hf : ∀ i, 0 ≤ f i) {i j : Nat} (hij : i < j) : ∀ n, j < n → f i + f j ≤ sumQ n f
  | n + 1, h => by
    have e : sumQ (n + 1) f = sumQ n f + f n := rfl
    rw [e]
    by_cases hj : j = n
    · subst hj
      have : f i ≤ sumQ j f := by
        have h1 := sumQ_mono hf (k := i + 1) j (by omega)
        have e1 : sumQ (i + 1) f = sumQ i f + f i := rfl
        have := sumQ_nonneg (f := f) i (fun k _ => hf k)
        grind
      grind
    · have := sumQ_two hf hij n (by omega)
      have := hf n
      grind
theorem sumQ_one {f : Nat → Rat} (hf : ∀ i, 0 ≤ f i) {i n : Nat} (h : i < n) : f i ≤ sumQ n f := by
  have h1 := sumQ_mono hf (k := i + 1) n (by omega)
  have e1 : sumQ (i + 1) f = sumQ i f + f i := rfl
  have := sumQ_nonneg (f := f) i (fun k _ => hf k)
  grind
/-- the sum of the squares of a list -/
theorem dot_sq {x : Nat → Nat} {n : Nat} (hn : n ≤ 22) (h : ∀ i, i < n → sf (x i) ∧ -60 ≤ sv (x i) ∧ sv (x i) ≤ 60) :
    sf (accN (fun i s => fadd .f32 s (fmul .f32 (x i) (x i))) n 0) ∧ Nr (sv (accN (fun i s => fadd .f32 s (fmul .f32 (x i) (x i))) n 0)) (r2 x n) (r2 x n * (1 / 100000) + 200 * eta) ∧ 0 ≤ r2 x n ∧ r2 x n ≤ 100000 := by
  have h0 : 0 ≤ r2 x n := sumQ_nonneg _ (fun i _ => sq_nonneg _)
  have hT : r2 x n ≤ 100000 := by
    have := sumQ_le (f := fun i => sv (x i) * sv (x i)) (C := 3600) n (fun i hi => by
      obtain ⟨_, a, b⟩ := h i hi
      have := mul_abs_le (A := 60) (B := 60) (by decide) (by decide) a b a b
      have : (60 : Rat) * 60 = 3600 := by decide +kernel
      constructor <;> grind)
    have n22 : (n : Rat) ≤ 22 := nat_le_rat hn
    show sumQ n _ ≤ _
    grind
  have := acc_rel (g := fun i => fmul .f32 (x i) (x i)) (t := fun i => sv (x i) * sv (x i)) hn (T := r2 x n) h0 hT (fun i hi => by
    obtain ⟨a, b, c⟩ := h i hi
    have one : sv (x i) * sv (x i) ≤ r2 x n := sumQ_one (f := fun i => sv (x i) * sv (x i)) (fun i => sq_nonneg _) hi
    have p := sq_nonneg (sv (x i))
    obtain ⟨m1, m2, m3⟩ := s_mul (B := r2 x n) a a (by grind) one (Rat.le_trans hT (by decide +kernel))
    have e24p : (0 : Rat) ≤ e24 := by decide +kernel
    have := Rat.mul_nonneg h0 e24p
    exact ⟨m1, by grind, by grind⟩) (fun k hk => by
    have := sumQ_nonneg (f := fun i => sv (x i) * sv (x i)) k (fun i _ => sq_nonneg _)
    have := sumQ_mono (f := fun i => sv (x i) * sv (x i)) (fun i => sq_nonneg _) n hk
    exact ⟨by grind, this⟩)
  exact ⟨this.1, this.2, h0, hT⟩
/-- the mean of a list on the half grid -/
theorem mean_ex {w : List Nat} (h : HL 100 w) (hl : 1 ≤ w.length ∧ w.length ≤ 96) :
    ∃ q : Rat, q * (w.length : Rat) = (sumQ w.length fun i => sv (w.getD i 0)) ∧ sf (meanM w) ∧ Nr (sv (meanM w)) q (1 / 100000) ∧ -50 ≤ q ∧ q ≤ 50 := by
  obtain ⟨s1, s2, s3⟩ := acc_gr (g := fun i => w.getD i 0) (j := -1) (b := 100) (by omega) (by omega) w.length (by omega) (fun i hi => h i hi)
  obtain ⟨f1, f2⟩ := fofi_rv .f32 (n := (w.length : Int)) (nat_small hl.2)
  have f2 : sv (fofi .f32 (w.length : Int)) = (w.length : Rat) := f2
  have hn : (1 : Rat) ≤ (w.length : Rat) := nat_le_rat hl.1
  obtain ⟨q, hq⟩ : ∃ q : Rat, q * (w.length : Rat) = sumQ w.length fun i => sv (w.getD i 0) := ⟨(sumQ w.length fun i => sv (w.getD i 0)) / (w.length : Rat), Rat.div_mul_cancel (by grind)⟩
  have h2 := sumQ_between (lo := -50) (hi := 50) w.length (fun i hi => by have := (h i hi).bound b100; exact this)
  obtain ⟨k1, k2⟩ := rat_div_between (by grind) hq h2.1 h2.2
  obtain ⟨d1, d2, d3⟩ := s_div (B := 50) s1 f1 (by rw [f2]; grind) (q := q) (by rw [f2, hq]; exact s3.symm) k1 k2 (by decide +kernel)
  have hE : 50 * e23 + eta ≤ 1 / 100000 := by decide +kernel
  exact ⟨q, hq, d1, ⟨Rat.le_trans d2 hE, Rat.le_trans d3 hE⟩, k1, k2⟩
/-- numbers that are all the same -/
theorem mean_all {w : List Nat} (h : HL 100 w) (hl : 1 ≤ w.length ∧ w.length ≤ 96) {c : Rat} (hc : ∀ i, i < w.length → sv (w.getD i 0) = c) : sf (meanM w) ∧ sv (meanM w) = c := by
  obtain ⟨s1, s2, s3⟩ := acc_gr (g := fun i => w.getD i 0) (j := -1) (b := 100) (by omega) (by omega) w.length (by omega) (fun i hi => h i hi)
  obtain ⟨f1, f2⟩ := fofi_rv .f32 (n := (w.length : Int)) (nat_small hl.2)
  have f2 : sv (fofi .f32 (w.length : Int)) = (w.length : Rat) := f2
  have hn : (1 : Rat) ≤ (w.length : Rat) := nat_le_rat hl.1
  rw [sumQ_congr (g := fun _ => c) w.length hc, sumQ_const] at s3
  have hg : Gr (-1) 100 c := by rw [← hc 0 (by omega)]; exact (h 0 (by omega)).2
  have := div_gr .f32 (q := c) (j := -1) (b := 100) s1 f1 (by show sv _ ≠ 0; rw [f2]; grind) (by show c * sv _ = sv _; rw [f2, s3]; grind) hg (by decide) (by decide) (by decide)
  exact this
theorem off_at (xs : List Nat) {i : Nat} (hi : i < xs.length) : (offM xs).getD i 0 = fsub .f32 (xs.getD i 0) (meanM xs) := tab_at' _ _ hi
theorem HL46 : ((46 : Nat) : Rat) * 2 ^ (-1 : Int) ≤ 23 := by decide +kernel
theorem half_gap {a b x y : Nat} (hx : Hg a x) (hy : Hg b y) (h : sv x ≠ sv y) : 1 / 4 ≤ (sv x - sv y) * (sv x - sv y) := by
  obtain ⟨c, hc, _⟩ := hx.2.sub hy.2
  rw [hc, half_zp]
  have c0 : c ≠ 0 := by
    intro e
    rw [e] at hc
    have : ((0 : Int) : Rat) = 0 := rfl
    rw [this] at hc
    grind
  have h1 : 1 ≤ c * c := by
    rcases Int.lt_or_gt_of_ne c0 with h | h
    · have := Int.mul_le_mul (show 1 ≤ -c by omega) (show 1 ≤ -c by omega) (by omega) (by omega)
      rw [Int.neg_mul_neg] at this; omega
    · have := Int.mul_le_mul (show 1 ≤ c by omega) (show 1 ≤ c by omega) (by omega) (by omega)
      omega
  have h2 : ((1 : Int) : Rat) ≤ ((c * c : Int) : Rat) := Rat.intCast_le_intCast.2 h1
  rw [Rat.intCast_mul] at h2
  have e1 : ((1 : Int) : Rat) = 1 := rfl
  rw [e1] at h2
  grind
/-- the list, each less the mean: what is told of it -/
structure OffT (xs : List Nat) (T : Rat) (n : Nat) : Prop where
  ln : xs.length = n
  r : ∀ i, i < n → sf ((offM xs).getD i 0) ∧ -60 ≤ sv ((offM xs).getD i 0) ∧ sv ((offM xs).getD i 0) ≤ 60
  t : r2 (fun i => (offM xs).getD i 0) n = T
  sm : -(n * (1 / 60000)) ≤ (sumQ n fun i => sv ((offM xs).getD i 0)) ∧ (sumQ n fun i => sv ((offM xs).getD i 0)) ≤ n * (1 / 60000)
theorem off_near {xs : List Nat} (h : HL 46 xs) (hl : 1 ≤ xs.length ∧ xs.length ≤ 22) : ∃ q : Rat, (∀ i, i < xs.length → sf ((offM xs).getD i 0) ∧ Nr (sv ((offM xs).getD i 0)) (sv (xs.getD i 0) - q) (1 / 70000)) ∧
    q * (xs.length : Rat) = (sumQ xs.length fun i => sv (xs.getD i 0)) ∧ (-23 ≤ q ∧ q ≤ 23) ∧ (sf (meanM xs) ∧ Nr (sv (meanM xs)) q (1 / 100000)) := by
  obtain ⟨q, q1, q2, q3, _, _⟩ := mean_ex (h.mono (show 46 ≤ 100 by omega)) ⟨hl.1, by omega⟩
  have hn : (1 : Rat) ≤ (xs.length : Rat) := nat_le_rat hl.1
  have hb := sumQ_between (lo := -23) (hi := 23) xs.length (fun i hi => (h i hi).bound HL46)
  obtain ⟨k1, k2⟩ := rat_div_between (by grind) q1 hb.1 hb.2
  refine ⟨q, fun i hi => ?_, q1, ⟨k1, k2⟩, q2, q3⟩
  obtain ⟨x1, x2⟩ := (h i hi).bound HL46
  obtain ⟨m1, m2⟩ := q3
  rw [off_at _ hi]
  obtain ⟨d1, d2, d3⟩ := s_sub (B := 50) (h i hi).1 q2 (by grind) (by grind) (by decide +kernel)
  have hE : 50 * e24 + eta ≤ 1 / 300000 := by decide +kernel
  exact ⟨d1, by grind, by grind⟩
theorem off_t {xs : List Nat} (h : HL 46 xs) (hl : 1 ≤ xs.length ∧ xs.length ≤ 22) : ∃ T, OffT xs T xs.length := by
  obtain ⟨q, o1, o2, o3, _⟩ := off_near h hl
  refine ⟨_, ⟨rfl, fun i hi => ?_, rfl, ?_⟩⟩
  · obtain ⟨a, b, c⟩ := o1 i hi
    obtain ⟨x1, x2⟩ := (h i hi).bound HL46
    exact ⟨a, by grind, by grind⟩
  · have e : (sumQ xs.length fun i => sv ((offM xs).getD i 0)) = (sumQ xs.length fun i => (sv ((offM xs).getD i 0) - (sv (xs.getD i 0) - q))) := by
      rw [sumQ_sub (fun i => sv ((offM xs).getD i 0)) (fun i => sv (xs.getD i 0) - q), sumQ_sub (fun i => sv (xs.getD i 0)) (fun _ => q), sumQ_const, ← o2]
      grind
    rw [e]
    exact sumQ_le (C := 1 / 60000) xs.length (fun i hi => by
      obtain ⟨a, b, c⟩ := o1 i hi
      constructor <;> grind)
end Go.Proofs.LV

namespace Go.Proofs.LV
open Go Ieee
set_option linter.unusedVariables false
set_option linter.unusedSimpArgs false

/-! ### ranks -/
section
variable {b : Nat} {xs : List Nat}
end
/-! ### sums in 64 bits, and narrowing -/
theorem narrow_fin {x : Nat} (h : sf (fconv .f64 .f32 x)) : fconvOk .f64 .f32 x = true := by
  unfold fconvOk
  unfold fconv at h
  simp only [reduceCtorEq, if_false] at h ⊢
  split
  · rename_i n m e hd
    rw [hd] at h
    obtain ⟨s, a, b, hr, _⟩ := read_rv (f := single) h
    show (!(single.read (FloatKind.f32.encode (.number n m e))).isInfinity) = true
    rw [hr]; rfl
  · rfl
section
variable {b : Nat} {xs : List Nat}
end
/-! ### numbers that are far away -/
section
variable {xs : List Nat}
/-- halves of small numbers -/
theorem half_val {a : Nat} (ha : a ≤ 100) : sf (fdiv .f32 (fofi .f32 (a : Int)) 1073741824) ∧ sv (fdiv .f32 (fofi .f32 (a : Int)) 1073741824) = (a : Rat) / 2 ∧ Gr (-1) a (sv (fdiv .f32 (fofi .f32 (a : Int)) 1073741824)) := by
  obtain ⟨f1, f2⟩ := fofi_rv .f32 (n := (a : Int)) (Nat.lt_of_le_of_lt (show ((a : Int)).natAbs ≤ 100 by omega) (by decide))
  have f2 : sv (fofi .f32 (a : Int)) = (a : Rat) := f2
  obtain ⟨t1, t2⟩ := two_sf
  have g : Gr (-1) a ((a : Rat) / 2) := ⟨(a : Int), by rw [half_zp]; show (a : Rat) / 2 = (a : Rat) * _; grind, by omega⟩
  obtain ⟨d1, d2⟩ := div_gr .f32 (q := (a : Rat) / 2) (j := -1) (b := a) f1 t1 (by show sv 1073741824 ≠ 0; rw [t2]; decide) (by show _ * sv 1073741824 = sv _; rw [t2, f2]; grind) g (by show _ < 2 ^ 24; omega) (by decide) (by decide)
  exact ⟨d1, d2, by rw [show sv _ = _ from d2]; exact g⟩
end
section
variable {xs : List Nat} {m wd : Nat}
end
end Go.Proofs.LV

namespace Go.Proofs.LV
open Go Ieee
set_option linter.unusedVariables false
set_option linter.unusedSimpArgs false

theorem s2X_46 {cs : List Int} (hc : Byt cs) (i : Nat) (hi : i ≤ 20) : (s2X cs 0 0 i).natAbs ≤ 46 := by
  have hV := s2V_le hc 0 0
  have hW := s2W_le hc 0 0
  have hE := s2E_le hc 0 0 (s2P cs 0 0) (i % s2P cs 0 0)
  have hv := vl_mod hc 0 0 (3 + s2P cs 0 0 + i) (n := 5) (by omega)
  have hWi : -40 ≤ s2W cs 0 0 * (i : Int) ∧ s2W cs 0 0 * (i : Int) ≤ 40 := by
    have h1 : (i : Int) ≤ 20 := by omega
    rcases (show s2W cs 0 0 = -2 ∨ s2W cs 0 0 = -1 ∨ s2W cs 0 0 = 0 ∨ s2W cs 0 0 = 1 ∨ s2W cs 0 0 = 2 by omega) with e | e | e | e | e <;> rw [e] <;> omega
  have hd : -20 ≤ (s2W cs 0 0 * (i : Int)).tdiv 2 ∧ (s2W cs 0 0 * (i : Int)).tdiv 2 ≤ 20 := by
    generalize s2W cs 0 0 * (i : Int) = x at hWi
    rcases Int.le_total 0 x with h0 | h0
    · rw [Int.tdiv_eq_ediv_of_nonneg h0]; omega
    · obtain ⟨y, rfl⟩ : ∃ y, x = -y := ⟨-x, by omega⟩
      rw [Int.neg_tdiv, Int.tdiv_eq_ediv_of_nonneg (by omega)]; omega
  unfold s2X
  omega
theorem s2L_46 {cs : List Int} (hc : Byt cs) {n : Nat} (hn : n ≤ 21) : HL 46 (s2L cs 0 0 n) := fun i hi => by
  rw [s2L_len] at hi
  unfold s2L
  rw [tab_get _ _ _ _ hi]
  have h46 := s2X_46 hc i (by omega)
  obtain ⟨a, b⟩ := s2F_val (s2X_le hc i (by omega))
  refine ⟨a.1, ?_⟩
  rw [b]
  exact ⟨s2X cs 0 0 i, by rw [half_zp]; grind, h46⟩

end Go.Proofs.LV
