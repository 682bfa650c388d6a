/- Texts that belong together. -/
import Derived.Test.YtjfgmnfkkehgfaaLvRatS
import Derived.Test.YtjfgmnfkkehgfaaLvSqrtX
namespace Go.Proofs.LV
open Go Ieee
set_option linter.unusedVariables false

/-! ### sums of fractions -/
theorem sumQ_sub (f g : Nat → Rat) : ∀ n, (sumQ n fun i => f i - g i) = sumQ n f - sumQ n g
  | 0 => by show (0 : Rat) = 0 - 0; grind
  | n + 1 => by show (sumQ n fun i => f i - g i) + (f n - g n) = (sumQ n f + f n) - (sumQ n g + g n); rw [sumQ_sub f g n]; grind
theorem nat_rat (n : Nat) : (0 : Rat) ≤ (n : Rat) := by have := nat_le_rat (Nat.zero_le n); simpa using this
theorem nat_succ (n : Nat) : ((n + 1 : Nat) : Rat) = (n : Rat) + 1 := Rat.natCast_add n 1
theorem sumQ_le {f : Nat → Rat} {C : Rat} : ∀ n, (∀ i, i < n → -C ≤ f i ∧ f i ≤ C) → -(n * C) ≤ sumQ n f ∧ sumQ n f ≤ n * C
  | 0, _ => by show -(((0 : Nat) : Rat) * C) ≤ 0 ∧ 0 ≤ ((0 : Nat) : Rat) * C; have : ((0 : Nat) : Rat) = 0 := rfl; rw [this]; grind
  | n + 1, h => by
    have h1 := sumQ_le n (fun i hi => h i (by omega))
    have h2 := h n (by omega)
    rw [nat_succ]
    show _ ≤ sumQ n f + f n ∧ sumQ n f + f n ≤ _
    grind
theorem sumQ_nonneg {f : Nat → Rat} : ∀ n, (∀ i, i < n → 0 ≤ f i) → 0 ≤ sumQ n f
  | 0, _ => Rat.le_refl
  | n + 1, h => by
    have h1 := sumQ_nonneg n (fun i hi => h i (by omega))
    have h2 := h n (by omega)
    show 0 ≤ sumQ n f + f n
    grind
/-! ### sums from the left of numbers that are nearly told -/
theorem acc_nearS {g : Nat → Nat} {t : Nat → Rat} {C E N : Rat} (hC : 0 ≤ C) (hE : 0 ≤ E) (n : Nat) (hN : (n : Rat) ≤ N) (hB : (C + E + 1) * N ≤ 10000000)
    (h : ∀ i, i < n → sf (g i) ∧ Nr (sv (g i)) (t i) E ∧ -C ≤ t i ∧ t i ≤ C) :
    sf (accN (fun i s => fadd .f32 s (g i)) n 0) ∧ Nr (sv (accN (fun i s => fadd .f32 s (g i)) n 0)) (sumQ n t) (n * (E + ((C + E + 1) * N * e24 + eta))) := by
  induction n with
  | zero =>
    refine ⟨zero_sf, ?_⟩
    have z : sv (accN (fun i s => fadd .f32 s (g i)) 0 0) = 0 := zero_rv _
    rw [z]
    show Nr 0 0 (((0 : Nat) : Rat) * _)
    have : ((0 : Nat) : Rat) = 0 := rfl
    rw [this]
    exact ⟨by grind, by grind⟩
  | succ n ih =>
    rw [nat_succ] at hN
    obtain ⟨h1, h2⟩ := ih (by grind) (fun i hi => h i (by omega))
    obtain ⟨g1, g2, g3, g4⟩ := h n (by omega)
    have hs := sumQ_le (C := C) n (fun i hi => (h i (by omega)).2.2)
    have e24p : (0 : Rat) ≤ e24 := by decide +kernel
    have hK : (C + E + 1) * N * e24 + eta ≤ 1 := by
      have : (C + E + 1) * N * e24 ≤ 10000000 * e24 := Rat.mul_le_mul_of_nonneg_right hB e24p
      have : (10000000 : Rat) * e24 + eta ≤ 1 := by decide +kernel
      grind
    have hn0 := nat_rat n
    have hK0 : 0 ≤ (C + E + 1) * N * e24 + eta := by
      have a : 0 ≤ (C + E + 1) * N := Rat.mul_nonneg (by grind) (by grind)
      have b := Rat.mul_nonneg a e24p
      have c : (0 : Rat) ≤ eta := by decide +kernel
      grind
    generalize hKK : (C + E + 1) * N * e24 + eta = K at *
    have k1 : (n : Rat) * K ≤ n * 1 := Rat.mul_le_mul_of_nonneg_left hK hn0
    have k2 : ((n : Rat) + 1) * (C + E + 1) ≤ N * (C + E + 1) := Rat.mul_le_mul_of_nonneg_right hN (by grind)
    obtain ⟨u1, u2⟩ := h2
    obtain ⟨v1, v2⟩ := g2
    obtain ⟨s1, s2⟩ := s_add (B := (C + E + 1) * N) h1 g1 (by grind) (by grind) (by grind)
    rw [hKK] at s2
    refine ⟨s1, ?_⟩
    show Nr (sv (fadd .f32 _ (g n))) (sumQ n t + t n) _
    rw [nat_succ]
    obtain ⟨w1, w2⟩ := s2
    exact ⟨by grind, by grind⟩
theorem acc_nearD {g : Nat → Nat} {t : Nat → Rat} {C E N : Rat} (hC : 0 ≤ C) (hE : 0 ≤ E) (n : Nat) (hN : (n : Rat) ≤ N) (hB : (C + E + 1) * N ≤ 10000000)
    (h : ∀ i, i < n → df (g i) ∧ Nr (dv (g i)) (t i) E ∧ -C ≤ t i ∧ t i ≤ C) :
    df (accN (fun i s => fadd .f64 s (g i)) n 0) ∧ Nr (dv (accN (fun i s => fadd .f64 s (g i)) n 0)) (sumQ n t) (n * (E + ((C + E + 1) * N * e53 + eta))) := by
  induction n with
  | zero =>
    refine ⟨zero_df, ?_⟩
    have z : dv (accN (fun i s => fadd .f64 s (g i)) 0 0) = 0 := zero_rv _
    rw [z]
    show Nr 0 0 (((0 : Nat) : Rat) * _)
    have : ((0 : Nat) : Rat) = 0 := rfl
    rw [this]
    exact ⟨by grind, by grind⟩
  | succ n ih =>
    rw [nat_succ] at hN
    obtain ⟨h1, h2⟩ := ih (by grind) (fun i hi => h i (by omega))
    obtain ⟨g1, g2, g3, g4⟩ := h n (by omega)
    have hs := sumQ_le (C := C) n (fun i hi => (h i (by omega)).2.2)
    have e24p : (0 : Rat) ≤ e53 := by decide +kernel
    have hK : (C + E + 1) * N * e53 + eta ≤ 1 := by
      have : (C + E + 1) * N * e53 ≤ 10000000 * e53 := Rat.mul_le_mul_of_nonneg_right hB e24p
      have : (10000000 : Rat) * e53 + eta ≤ 1 := by decide +kernel
      grind
    have hn0 := nat_rat n
    have hK0 : 0 ≤ (C + E + 1) * N * e53 + eta := by
      have a : 0 ≤ (C + E + 1) * N := Rat.mul_nonneg (by grind) (by grind)
      have b := Rat.mul_nonneg a e24p
      have c : (0 : Rat) ≤ eta := by decide +kernel
      grind
    generalize hKK : (C + E + 1) * N * e53 + eta = K at *
    have k1 : (n : Rat) * K ≤ n * 1 := Rat.mul_le_mul_of_nonneg_left hK hn0
    have k2 : ((n : Rat) + 1) * (C + E + 1) ≤ N * (C + E + 1) := Rat.mul_le_mul_of_nonneg_right hN (by grind)
    obtain ⟨u1, u2⟩ := h2
    obtain ⟨v1, v2⟩ := g2
    obtain ⟨s1, s2⟩ := d_add (B := (C + E + 1) * N) h1 g1 (by grind) (by grind) (by grind)
    rw [hKK] at s2
    refine ⟨s1, ?_⟩
    show Nr (dv (fadd .f64 _ (g n))) (sumQ n t + t n) _
    rw [nat_succ]
    obtain ⟨w1, w2⟩ := s2
    exact ⟨by grind, by grind⟩

/-! ### the gap -/
theorem c001 : df 4562254508917369340 ∧ 9 / 10000 ≤ dv 4562254508917369340 ∧ dv 4562254508917369340 ≤ 1 / 500 := by
  have h : df 4562254508917369340 := by unfold df fnt; decide +kernel
  refine ⟨h, ?_⟩
  have : dv 4562254508917369340 = 1152921504606847 / 1152921504606846976 := lit_neg h (m := 4611686018427388) (n := 62) (by decide +kernel) (by decide +kernel)
  rw [this]; decide +kernel
end Go.Proofs.LV

namespace Go.Proofs.LV
open Go Ieee
set_option linter.unusedVariables false
set_option linter.unusedSimpArgs false

/-- a number on the half grid -/
def Hg (b x : Nat) : Prop := sf x ∧ Gr (-1) b (sv x)
theorem half_zp : (2 : Rat) ^ (-1 : Int) = 1 / 2 := by decide +kernel
theorem two_sf : sf 1073741824 ∧ sv 1073741824 = 2 := by
  have hf : fnt single 1073741824 := by unfold fnt; decide
  refine ⟨hf, ?_⟩
  exact lit_neg (n := 22) (m := 8388608) hf (by decide) (by decide +kernel)
theorem s2F_val {x : Int} (h : x.natAbs ≤ 100) : Hg 100 (s2F x) ∧ sv (s2F x) = (x : Rat) / 2 := by
  obtain ⟨f1, f2⟩ := fofi_rv .f32 (n := x) (Nat.lt_of_le_of_lt h (by decide))
  obtain ⟨t1, t2⟩ := two_sf
  have t2 : rv single 1073741824 = 2 := t2
  have f2 : rv single (fofi .f32 x) = x := f2
  have hG : Gr (-1) 100 ((x : Rat) / 2) := ⟨x, by rw [half_zp]; grind, h⟩
  have hd := div_gr .f32 (q := (x : Rat) / 2) (j := -1) (b := 100) f1 t1 (by show rv single 1073741824 ≠ 0; rw [t2]; decide) (by show (x : Rat) / 2 * rv single 1073741824 = rv single (fofi .f32 x); rw [t2, f2]; grind) hG (by decide) (by decide) (by decide)
  have e : sv (s2F x) = (x : Rat) / 2 := hd.2
  exact ⟨⟨hd.1, by rw [e]; exact hG⟩, e⟩
theorem s2X_le {cs : List Int} (hc : Byt cs) (i : Nat) (hi : i ≤ 21) : (s2X cs 0 0 i).natAbs ≤ 100 := by
  have hV := s2V_le hc 0 0
  have hW := s2W_le hc 0 0
  have hE := s2E_le hc 0 0 (s2P cs 0 0) (i % s2P cs 0 0)
  have hv := vl_mod hc 0 0 (3 + s2P cs 0 0 + i) (n := 5) (by omega)
  have hWi : -42 ≤ s2W cs 0 0 * (i : Int) ∧ s2W cs 0 0 * (i : Int) ≤ 42 := by
    have h1 : (i : Int) ≤ 21 := by omega
    rcases (show s2W cs 0 0 = -2 ∨ s2W cs 0 0 = -1 ∨ s2W cs 0 0 = 0 ∨ s2W cs 0 0 = 1 ∨ s2W cs 0 0 = 2 by omega) with e | e | e | e | e <;> rw [e] <;> omega
  have hd : -42 ≤ (s2W cs 0 0 * (i : Int)).tdiv 2 ∧ (s2W cs 0 0 * (i : Int)).tdiv 2 ≤ 42 := by
    generalize s2W cs 0 0 * (i : Int) = x at hWi
    rcases Int.le_total 0 x with h0 | h0
    · rw [Int.tdiv_eq_ediv_of_nonneg h0]; omega
    · obtain ⟨y, rfl⟩ : ∃ y, x = -y := ⟨-x, by omega⟩
      rw [Int.neg_tdiv, Int.tdiv_eq_ediv_of_nonneg (by omega)]; omega
  unfold s2X
  omega
/-- all numbers of a list lie on the half grid -/
def HL (b : Nat) (xs : List Nat) : Prop := ∀ i, i < xs.length → Hg b (xs.getD i 0)
theorem HL.mono {b c : Nat} {xs : List Nat} (h : HL b xs) (hb : b ≤ c) : HL c xs := fun i hi => ⟨(h i hi).1, (h i hi).2.mono hb⟩
theorem HL.fin {b : Nat} {xs : List Nat} (h : HL b xs) : finAllM xs = true := finAll_of fun i hi => (h i hi).1
theorem HL.series {b : Nat} {xs : List Nat} (h : HL b xs) (h1 : 1 ≤ xs.length ∧ xs.length ≤ 96) : seriesM xs = true := by
  unfold seriesM
  rw [h.fin, decide_eq_true (by omega), decide_eq_true (by omega)]; rfl
theorem Hg.sub {a b x y : Nat} (hx : Hg a x) (hy : Hg b y) (hb : a + b < 2 ^ 24) : Hg (a + b) (fsub .f32 x y) ∧ sv (fsub .f32 x y) = sv x - sv y := by
  have := sub_gr .f32 hx.1 hy.1 hx.2 hy.2 hb (by decide) (by decide)
  have e : sv (fsub .f32 x y) = sv x - sv y := this.2
  exact ⟨⟨this.1, by rw [e]; exact hx.2.sub hy.2⟩, e⟩
theorem Hg.add {a b x y : Nat} (hx : Hg a x) (hy : Hg b y) (hb : a + b < 2 ^ 24) : Hg (a + b) (fadd .f32 x y) ∧ sv (fadd .f32 x y) = sv x + sv y := by
  have := add_gr .f32 hx.1 hy.1 hx.2 hy.2 hb (by decide) (by decide)
  have e : sv (fadd .f32 x y) = sv x + sv y := this.2
  exact ⟨⟨this.1, by rw [e]; exact hx.2.add hy.2⟩, e⟩
theorem getD_dropN (xs : List Nat) (a m : Nat) : (xs.drop a).getD m 0 = xs.getD (a + m) 0 := by
  simp [List.getD, List.getElem?_drop]
theorem getD_takeN (xs : List Nat) (a m : Nat) (h : m < a) : (xs.take a).getD m 0 = xs.getD m 0 := by
  simp [List.getD, List.getElem?_take, h]
end Go.Proofs.LV
