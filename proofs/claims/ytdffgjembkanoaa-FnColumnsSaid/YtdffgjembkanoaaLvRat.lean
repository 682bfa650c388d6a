/- What a number stands for, as a fraction; roundings: how far off, and where exact. -/
import Derived.Test.YtdffgjembkanoaaLvValX
namespace Go.Proofs.LV
open Go Ieee
set_option linter.unusedVariables false
set_option linter.unusedSimpArgs false

/-! ### powers of two -/
theorem two_ne : (2 : Rat) ≠ 0 := by decide
theorem zp_pos (a : Int) : (0 : Rat) < 2 ^ a := Rat.zpow_pos (by decide)
theorem zp_add (a b : Int) : (2 : Rat) ^ (a + b) = 2 ^ a * 2 ^ b := Rat.zpow_add two_ne a b
theorem zp_nat (n : Nat) : (2 : Rat) ^ (n : Int) = ((2 ^ n : Nat) : Rat) := by
  rw [Rat.zpow_natCast]
  induction n with
  | zero => rfl
  | succ n ih => rw [Rat.pow_succ, ih, Nat.pow_succ, Rat.natCast_mul]; rfl
theorem zp_one (a : Int) : (2 : Rat) ^ (a + 1) = 2 * 2 ^ a := by
  rw [zp_add]
  have : (2 : Rat) ^ (1 : Int) = 2 := by decide
  rw [this]; grind
theorem zp_ge1 (n : Nat) : (1 : Rat) ≤ 2 ^ (n : Int) := by
  rw [zp_nat]
  have : 1 ≤ 2 ^ n := Nat.one_le_two_pow
  have := Rat.natCast_le_natCast.2 this
  simpa using this
theorem zp_le {a b : Int} (h : a ≤ b) : (2 : Rat) ^ a ≤ 2 ^ b := by
  obtain ⟨n, rfl⟩ : ∃ n : Nat, b = a + n := ⟨(b - a).toNat, by omega⟩
  rw [zp_add]
  have h1 := zp_ge1 n
  have h2 := zp_pos a
  have := Rat.mul_le_mul_of_nonneg_left h1 (Rat.le_of_lt h2)
  grind
theorem zp_le' {a b : Int} (h : (2 : Rat) ^ a ≤ 2 ^ b) : a ≤ b := by
  apply Int.not_lt.1
  intro hc
  have h1 := zp_le (show b + 1 ≤ a by omega)
  rw [zp_one] at h1
  have := zp_pos b
  grind
theorem zp_lt' {a b : Int} (h : (2 : Rat) ^ a < 2 ^ b) : a < b := by
  apply Int.lt_of_not_ge
  intro hc
  have h1 := zp_le hc
  grind

/-! ### what a word stands for -/
def sgR (s : Bool) (t : Rat) : Rat := if s then -t else t
def rv (f : Format) (x : Nat) : Rat := sgR (sign f x) ((units f.binade (rung f x) : Nat) * (2 : Rat) ^ f.leastPlace)
def fnt (f : Format) (x : Nat) : Prop := rung f x < f.infRung
theorem sgR_zero (s : Bool) : sgR s 0 = 0 := by cases s <;> rfl
theorem fB (f : Format) : 0 < f.binade := Nat.two_pow_pos _
theorem read_rv {f : Format} {x : Nat} (h : fnt f x) : ∃ s m e, f.read x = .number s m e ∧ rv f x = sgR s ((m : Nat) * (2 : Rat) ^ e) ∧ f.leastPlace ≤ e := by
  obtain ⟨m, p, e, hm⟩ := read_num (f := f) h
  refine ⟨_, m, _, e, ?_, by omega⟩
  unfold rv
  rw [← hm, Rat.natCast_mul, Int.add_comm, zp_add, zp_nat]
  congr 1; grind
theorem word_rv (f : Format) (s : Bool) {r : Nat} (h : r < f.infRung) : fnt f (f.word s r) ∧ rv f (f.word s r) = sgR s ((units f.binade r : Nat) * (2 : Rat) ^ f.leastPlace) := by
  have h1 := rung_word f s r (Nat.le_of_lt h)
  have h2 : sign f (f.word s r) = s := (read_word_rung f s r (Nat.lt_of_le_of_lt (Nat.le_of_lt h) f.infRung_lt)).2
  unfold fnt rv
  rw [h1, h2]
  exact ⟨h, rfl⟩

/-! ### rounding -/
theorem cut_near (neg : Bool) (n d : Nat) : 2 * (Toward.even.cut neg n d * 2 ^ d) ≤ 2 * n + 2 ^ d ∧ 2 * n ≤ 2 * (Toward.even.cut neg n d * 2 ^ d) + 2 ^ d := by
  unfold Toward.cut
  simp only [Nat.one_shiftLeft]
  by_cases h : d ≤ n.log2 + 2
  · rw [Nat.min_eq_left h]
    have hd := Nat.div_add_mod n (2 ^ d)
    have hm := Nat.mod_lt n (Nat.two_pow_pos d)
    generalize n / 2 ^ d = q at *
    generalize n % 2 ^ d = r at *
    generalize 2 ^ d = D at *
    have e : D * q = q * D := Nat.mul_comm _ _
    cases hb : (decide (D < 2 * r) || D == 2 * r && q % 2 == 1) with
    | true =>
      simp only [Bool.toNat_true, Nat.add_mul, Nat.one_mul]
      have : D ≤ 2 * r := by
        simp only [Bool.or_eq_true, decide_eq_true_eq, Bool.and_eq_true, beq_iff_eq] at hb
        omega
      omega
    | false =>
      simp only [Bool.toNat_false, Nat.add_zero]
      have : 2 * r ≤ D := by
        simp only [Bool.or_eq_false_iff, decide_eq_false_iff_not] at hb
        omega
      omega
  · have hn : n < 2 ^ (n.log2 + 1) := Nat.lt_log2_self
    rw [Nat.min_eq_right (by omega)]
    have h1 : 2 ^ (n.log2 + 2) = 2 * 2 ^ (n.log2 + 1) := by rw [Nat.pow_succ, Nat.mul_comm]
    have h2 : 2 ^ (n.log2 + 2) ≤ 2 ^ d := Nat.pow_le_pow_right (by omega) (by omega)
    rw [Nat.div_eq_of_lt (by omega), Nat.mod_eq_of_lt (by omega)]
    have hb : (decide (2 ^ (n.log2 + 2) < 2 * n) || 2 ^ (n.log2 + 2) == 2 * n && 0 % 2 == 1) = false := by
      simp; omega
    rw [hb]
    simp; omega
theorem units_kept {B q k : Nat} (hB : 0 < B) (h : q = 0 ∧ k ≤ 2 * B ∨ B ≤ k ∧ k ≤ 2 * B) : units B (q * B + k) = k * 2 ^ q := by
  by_cases hk : k < B
  · have hq : q = 0 := by omega
    subst hq
    simp [units, hk]
  · unfold units
    rw [if_neg (by have := Nat.le_mul_of_pos_left B (show 0 < q + 1 by omega); rw [Nat.add_mul] at this; omega)]
    rcases Nat.lt_or_eq_of_le (show k ≤ 2 * B by omega) with h2 | h2
    · have h1 : (q * B + k) / B = q + 1 := by
        rw [Nat.mul_comm, Nat.mul_add_div hB]
        have h2 := Nat.div_lt_of_lt_mul (show k < B * 2 by omega)
        have h3 := (Nat.le_div_iff_mul_le hB).2 (show 1 * B ≤ k by omega)
        omega
      have h4 : (q * B + k) % B = k - B := by
        have := Nat.div_add_mod (q * B + k) B
        rw [h1, Nat.mul_succ, Nat.mul_comm B q] at this
        omega
      rw [h1, h4, Nat.add_sub_cancel, show B + (k - B) = k by omega]
    · subst h2
      have h1 : q * B + 2 * B = (q + 2) * B := by rw [Nat.add_mul]
      rw [h1, Nat.mul_div_cancel _ hB, Nat.mul_mod_left, Nat.add_zero, show q + 2 - 1 = q + 1 by omega, Nat.pow_succ]
      rw [← Nat.mul_assoc, Nat.mul_comm (B * 2 ^ q) 2, Nat.mul_assoc]

/-- z is near q: not further than E -/
def Nr (z q E : Rat) : Prop := z - q ≤ E ∧ q - z ≤ E
theorem Nr.sg {s : Bool} {z q E : Rat} (h : Nr z q E) : Nr (sgR s z) (sgR s q) E := by
  obtain ⟨h1, h2⟩ := h
  cases s
  · exact ⟨h1, h2⟩
  · exact ⟨by simp only [sgR, if_true]; grind, by simp only [sgR, if_true]; grind⟩

theorem zp_two' (m : Nat) (e : Int) : (0 : Rat) ≤ (m : Rat) * 2 ^ e := Rat.mul_nonneg (by have := Rat.natCast_le_natCast.2 (Nat.zero_le m); simpa using this) (Rat.le_of_lt (zp_pos _))
theorem nat_le_rat {a b : Nat} (h : a ≤ b) : (a : Rat) ≤ b := Rat.natCast_le_natCast.2 h
/-- ROUNDING: how far off; and exact where the number is of the format -/
theorem near_rv (f : Format) (s : Bool) (m : Nat) (e K : Int) (hK : (m : Rat) * 2 ^ e ≤ 2 ^ K) (hL : f.leastPlace + f.fractionBits ≤ K) (hI : ((K - f.fractionBits - f.leastPlace).toNat + 2) * f.binade < f.infRung) :
    fnt f (f.nearest s m e) ∧ ∃ t, rv f (f.nearest s m e) = sgR s t ∧ 0 ≤ t ∧ Nr t ((m : Rat) * 2 ^ e) ((m : Rat) * 2 ^ e * 2 ^ (-(f.fractionBits : Int) - 1) + 2 ^ (f.leastPlace - 1)) ∧
      (∀ (n : Nat) (j : Int), (m : Rat) * 2 ^ e = n * 2 ^ j → n < 2 ^ (f.fractionBits + 1) → f.leastPlace ≤ j → t = (m : Rat) * 2 ^ e) := by
  by_cases h0 : m = 0
  · subst h0
    have e1 : f.nearest s 0 e = f.word s 0 := by unfold Format.nearest; rw [if_pos rfl]
    rw [e1]
    obtain ⟨h1, h2⟩ := word_rv f s (r := 0) (Nat.lt_of_le_of_lt (Nat.zero_le _) hI)
    refine ⟨h1, 0, by rw [h2, units_zero (fB f)]; congr 1; grind, by grind, ?_, fun n j _ _ _ => by grind⟩
    have := zp_pos (f.leastPlace - 1)
    constructor <;> grind
  have hlog : (2 : Rat) ^ ((m.log2 : Int) + e) ≤ (m : Rat) * 2 ^ e := by
    rw [zp_add, zp_nat]
    exact Rat.mul_le_mul_of_nonneg_right (nat_le_rat (Nat.log2_self_le h0)) (Rat.le_of_lt (zp_pos e))
  have hlt : (m : Rat) * 2 ^ e < (2 : Rat) ^ ((m.log2 : Int) + e + 1) := by
    rw [show (m.log2 : Int) + e + 1 = ((m.log2 + 1 : Nat) : Int) + e by omega, zp_add, zp_nat]
    exact Rat.mul_lt_mul_of_pos_right (Rat.natCast_lt_natCast.2 Nat.lt_log2_self) (zp_pos e)
  have hle : (m.log2 : Int) + e ≤ K := zp_le' (by grind)
  obtain ⟨r, hr, hr2, _⟩ := nearest_rung f s m e K h0 (by omega) hL
  unfold Format.nearest at hr ⊢
  rw [if_neg h0] at hr ⊢
  dsimp only at hr ⊢
  generalize hl : max (e + (m.log2 : Int) - f.fractionBits) f.leastPlace = last at *
  have hkl := kept_le s m e last f.fractionBits h0 (by omega)
  have hcn := cut_near s (m <<< (e - last).toNat) (last - e).toNat
  have hcg : f.leastPlace < last → 2 ^ f.fractionBits ≤ Toward.even.cut s (m <<< (e - last).toNat) (last - e).toNat := by
    intro hgt
    have hd : (last - e).toNat ≤ (m <<< (e - last).toNat).log2 + 2 := by
      rw [Nat.shiftLeft_eq, log2_mul_pow h0]; omega
    refine Nat.le_trans ?_ (cut_ge s _ _ hd)
    rw [Nat.le_div_iff_mul_le (Nat.two_pow_pos _), ← Nat.pow_add, Nat.shiftLeft_eq]
    calc 2 ^ (f.fractionBits + (last - e).toNat) ≤ 2 ^ (m.log2 + (e - last).toNat) := Nat.pow_le_pow_right (by omega) (by omega)
      _ = 2 ^ m.log2 * 2 ^ (e - last).toNat := Nat.pow_add ..
      _ ≤ m * 2 ^ (e - last).toNat := Nat.mul_le_mul_right _ (Nat.log2_self_le h0)
  have hN : ((m <<< (e - last).toNat : Nat) : Rat) * 2 ^ (last - ((last - e).toNat : Int)) = (m : Rat) * 2 ^ e := by
    rw [Nat.shiftLeft_eq, Rat.natCast_mul, ← zp_nat, Rat.mul_assoc, ← zp_add]
    congr 2; omega
  generalize m <<< (e - last).toNat = N at *
  generalize hD : (last - e).toNat = D at *
  generalize hk : Toward.even.cut s N D = k at *
  have hB : f.binade = 2 ^ f.fractionBits := rfl
  have h2B : 2 ^ (f.fractionBits + 1) = 2 * f.binade := by rw [hB, Nat.pow_succ, Nat.mul_comm]
  have hq : (last - f.leastPlace).toNat ≤ (K - f.fractionBits - f.leastPlace).toNat := by omega
  have hrk : (last - f.leastPlace).toNat * f.binade + k < f.infRung := by
    have := Nat.mul_le_mul_right f.binade hq
    rw [Nat.add_mul] at hI; omega
  rw [Nat.min_eq_left (Nat.le_of_lt hrk)]
  obtain ⟨w1, w2⟩ := word_rv f s hrk
  have hu : units f.binade ((last - f.leastPlace).toNat * f.binade + k) = k * 2 ^ (last - f.leastPlace).toNat := by
    refine units_kept (fB f) ?_
    by_cases hgt : f.leastPlace < last
    · have := hcg hgt; rw [← hB] at this; exact .inr ⟨this, by omega⟩
    · exact .inl ⟨by omega, by omega⟩
  have hv : ((units f.binade ((last - f.leastPlace).toNat * f.binade + k) : Nat) : Rat) * 2 ^ f.leastPlace = k * 2 ^ last := by
    rw [hu, Rat.natCast_mul, ← zp_nat, Rat.mul_assoc, ← zp_add]
    congr 2; omega
  rw [hv] at w2
  refine ⟨w1, k * 2 ^ last, w2, zp_two' k last, ?_, ?_⟩
  · -- how far
    have hkD : (k : Rat) * 2 ^ last = ((k * 2 ^ D : Nat) : Rat) * 2 ^ (last - (D : Int)) := by
      rw [Rat.natCast_mul, ← zp_nat, Rat.mul_assoc, ← zp_add]; congr 2; omega
    have hh : (2 : Rat) ^ last = ((2 ^ D : Nat) : Rat) * 2 ^ (last - (D : Int)) := by
      rw [← zp_nat, ← zp_add]; congr 1; omega
    have h1 := nat_le_rat hcn.1
    have h2 := nat_le_rat hcn.2
    have hp := zp_pos (last - (D : Int))
    have m1 := Rat.mul_le_mul_of_nonneg_right h1 (Rat.le_of_lt hp)
    have m2 := Rat.mul_le_mul_of_nonneg_right h2 (Rat.le_of_lt hp)
    rw [Rat.natCast_mul, Rat.natCast_add, Rat.natCast_mul] at m1
    rw [Rat.natCast_mul, Rat.natCast_add, Rat.natCast_mul] at m2
    rw [← hN, hkD]
    have hhalf : (2 : Rat) ^ last = 2 * 2 ^ (last - 1) := by rw [← zp_one]; congr 1; omega
    have hE : (2 : Rat) ^ (last - 1) ≤ (m : Rat) * 2 ^ e * 2 ^ (-(f.fractionBits : Int) - 1) + 2 ^ (f.leastPlace - 1) := by
      have hp1 := zp_pos (-(f.fractionBits : Int) - 1)
      have hp2 := zp_pos (f.leastPlace - 1)
      by_cases hgt : f.leastPlace < last
      · have : (2 : Rat) ^ (last - 1) ≤ (m : Rat) * 2 ^ e * 2 ^ (-(f.fractionBits : Int) - 1) := by
          rw [show last - 1 = ((m.log2 : Int) + e) + (-(f.fractionBits : Int) - 1) by omega, zp_add]
          exact Rat.mul_le_mul_of_nonneg_right hlog (Rat.le_of_lt hp1)
        grind
      · have : last = f.leastPlace := by omega
        rw [this]
        have := Rat.mul_nonneg (Rat.le_trans (Rat.le_of_lt (zp_pos _)) hlog) (Rat.le_of_lt hp1)
        grind
    rw [← hN] at hE
    have c2 : ((2 : Nat) : Rat) = 2 := rfl
    rw [c2] at m1 m2
    constructor <;> grind
  · intro n j hnj hn hj
    by_cases hD0 : D = 0
    · subst hD0
      have : k = N := by rw [← hk, cut_zero]
      rw [this, ← hN]; congr 2; omega
    · -- the last place is not past j
      have hjl : last ≤ j := by
        apply Int.not_lt.1
        intro hc
        have hgt : f.leastPlace < last := by omega
        have h3 : (m : Rat) * 2 ^ e < (2 : Rat) ^ ((f.fractionBits : Int) + 1 + j) := by
          rw [hnj, show (f.fractionBits : Int) + 1 + j = ((f.fractionBits + 1 : Nat) : Int) + j by omega, zp_add, zp_nat]
          exact Rat.mul_lt_mul_of_pos_right (Rat.natCast_lt_natCast.2 hn) (zp_pos j)
        have h4 := zp_lt' (show (2 : Rat) ^ ((m.log2 : Int) + e) < 2 ^ ((f.fractionBits : Int) + 1 + j) by grind)
        omega
      have hNn : N = n * 2 ^ ((j - last).toNat + D) := by
        have h5 : (N : Rat) * 2 ^ (last - (D : Int)) = ((n * 2 ^ ((j - last).toNat + D) : Nat) : Rat) * 2 ^ (last - (D : Int)) := by
          rw [hN, hnj, Rat.natCast_mul, ← zp_nat, Rat.mul_assoc, ← zp_add]; congr 2; omega
        have h6 : (N : Rat) = ((n * 2 ^ ((j - last).toNat + D) : Nat) : Rat) := by
          have hp := zp_pos (last - (D : Int))
          generalize (N : Rat) = X at *
          generalize ((n * 2 ^ ((j - last).toNat + D) : Nat) : Rat) = Y at *
          by_cases h : X < Y
          · have := Rat.mul_lt_mul_of_pos_right h hp; grind
          · by_cases h' : Y < X
            · have := Rat.mul_lt_mul_of_pos_right h' hp; grind
            · grind
        exact Rat.natCast_inj.1 h6
      have hke : k * 2 ^ D = N := by
        have h7 : N = n * 2 ^ (j - last).toNat * 2 ^ D := by rw [hNn, Nat.pow_add, Nat.mul_assoc]
        generalize n * 2 ^ (j - last).toNat = c at h7
        have hp := Nat.two_pow_pos D
        have h8 : k = c := by
          rw [h7] at hcn
          have a1 : k * 2 ^ D < (c + 1) * 2 ^ D := by rw [Nat.add_mul]; omega
          have a2 : c * 2 ^ D < (k + 1) * 2 ^ D := by rw [Nat.add_mul]; omega
          have := Nat.lt_of_mul_lt_mul_right a1
          have := Nat.lt_of_mul_lt_mul_right a2
          omega
        rw [h8, ← h7]
      rw [← hN, ← hke, Rat.natCast_mul, ← zp_nat, Rat.mul_assoc, ← zp_add]
      congr 2; omega

/-! ### what operations give -/
def rabs (q : Rat) : Rat := if 0 ≤ q then q else -q
/-- z stands for q, rounded -/
structure Rd (f : Format) (z : Nat) (q : Rat) : Prop where
  fin : fnt f z
  near : Nr (rv f z) q (rabs q * 2 ^ (-(f.fractionBits : Int) - 1) + 2 ^ (f.leastPlace - 1))
  exact : ∀ (n : Nat) (j : Int), rabs q = n * 2 ^ j → n < 2 ^ (f.fractionBits + 1) → f.leastPlace ≤ j → rv f z = q
  pos : 0 ≤ q → 0 ≤ rv f z
  neg : q ≤ 0 → rv f z ≤ 0
theorem rabs_sg {s : Bool} {t : Rat} (h : 0 ≤ t) : rabs (sgR s t) = t := by
  unfold rabs sgR
  cases s
  · simp only [Bool.false_eq_true, if_false]; rw [if_pos h]
  · simp only [if_true]
    by_cases h0 : 0 ≤ -t
    · rw [if_pos h0]; grind
    · rw [if_neg h0]; grind
theorem sg_pos {s : Bool} {a t : Rat} (ha : 0 ≤ a) (ht : 0 ≤ t) (hz : a = 0 → t = 0) : 0 ≤ sgR s a → 0 ≤ sgR s t := by
  cases s
  · intro _; simpa [sgR] using ht
  · intro h
    simp only [sgR, if_true] at h ⊢
    have := hz (by grind)
    grind
theorem sg_neg {s : Bool} {a t : Rat} (ha : 0 ≤ a) (ht : 0 ≤ t) (hz : a = 0 → t = 0) : sgR s a ≤ 0 → sgR s t ≤ 0 := by
  cases s
  · intro h
    simp only [sgR, Bool.false_eq_true, if_false] at h ⊢
    have := hz (by grind)
    grind
  · intro _; simp only [sgR, if_true]; grind
theorem rd_near (f : Format) (s : Bool) (m : Nat) (e K : Int) (hK : (m : Rat) * 2 ^ e ≤ 2 ^ K) (hL : f.leastPlace + f.fractionBits ≤ K) (hI : ((K - f.fractionBits - f.leastPlace).toNat + 2) * f.binade < f.infRung) :
    Rd f (f.nearest s m e) (sgR s ((m : Rat) * 2 ^ e)) := by
  obtain ⟨h1, t, h2, ht, h3, h4⟩ := near_rv f s m e K hK hL hI
  have hp : 0 ≤ (m : Rat) * 2 ^ e := Rat.mul_nonneg (by have := nat_le_rat (Nat.zero_le m); simpa using this) (Rat.le_of_lt (zp_pos e))
  have hz : (m : Rat) * 2 ^ e = 0 → t = 0 := fun h0 => by
    rw [h4 0 f.leastPlace (by rw [h0]; simp) (Nat.two_pow_pos _) (Int.le_refl _), h0]
  refine ⟨h1, ?_, fun n j hq hn hj => ?_, ?_, ?_⟩
  · rw [h2, rabs_sg hp]; exact h3.sg
  · rw [rabs_sg hp] at hq
    rw [h2, h4 n j hq hn hj]
  · rw [h2]; exact sg_pos hp ht hz
  · rw [h2]; exact sg_neg hp ht hz
/-- the greatest place of a format, far from its end -/
def top (k : FloatKind) : Int := match k with | .f32 => 120 | .f64 => 1000
theorem top_ok (k : FloatKind) : k.format.leastPlace + k.format.fractionBits ≤ top k ∧ ((top k - k.format.fractionBits - k.format.leastPlace).toNat + 2) * k.format.binade < k.format.infRung := by
  cases k <;> decide
theorem signed_rat (s : Bool) (m up : Nat) (b : Int) : ((signed s m up : Int) : Rat) * 2 ^ b = sgR s ((m : Rat) * 2 ^ (b + up)) := by
  rw [signed_eq, Int.add_comm, zp_add, zp_nat]
  unfold sg sgR
  cases s
  · simp only [Bool.false_eq_true, if_false]
    rw [show (((m * 2 ^ up : Nat) : Int) : Rat) = ((m * 2 ^ up : Nat) : Rat) from rfl, Rat.natCast_mul]; grind
  · simp only [if_true]
    rw [Rat.intCast_neg, show (((m * 2 ^ up : Nat) : Int) : Rat) = ((m * 2 ^ up : Nat) : Rat) from rfl, Rat.natCast_mul]; grind
theorem abs_rat (T : Int) (b : Int) (s : Bool) (hs : T ≠ 0 → s = decide (T < 0)) : sgR s ((T.natAbs : Nat) * (2 : Rat) ^ b) = (T : Rat) * 2 ^ b := by
  by_cases h0 : T = 0
  · subst h0
    have e : (((0 : Int).natAbs : Nat) : Rat) * 2 ^ b = 0 := by simp
    rw [e, sgR_zero]; simp
  · rw [hs h0]
    unfold sgR
    by_cases h : T < 0
    · obtain ⟨n, rfl⟩ : ∃ n : Nat, T = -(n : Int) := ⟨T.natAbs, by omega⟩
      rw [decide_eq_true h]
      simp only [if_true, Int.natAbs_neg, Int.natAbs_natCast]
      rw [Rat.intCast_neg, show ((n : Int) : Rat) = (n : Rat) from rfl]; grind
    · obtain ⟨n, rfl⟩ : ∃ n : Nat, T = (n : Int) := ⟨T.natAbs, by omega⟩
      rw [decide_eq_false h]
      simp only [Bool.false_eq_true, if_false, Int.natAbs_natCast]
      rfl
theorem sum_rd (k : FloatKind) {d e : Datum} {s t : Bool} {m n : Nat} {p q : Int} (hd : d = .number s m p) (he : e = .number t n q) (hb : rabs (sgR s ((m : Rat) * 2 ^ p) + sgR t ((n : Rat) * 2 ^ q)) ≤ 2 ^ (top k)) :
    Rd k.format ((Option.map k.format.write (d.sum e)).getD (fnan k)) (sgR s ((m : Rat) * 2 ^ p) + sgR t ((n : Rat) * 2 ^ q)) := by
  subst hd he
  simp only [Datum.sum, Option.map_some, Option.getD_some, Format.write]
  generalize hB : min p q = b
  have e1 := signed_rat s m (p - b).toNat b
  have e2 := signed_rat t n (q - b).toNat b
  rw [show b + ((p - b).toNat : Int) = p by omega] at e1
  rw [show b + ((q - b).toNat : Int) = q by omega] at e2
  rw [← e1, ← e2, ← Rat.add_mul, ← Rat.intCast_add] at hb ⊢
  generalize signed s m (p - b).toNat + signed t n (q - b).toNat = T at *
  have ea := abs_rat T b (if T = 0 then (s && t) else decide (T < 0)) (fun h => by rw [if_neg h])
  have hp : (0 : Rat) ≤ (T.natAbs : Nat) * (2 : Rat) ^ b := Rat.mul_nonneg (by have := nat_le_rat (Nat.zero_le T.natAbs); simpa using this) (Rat.le_of_lt (zp_pos b))
  rw [← ea, rabs_sg hp] at hb
  rw [← ea]
  exact rd_near _ _ _ _ _ hb (top_ok k).1 (top_ok k).2
theorem fadd_rd (k : FloatKind) {x y : Nat} (hx : fnt k.format x) (hy : fnt k.format y) (hb : rabs (rv k.format x + rv k.format y) ≤ 2 ^ (top k)) : Rd k.format (fadd k x y) (rv k.format x + rv k.format y) := by
  obtain ⟨s, m, p, e1, v1, _⟩ := read_rv hx
  obtain ⟨t, n, q, e2, v2, _⟩ := read_rv hy
  rw [v1, v2] at hb ⊢
  exact sum_rd k e1 e2 hb
theorem fsub_rd (k : FloatKind) {x y : Nat} (hx : fnt k.format x) (hy : fnt k.format y) (hb : rabs (rv k.format x - rv k.format y) ≤ 2 ^ (top k)) : Rd k.format (fsub k x y) (rv k.format x - rv k.format y) := by
  obtain ⟨s, m, p, e1, v1, _⟩ := read_rv hx
  obtain ⟨t, n, q, e2, v2, _⟩ := read_rv hy
  have e3 : (k.format.read y).opposite = .number (!t) n q := by rw [e2]; rfl
  have v3 : sgR (!t) ((n : Rat) * 2 ^ q) = - rv k.format y := by rw [v2]; cases t <;> simp [sgR] <;> grind
  rw [Rat.sub_eq_add_neg, v1, ← v3] at hb ⊢
  exact sum_rd k e1 e3 hb
theorem fmul_rd (k : FloatKind) {x y : Nat} (hx : fnt k.format x) (hy : fnt k.format y) (hb : rabs (rv k.format x * rv k.format y) ≤ 2 ^ (top k)) : Rd k.format (fmul k x y) (rv k.format x * rv k.format y) := by
  obtain ⟨s, m, p, e1, v1, _⟩ := read_rv hx
  obtain ⟨t, n, q, e2, v2, _⟩ := read_rv hy
  have ep : fmul k x y = k.format.nearest (s ^^ t) (m * n) (p + q) := by
    unfold fmul Format.mul
    rw [e1, e2]
    rfl
  have ev : rv k.format x * rv k.format y = sgR (s ^^ t) (((m * n : Nat) : Rat) * 2 ^ (p + q)) := by
    rw [v1, v2, Rat.natCast_mul, zp_add]
    cases s <;> cases t <;> simp [sgR] <;> grind
  have hp : (0 : Rat) ≤ ((m * n : Nat) : Rat) * (2 : Rat) ^ (p + q) := Rat.mul_nonneg (by have := nat_le_rat (Nat.zero_le (m * n)); simpa using this) (Rat.le_of_lt (zp_pos _))
  rw [ev, rabs_sg hp] at hb
  rw [ev, ep]
  exact rd_near _ _ _ _ _ hb (top_ok k).1 (top_ok k).2

theorem zp_two (m : Nat) (e : Int) : (0 : Rat) ≤ (m : Rat) * 2 ^ e := Rat.mul_nonneg (by have := nat_le_rat (Nat.zero_le m); simpa using this) (Rat.le_of_lt (zp_pos _))
/-- z stands for a quotient, rounded -/
structure RdQ (f : Format) (z : Nat) (q : Rat) : Prop where
  fin : fnt f z
  near : Nr (rv f z) q (rabs q * 2 ^ (-(f.fractionBits : Int)) + 2 ^ (f.leastPlace - 1))
  exact : ∀ (n : Nat) (j : Int), rabs q = n * 2 ^ j → n < 2 ^ (f.fractionBits + 1) → f.leastPlace ≤ j → rv f z = q
  pos : 0 ≤ q → 0 ≤ rv f z
  neg : q ≤ 0 → rv f z ≤ 0
theorem div_step (f : Format) (s : Bool) {m n more : Nat} {e K : Int} {Q : Rat} (hm : 2 ^ (f.fractionBits + 1) * n ≤ m <<< more) (hn : n ≠ 0) (hQ : Q * n = ((m <<< more : Nat) : Rat) * 2 ^ e) (hK : Q * 2 ≤ 2 ^ K)
    (hL : f.leastPlace + f.fractionBits ≤ K) (hI : ((K - f.fractionBits - f.leastPlace).toNat + 2) * f.binade < f.infRung) :
    RdQ f (f.nearest s (2 * (m <<< more / n) + (m <<< more % n != 0).toNat) (e - 1)) (sgR s Q) := by
  generalize m <<< more = M at *
  have hd := Nat.div_add_mod M n
  have hr := Nat.mod_lt M (Nat.pos_of_ne_zero hn)
  have hq1 : 2 ^ (f.fractionBits + 1) ≤ M / n := by rw [Nat.le_div_iff_mul_le (Nat.pos_of_ne_zero hn)]; exact hm
  generalize hdd : M / n = d at *
  generalize hrr : M % n = r at *
  have hnp : (0 : Rat) < (n : Rat) := by have := Rat.natCast_lt_natCast.2 (Nat.pos_of_ne_zero hn); simpa using this
  have hpe := zp_pos e
  -- the quotient lies between d and d + 1
  have hM : (M : Rat) = (n : Rat) * d + r := by rw [← hd, Rat.natCast_add, Rat.natCast_mul]
  have hr0 : (0 : Rat) ≤ (r : Rat) := by have := nat_le_rat (Nat.zero_le r); simpa using this
  have hr1 : (r : Rat) < (n : Rat) := Rat.natCast_lt_natCast.2 hr
  have cancel : ∀ a b : Rat, a * n ≤ b * n → a ≤ b := by
    intro a b h
    by_cases hc : b < a
    · have := Rat.mul_lt_mul_of_pos_right hc hnp; grind
    · grind
  have hlo : (d : Rat) * 2 ^ e ≤ Q := by
    refine cancel _ _ ?_
    rw [hQ, hM]
    have := Rat.mul_nonneg hr0 (Rat.le_of_lt hpe); grind
  have hhi : Q ≤ ((d : Rat) + 1) * 2 ^ e := by
    refine cancel _ _ ?_
    rw [hQ, hM]
    have := Rat.mul_le_mul_of_nonneg_right (Rat.le_of_lt hr1) (Rat.le_of_lt hpe); grind
  have hb : (r != 0).toNat ≤ 1 := by cases (r != 0) <;> simp
  have hd0 : (0 : Rat) ≤ (d : Rat) := by have := nat_le_rat (Nat.zero_le d); simpa using this
  have hQ0 : 0 ≤ Q := by have := Rat.mul_nonneg hd0 (Rat.le_of_lt hpe); grind
  have he2 : (2 : Rat) ^ e = 2 * 2 ^ (e - 1) := by rw [← zp_one]; congr 1; omega
  have hpe1 := zp_pos (e - 1)
  generalize hbb : (r != 0).toNat = b at *
  have hb0 : (0 : Rat) ≤ (b : Rat) := by have := nat_le_rat (Nat.zero_le b); simpa using this
  have hb1 : (b : Rat) ≤ 1 := by have := nat_le_rat hb; simpa using this
  have hq' : ((2 * d + b : Nat) : Rat) * 2 ^ (e - 1) = (d : Rat) * 2 ^ e + b * 2 ^ (e - 1) := by
    rw [Rat.natCast_add, Rat.natCast_mul, he2]
    have c2 : ((2 : Nat) : Rat) = 2 := rfl
    rw [c2]; grind
  have hbm0 := Rat.mul_nonneg hb0 (Rat.le_of_lt hpe1)
  have hbm1 := Rat.mul_le_mul_of_nonneg_right hb1 (Rat.le_of_lt hpe1)
  -- how far the cut quotient is
  have hdbig : (2 : Rat) ^ ((f.fractionBits : Int) + 1) ≤ (d : Rat) := by
    rw [show (f.fractionBits : Int) + 1 = ((f.fractionBits + 1 : Nat) : Int) by omega, zp_nat]
    exact nat_le_rat hq1
  have hsm : (2 : Rat) ^ (e - 1) ≤ Q * 2 ^ (-(f.fractionBits : Int) - 2) := by
    have h1 := Rat.mul_le_mul_of_nonneg_right hdbig (Rat.le_of_lt hpe)
    rw [← zp_add] at h1
    have h2 : (2 : Rat) ^ ((f.fractionBits : Int) + 1 + e) ≤ Q := by grind
    have h3 := Rat.mul_le_mul_of_nonneg_right h2 (Rat.le_of_lt (zp_pos (-(f.fractionBits : Int) - 2)))
    rw [← zp_add, show (f.fractionBits : Int) + 1 + e + (-(f.fractionBits : Int) - 2) = e - 1 by omega] at h3
    exact h3
  have hcase : (r = 0 ∧ b = 0) ∨ b = 1 := by
    by_cases h : r = 0
    · left; refine ⟨h, ?_⟩; rw [← hbb, h]; rfl
    · right; rw [← hbb, show (r != 0) = true by simp [h]]; rfl
  have hz : r = 0 → ((2 * d + b : Nat) : Rat) * 2 ^ (e - 1) = Q := by
    intro h0
    have hb' : b = 0 := by rw [← hbb, h0]; rfl
    rw [hq', hb']
    have h1 : (r : Rat) = 0 := by rw [h0]; rfl
    have h2 : Q ≤ (d : Rat) * 2 ^ e := by
      refine cancel _ _ ?_
      rw [hQ, hM, h1]; grind
    have h3 : ((0 : Nat) : Rat) = 0 := rfl
    rw [h3]; grind
  have hfar : Nr (((2 * d + b : Nat) : Rat) * 2 ^ (e - 1)) Q (2 ^ (e - 1)) := by
    rw [hq']
    rcases hcase with ⟨h1, h2⟩ | h2
    · have := hz h1; rw [hq'] at this
      constructor <;> grind
    · subst h2
      have h3 : ((1 : Nat) : Rat) = 1 := rfl
      rw [h3] at *
      constructor <;> grind
  have hKK : ((2 * d + b : Nat) : Rat) * 2 ^ (e - 1) ≤ 2 ^ K := by
    have h4 := hfar.1
    have h5 : Q * 2 ^ (-(f.fractionBits : Int) - 2) ≤ Q * 1 := by
      refine Rat.mul_le_mul_of_nonneg_left ?_ hQ0
      have := zp_le (show -(f.fractionBits : Int) - 2 ≤ 0 by omega)
      simpa using this
    grind
  obtain ⟨g1, t, g2, gt, g3, g4⟩ := near_rv f s (2 * d + b) (e - 1) K hKK hL hI
  have gz : Q = 0 → t = 0 := by
    intro h0
    have h1 : (2 : Rat) ^ ((f.fractionBits : Int) + 1 + e) ≤ Q := by
      have h2 := Rat.mul_le_mul_of_nonneg_right hdbig (Rat.le_of_lt hpe)
      rw [← zp_add] at h2
      grind
    have := zp_pos ((f.fractionBits : Int) + 1 + e)
    grind
  refine ⟨g1, ?_, fun c j hc hcl hj => ?_, by rw [g2]; exact sg_pos hQ0 gt gz, by rw [g2]; exact sg_neg hQ0 gt gz⟩
  · rw [g2, rabs_sg hQ0]
    refine Nr.sg ?_
    generalize ((2 * d + b : Nat) : Rat) * 2 ^ (e - 1) = q' at *
    -- q' <= Q + Q 2^(-fb-2)
    have h6 : (2 : Rat) ^ (-(f.fractionBits : Int)) = 2 * 2 ^ (-(f.fractionBits : Int) - 1) := by rw [← zp_one]; congr 1; omega
    have h7 : (2 : Rat) ^ (-(f.fractionBits : Int) - 1) = 2 * 2 ^ (-(f.fractionBits : Int) - 2) := by rw [← zp_one]; congr 1; omega
    have h8 := zp_pos (-(f.fractionBits : Int) - 2)
    generalize (2 : Rat) ^ (-(f.fractionBits : Int) - 2) = ε at *
    have h9 : ε ≤ 1 / 4 := by
      have := zp_le (show -(f.fractionBits : Int) - 1 ≤ -1 by omega)
      have e0 := zp_one (-1)
      have e1 : (2 : Rat) ^ (-1 + 1 : Int) = 1 := by rw [show (-1 : Int) + 1 = ((0 : Nat) : Int) by omega, zp_nat]; rfl
      rw [e1] at e0
      rw [h7] at this
      grind
    have h10 := Rat.mul_nonneg hQ0 (Rat.le_of_lt h8)
    have h11 : q' * (2 * ε) ≤ (Q + Q * ε) * (2 * ε) := Rat.mul_le_mul_of_nonneg_right (by have := hfar.1; grind) (by grind)
    have h12 : Q * ε * ε ≤ Q * ε * (1 / 4) := Rat.mul_le_mul_of_nonneg_left h9 h10
    rw [h6, h7]
    rw [h7] at g3
    have := hfar.1; have := hfar.2; have := g3.1; have := g3.2
    constructor <;> grind
  · rw [rabs_sg hQ0] at hc
    have hr00 : r = 0 := by
      -- Q = c 2^j, so n c 2^w = M
      have hje : e ≤ j := by
        apply Int.not_lt.1
        intro hlt
        have h1 : Q < (2 : Rat) ^ ((f.fractionBits : Int) + 1 + j) := by
          rw [hc, show (f.fractionBits : Int) + 1 + j = ((f.fractionBits + 1 : Nat) : Int) + j by omega, zp_add, zp_nat]
          exact Rat.mul_lt_mul_of_pos_right (Rat.natCast_lt_natCast.2 hcl) (zp_pos j)
        have h2 := Rat.mul_le_mul_of_nonneg_right hdbig (Rat.le_of_lt hpe)
        rw [← zp_add] at h2
        have h3 := zp_lt' (show (2 : Rat) ^ ((f.fractionBits : Int) + 1 + e) < 2 ^ ((f.fractionBits : Int) + 1 + j) by grind)
        omega
      have h4 : ((c * 2 ^ (j - e).toNat * n : Nat) : Rat) * 2 ^ e = (M : Rat) * 2 ^ e := by
        rw [← hQ, hc, Rat.natCast_mul, Rat.natCast_mul, ← zp_nat]
        have : (2 : Rat) ^ j = 2 ^ (((j - e).toNat : Int)) * 2 ^ e := by rw [← zp_add]; congr 1; omega
        rw [this]; grind
      have h5 : ((c * 2 ^ (j - e).toNat * n : Nat) : Rat) = (M : Rat) := by
        generalize ((c * 2 ^ (j - e).toNat * n : Nat) : Rat) = X at *
        generalize (M : Rat) = Y at *
        by_cases h : X < Y
        · have := Rat.mul_lt_mul_of_pos_right h hpe; grind
        · by_cases h' : Y < X
          · have := Rat.mul_lt_mul_of_pos_right h' hpe; grind
          · grind
      have h6 := Rat.natCast_inj.1 h5
      rw [← hrr, ← h6, Nat.mul_mod_left]
    have := hz hr00
    rw [g2, g4 c j (by rw [this, hc]) hcl hj, this]
theorem fdiv_rd (k : FloatKind) {x y : Nat} (hx : fnt k.format x) (hy : fnt k.format y) (hy0 : rv k.format y ≠ 0) {q : Rat} (hq : q * rv k.format y = rv k.format x) (hb : rabs q * 2 ≤ 2 ^ (top k)) : RdQ k.format (fdiv k x y) q := by
  obtain ⟨s, m, p, e1, v1, _⟩ := read_rv hx
  obtain ⟨t, n, w, e2, v2, _⟩ := read_rv hy
  have hn0 : n ≠ 0 := by
    rintro rfl
    apply hy0; rw [v2]
    have : ((0 : Nat) : Rat) * 2 ^ w = 0 := by simp
    rw [this, sgR_zero]
  have hnp : (0 : Rat) < (n : Rat) := by have := Rat.natCast_lt_natCast.2 (Nat.pos_of_ne_zero hn0); simpa using this
  generalize hmo : k.format.fractionBits + 2 + n.log2 - m.log2 = more
  have ep : fdiv k x y = k.format.nearest (s ^^ t) (2 * (m <<< more / n) + (m <<< more % n != 0).toNat) (p - w - more - 1) := by
    unfold fdiv Format.div
    rw [e1, e2]
    simp only [Datum.quotient, if_neg hn0, Option.map_some, Option.getD_some, Format.write, hmo]
  by_cases hm0 : m = 0
  · subst hm0
    have hq0 : q = 0 := by
      have h1 : q * rv k.format y = 0 := by
        rw [hq, v1]
        have : ((0 : Nat) : Rat) * 2 ^ p = 0 := by simp
        rw [this, sgR_zero]
      rcases Rat.mul_eq_zero.1 h1 with h | h
      · exact h
      · exact absurd h hy0
    subst hq0
    rw [ep]
    have h2 : 2 * (0 <<< more / n) + (0 <<< more % n != 0).toNat = 0 := by simp
    rw [h2]
    have h3 : ((0 : Nat) : Rat) * 2 ^ (p - w - more - 1) = 0 := by simp
    have hK : ((0 : Nat) : Rat) * 2 ^ (p - w - more - 1) ≤ 2 ^ (top k) := by rw [h3]; exact Rat.le_of_lt (zp_pos _)
    have := rd_near k.format (s ^^ t) 0 (p - w - more - 1) (top k) hK (top_ok k).1 (top_ok k).2
    rw [h3, sgR_zero] at this
    refine ⟨this.fin, ?_, this.exact, this.pos, this.neg⟩
    have h4 := this.near
    have h5 : rabs 0 = 0 := by decide
    rw [h5] at h4 ⊢
    constructor
    · have := h4.1; grind
    · have := h4.2; grind
  · -- the size of the quotient
    have hQn : ∃ Q : Rat, q = sgR (s ^^ t) Q ∧ Q * n = ((m <<< more : Nat) : Rat) * 2 ^ (p - w - more) := by
      refine ⟨sgR (s ^^ t) q, by cases s <;> cases t <;> simp [sgR] <;> grind, ?_⟩
      have hp := zp_pos w
      have h1 : sgR (s ^^ t) q * n * 2 ^ w = (m : Rat) * 2 ^ p := by
        have h2 := hq
        rw [v1, v2] at h2
        cases s <;> cases t <;> simp [sgR] at h2 ⊢ <;> grind
      have h3 : ((m <<< more : Nat) : Rat) * 2 ^ (p - w - more) * 2 ^ w = (m : Rat) * 2 ^ p := by
        rw [Nat.shiftLeft_eq, Rat.natCast_mul, ← zp_nat, Rat.mul_assoc, Rat.mul_assoc, ← zp_add, ← zp_add]
        congr 2; omega
      generalize sgR (s ^^ t) q * n = X at *
      generalize ((m <<< more : Nat) : Rat) * 2 ^ (p - w - more) = Y at *
      by_cases h : X < Y
      · have := Rat.mul_lt_mul_of_pos_right h hp; grind
      · by_cases h' : Y < X
        · have := Rat.mul_lt_mul_of_pos_right h' hp; grind
        · grind
    obtain ⟨Q, rfl, hQ⟩ := hQn
    have hM0 := zp_two (m <<< more) (p - w - more)
    have hQ0 : 0 ≤ Q := by
      by_cases h : Q < 0
      · have := Rat.mul_lt_mul_of_pos_right h hnp; grind
      · grind
    rw [rabs_sg hQ0] at hb
    rw [ep]
    refine div_step k.format (s ^^ t) (K := top k) ?_ hn0 hQ hb (top_ok k).1 (top_ok k).2
    rw [Nat.shiftLeft_eq]
    have hl1 := Nat.log2_self_le hm0
    have hl2 : n < 2 ^ (n.log2 + 1) := Nat.lt_log2_self
    calc 2 ^ (k.format.fractionBits + 1) * n ≤ 2 ^ (k.format.fractionBits + 1) * 2 ^ (n.log2 + 1) := Nat.mul_le_mul_left _ (Nat.le_of_lt hl2)
      _ = 2 ^ (k.format.fractionBits + 1 + (n.log2 + 1)) := (Nat.pow_add ..).symm
      _ ≤ 2 ^ (m.log2 + more) := Nat.pow_le_pow_right (by omega) (by omega)
      _ = 2 ^ m.log2 * 2 ^ more := Nat.pow_add ..
      _ ≤ m * 2 ^ more := Nat.mul_le_mul_right _ hl1
end Go.Proofs.LV
