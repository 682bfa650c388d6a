/- Texts that belong together. -/
import Derived.Test.YtdffgjembkanoaaLvAbsX
import Derived.Test.YtdffgjembkanoaaLvFnCX
namespace Go.Proofs.LV
open Go Ieee
set_option linter.unusedVariables false
set_option linter.unusedSimpArgs false

/-- what it stands for, in least steps -/
def val (x : Nat) : Int := sg (sign double x) (units double.binade (rung double x))
def fin64 (x : Nat) : Prop := rung double x < double.infRung
/-- finite, and not above 2^J least steps -/
def bd (J : Nat) (x : Nat) : Prop := fin64 x ∧ (val x).natAbs ≤ 2 ^ J

theorem dB : 0 < double.binade := binade_pos double
theorem sg_abs (s : Bool) (n : Nat) : (sg s n).natAbs = n := by cases s <;> simp [sg]
theorem val_abs (x : Nat) : (val x).natAbs = units double.binade (rung double x) := sg_abs _ _
theorem read_val {x : Nat} (h : fin64 x) : ∃ s m p, double.read x = .number s m (double.leastPlace + (p : Nat)) ∧ sg s (m * 2 ^ p) = val x ∧ m * 2 ^ p = units double.binade (rung double x) := by
  obtain ⟨m, p, e, hm⟩ := read_num (f := double) h
  exact ⟨_, m, p, e, by unfold val; rw [hm], hm⟩
theorem units_pow {q : Nat} (hq : 1 ≤ q) : units double.binade (q * double.binade) = 2 ^ (q + 51) := by
  unfold units
  have h1 : ¬ q * double.binade < double.binade := by have := Nat.le_mul_of_pos_left double.binade (show 0 < q by omega); omega
  rw [if_neg h1, Nat.mul_mod_left, Nat.mul_div_cancel _ dB, Nat.add_zero, dbl.2.2, ← Nat.pow_add]
  congr 1; omega
theorem bd_rung {J x : Nat} (hJ : 52 ≤ J) (h : bd J x) : rung double x ≤ (J - 51) * 2 ^ 52 := by
  have h2 := h.2
  rw [val_abs] at h2
  apply Nat.le_of_not_lt
  intro hc
  have h3 := units_lt dB hc
  rw [show (J - 51) * 2 ^ 52 = (J - 51) * double.binade by rw [dbl.2.2], units_pow (by omega), show J - 51 + 51 = J by omega] at h3
  omega
theorem bd_mono {J K x : Nat} (h : bd J x) (hJ : J ≤ K) : bd K x := ⟨h.1, Nat.le_trans h.2 (Nat.pow_le_pow_right (by omega) hJ)⟩
theorem fin_nan64 {x : Nat} (h : fin64 x) : nanB .f64 x = false := by
  rw [nanB_iff]
  unfold fin64 at h
  exact decide_eq_false (by show ¬ double.infRung < rung double x; omega)

/-! ### the order -/
theorem val_cmp (x y : Nat) : compare (val x) (val y) = compare (srung .f64 x) (srung .f64 y) := sg_compare (units_zero dB) (units_lt dB) _ _ _ _
theorem cmp_lt {a b c d : Int} (h : compare a b = compare c d) : (a < b ↔ c < d) ∧ (a = b ↔ c = d) := by
  simp only [compare, compareOfLessAndEq] at h
  refine ⟨⟨fun h1 => ?_, fun h1 => ?_⟩, ⟨fun h1 => ?_, fun h1 => ?_⟩⟩
  · rw [if_pos h1] at h; split at h
    · assumption
    · split at h <;> cases h
  · rw [if_pos h1] at h; split at h
    · assumption
    · split at h <;> cases h
  · rw [if_neg (by omega), if_pos h1] at h; split at h
    · cases h
    · split at h
      · assumption
      · cases h
  · have h1' : ¬ c < d := by omega
    rw [if_neg h1', if_pos h1] at h; split at h
    · cases h
    · split at h
      · assumption
      · cases h
theorem flt_val {x y : Nat} (hx : fin64 x) (hy : fin64 y) : flt .f64 x y = decide (val x < val y) := by
  rw [flt_eq, fin_nan64 hx, fin_nan64 hy]
  simp only [Bool.not_false, Bool.true_and]
  exact decide_eq_decide.2 (cmp_lt (val_cmp x y)).1.symm
theorem fgt_val {x y : Nat} (hx : fin64 x) (hy : fin64 y) : fgt .f64 x y = decide (val y < val x) := by
  rw [fgt_eq, fin_nan64 hx, fin_nan64 hy]
  simp only [Bool.not_false, Bool.true_and]
  exact decide_eq_decide.2 (cmp_lt (val_cmp y x)).1.symm
theorem fge_val {x y : Nat} (hx : fin64 x) (hy : fin64 y) : fge .f64 x y = decide (val y ≤ val x) := by
  rw [fge_not .f64 (fin_nan64 hx) (fin_nan64 hy), flt_val hx hy]
  by_cases h : val x < val y
  · have : ¬ val y ≤ val x := by omega
    simp [h, this]
  · have : val y ≤ val x := by omega
    simp [h, this]
theorem fle_val {x y : Nat} (hx : fin64 x) (hy : fin64 y) : fle .f64 x y = decide (val x ≤ val y) := by
  rw [fle_not .f64 (fin_nan64 hx) (fin_nan64 hy), fgt_val hx hy]
  by_cases h : val y < val x
  · have : ¬ val x ≤ val y := by omega
    simp [h, this]
  · have : val x ≤ val y := by omega
    simp [h, this]

/-! ### a word that is written -/
theorem word_val (s : Bool) {r : Nat} (h : r < double.infRung) : fin64 (double.word s r) ∧ val (double.word s r) = sg s (units double.binade r) := by
  have h1 := rung_word double s r (Nat.le_of_lt h)
  have h2 : sign double (double.word s r) = s := (read_word_rung double s r (Nat.lt_of_le_of_lt (Nat.le_of_lt h) double.infRung_lt)).2
  unfold fin64 val
  rw [h1, h2]
  exact ⟨h, rfl⟩
theorem inf_dbl : double.infRung = 2047 * 2 ^ 52 := by decide
theorem near_zero (s : Bool) (pl : Int) : fin64 (double.nearest s 0 pl) ∧ val (double.nearest s 0 pl) = 0 := by
  have : double.nearest s 0 pl = double.word s 0 := by unfold Format.nearest; rw [if_pos rfl]
  rw [this]
  obtain ⟨h1, h2⟩ := word_val s (r := 0) (by decide)
  exact ⟨h1, by rw [h2, units_zero dB]; cases s <;> rfl⟩
/-- exact where it can be -/
theorem near_exact (s : Bool) {m a : Nat} (hm : m < 2 ^ 53) (ha : a ≤ 2000) : fin64 (double.nearest s (m * 2 ^ a) double.leastPlace) ∧ val (double.nearest s (m * 2 ^ a) double.leastPlace) = sg s (m * 2 ^ a) := by
  by_cases h0 : m = 0
  · subst h0; rw [Nat.zero_mul]
    obtain ⟨h1, h2⟩ := near_zero s double.leastPlace
    exact ⟨h1, by rw [h2]; cases s <;> rfl⟩
  have e := nearest_shift double s m (double.leastPlace + (a : Nat)) a
  rw [show double.leastPlace + (a : Int) - (a : Int) = double.leastPlace by omega] at e
  rw [e]
  obtain ⟨r, h1, h2, h3⟩ := nearest_exact double s m (double.leastPlace + (a : Nat)) h0 (by rw [dbl.2.2]; omega) (by omega) (by rw [show (double.leastPlace + (a : Int) - double.leastPlace).toNat = a by omega, dbl.2.2, inf_dbl]; omega)
  rw [show (double.leastPlace + (a : Int) - double.leastPlace).toNat = a by omega] at h3
  obtain ⟨h4, h5⟩ := word_val s h2
  rw [h1]
  exact ⟨h4, by rw [h5, h3]⟩
/-- within a power of two -/
theorem near_bd (s : Bool) {n J : Nat} (h1 : 53 ≤ J) (h2 : J ≤ 2000) (h : n ≤ 2 ^ J) : ∃ v, v ≤ 2 ^ J ∧ fin64 (double.nearest s n double.leastPlace) ∧ val (double.nearest s n double.leastPlace) = sg s v := by
  by_cases h0 : n = 0
  · subst h0
    obtain ⟨h3, h4⟩ := near_zero s double.leastPlace
    exact ⟨0, Nat.zero_le _, h3, by rw [h4]; cases s <;> rfl⟩
  rcases Nat.lt_or_eq_of_le h with hlt | rfl
  · have hl : n.log2 < J := log2_lt' hlt h0
    obtain ⟨r, hr, hr2, _⟩ := nearest_rung double s n double.leastPlace (double.leastPlace + (J : Nat) - 1) h0 (by omega) (by rw [dbl.1, dbl.2.1]; omega)
    have hk : (double.leastPlace + (J : Int) - 1 - double.fractionBits - double.leastPlace).toNat + 2 = J - 51 := by rw [dbl.2.1]; omega
    rw [hk] at hr2
    obtain ⟨h4, h5⟩ := word_val s (r := r) (by rw [dbl.2.2] at hr2; rw [inf_dbl]; omega)
    rw [hr]
    refine ⟨_, ?_, h4, h5⟩
    have := units_le dB hr2
    rwa [units_pow (by omega), show J - 51 + 51 = J by omega] at this
  · have := near_exact s (m := 1) (a := J) (by omega) h2
    rw [Nat.one_mul] at this
    exact ⟨2 ^ J, Nat.le_refl _, this.1, this.2⟩

/-! ### sums -/
theorem fadd_near {x y : Nat} (hx : fin64 x) (hy : fin64 y) : ∃ s, fadd .f64 x y = double.nearest s (val x + val y).natAbs double.leastPlace ∧ (val x + val y ≠ 0 → s = decide (val x + val y < 0)) := by
  obtain ⟨s, m, p, e1, v1, _⟩ := read_val hx
  obtain ⟨t, n, q, e2, v2, _⟩ := read_val hy
  unfold fadd Format.add
  show ∃ s, (Option.map double.write ((double.read x).sum (double.read y))).getD (fnan .f64) = _ ∧ _
  rw [e1, e2]
  simp only [Datum.sum, Option.map_some, Option.getD_some, Format.write]
  generalize hb : min (double.leastPlace + (p : Int)) (double.leastPlace + (q : Int)) = b
  rw [signed_eq, signed_eq]
  obtain ⟨k, rfl⟩ : ∃ k : Nat, b = double.leastPlace + (k : Nat) := ⟨min p q, by omega⟩
  rw [show (double.leastPlace + (p : Int) - (double.leastPlace + (k : Int))).toNat = p - k by omega, show (double.leastPlace + (q : Int) - (double.leastPlace + (k : Int))).toNat = q - k by omega]
  have et : (sg s (m * 2 ^ (p - k)) + sg t (n * 2 ^ (q - k))) * 2 ^ k = val x + val y := by
    rw [Int.add_mul, ← sg_scale, ← sg_scale, Nat.mul_assoc, Nat.mul_assoc, ← Nat.pow_add, ← Nat.pow_add, show p - k + k = p by omega, show q - k + k = q by omega, v1, v2]
  generalize sg s (m * 2 ^ (p - k)) + sg t (n * 2 ^ (q - k)) = T at *
  have hp : (0 : Int) < 2 ^ k := Int.pow_pos (by omega)
  refine ⟨(if T = 0 then (s && t) else decide (T < 0)), ?_, ?_⟩
  rotate_left
  · intro h
    have hT : T ≠ 0 := by rintro rfl; rw [Int.zero_mul] at et; exact h et.symm
    rw [if_neg hT, ← et]
    refine decide_eq_decide.2 ⟨fun h => ?_, fun h => ?_⟩
    · exact Int.mul_neg_of_neg_of_pos h hp
    · apply Int.lt_of_not_ge; intro hc
      have := Int.mul_nonneg hc (Int.le_of_lt hp); omega
  · rw [← et, Int.natAbs_mul]
    have : ((2 : Int) ^ k).natAbs = 2 ^ k := by rw [Int.natAbs_pow]; rfl
    rw [this]
    have e := nearest_shift double (if T = 0 then (s && t) else decide (T < 0)) T.natAbs (double.leastPlace + (k : Nat)) k
    rw [show double.leastPlace + (k : Int) - (k : Int) = double.leastPlace by omega] at e
    exact e.symm
theorem opp_read {y : Nat} (h : fin64 y) : ∃ t n q, (double.read y).opposite = .number t n (double.leastPlace + (q : Nat)) ∧ sg t (n * 2 ^ q) = - val y := by
  obtain ⟨t, n, q, e2, v2, _⟩ := read_val h
  refine ⟨!t, n, q, by rw [e2]; rfl, ?_⟩
  rw [← v2]; cases t <;> simp [sg]
theorem fsub_near {x y : Nat} (hx : fin64 x) (hy : fin64 y) : ∃ s, fsub .f64 x y = double.nearest s (val x - val y).natAbs double.leastPlace ∧ (val x - val y ≠ 0 → s = decide (val x - val y < 0)) := by
  obtain ⟨s, m, p, e1, v1, _⟩ := read_val hx
  obtain ⟨t, n, q, e2, v2⟩ := opp_read hy
  unfold fsub Format.sub
  show ∃ s, (Option.map double.write ((double.read x).sum (double.read y).opposite)).getD (fnan .f64) = _ ∧ _
  rw [e1, e2]
  simp only [Datum.sum, Option.map_some, Option.getD_some, Format.write]
  generalize hb : min (double.leastPlace + (p : Int)) (double.leastPlace + (q : Int)) = b
  rw [signed_eq, signed_eq]
  obtain ⟨k, rfl⟩ : ∃ k : Nat, b = double.leastPlace + (k : Nat) := ⟨min p q, by omega⟩
  rw [show (double.leastPlace + (p : Int) - (double.leastPlace + (k : Int))).toNat = p - k by omega, show (double.leastPlace + (q : Int) - (double.leastPlace + (k : Int))).toNat = q - k by omega]
  have et : (sg s (m * 2 ^ (p - k)) + sg t (n * 2 ^ (q - k))) * 2 ^ k = val x - val y := by
    rw [Int.add_mul, ← sg_scale, ← sg_scale, Nat.mul_assoc, Nat.mul_assoc, ← Nat.pow_add, ← Nat.pow_add, show p - k + k = p by omega, show q - k + k = q by omega, v1, v2]; omega
  generalize sg s (m * 2 ^ (p - k)) + sg t (n * 2 ^ (q - k)) = T at *
  have hp : (0 : Int) < 2 ^ k := Int.pow_pos (by omega)
  refine ⟨(if T = 0 then (s && t) else decide (T < 0)), ?_, ?_⟩
  rotate_left
  · intro h
    have hT : T ≠ 0 := by rintro rfl; rw [Int.zero_mul] at et; exact h et.symm
    rw [if_neg hT, ← et]
    refine decide_eq_decide.2 ⟨fun h => ?_, fun h => ?_⟩
    · exact Int.mul_neg_of_neg_of_pos h hp
    · apply Int.lt_of_not_ge; intro hc
      have := Int.mul_nonneg hc (Int.le_of_lt hp); omega
  · rw [← et, Int.natAbs_mul]
    have : ((2 : Int) ^ k).natAbs = 2 ^ k := by rw [Int.natAbs_pow]; rfl
    rw [this]
    have e := nearest_shift double (if T = 0 then (s && t) else decide (T < 0)) T.natAbs (double.leastPlace + (k : Nat)) k
    rw [show double.leastPlace + (k : Int) - (k : Int) = double.leastPlace by omega] at e
    exact e.symm
/-- a sum that is rounded: where the exact one lies -/
def Within (J : Nat) (D : Int) (z : Nat) : Prop := fin64 z ∧ (0 ≤ D → 0 ≤ val z) ∧ (D ≤ 0 → val z ≤ 0) ∧ (val z).natAbs ≤ 2 ^ J
theorem within_of {D : Int} {s : Bool} {z J : Nat} (h : z = double.nearest s D.natAbs double.leastPlace) (hs : D ≠ 0 → s = decide (D < 0)) (h1 : 53 ≤ J) (h2 : J ≤ 2000) (hD : D.natAbs ≤ 2 ^ J) : Within J D z := by
  obtain ⟨v, hv, hf, he⟩ := near_bd s h1 h2 hD
  rw [← h] at hf he
  refine ⟨hf, fun h3 => ?_, fun h3 => ?_, by rw [he, sg_abs]; exact hv⟩
  · by_cases h0 : D = 0
    · subst h0
      have := (near_zero s double.leastPlace).2
      rw [h]; simp only [Int.natAbs_zero]; omega
    · have := hs h0
      rw [decide_eq_false (by omega)] at this
      rw [he, this]; simp [sg]
  · by_cases h0 : D = 0
    · subst h0
      have := (near_zero s double.leastPlace).2
      rw [h]; simp only [Int.natAbs_zero]; omega
    · have := hs h0
      rw [decide_eq_true (by omega)] at this
      rw [he, this]; simp [sg]
theorem fadd_within {x y J : Nat} (hx : fin64 x) (hy : fin64 y) (h1 : 53 ≤ J) (h2 : J ≤ 2000) (hD : (val x + val y).natAbs ≤ 2 ^ J) : Within J (val x + val y) (fadd .f64 x y) := by
  obtain ⟨s, h, hs⟩ := fadd_near hx hy
  exact within_of h hs h1 h2 hD
theorem fsub_within {x y J : Nat} (hx : fin64 x) (hy : fin64 y) (h1 : 53 ≤ J) (h2 : J ≤ 2000) (hD : (val x - val y).natAbs ≤ 2 ^ J) : Within J (val x - val y) (fsub .f64 x y) := by
  obtain ⟨s, h, hs⟩ := fsub_near hx hy
  exact within_of h hs h1 h2 hD
theorem fsub_bd {x y J : Nat} (hx : bd J x) (hy : bd J y) (h1 : 53 ≤ J) (h2 : J ≤ 1999) : bd (J + 1) (fsub .f64 x y) := by
  have := fsub_within hx.1 hy.1 (J := J + 1) (by omega) (by omega) (by have := hx.2; have := hy.2; rw [Nat.pow_succ]; omega)
  exact ⟨this.1, this.2.2.2⟩

/-! ### products, quotients -/
theorem near_place (s : Bool) {n J : Nat} {pl : Int} (h1 : 53 ≤ J) (h2 : J ≤ 1999) (h : n ≠ 0 → pl + (n.log2 : Int) ≤ double.leastPlace + (J : Nat)) : bd (J + 1) (double.nearest s n pl) := by
  by_cases h0 : n = 0
  · subst h0
    obtain ⟨h3, h4⟩ := near_zero s pl
    exact ⟨h3, by rw [h4]; exact Nat.zero_le _⟩
  obtain ⟨r, hr, hr2, _⟩ := nearest_rung double s n pl (double.leastPlace + (J : Nat)) h0 (h h0) (by rw [dbl.1, dbl.2.1]; omega)
  have hk : (double.leastPlace + (J : Int) - double.fractionBits - double.leastPlace).toNat + 2 = J + 1 - 51 := by rw [dbl.2.1]; omega
  rw [hk] at hr2
  obtain ⟨h4, h5⟩ := word_val s (r := r) (by rw [dbl.2.2] at hr2; rw [inf_dbl]; omega)
  rw [hr]
  refine ⟨h4, ?_⟩
  rw [h5, sg_abs]
  have := units_le dB hr2
  rwa [units_pow (by omega), show J + 1 - 51 + 51 = J + 1 by omega] at this
theorem log_le {n a b : Nat} (h0 : n ≠ 0) (h : n * 2 ^ a ≤ 2 ^ b) : n.log2 + a ≤ b := by
  have h1 : 2 ^ n.log2 ≤ n := Nat.log2_self_le h0
  have h2 : 2 ^ (n.log2 + a) ≤ 2 ^ b := by
    rw [Nat.pow_add]; exact Nat.le_trans (Nat.mul_le_mul_right _ h1) h
  exact (Nat.pow_le_pow_iff_right (by omega)).1 h2
theorem fmul_bd {x y A B : Nat} (hx : bd A x) (hy : bd B y) (h1 : 1127 ≤ A + B) (h2 : A + B ≤ 3073) : bd (A + B - 1073) (fmul .f64 x y) := by
  obtain ⟨s, m, p, e1, v1, u1⟩ := read_val hx.1
  obtain ⟨t, n, q, e2, v2, u2⟩ := read_val hy.1
  have hm := hx.2; have hn := hy.2
  rw [val_abs, ← u1] at hm
  rw [val_abs, ← u2] at hn
  have ep : fmul .f64 x y = double.nearest (s ^^ t) (m * n) (double.leastPlace + (p : Nat) + (double.leastPlace + (q : Nat))) := by
    unfold fmul Format.mul
    simp only [FloatKind.format]
    rw [e1, e2]
    rfl
  rw [ep, show A + B - 1073 = (A + B - 1074) + 1 by omega]
  refine near_place _ (by omega) (by omega) (fun h0 => ?_)
  have hle : m * n * 2 ^ (p + q) ≤ 2 ^ (A + B) := by
    calc m * n * 2 ^ (p + q) = (m * 2 ^ p) * (n * 2 ^ q) := by rw [Nat.pow_add]; simp [Nat.mul_comm, Nat.mul_left_comm, Nat.mul_assoc]
      _ ≤ 2 ^ A * 2 ^ B := Nat.mul_le_mul hm hn
      _ = 2 ^ (A + B) := (Nat.pow_add ..).symm
  have := log_le h0 hle
  rw [dbl.1]; omega
theorem log_two {d b : Nat} (hd : d ≠ 0) (hb : b ≤ 1) : (2 * d + b).log2 = d.log2 + 1 := by
  have h1 := Nat.log2_self_le hd
  have h2 : d < 2 ^ (d.log2 + 1) := Nat.lt_log2_self
  have h0 : 2 * d + b ≠ 0 := by omega
  have h3 : (2 * d + b).log2 < d.log2 + 2 := log2_lt' (by rw [Nat.pow_succ]; omega) h0
  have h4 : d.log2 + 1 ≤ (2 * d + b).log2 := (Nat.le_log2 h0).2 (by rw [Nat.pow_succ]; omega)
  omega
/-- divided by what is not below 1 -/
theorem fdiv_bd {x y A : Nat} (hx : bd A x) (hy : fin64 y) (hy1 : 2 ^ 1074 ≤ (val y).natAbs) (h1 : 53 ≤ A) (h2 : A ≤ 1999) : bd (A + 1) (fdiv .f64 x y) := by
  obtain ⟨s, m, p, e1, v1, u1⟩ := read_val hx.1
  obtain ⟨t, n, q, e2, v2, u2⟩ := read_val hy
  have hm := hx.2
  rw [val_abs, ← u1] at hm
  rw [val_abs, ← u2] at hy1
  have hn0 : n ≠ 0 := by rintro rfl; rw [Nat.zero_mul] at hy1; have := Nat.two_pow_pos 1074; omega
  generalize hmo : double.fractionBits + 2 + n.log2 - m.log2 = more
  have ep : fdiv .f64 x y = double.nearest (s ^^ t) (2 * (m <<< more / n) + (m <<< more % n != 0).toNat) (double.leastPlace + (p : Nat) - (double.leastPlace + (q : Nat)) - more - 1) := by
    unfold fdiv Format.div
    simp only [FloatKind.format]
    rw [e1, e2]
    simp only [Datum.quotient, if_neg hn0, Option.map_some, Option.getD_some, Format.write, hmo]
  rw [ep]
  refine near_place _ h1 h2 (fun h0 => ?_)
  by_cases hm0 : m = 0
  · subst hm0; simp at h0
  have hb : (m <<< more % n != 0).toNat ≤ 1 := by cases (m <<< more % n != 0) <;> simp
  have hq0 : m <<< more / n ≠ 0 := by
    have hl1 := Nat.log2_self_le hm0
    have hl2 : n < 2 ^ (n.log2 + 1) := Nat.lt_log2_self
    have : n ≤ m <<< more := by
      rw [Nat.shiftLeft_eq]
      calc n ≤ 2 ^ (n.log2 + 1) := Nat.le_of_lt hl2
        _ ≤ 2 ^ (m.log2 + more) := Nat.pow_le_pow_right (by omega) (by omega)
        _ = 2 ^ m.log2 * 2 ^ more := Nat.pow_add ..
        _ ≤ m * 2 ^ more := Nat.mul_le_mul_right _ hl1
    exact Nat.ne_of_gt (Nat.div_pos this (by omega))
  rw [log_two hq0 hb]
  have hle : m <<< more / n * 2 ^ (1074 + p) ≤ 2 ^ (A + (more + q)) := by
    have h3 : m <<< more / n * n ≤ m * 2 ^ more := by rw [← Nat.shiftLeft_eq]; exact Nat.div_mul_le_self _ _
    generalize m <<< more / n = d at *
    calc d * 2 ^ (1074 + p) = d * 2 ^ 1074 * 2 ^ p := by rw [Nat.pow_add, Nat.mul_assoc]
      _ ≤ d * (n * 2 ^ q) * 2 ^ p := Nat.mul_le_mul_right _ (Nat.mul_le_mul_left _ hy1)
      _ = (d * n) * (2 ^ q * 2 ^ p) := by simp [Nat.mul_comm, Nat.mul_left_comm, Nat.mul_assoc]
      _ ≤ (m * 2 ^ more) * (2 ^ q * 2 ^ p) := Nat.mul_le_mul_right _ h3
      _ = (m * 2 ^ p) * (2 ^ more * 2 ^ q) := by simp [Nat.mul_comm, Nat.mul_left_comm, Nat.mul_assoc]
      _ ≤ 2 ^ A * (2 ^ more * 2 ^ q) := Nat.mul_le_mul_right _ hm
      _ = 2 ^ (A + (more + q)) := by rw [← Nat.pow_add, ← Nat.pow_add]
  have := log_le hq0 hle
  rw [dbl.1]; omega
theorem fneg_bd {x J : Nat} (hx : bd J x) : bd J (fneg .f64 x) := by
  have h1 : (FloatKind.f64.format.read x).isNaN = false := fin_nan64 hx.1
  have h2 : rung double (fneg .f64 x) = rung double x := by
    unfold fneg
    rw [h1]
    simp only [Bool.false_eq_true, if_false]
    unfold Op.negFloat rung
    rw [show double.signWeight = 2 ^ 63 by decide, show FloatKind.f64.format.exponentBits + FloatKind.f64.format.fractionBits = 63 by decide, Nat.xor_mod_two_pow, Nat.mod_self, Nat.xor_zero]
  unfold bd fin64 at *
  rw [val_abs] at *
  rw [h2]
  exact hx
theorem narrow_bd {x J : Nat} (hx : bd J x) (h : J ≤ 1200) : fconvOk .f64 .f32 x = true := by
  have h1 := bd_rung (J := max J 52) (by omega) (bd_mono hx (Nat.le_max_left _ _))
  exact narrow_ok (q := max J 52 - 51) (by omega) (by omega) h1
end Go.Proofs.LV

namespace Go.Proofs.LV
open Go Ieee
set_option linter.unusedVariables false
set_option linter.unusedSimpArgs false

abbrev d25 : Nat := 4598175219545276416
abbrev d5 : Nat := 4602678819172646912
abbrev d1 : Nat := 4607182418800017408
abbrev dtau : Nat := 4618760256179416344
abbrev d52 : Nat := 4841369599423283200
abbrev dm52 : Nat := 14064741636278059008

/-- the part of a number that is not whole, from 0 on -/
def fracM (x : Nat) : Nat :=
  if flt .f64 (fsub .f64 x (fofi .f64 ((ftoi .f64 .i64 x).getD 0))) 0 = true then fadd .f64 (fsub .f64 x (fofi .f64 ((ftoi .f64 .i64 x).getD 0))) d1
  else fsub .f64 x (fofi .f64 ((ftoi .f64 .i64 x).getD 0))
def sinT (x : Nat) : Bool := fge .f64 (fracM x) d5
def sinG (x : Nat) : Nat := if sinT x = true then fsub .f64 (fracM x) d5 else fracM x
def sinF (x : Nat) : Nat := if fgt .f64 (sinG x) d25 = true then fsub .f64 d5 (sinG x) else sinG x
def sinD (i : Nat) : Nat := fofi .f64 (((2 * (8 - i) * (2 * (8 - i) + 1) : Nat)) : Int)
def sinK (i : Nat) : Nat := fofi .f64 ((8 - i : Nat) : Int)
def sinP (u n : Nat) : Nat := accN (fun i p => fsub .f64 d1 (fdiv .f64 (fmul .f64 u p) (sinD i))) n d1
def sinZ (x : Nat) : Nat := fmul .f64 (sinF x) dtau
def sinM (x : Nat) : Nat := if sinT x = true then fneg .f64 (fmul .f64 (sinZ x) (sinP (fmul .f64 (sinZ x) (sinZ x)) 8)) else fmul .f64 (sinZ x) (sinP (fmul .f64 (sinZ x) (sinZ x)) 8)
def absM (x : Nat) : Nat := canon .f64 (x % 2 ^ 63)
/-- quarters are taken off -/
def qloop : Nat → Nat → Int → Nat × Int
  | 0, f, q => (f, q)
  | n + 1, f, q => if fge .f64 f d25 = true then qloop n (fsub .f64 f d25) (q + 1) else (f, q)
abbrev nar (x : Nat) : Nat := fconv .f64 .f32 x
def phC (f : Nat) : Nat := sinM (fsub .f64 d25 f)
def phQ (f : Nat) (q : Int) : Nat × Nat :=
  if q = 1 then (nar (fsub .f64 0 (sinM f)), nar (phC f)) else if q = 2 then (nar (fsub .f64 0 (phC f)), nar (fsub .f64 0 (sinM f)))
  else if q = 3 then (nar (sinM f), nar (fsub .f64 0 (phC f))) else (nar (phC f), nar (sinM f))
def phM (x : Nat) : Nat × Nat :=
  if feq .f64 (fsub .f64 x x) 0 = true then
    (if (fge .f64 x d52 || fle .f64 x dm52) = true then (1065353216, 0) else phQ (qloop 5 (fracM x) 0).1 (qloop 5 (fracM x) 0).2)
  else (2143289344, 2143289344)

/-! ### constants -/
def uexp : Nat := 1074
def UN : Nat := 2 ^ uexp
theorem un_eq : 2 ^ 1074 = UN := by simp only [UN, uexp]
theorem un_pos : 0 < UN := Nat.two_pow_pos uexp
theorem un52 : 2 ^ 1126 = UN * 2 ^ 52 := by rw [show (1126 : Nat) = uexp + 52 from rfl, Nat.pow_add]; unfold UN; exact Eq.refl _
theorem c25 : fin64 d25 ∧ 4 * val d25 = (UN : Int) := by refine ⟨by unfold fin64; decide, by decide +kernel⟩
theorem c5 : fin64 d5 ∧ 2 * val d5 = (UN : Int) := by refine ⟨by unfold fin64; decide, by decide +kernel⟩
theorem c1 : fin64 d1 ∧ val d1 = (UN : Int) := by refine ⟨by unfold fin64; decide, by decide +kernel⟩
theorem c0 : fin64 0 ∧ val 0 = 0 := by refine ⟨by unfold fin64; decide, by decide +kernel⟩
theorem ctau : bd 1077 dtau := by refine ⟨by unfold fin64; decide, by decide +kernel⟩
theorem c52 : fin64 d52 ∧ val d52 = ((2 ^ 1126 : Nat) : Int) := by refine ⟨by unfold fin64; decide, by decide +kernel⟩
theorem cm52 : fin64 dm52 ∧ val dm52 = -((2 ^ 1126 : Nat) : Int) := by refine ⟨by unfold fin64; decide, by decide +kernel⟩
theorem p72 : 4 * 2 ^ 1072 = UN := by decide +kernel
theorem p73 : 2 * 2 ^ 1073 = UN := by decide +kernel

/-! ### integers -/
theorem fofi_val {n : Int} (h : n.natAbs < 2 ^ 53) : fin64 (fofi .f64 n) ∧ val (fofi .f64 n) = n * (UN : Int) := by
  have e0 : fofi .f64 n = double.nearest (decide (n < 0)) n.natAbs 0 := rfl
  have e := nearest_shift double (decide (n < 0)) n.natAbs 0 1074
  rw [show (0 : Int) - ((1074 : Nat) : Int) = double.leastPlace by decide] at e
  obtain ⟨h1, h2⟩ := near_exact (decide (n < 0)) h (show 1074 ≤ 2000 by omega)
  rw [e0, ← e]
  refine ⟨h1, ?_⟩
  rw [h2, un_eq, ]
  by_cases hn : n < 0
  · rw [decide_eq_true hn]
    simp only [sg, if_true]
    rw [Int.natCast_mul, ← Int.neg_mul, show -((n.natAbs : Nat) : Int) = n by omega]
  · rw [decide_eq_false hn]
    simp only [sg, Bool.false_eq_true, if_false]
    rw [Int.natCast_mul, show ((n.natAbs : Nat) : Int) = n by omega]
theorem ftoi_val {x : Nat} (h : bd 1126 x) : ∃ t : Int, ftoi .f64 .i64 x = some t ∧ t.natAbs < 2 ^ 53 ∧ (val x - t * (UN : Int)).natAbs < UN := by
  obtain ⟨s, m, p, e1, v1, u1⟩ := read_val h.1
  have hm := h.2
  rw [← v1, sg_abs] at hm
  have e2 := toInt_num s m 1074 p
  rw [un_eq, show -((1074 : Nat) : Int) = double.leastPlace by decide] at e2
  have hq : m * 2 ^ p / UN ≤ 2 ^ 52 := by
    refine Nat.div_le_of_le_mul ?_
    rw [← un52]; exact hm
  have hmod := Nat.div_add_mod (m * 2 ^ p) UN
  have hlt := Nat.mod_lt (m * 2 ^ p) un_pos
  refine ⟨sg s (m * 2 ^ p / UN), ?_, by rw [sg_abs]; omega, ?_⟩
  · unfold ftoi
    simp only [FloatKind.decode, FloatKind.format]
    rw [e1, e2]
    have h1 : IntKind.min .i64 = -9223372036854775808 := by decide
    have h2 : IntKind.max .i64 = 9223372036854775807 := by decide
    have h3 : -(2 : Int) ^ 52 ≤ sg s (m * 2 ^ p / UN) ∧ sg s (m * 2 ^ p / UN) ≤ 2 ^ 52 := by
      generalize m * 2 ^ p / UN = k at *
      cases s <;> simp only [sg, if_true, Bool.false_eq_true, if_false] <;> omega
    simp only
    rw [if_pos (by rw [h1, h2]; omega)]
  · rw [← v1]
    generalize m * 2 ^ p = n at *
    have e3 : sg s n - sg s (n / UN) * (UN : Int) = sg s (n % UN) := by
      have e4 : (n : Int) = (UN : Int) * ((n / UN : Nat) : Int) + ((n % UN : Nat) : Int) := by rw [← Int.natCast_mul, ← Int.natCast_add, hmod]
      generalize n / UN = a at *
      generalize n % UN = b at *
      rw [Int.mul_comm] at e4
      cases s <;> simp only [sg, if_true, Bool.false_eq_true, if_false, Int.neg_mul] <;> omega
    rw [e3, sg_abs]; exact hlt
/-- from 0 to 1 -/
def unit (x : Nat) : Prop := fin64 x ∧ 0 ≤ val x ∧ val x ≤ (UN : Int)
theorem frac_ok {x : Nat} (h : bd 1126 x) : (ftoi .f64 .i64 x).isSome = true ∧ unit (fracM x) := by
  obtain ⟨t, e, ht, hd⟩ := ftoi_val h
  refine ⟨by rw [e]; rfl, ?_⟩
  obtain ⟨f1, f2⟩ := fofi_val ht
  have hw := fsub_within (J := 1074) h.1 f1 (by omega) (by omega) (by rw [f2, un_eq]; omega)
  rw [f2] at hw
  obtain ⟨w1, w2, w3, w4⟩ := hw
  rw [un_eq] at w4
  unfold fracM
  rw [e, Option.getD_some, flt_val w1 c0.1, c0.2]
  generalize fsub .f64 x (fofi .f64 t) = f at *
  by_cases hn : val f < 0
  · rw [decide_eq_true hn, if_pos rfl]
    have ha := fadd_within (J := 1074) w1 c1.1 (by omega) (by omega) (by rw [c1.2, un_eq]; omega)
    rw [c1.2] at ha
    obtain ⟨a1, a2, a3, a4⟩ := ha
    rw [un_eq] at a4
    have := a2 (by omega)
    exact ⟨a1, this, by omega⟩
  · rw [decide_eq_false hn, if_neg (by decide)]
    exact ⟨w1, by omega, by omega⟩

/-! ### quarters -/
theorem quarter_step {f : Nat} (h : unit f) (hq : val d25 ≤ val f) : fin64 (fsub .f64 f d25) ∧ val (fsub .f64 f d25) = val f - val d25 := by
  obtain ⟨s, m, p, e1, v1, u1⟩ := read_val h.1
  have hb : bd 1074 f := ⟨h.1, by rw [un_eq]; have := h.2; omega⟩
  have hr := bd_rung (by omega) hb
  obtain ⟨b1, b2, _⟩ := read_small (f := double) (q := 1074 - 51) (by omega) e1 (by rw [dbl.2.2]; exact hr)
  rw [dbl.2.2] at b1
  have hp : p ≤ 1022 := by omega
  have hv : ((m * 2 ^ p : Nat) : Int) = val f := by
    have h2 := h.2.1
    rw [← v1] at h2 ⊢
    cases s
    · rfl
    · simp only [sg, if_true] at h2 ⊢; omega
  have e25 : val d25 = ((2 ^ 1072 : Nat) : Int) := by have := c25.2; have := p72; omega
  have e4 : 2 ^ 1072 = 2 ^ (1072 - p) * 2 ^ p := by rw [← Nat.pow_add]; congr 1; omega
  obtain ⟨s', hn, hs'⟩ := fsub_near h.1 c25.1
  have hD : (val f - val d25).natAbs = (m - 2 ^ (1072 - p)) * 2 ^ p := by
    rw [← hv, e25, Nat.sub_mul, ← e4]
    rw [← hv, e25] at hq
    omega
  rw [hD] at hn
  obtain ⟨g1, g2⟩ := near_exact s' (m := m - 2 ^ (1072 - p)) (a := p) (Nat.lt_of_le_of_lt (Nat.sub_le _ _) (by omega)) (by omega)
  rw [← hn, ← hD] at *
  refine ⟨g1, ?_⟩
  rw [g2]
  by_cases h0 : val f - val d25 = 0
  · rw [h0]; cases s' <;> rfl
  · rw [hs' h0, decide_eq_false (by omega)]
    simp only [sg, Bool.false_eq_true, if_false]; omega
/-- what is left when the quarters are taken off, and how many they were -/
theorem qloop_ok {V : Int} (hV : val d25 = V) (hU : 4 * V = (UN : Int)) : ∀ (n : Nat) (f : Nat) (q : Int), unit f → val f < (n : Int) * V → unit (qloop n f q).1 ∧ val (qloop n f q).1 < V ∧ q ≤ (qloop n f q).2 ∧ (qloop n f q).2 ≤ q + n
  | 0, f, q, h, hn => by
    have := h.2.1
    generalize val f = v at *
    omega
  | n + 1, f, q, h, hn => by
    have hf := fge_val h.1 c25.1
    rw [hV] at hf
    by_cases hc : V ≤ val f
    · obtain ⟨s1, s2⟩ := quarter_step h (by rw [hV]; exact hc)
      rw [hV] at s2
      rw [decide_eq_true hc] at hf
      have hq : qloop (n + 1) f q = qloop n (fsub .f64 f d25) (q + 1) := by show (if fge .f64 f d25 = true then _ else _) = _; rw [hf, if_pos rfl]
      rw [hq]
      have hup := un_pos
      have h23 := h.2
      have hu : unit (fsub .f64 f d25) := ⟨s1, by rw [s2]; generalize val f = v at *; omega, by rw [s2]; generalize val f = v at *; omega⟩
      have hr := qloop_ok hV hU n (fsub .f64 f d25) (q + 1) hu (by rw [s2]; generalize val f = v at *; push_cast at hn; rw [Int.add_mul] at hn; omega)
      refine ⟨hr.1, hr.2.1, by omega, by have := hr.2.2.2; push_cast; omega⟩
    · rw [decide_eq_false hc] at hf
      have hq : qloop (n + 1) f q = (f, q) := by show (if fge .f64 f d25 = true then _ else _) = _; rw [hf, if_neg (by decide)]
      rw [hq]
      exact ⟨h, by show val f < V; omega, Int.le_refl _, by show q ≤ q + ((n + 1 : Nat) : Int); omega⟩

/-! ### sines -/
theorem sinF_bd {x : Nat} (h : bd 1126 x) : bd 1072 (sinF x) := by
  obtain ⟨_, u1, u2, u3⟩ := frac_ok h
  have k25 := c25.2
  have k5 := c5.2
  have hup := un_pos
  have hg : fin64 (sinG x) ∧ 0 ≤ val (sinG x) ∧ 2 * val (sinG x) ≤ (UN : Int) := by
    unfold sinG sinT
    rw [fge_val u1 c5.1]
    by_cases hc : val d5 ≤ val (fracM x)
    · rw [decide_eq_true hc, if_pos rfl]
      have hw := fsub_within (J := 1073) u1 c5.1 (by omega) (by omega) (by have := p73; omega)
      have := p73
      exact ⟨hw.1, hw.2.1 (by omega), by have := hw.2.2.2; omega⟩
    · rw [decide_eq_false hc, if_neg (by decide)]
      exact ⟨u1, u2, by omega⟩
  unfold sinF
  rw [fgt_val hg.1 c25.1]
  have := p72
  by_cases hc : val d25 < val (sinG x)
  · rw [decide_eq_true hc, if_pos rfl]
    have hw := fsub_within (J := 1072) c5.1 hg.1 (by omega) (by omega) (by omega)
    exact ⟨hw.1, hw.2.2.2⟩
  · rw [decide_eq_false hc, if_neg (by decide)]
    exact ⟨hg.1, by omega⟩
theorem sinD_all : ∀ i : Fin 8, rung double (sinD i.val) < double.infRung ∧ 2 ^ 1074 ≤ (val (sinD i.val)).natAbs := by decide +kernel
theorem d1_bd : bd 1074 d1 := by
  refine ⟨c1.1, ?_⟩
  rw [c1.2, un_eq]
  exact Nat.le_of_eq (Int.natAbs_natCast _)
theorem sinP_bd {u : Nat} (h : bd 1079 u) : ∀ n, n ≤ 8 → bd (1074 + 8 * n) (sinP u n)
  | 0, _ => d1_bd
  | n + 1, hn => by
    have ih := sinP_bd h n (by omega)
    have hD := sinD_all ⟨n, by omega⟩
    show bd _ (fsub .f64 d1 (fdiv .f64 (fmul .f64 u (sinP u n)) (sinD n)))
    have b1 := fmul_bd h ih (by omega) (by omega)
    have b2 := fdiv_bd b1 hD.1 hD.2 (by omega) (by omega)
    have b3 : bd (1079 + (1074 + 8 * n) - 1073 + 1) d1 := bd_mono d1_bd (by omega)
    have b4 := fsub_bd b3 b2 (by omega) (by omega)
    exact bd_mono b4 (by omega)
theorem sinM_bd {x : Nat} (h : bd 1126 x) : bd 1141 (sinM x) := by
  have b1 := fmul_bd (sinF_bd h) ctau (by omega) (by omega)
  rw [show 1072 + 1077 - 1073 = 1076 from rfl] at b1
  have b2 := fmul_bd b1 b1 (by omega) (by omega)
  rw [show 1076 + 1076 - 1073 = 1079 from rfl] at b2
  have b3 := sinP_bd b2 8 (Nat.le_refl _)
  have b4 := fmul_bd b1 b3 (by omega) (by omega)
  rw [show 1076 + (1074 + 8 * 8) - 1073 = 1141 from rfl] at b4
  have e : sinM x = if sinT x = true then fneg .f64 (fmul .f64 (sinZ x) (sinP (fmul .f64 (sinZ x) (sinZ x)) 8)) else fmul .f64 (sinZ x) (sinP (fmul .f64 (sinZ x) (sinZ x)) 8) := rfl
  rw [e]
  by_cases hc : sinT x = true
  · rw [if_pos hc]; exact fneg_bd b4
  · rw [if_neg hc]; exact b4
theorem neg_bd {x : Nat} (h : bd 1141 x) : bd 1142 (fsub .f64 0 x) := fsub_bd (J := 1141) ⟨c0.1, by rw [c0.2]; exact Nat.zero_le _⟩ h (by omega) (by omega)
/-- all that a phasor needs -/
theorem ph_ok {x : Nat} (h : bd 1126 x) : bd 1072 (qloop 5 (fracM x) 0).1 ∧ bd 1073 (fsub .f64 d25 (qloop 5 (fracM x) 0).1) ∧ 0 ≤ (qloop 5 (fracM x) 0).2 ∧ (qloop 5 (fracM x) 0).2 ≤ 5 := by
  obtain ⟨_, u⟩ := frac_ok h
  have k25 := c25.2
  have hup := un_pos
  have h7 := p72
  obtain ⟨V, hV⟩ : ∃ V, val d25 = V := ⟨_, rfl⟩
  have hc : bd 1072 d25 := ⟨c25.1, by rw [hV]; rw [hV] at k25; omega⟩
  rw [hV] at k25
  have hu := u.2.2
  obtain ⟨q1, q2, q3, q4⟩ := qloop_ok hV k25 5 (fracM x) 0 u (by generalize val (fracM x) = v at *; push_cast; omega)
  have hq1 := q1.2
  have hb : bd 1072 (qloop 5 (fracM x) 0).1 := ⟨q1.1, by generalize val (qloop 5 (fracM x) 0).1 = v at *; omega⟩
  exact ⟨hb, fsub_bd hc hb (by omega) (by omega), q3, by omega⟩
end Go.Proofs.LV
