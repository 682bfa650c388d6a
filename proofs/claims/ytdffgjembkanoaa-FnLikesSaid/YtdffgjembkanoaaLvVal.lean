/- What a double stands for, as a whole number of least steps; sums, products and quotients within bounds. -/
import Derived.Test.YtdffgjembkanoaaLvBad
import Derived.Test.YtdffgjembkanoaaLvHalfX
namespace Go.Proofs.LV
open Go Ieee
set_option linter.unusedVariables false
set_option linter.unusedSimpArgs false

/-- what it stands for, in least steps -/
def val (x : Nat) : Int := sg (sign double x) (units double.binade (rung double x))
def fin64 (x : Nat) : Prop := rung double x < double.infRung
/-- finite, and not above 2^J least steps -/
def bd (J : Nat) (x : Nat) : Prop := fin64 x ∧ (val x).natAbs ≤ 2 ^ J

theorem dB : 0 < double.binade := binade_pos double
theorem sg_abs (s : Bool) (n : Nat) : (sg s n).natAbs = n := by cases s <;> simp [sg]
theorem val_abs (x : Nat) : (val x).natAbs = units double.binade (rung double x) := sg_abs _ _
theorem read_val {x : Nat} (h : fin64 x) : ∃ s m p, double.read x = .number s m (double.leastPlace + (p : Nat)) ∧ sg s (m * 2 ^ p) = val x ∧ m * 2 ^ p = units double.binade (rung double x) := by
  obtain ⟨m, p, e, hm⟩ := read_num (f := double) h
  exact ⟨_, m, p, e, by unfold val; rw [hm], hm⟩
theorem units_pow {q : Nat} (hq : 1 ≤ q) : units double.binade (q * double.binade) = 2 ^ (q + 51) := by
  unfold units
  have h1 : ¬ q * double.binade < double.binade := by have := Nat.le_mul_of_pos_left double.binade (show 0 < q by omega); omega
  rw [if_neg h1, Nat.mul_mod_left, Nat.mul_div_cancel _ dB, Nat.add_zero, dbl.2.2, ← Nat.pow_add]
  congr 1; omega
theorem bd_rung {J x : Nat} (hJ : 52 ≤ J) (h : bd J x) : rung double x ≤ (J - 51) * 2 ^ 52 := by
  have h2 := h.2
  rw [val_abs] at h2
  apply Nat.le_of_not_lt
  intro hc
  have h3 := units_lt dB hc
  rw [show (J - 51) * 2 ^ 52 = (J - 51) * double.binade by rw [dbl.2.2], units_pow (by omega), show J - 51 + 51 = J by omega] at h3
  omega
theorem bd_mono {J K x : Nat} (h : bd J x) (hJ : J ≤ K) : bd K x := ⟨h.1, Nat.le_trans h.2 (Nat.pow_le_pow_right (by omega) hJ)⟩
theorem fin_nan64 {x : Nat} (h : fin64 x) : nanB .f64 x = false := by
  rw [nanB_iff]
  unfold fin64 at h
  exact decide_eq_false (by show ¬ double.infRung < rung double x; omega)

/-! ### the order -/
theorem val_cmp (x y : Nat) : compare (val x) (val y) = compare (srung .f64 x) (srung .f64 y) := sg_compare (units_zero dB) (units_lt dB) _ _ _ _
theorem cmp_lt {a b c d : Int} (h : compare a b = compare c d) : (a < b ↔ c < d) ∧ (a = b ↔ c = d) := by
  simp only [compare, compareOfLessAndEq] at h
  refine ⟨⟨fun h1 => ?_, fun h1 => ?_⟩, ⟨fun h1 => ?_, fun h1 => ?_⟩⟩
  · rw [if_pos h1] at h; split at h
    · assumption
    · split at h <;> cases h
  · rw [if_pos h1] at h; split at h
    · assumption
    · split at h <;> cases h
  · rw [if_neg (by omega), if_pos h1] at h; split at h
    · cases h
    · split at h
      · assumption
      · cases h
  · have h1' : ¬ c < d := by omega
    rw [if_neg h1', if_pos h1] at h; split at h
    · cases h
    · split at h
      · assumption
      · cases h
theorem flt_val {x y : Nat} (hx : fin64 x) (hy : fin64 y) : flt .f64 x y = decide (val x < val y) := by
  rw [flt_eq, fin_nan64 hx, fin_nan64 hy]
  simp only [Bool.not_false, Bool.true_and]
  exact decide_eq_decide.2 (cmp_lt (val_cmp x y)).1.symm
theorem fgt_val {x y : Nat} (hx : fin64 x) (hy : fin64 y) : fgt .f64 x y = decide (val y < val x) := by
  rw [fgt_eq, fin_nan64 hx, fin_nan64 hy]
  simp only [Bool.not_false, Bool.true_and]
  exact decide_eq_decide.2 (cmp_lt (val_cmp y x)).1.symm
theorem fge_val {x y : Nat} (hx : fin64 x) (hy : fin64 y) : fge .f64 x y = decide (val y ≤ val x) := by
  rw [fge_not .f64 (fin_nan64 hx) (fin_nan64 hy), flt_val hx hy]
  by_cases h : val x < val y
  · have : ¬ val y ≤ val x := by omega
    simp [h, this]
  · have : val y ≤ val x := by omega
    simp [h, this]
theorem fle_val {x y : Nat} (hx : fin64 x) (hy : fin64 y) : fle .f64 x y = decide (val x ≤ val y) := by
  rw [fle_not .f64 (fin_nan64 hx) (fin_nan64 hy), fgt_val hx hy]
  by_cases h : val y < val x
  · have : ¬ val x ≤ val y := by omega
    simp [h, this]
  · have : val x ≤ val y := by omega
    simp [h, this]

/-! ### a word that is written -/
theorem word_val (s : Bool) {r : Nat} (h : r < double.infRung) : fin64 (double.word s r) ∧ val (double.word s r) = sg s (units double.binade r) := by
  have h1 := rung_word double s r (Nat.le_of_lt h)
  have h2 : sign double (double.word s r) = s := (read_word_rung double s r (Nat.lt_of_le_of_lt (Nat.le_of_lt h) double.infRung_lt)).2
  unfold fin64 val
  rw [h1, h2]
  exact ⟨h, rfl⟩
theorem inf_dbl : double.infRung = 2047 * 2 ^ 52 := by decide
theorem near_zero (s : Bool) (pl : Int) : fin64 (double.nearest s 0 pl) ∧ val (double.nearest s 0 pl) = 0 := by
  have : double.nearest s 0 pl = double.word s 0 := by unfold Format.nearest; rw [if_pos rfl]
  rw [this]
  obtain ⟨h1, h2⟩ := word_val s (r := 0) (by decide)
  exact ⟨h1, by rw [h2, units_zero dB]; cases s <;> rfl⟩
/-- exact where it can be -/
theorem near_exact (s : Bool) {m a : Nat} (hm : m < 2 ^ 53) (ha : a ≤ 2000) : fin64 (double.nearest s (m * 2 ^ a) double.leastPlace) ∧ val (double.nearest s (m * 2 ^ a) double.leastPlace) = sg s (m * 2 ^ a) := by
  by_cases h0 : m = 0
  · subst h0; rw [Nat.zero_mul]
    obtain ⟨h1, h2⟩ := near_zero s double.leastPlace
    exact ⟨h1, by rw [h2]; cases s <;> rfl⟩
  have e := nearest_shift double s m (double.leastPlace + (a : Nat)) a
  rw [show double.leastPlace + (a : Int) - (a : Int) = double.leastPlace by omega] at e
  rw [e]
  obtain ⟨r, h1, h2, h3⟩ := nearest_exact double s m (double.leastPlace + (a : Nat)) h0 (by rw [dbl.2.2]; omega) (by omega) (by rw [show (double.leastPlace + (a : Int) - double.leastPlace).toNat = a by omega, dbl.2.2, inf_dbl]; omega)
  rw [show (double.leastPlace + (a : Int) - double.leastPlace).toNat = a by omega] at h3
  obtain ⟨h4, h5⟩ := word_val s h2
  rw [h1]
  exact ⟨h4, by rw [h5, h3]⟩
/-- within a power of two -/
theorem near_bd (s : Bool) {n J : Nat} (h1 : 53 ≤ J) (h2 : J ≤ 2000) (h : n ≤ 2 ^ J) : ∃ v, v ≤ 2 ^ J ∧ fin64 (double.nearest s n double.leastPlace) ∧ val (double.nearest s n double.leastPlace) = sg s v := by
  by_cases h0 : n = 0
  · subst h0
    obtain ⟨h3, h4⟩ := near_zero s double.leastPlace
    exact ⟨0, Nat.zero_le _, h3, by rw [h4]; cases s <;> rfl⟩
  rcases Nat.lt_or_eq_of_le h with hlt | rfl
  · have hl : n.log2 < J := log2_lt' hlt h0
    obtain ⟨r, hr, hr2, _⟩ := nearest_rung double s n double.leastPlace (double.leastPlace + (J : Nat) - 1) h0 (by omega) (by rw [dbl.1, dbl.2.1]; omega)
    have hk : (double.leastPlace + (J : Int) - 1 - double.fractionBits - double.leastPlace).toNat + 2 = J - 51 := by rw [dbl.2.1]; omega
    rw [hk] at hr2
    obtain ⟨h4, h5⟩ := word_val s (r := r) (by rw [dbl.2.2] at hr2; rw [inf_dbl]; omega)
    rw [hr]
    refine ⟨_, ?_, h4, h5⟩
    have := units_le dB hr2
    rwa [units_pow (by omega), show J - 51 + 51 = J by omega] at this
  · have := near_exact s (m := 1) (a := J) (by omega) h2
    rw [Nat.one_mul] at this
    exact ⟨2 ^ J, Nat.le_refl _, this.1, this.2⟩

/-! ### sums -/
theorem fadd_near {x y : Nat} (hx : fin64 x) (hy : fin64 y) : ∃ s, fadd .f64 x y = double.nearest s (val x + val y).natAbs double.leastPlace ∧ (val x + val y ≠ 0 → s = decide (val x + val y < 0)) := by
  obtain ⟨s, m, p, e1, v1, _⟩ := read_val hx
  obtain ⟨t, n, q, e2, v2, _⟩ := read_val hy
  unfold fadd Format.add
  show ∃ s, (Option.map double.write ((double.read x).sum (double.read y))).getD (fnan .f64) = _ ∧ _
  rw [e1, e2]
  simp only [Datum.sum, Option.map_some, Option.getD_some, Format.write]
  generalize hb : min (double.leastPlace + (p : Int)) (double.leastPlace + (q : Int)) = b
  rw [signed_eq, signed_eq]
  obtain ⟨k, rfl⟩ : ∃ k : Nat, b = double.leastPlace + (k : Nat) := ⟨min p q, by omega⟩
  rw [show (double.leastPlace + (p : Int) - (double.leastPlace + (k : Int))).toNat = p - k by omega, show (double.leastPlace + (q : Int) - (double.leastPlace + (k : Int))).toNat = q - k by omega]
  have et : (sg s (m * 2 ^ (p - k)) + sg t (n * 2 ^ (q - k))) * 2 ^ k = val x + val y := by
    rw [Int.add_mul, ← sg_scale, ← sg_scale, Nat.mul_assoc, Nat.mul_assoc, ← Nat.pow_add, ← Nat.pow_add, show p - k + k = p by omega, show q - k + k = q by omega, v1, v2]
  generalize sg s (m * 2 ^ (p - k)) + sg t (n * 2 ^ (q - k)) = T at *
  have hp : (0 : Int) < 2 ^ k := Int.pow_pos (by omega)
  refine ⟨(if T = 0 then (s && t) else decide (T < 0)), ?_, ?_⟩
  rotate_left
  · intro h
    have hT : T ≠ 0 := by rintro rfl; rw [Int.zero_mul] at et; exact h et.symm
    rw [if_neg hT, ← et]
    refine decide_eq_decide.2 ⟨fun h => ?_, fun h => ?_⟩
    · exact Int.mul_neg_of_neg_of_pos h hp
    · apply Int.lt_of_not_ge; intro hc
      have := Int.mul_nonneg hc (Int.le_of_lt hp); omega
  · rw [← et, Int.natAbs_mul]
    have : ((2 : Int) ^ k).natAbs = 2 ^ k := by rw [Int.natAbs_pow]; rfl
    rw [this]
    have e := nearest_shift double (if T = 0 then (s && t) else decide (T < 0)) T.natAbs (double.leastPlace + (k : Nat)) k
    rw [show double.leastPlace + (k : Int) - (k : Int) = double.leastPlace by omega] at e
    exact e.symm
theorem opp_read {y : Nat} (h : fin64 y) : ∃ t n q, (double.read y).opposite = .number t n (double.leastPlace + (q : Nat)) ∧ sg t (n * 2 ^ q) = - val y := by
  obtain ⟨t, n, q, e2, v2, _⟩ := read_val h
  refine ⟨!t, n, q, by rw [e2]; rfl, ?_⟩
  rw [← v2]; cases t <;> simp [sg]
theorem fsub_near {x y : Nat} (hx : fin64 x) (hy : fin64 y) : ∃ s, fsub .f64 x y = double.nearest s (val x - val y).natAbs double.leastPlace ∧ (val x - val y ≠ 0 → s = decide (val x - val y < 0)) := by
  obtain ⟨s, m, p, e1, v1, _⟩ := read_val hx
  obtain ⟨t, n, q, e2, v2⟩ := opp_read hy
  unfold fsub Format.sub
  show ∃ s, (Option.map double.write ((double.read x).sum (double.read y).opposite)).getD (fnan .f64) = _ ∧ _
  rw [e1, e2]
  simp only [Datum.sum, Option.map_some, Option.getD_some, Format.write]
  generalize hb : min (double.leastPlace + (p : Int)) (double.leastPlace + (q : Int)) = b
  rw [signed_eq, signed_eq]
  obtain ⟨k, rfl⟩ : ∃ k : Nat, b = double.leastPlace + (k : Nat) := ⟨min p q, by omega⟩
  rw [show (double.leastPlace + (p : Int) - (double.leastPlace + (k : Int))).toNat = p - k by omega, show (double.leastPlace + (q : Int) - (double.leastPlace + (k : Int))).toNat = q - k by omega]
  have et : (sg s (m * 2 ^ (p - k)) + sg t (n * 2 ^ (q - k))) * 2 ^ k = val x - val y := by
    rw [Int.add_mul, ← sg_scale, ← sg_scale, Nat.mul_assoc, Nat.mul_assoc, ← Nat.pow_add, ← Nat.pow_add, show p - k + k = p by omega, show q - k + k = q by omega, v1, v2]; omega
  generalize sg s (m * 2 ^ (p - k)) + sg t (n * 2 ^ (q - k)) = T at *
  have hp : (0 : Int) < 2 ^ k := Int.pow_pos (by omega)
  refine ⟨(if T = 0 then (s && t) else decide (T < 0)), ?_, ?_⟩
  rotate_left
  · intro h
    have hT : T ≠ 0 := by rintro rfl; rw [Int.zero_mul] at et; exact h et.symm
    rw [if_neg hT, ← et]
    refine decide_eq_decide.2 ⟨fun h => ?_, fun h => ?_⟩
    · exact Int.mul_neg_of_neg_of_pos h hp
    · apply Int.lt_of_not_ge; intro hc
      have := Int.mul_nonneg hc (Int.le_of_lt hp); omega
  · rw [← et, Int.natAbs_mul]
    have : ((2 : Int) ^ k).natAbs = 2 ^ k := by rw [Int.natAbs_pow]; rfl
    rw [this]
    have e := nearest_shift double (if T = 0 then (s && t) else decide (T < 0)) T.natAbs (double.leastPlace + (k : Nat)) k
    rw [show double.leastPlace + (k : Int) - (k : Int) = double.leastPlace by omega] at e
    exact e.symm
/-- a sum that is rounded: where the exact one lies -/
def Within (J : Nat) (D : Int) (z : Nat) : Prop := fin64 z ∧ (0 ≤ D → 0 ≤ val z) ∧ (D ≤ 0 → val z ≤ 0) ∧ (val z).natAbs ≤ 2 ^ J
theorem within_of {D : Int} {s : Bool} {z J : Nat} (h : z = double.nearest s D.natAbs double.leastPlace) (hs : D ≠ 0 → s = decide (D < 0)) (h1 : 53 ≤ J) (h2 : J ≤ 2000) (hD : D.natAbs ≤ 2 ^ J) : Within J D z := by
  obtain ⟨v, hv, hf, he⟩ := near_bd s h1 h2 hD
  rw [← h] at hf he
  refine ⟨hf, fun h3 => ?_, fun h3 => ?_, by rw [he, sg_abs]; exact hv⟩
  · by_cases h0 : D = 0
    · subst h0
      have := (near_zero s double.leastPlace).2
      rw [h]; simp only [Int.natAbs_zero]; omega
    · have := hs h0
      rw [decide_eq_false (by omega)] at this
      rw [he, this]; simp [sg]
  · by_cases h0 : D = 0
    · subst h0
      have := (near_zero s double.leastPlace).2
      rw [h]; simp only [Int.natAbs_zero]; omega
    · have := hs h0
      rw [decide_eq_true (by omega)] at this
      rw [he, this]; simp [sg]
theorem fadd_within {x y J : Nat} (hx : fin64 x) (hy : fin64 y) (h1 : 53 ≤ J) (h2 : J ≤ 2000) (hD : (val x + val y).natAbs ≤ 2 ^ J) : Within J (val x + val y) (fadd .f64 x y) := by
  obtain ⟨s, h, hs⟩ := fadd_near hx hy
  exact within_of h hs h1 h2 hD
theorem fsub_within {x y J : Nat} (hx : fin64 x) (hy : fin64 y) (h1 : 53 ≤ J) (h2 : J ≤ 2000) (hD : (val x - val y).natAbs ≤ 2 ^ J) : Within J (val x - val y) (fsub .f64 x y) := by
  obtain ⟨s, h, hs⟩ := fsub_near hx hy
  exact within_of h hs h1 h2 hD
theorem fadd_bd {x y J : Nat} (hx : bd J x) (hy : bd J y) (h1 : 53 ≤ J) (h2 : J ≤ 1999) : bd (J + 1) (fadd .f64 x y) := by
  have := fadd_within hx.1 hy.1 (J := J + 1) (by omega) (by omega) (by have := hx.2; have := hy.2; rw [Nat.pow_succ]; omega)
  exact ⟨this.1, this.2.2.2⟩
theorem fsub_bd {x y J : Nat} (hx : bd J x) (hy : bd J y) (h1 : 53 ≤ J) (h2 : J ≤ 1999) : bd (J + 1) (fsub .f64 x y) := by
  have := fsub_within hx.1 hy.1 (J := J + 1) (by omega) (by omega) (by have := hx.2; have := hy.2; rw [Nat.pow_succ]; omega)
  exact ⟨this.1, this.2.2.2⟩

/-! ### products, quotients -/
theorem near_place (s : Bool) {n J : Nat} {pl : Int} (h1 : 53 ≤ J) (h2 : J ≤ 1999) (h : n ≠ 0 → pl + (n.log2 : Int) ≤ double.leastPlace + (J : Nat)) : bd (J + 1) (double.nearest s n pl) := by
  by_cases h0 : n = 0
  · subst h0
    obtain ⟨h3, h4⟩ := near_zero s pl
    exact ⟨h3, by rw [h4]; exact Nat.zero_le _⟩
  obtain ⟨r, hr, hr2, _⟩ := nearest_rung double s n pl (double.leastPlace + (J : Nat)) h0 (h h0) (by rw [dbl.1, dbl.2.1]; omega)
  have hk : (double.leastPlace + (J : Int) - double.fractionBits - double.leastPlace).toNat + 2 = J + 1 - 51 := by rw [dbl.2.1]; omega
  rw [hk] at hr2
  obtain ⟨h4, h5⟩ := word_val s (r := r) (by rw [dbl.2.2] at hr2; rw [inf_dbl]; omega)
  rw [hr]
  refine ⟨h4, ?_⟩
  rw [h5, sg_abs]
  have := units_le dB hr2
  rwa [units_pow (by omega), show J + 1 - 51 + 51 = J + 1 by omega] at this
theorem log_le {n a b : Nat} (h0 : n ≠ 0) (h : n * 2 ^ a ≤ 2 ^ b) : n.log2 + a ≤ b := by
  have h1 : 2 ^ n.log2 ≤ n := Nat.log2_self_le h0
  have h2 : 2 ^ (n.log2 + a) ≤ 2 ^ b := by
    rw [Nat.pow_add]; exact Nat.le_trans (Nat.mul_le_mul_right _ h1) h
  exact (Nat.pow_le_pow_iff_right (by omega)).1 h2
theorem fmul_bd {x y A B : Nat} (hx : bd A x) (hy : bd B y) (h1 : 1127 ≤ A + B) (h2 : A + B ≤ 3073) : bd (A + B - 1073) (fmul .f64 x y) := by
  obtain ⟨s, m, p, e1, v1, u1⟩ := read_val hx.1
  obtain ⟨t, n, q, e2, v2, u2⟩ := read_val hy.1
  have hm := hx.2; have hn := hy.2
  rw [val_abs, ← u1] at hm
  rw [val_abs, ← u2] at hn
  have ep : fmul .f64 x y = double.nearest (s ^^ t) (m * n) (double.leastPlace + (p : Nat) + (double.leastPlace + (q : Nat))) := by
    unfold fmul Format.mul
    simp only [FloatKind.format]
    rw [e1, e2]
    rfl
  rw [ep, show A + B - 1073 = (A + B - 1074) + 1 by omega]
  refine near_place _ (by omega) (by omega) (fun h0 => ?_)
  have hle : m * n * 2 ^ (p + q) ≤ 2 ^ (A + B) := by
    calc m * n * 2 ^ (p + q) = (m * 2 ^ p) * (n * 2 ^ q) := by rw [Nat.pow_add]; simp [Nat.mul_comm, Nat.mul_left_comm, Nat.mul_assoc]
      _ ≤ 2 ^ A * 2 ^ B := Nat.mul_le_mul hm hn
      _ = 2 ^ (A + B) := (Nat.pow_add ..).symm
  have := log_le h0 hle
  rw [dbl.1]; omega
theorem log_two {d b : Nat} (hd : d ≠ 0) (hb : b ≤ 1) : (2 * d + b).log2 = d.log2 + 1 := by
  have h1 := Nat.log2_self_le hd
  have h2 : d < 2 ^ (d.log2 + 1) := Nat.lt_log2_self
  have h0 : 2 * d + b ≠ 0 := by omega
  have h3 : (2 * d + b).log2 < d.log2 + 2 := log2_lt' (by rw [Nat.pow_succ]; omega) h0
  have h4 : d.log2 + 1 ≤ (2 * d + b).log2 := (Nat.le_log2 h0).2 (by rw [Nat.pow_succ]; omega)
  omega
/-- divided by what is not below 1 -/
theorem fdiv_bd {x y A : Nat} (hx : bd A x) (hy : fin64 y) (hy1 : 2 ^ 1074 ≤ (val y).natAbs) (h1 : 53 ≤ A) (h2 : A ≤ 1999) : bd (A + 1) (fdiv .f64 x y) := by
  obtain ⟨s, m, p, e1, v1, u1⟩ := read_val hx.1
  obtain ⟨t, n, q, e2, v2, u2⟩ := read_val hy
  have hm := hx.2
  rw [val_abs, ← u1] at hm
  rw [val_abs, ← u2] at hy1
  have hn0 : n ≠ 0 := by rintro rfl; rw [Nat.zero_mul] at hy1; have := Nat.two_pow_pos 1074; omega
  generalize hmo : double.fractionBits + 2 + n.log2 - m.log2 = more
  have ep : fdiv .f64 x y = double.nearest (s ^^ t) (2 * (m <<< more / n) + (m <<< more % n != 0).toNat) (double.leastPlace + (p : Nat) - (double.leastPlace + (q : Nat)) - more - 1) := by
    unfold fdiv Format.div
    simp only [FloatKind.format]
    rw [e1, e2]
    simp only [Datum.quotient, if_neg hn0, Option.map_some, Option.getD_some, Format.write, hmo]
  rw [ep]
  refine near_place _ h1 h2 (fun h0 => ?_)
  by_cases hm0 : m = 0
  · subst hm0; simp at h0
  have hb : (m <<< more % n != 0).toNat ≤ 1 := by cases (m <<< more % n != 0) <;> simp
  have hq0 : m <<< more / n ≠ 0 := by
    have hl1 := Nat.log2_self_le hm0
    have hl2 : n < 2 ^ (n.log2 + 1) := Nat.lt_log2_self
    have : n ≤ m <<< more := by
      rw [Nat.shiftLeft_eq]
      calc n ≤ 2 ^ (n.log2 + 1) := Nat.le_of_lt hl2
        _ ≤ 2 ^ (m.log2 + more) := Nat.pow_le_pow_right (by omega) (by omega)
        _ = 2 ^ m.log2 * 2 ^ more := Nat.pow_add ..
        _ ≤ m * 2 ^ more := Nat.mul_le_mul_right _ hl1
    exact Nat.ne_of_gt (Nat.div_pos this (by omega))
  rw [log_two hq0 hb]
  have hle : m <<< more / n * 2 ^ (1074 + p) ≤ 2 ^ (A + (more + q)) := by
    have h3 : m <<< more / n * n ≤ m * 2 ^ more := by rw [← Nat.shiftLeft_eq]; exact Nat.div_mul_le_self _ _
    generalize m <<< more / n = d at *
    calc d * 2 ^ (1074 + p) = d * 2 ^ 1074 * 2 ^ p := by rw [Nat.pow_add, Nat.mul_assoc]
      _ ≤ d * (n * 2 ^ q) * 2 ^ p := Nat.mul_le_mul_right _ (Nat.mul_le_mul_left _ hy1)
      _ = (d * n) * (2 ^ q * 2 ^ p) := by simp [Nat.mul_comm, Nat.mul_left_comm, Nat.mul_assoc]
      _ ≤ (m * 2 ^ more) * (2 ^ q * 2 ^ p) := Nat.mul_le_mul_right _ h3
      _ = (m * 2 ^ p) * (2 ^ more * 2 ^ q) := by simp [Nat.mul_comm, Nat.mul_left_comm, Nat.mul_assoc]
      _ ≤ 2 ^ A * (2 ^ more * 2 ^ q) := Nat.mul_le_mul_right _ hm
      _ = 2 ^ (A + (more + q)) := by rw [← Nat.pow_add, ← Nat.pow_add]
  have := log_le hq0 hle
  rw [dbl.1]; omega
theorem fneg_bd {x J : Nat} (hx : bd J x) : bd J (fneg .f64 x) := by
  have h1 : (FloatKind.f64.format.read x).isNaN = false := fin_nan64 hx.1
  have h2 : rung double (fneg .f64 x) = rung double x := by
    unfold fneg
    rw [h1]
    simp only [Bool.false_eq_true, if_false]
    unfold Op.negFloat rung
    rw [show double.signWeight = 2 ^ 63 by decide, show FloatKind.f64.format.exponentBits + FloatKind.f64.format.fractionBits = 63 by decide, Nat.xor_mod_two_pow, Nat.mod_self, Nat.xor_zero]
  unfold bd fin64 at *
  rw [val_abs] at *
  rw [h2]
  exact hx
theorem narrow_bd {x J : Nat} (hx : bd J x) (h : J ≤ 1200) : fconvOk .f64 .f32 x = true := by
  have h1 := bd_rung (J := max J 52) (by omega) (bd_mono hx (Nat.le_max_left _ _))
  exact narrow_ok (q := max J 52 - 51) (by omega) (by omega) h1
end Go.Proofs.LV
