/- The order of floats is the order of their signed rungs. -/
import Derived.Test.YtjfgmnfkkehgfaaLvExtX
namespace Go.Proofs.LV
open Go Ieee
set_option linter.unusedVariables false
set_option linter.unusedSimpArgs false

/-- how many of the least steps a rung stands for -/
def units (B r : Nat) : Nat := if r < B then r else (B + r % B) * 2 ^ (r / B - 1)
theorem units_succ {B : Nat} (hB : 0 < B) (r : Nat) : units B r < units B (r + 1) := by
  unfold units
  by_cases h1 : r + 1 < B
  · rw [if_pos (by omega), if_pos h1]; omega
  · by_cases h2 : r < B
    · have : r + 1 = B := by omega
      rw [if_pos h2, if_neg h1, this, Nat.mod_self, Nat.div_self hB]; simp; omega
    · rw [if_neg h2, if_neg h1]
      have hq : 1 ≤ r / B := (Nat.le_div_iff_mul_le hB).2 (by omega)
      have hr := Nat.div_add_mod r B
      have ht := Nat.mod_lt r hB
      generalize r / B = q at *
      generalize r % B = t at *
      by_cases h3 : t + 1 < B
      · have e1 : (r + 1) / B = q := by rw [← hr, Nat.add_assoc, Nat.mul_add_div hB, Nat.div_eq_of_lt h3, Nat.add_zero]
        have e2 : (r + 1) % B = t + 1 := by rw [← hr, Nat.add_assoc, Nat.mul_add_mod, Nat.mod_eq_of_lt h3]
        rw [e1, e2]
        exact Nat.mul_lt_mul_of_pos_right (by omega) (Nat.two_pow_pos _)
      · have e : r + 1 = B * (q + 1) := by rw [Nat.mul_succ]; omega
        rw [e, Nat.mul_div_cancel_left _ hB, Nat.mul_mod_right, Nat.add_zero, Nat.add_sub_cancel]
        obtain ⟨p, rfl⟩ : ∃ p, q = p + 1 := ⟨q - 1, by omega⟩
        rw [Nat.add_sub_cancel, Nat.pow_succ, Nat.mul_comm (2 ^ p) 2, ← Nat.mul_assoc]
        exact Nat.mul_lt_mul_of_pos_right (by omega) (Nat.two_pow_pos _)
theorem units_lt {B : Nat} (hB : 0 < B) {r s : Nat} (h : r < s) : units B r < units B s := by
  induction s with
  | zero => omega
  | succ s ih =>
    rcases Nat.lt_or_eq_of_le (Nat.le_of_lt_succ h) with h | rfl
    · exact Nat.lt_trans (ih h) (units_succ hB s)
    · exact units_succ hB r
theorem units_inj {B : Nat} (hB : 0 < B) {r s : Nat} (h : units B r = units B s) : r = s := by
  rcases Nat.lt_trichotomy r s with h1 | h1 | h1
  · have := units_lt hB h1; omega
  · exact h1
  · have := units_lt hB h1; omega
theorem units_le {B : Nat} (hB : 0 < B) {r s : Nat} (h : r ≤ s) : units B r ≤ units B s := by
  rcases Nat.lt_or_eq_of_le h with h | rfl
  · exact Nat.le_of_lt (units_lt hB h)
  · exact Nat.le_refl _
theorem units_zero {B : Nat} (hB : 0 < B) : units B 0 = 0 := by simp [units, hB]

def sg (neg : Bool) (n : Nat) : Int := if neg then -(n : Int) else n
def sign (f : Format) (x : Nat) : Bool := x / f.signWeight % 2 == 1
def rung (f : Format) (x : Nat) : Nat := x % f.signWeight
/-- the rung with its sign -/
def srung (k : FloatKind) (x : Nat) : Int := sg (sign k.format x) (rung k.format x)
def nanB (k : FloatKind) (x : Nat) : Bool := (k.format.read x).isNaN

theorem sg_compare {u : Nat → Nat} (h0 : u 0 = 0) (hu : ∀ {r s}, r < s → u r < u s) (s t : Bool) (r q : Nat) : compare (sg s (u r)) (sg t (u q)) = compare (sg s r) (sg t q) := by
  have key : ∀ a b c d : Int, (a < b ↔ c < d) → (a = b ↔ c = d) → compare a b = compare c d := by
    intro a b c d h1 h2
    simp only [compare, compareOfLessAndEq]
    by_cases h : a < b
    · rw [if_pos h, if_pos (h1.1 h)]
    · rw [if_neg h, if_neg (fun h' => h (h1.2 h'))]
      by_cases h' : a = b
      · rw [if_pos h', if_pos (h2.1 h')]
      · rw [if_neg h', if_neg (fun h'' => h' (h2.2 h''))]
  have p1 : ∀ {r}, 0 < r → 0 < u r := fun h => by have := hu h; omega
  have t3 := Nat.lt_trichotomy r q
  have hr := Nat.eq_zero_or_pos r
  have hq := Nat.eq_zero_or_pos q
  rcases t3 with h | h | h
  · have := hu h
    have := p1 (r := q) (by omega)
    rcases hr with rfl | hr
    · cases s <;> cases t <;> simp only [sg, h0] <;> apply key <;> simp <;> omega
    · have := p1 hr
      cases s <;> cases t <;> simp only [sg] <;> apply key <;> simp <;> omega
  · subst h
    rcases hr with rfl | hr
    · cases s <;> cases t <;> simp only [sg, h0] <;> apply key <;> simp
    · have := p1 hr
      cases s <;> cases t <;> simp only [sg] <;> apply key <;> simp <;> omega
  · have := hu h
    have := p1 (r := r) (by omega)
    rcases hq with rfl | hq
    · cases s <;> cases t <;> simp only [sg, h0] <;> apply key <;> simp <;> omega
    · have := p1 hq
      cases s <;> cases t <;> simp only [sg] <;> apply key <;> simp <;> omega

theorem compare_scale (a b : Int) (k : Nat) : compare (a * 2 ^ k) (b * 2 ^ k) = compare a b := by
  have hp : (0 : Int) < 2 ^ k := Int.pow_pos (by decide)
  simp only [compare, compareOfLessAndEq]
  have e1 : a * 2 ^ k < b * 2 ^ k ↔ a < b := ⟨fun h => Int.lt_of_mul_lt_mul_right h (Int.le_of_lt hp), fun h => Int.mul_lt_mul_of_pos_right h hp⟩
  have e2 : a * 2 ^ k = b * 2 ^ k ↔ a = b := ⟨fun h => Int.eq_of_mul_eq_mul_right (Int.ne_of_gt hp) h, fun h => by rw [h]⟩
  simp only [e1, e2]
theorem signed_eq (s : Bool) (m up : Nat) : signed s m up = sg s (m * 2 ^ up) := by
  unfold signed sg; rw [Nat.shiftLeft_eq]
theorem sg_scale (s : Bool) (n k : Nat) : sg s (n * 2 ^ k) = sg s n * 2 ^ k := by
  unfold sg; cases s <;> simp [Int.neg_mul]

/-- what a word below infinity stands for -/
theorem read_num {f : Format} {x : Nat} (h : rung f x < f.infRung) : ∃ m p, f.read x = .number (sign f x) m (f.leastPlace + (p : Nat)) ∧ m * 2 ^ p = units f.binade (rung f x) := by
  unfold rung at h
  unfold Format.read
  simp only
  split
  · rename_i h1
    exact ⟨x % f.signWeight, 0, by simp [sign], by simp [units, rung, h1]⟩
  · rename_i h1
    refine ⟨_, _, rfl, ?_⟩
    show _ = units f.binade (x % f.signWeight)
    unfold units; rw [if_neg h1]
theorem num_order (s t : Bool) (m n : Nat) (L : Int) (p q : Nat) : Datum.order (.number s m (L + p)) (.number t n (L + q)) = some (compare (sg s (m * 2 ^ p)) (sg t (n * 2 ^ q))) := by
  simp only [Datum.order, signed_eq]
  congr 1
  generalize hb : min (L + (p : Int)) (L + q) = b
  rw [← compare_scale _ _ (b - L).toNat, ← sg_scale, ← sg_scale]
  rw [Nat.mul_assoc, Nat.mul_assoc, ← Nat.pow_add, ← Nat.pow_add]
  congr 3 <;> congr 1 <;> omega
theorem read_inf {f : Format} {x : Nat} (hB : f.binade ≤ f.infRung) (h : rung f x = f.infRung) : f.read x = .infinity (sign f x) := by
  unfold rung at h
  unfold Format.read
  simp only [h]
  rw [if_neg (by omega), if_neg (by omega)]
  simp [sign]
theorem read_nan {f : Format} {x : Nat} (hB : f.binade ≤ f.infRung) (h : rung f x > f.infRung) : (f.read x).isNaN = true := by
  unfold rung at h
  unfold Format.read
  simp only
  rw [if_neg (by omega), if_neg (by omega), if_neg (by omega)]; rfl
theorem fmt_ok (k : FloatKind) : k.format.binade ≤ k.format.infRung := by cases k <;> decide
theorem nanB_iff (k : FloatKind) (x : Nat) : nanB k x = decide (k.format.infRung < rung k.format x) := by
  rcases Nat.lt_trichotomy (rung k.format x) k.format.infRung with h | h | h
  · obtain ⟨m, p, h1, _⟩ := read_num h
    have : ¬ (k.format.infRung < rung k.format x) := by omega
    simp [nanB, h1, Datum.isNaN, this]
  · have : ¬ (k.format.infRung < rung k.format x) := by omega
    simp [nanB, read_inf (fmt_ok k) h, Datum.isNaN, this]
  · simp only [nanB, read_nan (fmt_ok k) h, h]; simp
/-- THE ORDER -/
theorem order_rung {k : FloatKind} {x y : Nat} (hx : nanB k x = false) (hy : nanB k y = false) : k.format.order x y = some (compare (srung k x) (srung k y)) := by
  rw [nanB_iff] at hx hy
  have hx := of_decide_eq_false hx
  have hy := of_decide_eq_false hy
  unfold Format.order srung
  have hB := binade_pos k.format
  have inf_gt : ∀ (s t : Bool) (r : Nat), r < k.format.infRung → compare (sg s k.format.infRung) (sg t r) = (if s then .lt else .gt) ∧ compare (sg t r) (sg s k.format.infRung) = (if s then .gt else .lt) := by
    intro s t r hr
    have hb : -(r : Int) ≤ sg t r ∧ sg t r ≤ r := by cases t <;> simp [sg] <;> omega
    generalize sg t r = v at *
    cases s
    · have e : sg false k.format.infRung = (k.format.infRung : Int) := rfl
      simp only [e, compare, compareOfLessAndEq]
      refine ⟨?_, ?_⟩
      · rw [if_neg (by omega), if_neg (by omega)]; rfl
      · rw [if_pos (by omega)]; rfl
    · have e : sg true k.format.infRung = -(k.format.infRung : Int) := rfl
      simp only [e, compare, compareOfLessAndEq]
      refine ⟨?_, ?_⟩
      · rw [if_pos (by omega)]; rfl
      · rw [if_neg (by omega), if_neg (by omega)]; rfl
  by_cases h1 : rung k.format x = k.format.infRung
  · by_cases h2 : rung k.format y = k.format.infRung
    · rw [read_inf (fmt_ok k) h1, read_inf (fmt_ok k) h2, h1, h2]
      have hp : (0 : Int) < (k.format.infRung : Int) := by have := fmt_ok k; omega
      have e1 : sg false k.format.infRung = (k.format.infRung : Int) := rfl
      have e2 : sg true k.format.infRung = -(k.format.infRung : Int) := rfl
      generalize (k.format.infRung : Int) = I at *
      cases sign k.format x <;> cases sign k.format y <;> simp only [Datum.order, e1, e2, compare, compareOfLessAndEq]
      · simp
      · rw [if_neg (show ¬ I < -I by omega), if_neg (show ¬ I = -I by omega)]; rfl
      · rw [if_pos (show -I < I by omega)]; rfl
      · simp
    · obtain ⟨m, p, e, hm⟩ := read_num (f := k.format) (x := y) (by omega)
      rw [read_inf (fmt_ok k) h1, e, h1, (inf_gt _ _ _ (by omega)).1]; rfl
  · obtain ⟨m, p, e, hm⟩ := read_num (f := k.format) (x := x) (by omega)
    by_cases h2 : rung k.format y = k.format.infRung
    · rw [read_inf (fmt_ok k) h2, e, h2, (inf_gt _ _ _ (by omega)).2]; rfl
    · obtain ⟨n, q, e', hn⟩ := read_num (f := k.format) (x := y) (by omega)
      rw [e, e', num_order, hm, hn, sg_compare (units_zero hB) (units_lt hB)]
theorem order_nan' {k : FloatKind} {x y : Nat} (h : nanB k x = true ∨ nanB k y = true) : k.format.order x y = none := by
  unfold Format.order
  rcases h with h | h <;> unfold nanB Datum.isNaN at h
  · cases hr : k.format.read x <;> simp [hr] at h
    cases k.format.read y <;> rfl
  · cases hr : k.format.read y <;> simp [hr] at h
    cases k.format.read x <;> rfl
theorem flt_eq (k : FloatKind) (x y : Nat) : flt k x y = (!nanB k x && (!nanB k y && decide (srung k x < srung k y))) := by
  unfold flt
  cases hx : nanB k x with
  | true => rw [order_nan' (.inl hx)]; rfl
  | false =>
    cases hy : nanB k y with
    | true => rw [order_nan' (.inr hy)]; rfl
    | false =>
      rw [order_rung hx hy]; simp only [compare, compareOfLessAndEq]
      by_cases h : srung k x < srung k y
      · simp [h]
      · by_cases h' : srung k x = srung k y <;> simp [h, h']
theorem fgt_eq (k : FloatKind) (x y : Nat) : fgt k x y = (!nanB k x && (!nanB k y && decide (srung k y < srung k x))) := by
  unfold fgt
  cases hx : nanB k x with
  | true => rw [order_nan' (.inl hx)]; rfl
  | false =>
    cases hy : nanB k y with
    | true => rw [order_nan' (.inr hy)]; rfl
    | false =>
      rw [order_rung hx hy]; simp only [compare, compareOfLessAndEq]
      by_cases h : srung k x < srung k y
      · have : ¬ srung k y < srung k x := by omega
        simp [h, this]
      · by_cases h' : srung k x = srung k y
        · simp [h']
        · have : srung k y < srung k x := by omega
          simp [h, h', this]
theorem feq_eq (k : FloatKind) (x y : Nat) : feq k x y = (!nanB k x && (!nanB k y && decide (srung k x = srung k y))) := by
  unfold feq
  cases hx : nanB k x with
  | true => rw [order_nan' (.inl hx)]; rfl
  | false =>
    cases hy : nanB k y with
    | true => rw [order_nan' (.inr hy)]; rfl
    | false =>
      rw [order_rung hx hy]; simp only [compare, compareOfLessAndEq]
      by_cases h : srung k x < srung k y
      · have : ¬ srung k x = srung k y := by omega
        simp [h, this]
      · by_cases h' : srung k x = srung k y <;> simp [h, h']
theorem fne_eq (k : FloatKind) (x y : Nat) : fne k x y = !(feq k x y) := by
  unfold fne feq; rfl
theorem fle_eq (k : FloatKind) (x y : Nat) : fle k x y = (flt k x y || feq k x y) := rfl
theorem fge_eq (k : FloatKind) (x y : Nat) : fge k x y = (fgt k x y || feq k x y) := rfl
theorem fne_self (k : FloatKind) (x : Nat) : fne k x x = nanB k x := by
  rw [fne_eq, feq_eq]; cases nanB k x <;> simp
theorem fle_not (k : FloatKind) {x y : Nat} (hx : nanB k x = false) (hy : nanB k y = false) : fle k x y = !(fgt k x y) := by
  rw [fle_eq, flt_eq, feq_eq, fgt_eq, hx, hy]
  simp only [Bool.not_false, Bool.true_and]
  by_cases h : srung k x < srung k y
  · have : ¬ srung k y < srung k x := by omega
    simp [h, this]
  · by_cases h' : srung k x = srung k y
    · simp [h']
    · have : srung k y < srung k x := by omega
      simp [h, h', this]
theorem fge_not (k : FloatKind) {x y : Nat} (hx : nanB k x = false) (hy : nanB k y = false) : fge k x y = !(flt k x y) := by
  rw [fge_eq, flt_eq, feq_eq, fgt_eq, hx, hy]
  simp only [Bool.not_false, Bool.true_and]
  by_cases h : srung k x < srung k y
  · have : ¬ srung k y < srung k x := by omega
    have h2 : ¬ srung k x = srung k y := by omega
    simp [h, this, h2]
  · by_cases h' : srung k x = srung k y
    · simp [h']
    · have : srung k y < srung k x := by omega
      simp [h, h', this]
theorem nanB_fnan (k : FloatKind) : nanB k (fnan k) = true := by cases k <;> decide
/-- words of the same rung and sign are the same -/
theorem word_inj {k : FloatKind} {x y : Nat} (hx : x < 2 ^ k.format.width) (hy : y < 2 ^ k.format.width) (h : srung k x = srung k y) (hs : sign k.format x = sign k.format y) : x = y := by
  have hw : ∀ x, x < 2 ^ k.format.width → x = k.format.word (sign k.format x) (rung k.format x) := by
    intro x hx
    unfold sign rung Format.word
    have hp : 0 < k.format.signWeight := signWeight_pos _
    have h2 : 2 ^ k.format.width = k.format.signWeight * 2 := by cases k <;> decide
    have hd : x / k.format.signWeight < 2 := (Nat.div_lt_iff_lt_mul hp).2 (by rw [h2] at hx; omega)
    have he := Nat.div_add_mod x k.format.signWeight
    generalize x / k.format.signWeight = d at *
    rcases (show d = 0 ∨ d = 1 by omega) with rfl | rfl
    · simp; omega
    · simp; omega
  rw [hw x hx, hw y hy, hs]
  congr 1
  unfold srung at h
  rw [hs] at h
  unfold sg at h
  split at h <;> omega
end Go.Proofs.LV
