/- Singles and doubles as fractions: sums, products, quotients, order, conversions, in a form for use. -/
import Derived.Test.YtdffgjembkanoaaLvRat
import Derived.Test.YtdffgjembkanoaaLvFnCX
import Derived.Test.YtdffgjembkanoaaLvFnB
namespace Go.Proofs.LV
open Go Ieee
set_option linter.unusedVariables false
set_option linter.unusedSimpArgs false

abbrev sf (x : Nat) : Prop := fnt single x
abbrev sv (x : Nat) : Rat := rv single x
abbrev df (x : Nat) : Prop := fnt double x
abbrev dv (x : Nat) : Rat := rv double x

/-! ### powers as plain fractions -/
theorem zp_neg (n : Nat) (q : Rat) (h : q * ((2 ^ n : Nat) : Rat) = 1) : (2 : Rat) ^ (-(n : Int)) = q := by
  have h1 : (2 : Rat) ^ (-(n : Int)) * ((2 ^ n : Nat) : Rat) = 1 := by
    rw [← zp_nat, ← zp_add, show -(n : Int) + n = ((0 : Nat) : Int) by omega, zp_nat]; rfl
  have hp : (0 : Rat) < ((2 ^ n : Nat) : Rat) := by rw [← zp_nat]; exact zp_pos _
  generalize (2 : Rat) ^ (-(n : Int)) = X at *
  generalize ((2 ^ n : Nat) : Rat) = Y at *
  by_cases h' : X < q
  · have := Rat.mul_lt_mul_of_pos_right h' hp; grind
  · by_cases h'' : q < X
    · have := Rat.mul_lt_mul_of_pos_right h'' hp; grind
    · grind
/-- least parts of a single's rounding -/
def e24 : Rat := 1 / 16777216
def e23 : Rat := 1 / 8388608
def e53 : Rat := 1 / 9007199254740992
/-- less than what is lost below the least numbers -/
def eta : Rat := 1 / 1000000000000000000000000000000
theorem p24 : (2 : Rat) ^ (-(single.fractionBits : Int) - 1) = e24 := by
  have := zp_neg 24 e24 (by decide +kernel)
  exact this
theorem p23 : (2 : Rat) ^ (-(single.fractionBits : Int)) = e23 := zp_neg 23 e23 (by decide +kernel)
theorem p53 : (2 : Rat) ^ (-(double.fractionBits : Int) - 1) = e53 := zp_neg 53 e53 (by decide +kernel)
theorem eta_big {n : Nat} (h : 100 ≤ n) : (2 : Rat) ^ (-(n : Int)) ≤ eta := by
  have h1 := zp_le (show -(n : Int) ≤ -((100 : Nat) : Int) by omega)
  have h2 := zp_neg 100 (1 / 1267650600228229401496703205376) (by decide +kernel)
  rw [h2] at h1
  have : (1 / 1267650600228229401496703205376 : Rat) ≤ eta := by decide +kernel
  grind
theorem etaS : (2 : Rat) ^ (single.leastPlace - 1) ≤ eta := eta_big (n := 150) (by omega)
theorem etaD : (2 : Rat) ^ (double.leastPlace - 1) ≤ eta := eta_big (n := 1075) (by omega)
theorem topD {B : Rat} (h : B ≤ 1000000000000) : B ≤ (2 : Rat) ^ (top .f64) := by
  have : (2 : Rat) ^ (top .f64) = ((2 ^ 1000 : Nat) : Rat) := zp_nat 1000
  rw [this]
  have : (1000000000000 : Rat) ≤ ((2 ^ 1000 : Nat) : Rat) := by decide +kernel
  grind
theorem rabs_le {q B : Rat} (h1 : -B ≤ q) (h2 : q ≤ B) : rabs q ≤ B := by unfold rabs; split <;> grind
theorem rabs_nonneg (q : Rat) : 0 ≤ rabs q := by unfold rabs; split <;> grind
theorem le_rabs (q : Rat) : -rabs q ≤ q ∧ q ≤ rabs q := by unfold rabs; split <;> constructor <;> grind

/-! ### operations within bounds -/
theorem rd_use {f : Format} {z : Nat} {q B ε η : Rat} (h : Rd f z q) (h1 : -B ≤ q) (h2 : q ≤ B) (he : (2 : Rat) ^ (-(f.fractionBits : Int) - 1) = ε) (hη : (2 : Rat) ^ (f.leastPlace - 1) ≤ η) : fnt f z ∧ Nr (rv f z) q (B * ε + η) := by
  obtain ⟨a, b, _, _, _⟩ := h
  rw [he] at b
  have hε : 0 < ε := he ▸ zp_pos _
  have := Rat.mul_le_mul_of_nonneg_right (rabs_le h1 h2) (Rat.le_of_lt hε)
  exact ⟨a, by have := b.1; grind, by have := b.2; grind⟩
theorem rdq_use {f : Format} {z : Nat} {q B ε η : Rat} (h : RdQ f z q) (h1 : -B ≤ q) (h2 : q ≤ B) (he : (2 : Rat) ^ (-(f.fractionBits : Int)) = ε) (hη : (2 : Rat) ^ (f.leastPlace - 1) ≤ η) : fnt f z ∧ Nr (rv f z) q (B * ε + η) := by
  obtain ⟨a, b, _, _, _⟩ := h
  rw [he] at b
  have hε : 0 < ε := he ▸ zp_pos _
  have := Rat.mul_le_mul_of_nonneg_right (rabs_le h1 h2) (Rat.le_of_lt hε)
  exact ⟨a, by have := b.1; grind, by have := b.2; grind⟩
theorem d_add {x y : Nat} {B : Rat} (hx : df x) (hy : df y) (h1 : -B ≤ dv x + dv y) (h2 : dv x + dv y ≤ B) (hB : B ≤ 1000000000000) : df (fadd .f64 x y) ∧ Nr (dv (fadd .f64 x y)) (dv x + dv y) (B * e53 + eta) :=
  rd_use (fadd_rd .f64 hx hy (Rat.le_trans (rabs_le h1 h2) (topD hB))) h1 h2 p53 etaD
/-! ### exact numbers: c times 2^j -/
def Gr (j : Int) (b : Nat) (q : Rat) : Prop := ∃ c : Int, q = (c : Rat) * 2 ^ j ∧ c.natAbs ≤ b
theorem Gr.mono {j : Int} {b b' : Nat} {q : Rat} (h : Gr j b q) (hb : b ≤ b') : Gr j b' q := by obtain ⟨c, h1, h2⟩ := h; exact ⟨c, h1, Nat.le_trans h2 hb⟩
theorem Gr.add {j : Int} {a b : Nat} {p q : Rat} (h : Gr j a p) (h' : Gr j b q) : Gr j (a + b) (p + q) := by
  obtain ⟨c, rfl, h1⟩ := h; obtain ⟨d, rfl, h2⟩ := h'
  exact ⟨c + d, by rw [Rat.intCast_add]; grind, by omega⟩
theorem Gr.sub {j : Int} {a b : Nat} {p q : Rat} (h : Gr j a p) (h' : Gr j b q) : Gr j (a + b) (p - q) := by
  obtain ⟨c, rfl, h1⟩ := h; obtain ⟨d, rfl, h2⟩ := h'
  exact ⟨c - d, by rw [Rat.intCast_sub]; grind, by omega⟩
theorem Gr.mul {i j : Int} {a b : Nat} {p q : Rat} (h : Gr i a p) (h' : Gr j b q) : Gr (i + j) (a * b) (p * q) := by
  obtain ⟨c, rfl, h1⟩ := h; obtain ⟨d, rfl, h2⟩ := h'
  refine ⟨c * d, by rw [Rat.intCast_mul, zp_add]; grind, by rw [Int.natAbs_mul]; exact Nat.mul_le_mul h1 h2⟩
theorem Gr.zero (j : Int) (b : Nat) : Gr j b 0 := ⟨0, by simp, by simp⟩
theorem gr_abs {j : Int} {b : Nat} {q : Rat} (h : Gr j b q) : ∃ n : Nat, rabs q = n * 2 ^ j ∧ n ≤ b := by
  obtain ⟨c, rfl, h1⟩ := h
  refine ⟨c.natAbs, ?_, h1⟩
  have := abs_rat c j (decide (c < 0)) (fun _ => rfl)
  rw [← this]
  exact rabs_sg (zp_two _ _)
/-- bounds of the numbers at hand -/
theorem gr_le {j : Int} {b : Nat} {q : Rat} (h : Gr j b q) : rabs q ≤ (b : Rat) * 2 ^ j := by
  obtain ⟨n, h1, h2⟩ := gr_abs h
  rw [h1]
  exact Rat.mul_le_mul_of_nonneg_right (nat_le_rat h2) (Rat.le_of_lt (zp_pos j))
theorem gr_top {k : FloatKind} {j : Int} {b : Nat} {q : Rat} (h : Gr j b q) (hb : b ≤ 2 ^ 53) (hj : j ≤ 60) : rabs q * 2 ≤ (2 : Rat) ^ (top k) := by
  have h1 := gr_le h
  have h2 : (b : Rat) * 2 ^ j ≤ 2 ^ (113 : Int) := by
    have h3 : (b : Rat) ≤ 2 ^ (53 : Int) := by
      rw [show (53 : Int) = ((53 : Nat) : Int) from rfl, zp_nat]; exact nat_le_rat hb
    have h4 := Rat.mul_le_mul_of_nonneg_right h3 (Rat.le_of_lt (zp_pos j))
    have h5 := Rat.mul_le_mul_of_nonneg_left (zp_le hj) (Rat.le_of_lt (zp_pos 53))
    rw [← zp_add] at h5
    rw [← zp_add] at h4
    have h6 := zp_le (show (53 : Int) + j ≤ 113 by omega)
    exact Rat.le_trans h4 h6
  have h7 := zp_one 113
  have h8 := zp_le (show (113 : Int) + 1 ≤ top k by cases k <;> decide)
  grind
theorem add_gr (k : FloatKind) {x y : Nat} {j : Int} {a b : Nat} (hx : fnt k.format x) (hy : fnt k.format y) (h1 : Gr j a (rv k.format x)) (h2 : Gr j b (rv k.format y)) (hb : a + b < 2 ^ (k.format.fractionBits + 1)) (hj : k.format.leastPlace ≤ j) (hj2 : j ≤ 60) :
    fnt k.format (fadd k x y) ∧ rv k.format (fadd k x y) = rv k.format x + rv k.format y := by
  have h3 := h1.add h2
  have hc : 2 ^ (k.format.fractionBits + 1) ≤ 2 ^ 53 := by cases k <;> decide
  have ht := gr_top (k := k) h3 (by omega) hj2
  have := fadd_rd k hx hy (by have := rabs_nonneg (rv k.format x + rv k.format y); grind)
  obtain ⟨n, h4, h5⟩ := gr_abs h3
  exact ⟨this.fin, this.exact n j h4 (by omega) hj⟩
theorem mul_gr (k : FloatKind) {x y : Nat} {i j : Int} {a b : Nat} (hx : fnt k.format x) (hy : fnt k.format y) (h1 : Gr i a (rv k.format x)) (h2 : Gr j b (rv k.format y)) (hb : a * b < 2 ^ (k.format.fractionBits + 1)) (hj : k.format.leastPlace ≤ i + j) (hj2 : i + j ≤ 60) :
    fnt k.format (fmul k x y) ∧ rv k.format (fmul k x y) = rv k.format x * rv k.format y := by
  have h3 := h1.mul h2
  have hc : 2 ^ (k.format.fractionBits + 1) ≤ 2 ^ 53 := by cases k <;> decide
  have ht := gr_top (k := k) h3 (by omega) hj2
  have := fmul_rd k hx hy (by have := rabs_nonneg (rv k.format x * rv k.format y); grind)
  obtain ⟨n, h4, h5⟩ := gr_abs h3
  exact ⟨this.fin, this.exact n _ h4 (by omega) hj⟩
theorem div_gr (k : FloatKind) {x y : Nat} {j : Int} {b : Nat} {q : Rat} (hx : fnt k.format x) (hy : fnt k.format y) (hy0 : rv k.format y ≠ 0) (hq : q * rv k.format y = rv k.format x) (h1 : Gr j b q) (hb : b < 2 ^ (k.format.fractionBits + 1)) (hj : k.format.leastPlace ≤ j) (hj2 : j ≤ 60) :
    fnt k.format (fdiv k x y) ∧ rv k.format (fdiv k x y) = q := by
  have hc : 2 ^ (k.format.fractionBits + 1) ≤ 2 ^ 53 := by cases k <;> decide
  have := fdiv_rd k hx hy hy0 hq (gr_top (k := k) h1 (by omega) hj2)
  obtain ⟨n, h4, h5⟩ := gr_abs h1
  exact ⟨this.fin, this.exact n j h4 (by omega) hj⟩

/-! ### integers, words, order -/
theorem rv_read {f : Format} {x : Nat} {s : Bool} {m : Nat} {e : Int} (hf : fnt f x) (h : f.read x = .number s m e) : rv f x = sgR s ((m : Rat) * 2 ^ e) := by
  obtain ⟨s', m', e', h1, h2, _⟩ := read_rv hf
  rw [h] at h1; cases h1
  exact h2
theorem fofi_rv (k : FloatKind) {n : Int} (h : n.natAbs < 2 ^ (k.format.fractionBits + 1)) : fnt k.format (fofi k n) ∧ rv k.format (fofi k n) = n := by
  have hc : 2 ^ (k.format.fractionBits + 1) ≤ 2 ^ 53 := by cases k <;> decide
  have e0 : (2 : Rat) ^ (0 : Int) = 1 := by rw [show (0 : Int) = ((0 : Nat) : Int) from rfl, zp_nat]; rfl
  have ea := abs_rat n 0 (decide (n < 0)) (fun _ => rfl)
  have hg : Gr 0 n.natAbs ((n : Rat) * 2 ^ (0 : Int)) := ⟨n, rfl, Nat.le_refl _⟩
  have ht := gr_top (k := k) hg (by omega) (by omega)
  rw [← ea, rabs_sg (zp_two _ _)] at ht
  have := rd_near k.format (decide (n < 0)) n.natAbs 0 (top k) (by have := zp_two n.natAbs 0; grind) (top_ok k).1 (top_ok k).2
  refine ⟨this.fin, ?_⟩
  show rv k.format (k.format.nearest (decide (n < 0)) n.natAbs 0) = _
  rw [this.exact n.natAbs 0 (rabs_sg (zp_two _ _)) h (by cases k <;> decide), ea, e0]; grind
theorem srung_rv (k : FloatKind) (x y : Nat) : (srung k x < srung k y ↔ rv k.format x < rv k.format y) ∧ (srung k x = srung k y ↔ rv k.format x = rv k.format y) := by
  have hc := sg_compare (u := units k.format.binade) (units_zero (fB _)) (units_lt (fB _)) (sign k.format x) (sign k.format y) (rung k.format x) (rung k.format y)
  obtain ⟨h1, h2⟩ := cmp_lt hc
  have hv : ∀ z, rv k.format z = ((sg (sign k.format z) (units k.format.binade (rung k.format z)) : Int) : Rat) * 2 ^ k.format.leastPlace := by
    intro z
    unfold rv sg sgR
    cases sign k.format z
    · rfl
    · simp only [if_true]
      rw [Rat.intCast_neg]
      show -(((units k.format.binade (rung k.format z) : Nat) : Rat) * _) = -((units k.format.binade (rung k.format z) : Nat) : Rat) * _
      grind
  unfold srung
  rw [hv, hv, ← h1, ← h2]
  have hp := zp_pos k.format.leastPlace
  generalize sg (sign k.format x) (units k.format.binade (rung k.format x)) = a at *
  generalize sg (sign k.format y) (units k.format.binade (rung k.format y)) = b at *
  constructor
  · constructor
    · intro h; exact Rat.mul_lt_mul_of_pos_right (Rat.intCast_lt_intCast.2 h) hp
    · intro h
      apply Int.not_le.1
      intro hle
      have := Rat.mul_le_mul_of_nonneg_right (Rat.intCast_le_intCast.2 hle) (Rat.le_of_lt hp)
      grind
  · constructor
    · rintro rfl; rfl
    · intro h
      apply Int.le_antisymm
      · apply Int.not_lt.1; intro hl
        have := Rat.mul_lt_mul_of_pos_right (Rat.intCast_lt_intCast.2 hl) hp
        grind
      · apply Int.not_lt.1; intro hl
        have := Rat.mul_lt_mul_of_pos_right (Rat.intCast_lt_intCast.2 hl) hp
        grind
theorem fnt_nan {k : FloatKind} {x : Nat} (h : fnt k.format x) : nanB k x = false := by
  rw [nanB_iff]
  unfold fnt at h
  exact decide_eq_false (by omega)
theorem flt_rv {k : FloatKind} {x y : Nat} (hx : fnt k.format x) (hy : fnt k.format y) : flt k x y = decide (rv k.format x < rv k.format y) := by
  rw [flt_eq, fnt_nan hx, fnt_nan hy]
  simp only [Bool.not_false, Bool.true_and]
  exact decide_eq_decide.2 (srung_rv k x y).1
theorem fgt_rv {k : FloatKind} {x y : Nat} (hx : fnt k.format x) (hy : fnt k.format y) : fgt k x y = decide (rv k.format y < rv k.format x) := by
  rw [fgt_eq, fnt_nan hx, fnt_nan hy]
  simp only [Bool.not_false, Bool.true_and]
  exact decide_eq_decide.2 (srung_rv k y x).1
theorem feq_rv {k : FloatKind} {x y : Nat} (hx : fnt k.format x) (hy : fnt k.format y) : feq k x y = decide (rv k.format x = rv k.format y) := by
  rw [feq_eq, fnt_nan hx, fnt_nan hy]
  simp only [Bool.not_false, Bool.true_and]
  exact decide_eq_decide.2 (srung_rv k x y).2
theorem finM_sf (x : Nat) : finM x = true ↔ sf x := by rw [finM_iff, decide_eq_true_eq]; exact Iff.rfl
/-- a single as a double -/
theorem conv_up {x : Nat} (hx : sf x) : df (fconv .f32 .f64 x) ∧ dv (fconv .f32 .f64 x) = sv x := by
  obtain ⟨s, m, e, h1, h2, h3⟩ := read_rv hx
  have hb := read32_bounds h1
  have e1 : fconv .f32 .f64 x = double.nearest s m e := by
    unfold fconv
    rw [if_neg (by decide)]
    show (match single.read x with | .nan _ _ => fnan .f64 | .infinity n => FloatKind.f64.encode (.infinity n) | .number n m e => FloatKind.f64.encode (.number n m e)) = _
    rw [h1]; rfl
  have hg : Gr e m ((m : Rat) * 2 ^ e) := ⟨m, by rfl, by simp⟩
  have ht : (m : Rat) * 2 ^ e ≤ 2 ^ (top .f64) := by
    have h4 : (m : Rat) ≤ 2 ^ (24 : Int) := by
      rw [show (24 : Int) = ((24 : Nat) : Int) from rfl, zp_nat]; exact nat_le_rat (by omega)
    have h5 := Rat.mul_le_mul_of_nonneg_right h4 (Rat.le_of_lt (zp_pos e))
    rw [← zp_add] at h5
    exact Rat.le_trans h5 (zp_le (by show 24 + e ≤ 1000; omega))
  have := rd_near double s m e (top .f64) ht (top_ok .f64).1 (top_ok .f64).2
  rw [e1]
  refine ⟨this.fin, ?_⟩
  show rv double _ = _
  rw [this.exact m e (rabs_sg (zp_two _ _)) (by show m < 2 ^ 53; omega) (by show -1074 ≤ e; omega), ← h2]

/-! ### words that are written out -/
theorem lit_neg {f : Format} {x m n : Nat} {v : Rat} (hf : fnt f x) (hr : f.read x = .number false m (-(n : Int))) (hv : v * ((2 ^ n : Nat) : Rat) = m) : rv f x = v := by
  rw [rv_read hf hr]
  show (m : Rat) * 2 ^ (-(n : Int)) = v
  rw [← hv, Rat.mul_assoc, ← zp_nat, ← zp_add, show (n : Int) + -(n : Int) = ((0 : Nat) : Int) by omega, zp_nat]
  show v * ((1 : Nat) : Rat) = v
  have : ((1 : Nat) : Rat) = 1 := rfl
  rw [this]; grind
theorem zero_rv (f : Format) : rv f 0 = 0 := by
  have h : rung f 0 = 0 := by simp [rung]
  unfold rv
  rw [h, units_zero (fB f)]
  have : ((0 : Nat) : Rat) * (2 : Rat) ^ f.leastPlace = 0 := by simp
  rw [this, sgR_zero]
theorem zero_sf : sf 0 := by unfold sf fnt; decide
theorem zero_df : df 0 := by unfold df fnt; decide
theorem gr_bound {j : Int} {b : Nat} {q B : Rat} (h : Gr j b q) (hB : (b : Rat) * 2 ^ j ≤ B) : -B ≤ q ∧ q ≤ B := by
  have h1 := gr_le h
  have h2 := le_rabs q
  constructor <;> grind
theorem finAll_of {xs : List Nat} (h : ∀ i, i < xs.length → sf (xs.getD i 0)) : finAllM xs = true := by
  unfold finAllM
  rw [List.all_eq_true]
  intro x hx
  obtain ⟨i, hi, rfl⟩ := mem_getD_rng 0 hx
  exact (finM_sf _).2 (h i hi)
def sumQ : Nat → (Nat → Rat) → Rat
  | 0, _ => 0
  | n + 1, f => sumQ n f + f n
theorem sumQ_const (x : Rat) : ∀ n, (sumQ n fun _ => x) = n * x
  | 0 => by show (0 : Rat) = ((0 : Nat) : Rat) * x; have : ((0 : Nat) : Rat) = 0 := rfl; rw [this]; grind
  | n + 1 => by
    have e0 : ((n + 1 : Nat) : Rat) = (n : Rat) + 1 := Rat.natCast_add n 1
    show (sumQ n fun _ => x) + x = _
    rw [sumQ_const x n, e0]; grind
theorem sumQ_congr {f g : Nat → Rat} : ∀ n, (∀ i, i < n → f i = g i) → sumQ n f = sumQ n g
  | 0, _ => rfl
  | n + 1, h => by
    show sumQ n f + f n = sumQ n g + g n
    rw [sumQ_congr n (fun i hi => h i (by omega)), h n (by omega)]
/-- a sum from the left, of exact numbers -/
theorem acc_gr {g : Nat → Nat} {j : Int} {b : Nat} (hj : -149 ≤ j) (hj2 : j ≤ 60) (n : Nat) (hn : b * n < 2 ^ 24) (h : ∀ i, i < n → sf (g i) ∧ Gr j b (sv (g i))) :
    sf (accN (fun i s => fadd .f32 s (g i)) n 0) ∧ Gr j (b * n) (sv (accN (fun i s => fadd .f32 s (g i)) n 0)) ∧ sv (accN (fun i s => fadd .f32 s (g i)) n 0) = sumQ n fun i => sv (g i) := by
  induction n with
  | zero =>
    refine ⟨zero_sf, ?_, ?_⟩
    · show Gr j _ (rv single 0); rw [zero_rv]; exact Gr.zero _ _
    · show rv single 0 = 0; exact zero_rv _
  | succ n ih =>
    rw [Nat.mul_succ] at hn ⊢
    obtain ⟨h1, h2, h3⟩ := ih (by omega) (fun i hi => h i (by omega))
    obtain ⟨g1, g2⟩ := h n (by omega)
    obtain ⟨a1, a2⟩ := add_gr .f32 h1 g1 h2 g2 hn hj hj2
    refine ⟨a1, ?_, ?_⟩
    · show Gr j _ (rv single (fadd .f32 _ (g n)))
      have a2 : rv single (fadd .f32 (accN (fun i s => fadd .f32 s (g i)) n 0) (g n)) = _ := a2
      rw [a2]; exact h2.add g2
    · show rv single (fadd .f32 _ (g n)) = sumQ n _ + _
      have a2 : rv single (fadd .f32 (accN (fun i s => fadd .f32 s (g i)) n 0) (g n)) = _ := a2
      rw [a2, ← h3]; rfl
end Go.Proofs.LV
