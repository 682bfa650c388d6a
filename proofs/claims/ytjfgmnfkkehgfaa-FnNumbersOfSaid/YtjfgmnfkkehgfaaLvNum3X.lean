/- Texts that belong together. -/
import Derived.Test.YtjfgmnfkkehgfaaLvNum2
import Derived.Test.YtjfgmnfkkehgfaaLvRatTX
import Derived.Test.YtjfgmnfkkehgfaaLvFnOO
namespace Go.Proofs.LV
open Go Ieee
set_option linter.unusedVariables false
set_option linter.unusedSimpArgs false

/-! ### ranks -/
theorem sumN_succ (f : Nat → Int) (n : Nat) : sumN (n + 1) f = sumN n f + f n := rfl
theorem sumN_le {f g : Nat → Int} : ∀ n, (∀ i, i < n → f i ≤ g i) → sumN n f ≤ sumN n g
  | 0, _ => Int.le_refl _
  | n + 1, h => by
    have := sumN_le n (fun i hi => h i (by omega))
    have := h n (by omega)
    rw [sumN_succ, sumN_succ]; omega
theorem sumN_const (c : Int) : ∀ n : Nat, (sumN n fun _ => c) = n * c
  | 0 => by show (0 : Int) = _; simp
  | n + 1 => by rw [sumN_succ, sumN_const c n]; rw [Int.natCast_add, Int.add_mul]; simp
/-- a table whose opposite cells add up to 2 adds up to the square -/
theorem sumN_sq {c : Nat → Nat → Int} (h : ∀ i k, c i k + c k i = 2) : ∀ n : Nat, (sumN n fun i => sumN n fun k => c i k) = n * n
  | 0 => rfl
  | n + 1 => by
    rw [sumN_succ]
    have e1 : (sumN n fun i => sumN (n + 1) fun k => c i k) = (sumN n fun i => sumN n fun k => c i k) + sumN n fun i => c i n := by
      rw [← sumN_add]; exact sumN_congr n (fun i _ => rfl)
    rw [e1, sumN_sq h n, sumN_succ]
    have e2 : (sumN n fun i => c i n) + (sumN n fun k => c n k) = n * 2 := by
      rw [← sumN_add, ← sumN_const]
      exact sumN_congr n (fun i _ => h i n)
    have e3 := h n n
    have e4 : ((n + 1 : Nat) : Int) * ((n + 1 : Nat) : Int) = (n : Int) * n + n * 2 + 1 := by
      rw [Int.natCast_add]; simp only [Int.add_mul, Int.mul_add]; omega
    omega
section
variable {b : Nat} {xs : List Nat}
/-- how many are less, and how many are the same -/
theorem below_is (h : HL b xs) {i : Nat} (hi : i < xs.length) : belowM xs (xs.getD i 0) = sumN xs.length fun k => if sv (xs.getD k 0) < sv (xs.getD i 0) then 1 else 0 :=
  sumN_congr _ (fun k hk => by rw [flt_rv (k := .f32) (h k hk).1 (h i hi).1]; simp only [decide_eq_true_eq]; rfl)
theorem equal_is (h : HL b xs) {i : Nat} (hi : i < xs.length) : equalM xs (xs.getD i 0) = sumN xs.length fun k => if sv (xs.getD k 0) = sv (xs.getD i 0) then 1 else 0 :=
  sumN_congr _ (fun k hk => by rw [feq_rv (k := .f32) (h k hk).1 (h i hi).1]; simp only [decide_eq_true_eq]; rfl)
theorem sumN_pos {f : Nat → Int} (hf : ∀ i, 0 ≤ f i) {i n : Nat} (h : i < n) : f i ≤ sumN n f := by
  induction n with
  | zero => omega
  | succ n ih =>
    rw [sumN_succ]
    have h0 : 0 ≤ sumN n f := by have := sumN_le (f := fun _ => 0) (g := f) n (fun i _ => hf i); rw [sumN_const] at this; omega
    by_cases hn : i = n
    · subst hn; omega
    · have := ih (by omega); have := hf n; omega
/-- twice a rank, less one -/
def rkI (xs : List Nat) (i : Nat) : Int := 2 * belowM xs (xs.getD i 0) + equalM xs (xs.getD i 0)
theorem rk_bounds (h : HL b xs) {i : Nat} (hi : i < xs.length) : 0 ≤ belowM xs (xs.getD i 0) ∧ 1 ≤ equalM xs (xs.getD i 0) ∧ belowM xs (xs.getD i 0) + equalM xs (xs.getD i 0) ≤ xs.length := by
  rw [below_is h hi, equal_is h hi]
  refine ⟨?_, ?_, ?_⟩
  · have := sumN_le (f := fun _ => 0) (g := fun k => if sv (xs.getD k 0) < sv (xs.getD i 0) then 1 else 0) xs.length (fun k _ => by split <;> omega)
    rw [sumN_const] at this; omega
  · have := sumN_pos (f := fun k => if sv (xs.getD k 0) = sv (xs.getD i 0) then (1 : Int) else 0) (fun k => by split <;> omega) hi
    simp only [if_true] at this; exact this
  · rw [← sumN_add]
    have := sumN_le (g := fun _ => (1 : Int)) (f := fun k => (if sv (xs.getD k 0) < sv (xs.getD i 0) then (1 : Int) else 0) + if sv (xs.getD k 0) = sv (xs.getD i 0) then 1 else 0) xs.length (fun k _ => by
      by_cases h1 : sv (xs.getD k 0) < sv (xs.getD i 0)
      · rw [if_pos h1, if_neg (by grind)]; omega
      · rw [if_neg h1]; split <;> omega)
    rw [sumN_const] at this; omega
/-- less than another: the rank is less -/
theorem rk_lt (h : HL b xs) {i k : Nat} (hi : i < xs.length) (hk : k < xs.length) (hlt : sv (xs.getD i 0) < sv (xs.getD k 0)) : rkI xs i < rkI xs k := by
  obtain ⟨_, h1, _⟩ := rk_bounds h hi
  obtain ⟨_, h2, _⟩ := rk_bounds h hk
  have h3 : belowM xs (xs.getD i 0) + equalM xs (xs.getD i 0) ≤ belowM xs (xs.getD k 0) := by
    rw [below_is h hi, equal_is h hi, below_is h hk, ← sumN_add]
    refine sumN_le _ (fun j _ => ?_)
    by_cases h1 : sv (xs.getD j 0) < sv (xs.getD i 0)
    · rw [if_pos h1, if_neg (by grind), if_pos (by grind)]; omega
    · rw [if_neg h1]
      by_cases h2 : sv (xs.getD j 0) = sv (xs.getD i 0)
      · rw [if_pos h2, if_pos (by grind)]; omega
      · rw [if_neg h2]; split <;> omega
  unfold rkI; omega
theorem rk_iff (h : HL b xs) {i k : Nat} (hi : i < xs.length) (hk : k < xs.length) : rkI xs i < rkI xs k ↔ sv (xs.getD i 0) < sv (xs.getD k 0) := by
  refine ⟨fun h1 => ?_, rk_lt h hi hk⟩
  have hne : sv (xs.getD i 0) ≠ sv (xs.getD k 0) := fun e => by
    have e1 : rkI xs i = rkI xs k := by unfold rkI; rw [below_is h hi, below_is h hk, equal_is h hi, equal_is h hk, e]
    omega
  by_cases h2 : sv (xs.getD i 0) < sv (xs.getD k 0)
  · exact h2
  · have := rk_lt h hk hi (by grind)
    omega
theorem rk_total (h : HL b xs) : (sumN xs.length fun i => rkI xs i) = (xs.length : Int) * xs.length := by
  rw [← sumN_sq (c := fun i k => 2 * (if sv (xs.getD k 0) < sv (xs.getD i 0) then 1 else 0) + if sv (xs.getD k 0) = sv (xs.getD i 0) then 1 else 0) (fun i k => by
    rcases Decidable.em (sv (xs.getD k 0) < sv (xs.getD i 0)) with h1 | h1
    · rw [if_pos h1, if_neg (by grind), if_neg (by grind), if_neg (by grind)]; omega
    · rw [if_neg h1]
      rcases Decidable.em (sv (xs.getD k 0) = sv (xs.getD i 0)) with h2 | h2
      · rw [if_pos h2, if_neg (by grind), if_pos h2.symm]; omega
      · rw [if_neg h2, if_pos (by grind), if_neg (by grind)]; omega) xs.length]
  refine sumN_congr _ (fun i hi => ?_)
  unfold rkI
  rw [below_is h hi, equal_is h hi, sumN_add (fun k => 2 * (if sv (xs.getD k 0) < sv (xs.getD i 0) then 1 else 0)) (fun k => if sv (xs.getD k 0) = sv (xs.getD i 0) then 1 else 0)]
  have e : ∀ (f : Nat → Int) (n : Nat), (sumN n fun k => 2 * f k) = 2 * sumN n f := fun f n => by
    induction n with
    | zero => rfl
    | succ n ih => rw [sumN_succ, sumN_succ, ih]; omega
  rw [e]
/-- the rank's number -/
theorem rk_val (h : HL b xs) (hl : xs.length ≤ 96) {i : Nat} (hi : i < xs.length) : sf ((rkM xs).getD i 0) ∧ Gr (-1) 200 (sv ((rkM xs).getD i 0)) ∧ sv ((rkM xs).getD i 0) = ((rkI xs i + 1 : Int) : Rat) / 2 := by
  obtain ⟨b1, b2, b3⟩ := rk_bounds h hi
  have e : (rkM xs).getD i 0 = rkV xs (xs.getD i 0) := tab_at' _ _ hi
  rw [e]
  unfold rkV rkI
  generalize belowM xs (xs.getD i 0) = B at *
  generalize equalM xs (xs.getD i 0) = E at *
  obtain ⟨x1, x2⟩ := fofi_rv .f32 (n := B) (Nat.lt_of_le_of_lt (show B.natAbs ≤ 96 by omega) (by decide))
  obtain ⟨y1, y2⟩ := fofi_rv .f32 (n := E) (Nat.lt_of_le_of_lt (show E.natAbs ≤ 96 by omega) (by decide))
  obtain ⟨t1, t2⟩ := two_sf
  obtain ⟨h1, h2⟩ := half_sf
  have g : Gr (-1) 96 ((E : Rat) / 2) := ⟨E, by rw [half_zp]; grind, by omega⟩
  obtain ⟨d1, d2⟩ := div_gr .f32 (q := (E : Rat) / 2) (j := -1) (b := 96) y1 t1 (by show sv 1073741824 ≠ 0; rw [t2]; decide) (by show _ * sv 1073741824 = _; rw [t2, y2]; grind) g (by decide) (by decide) (by decide)
  have gB : Gr (-1) 192 (rv single (fofi .f32 B)) := by
    rw [show rv single (fofi .f32 B) = (B : Rat) from x2]
    exact ⟨2 * B, by rw [half_zp, Rat.intCast_mul]; have : ((2 : Int) : Rat) = 2 := rfl; rw [this]; grind, by omega⟩
  have gE : Gr (-1) 96 (rv single (fdiv .f32 (fofi .f32 E) 1073741824)) := by rw [show rv single (fdiv .f32 (fofi .f32 E) 1073741824) = _ from d2]; exact g
  obtain ⟨a1, a2⟩ := add_gr .f32 x1 d1 gB gE (by decide) (by decide) (by decide)
  have gA : Gr (-1) 288 (rv single (fadd .f32 (fofi .f32 B) (fdiv .f32 (fofi .f32 E) 1073741824))) := by
    rw [show rv single (fadd .f32 (fofi .f32 B) (fdiv .f32 (fofi .f32 E) 1073741824)) = _ from a2]; exact gB.add gE
  have gh : Gr (-1) 1 (rv single 1056964608) := ⟨1, by rw [show rv single 1056964608 = 1 / 2 from h2, half_zp]; decide +kernel, by decide⟩
  obtain ⟨r1, r2⟩ := add_gr .f32 a1 h1 gA gh (by decide) (by decide) (by decide)
  have ev : sv (fadd .f32 (fadd .f32 (fofi .f32 B) (fdiv .f32 (fofi .f32 E) 1073741824)) 1056964608) = ((2 * B + E + 1 : Int) : Rat) / 2 := by
    have e1 : sv (fadd .f32 (fadd .f32 (fofi .f32 B) (fdiv .f32 (fofi .f32 E) 1073741824)) 1056964608) = sv (fadd .f32 (fofi .f32 B) (fdiv .f32 (fofi .f32 E) 1073741824)) + sv 1056964608 := r2
    have e2 : sv (fadd .f32 (fofi .f32 B) (fdiv .f32 (fofi .f32 E) 1073741824)) = sv (fofi .f32 B) + sv (fdiv .f32 (fofi .f32 E) 1073741824) := a2
    have e3 : sv (fdiv .f32 (fofi .f32 E) 1073741824) = (E : Rat) / 2 := d2
    have e4 : sv (fofi .f32 B) = (B : Rat) := x2
    rw [e1, e2, e3, e4, h2, Rat.intCast_add, Rat.intCast_add, Rat.intCast_mul]
    have : ((2 : Int) : Rat) = 2 := rfl
    have : ((1 : Int) : Rat) = 1 := rfl
    grind
  refine ⟨r1, ?_, ev⟩
  rw [ev]
  exact ⟨2 * B + E + 1, by rw [half_zp]; grind, by omega⟩
end
/-! ### sums in 64 bits, and narrowing -/
theorem acc_grD {g : Nat → Nat} {j : Int} {b : Nat} (hj : -149 ≤ j) (hj2 : j ≤ 60) (n : Nat) (hn : b * n < 2 ^ 53) (h : ∀ i, i < n → df (g i) ∧ Gr j b (dv (g i))) :
    df (accN (fun i s => fadd .f64 s (g i)) n 0) ∧ Gr j (b * n) (dv (accN (fun i s => fadd .f64 s (g i)) n 0)) ∧ dv (accN (fun i s => fadd .f64 s (g i)) n 0) = sumQ n fun i => dv (g i) := by
  induction n with
  | zero =>
    refine ⟨zero_df, ?_, ?_⟩
    · show Gr j _ (rv double 0); rw [zero_rv]; exact Gr.zero _ _
    · show rv double 0 = 0; exact zero_rv _
  | succ n ih =>
    rw [Nat.mul_succ] at hn ⊢
    obtain ⟨h1, h2, h3⟩ := ih (by omega) (fun i hi => h i (by omega))
    obtain ⟨g1, g2⟩ := h n (by omega)
    obtain ⟨a1, a2⟩ := add_gr .f64 h1 g1 h2 g2 hn (by show -1074 ≤ j; omega) hj2
    refine ⟨a1, ?_, ?_⟩
    · show Gr j _ (rv double (fadd .f64 _ (g n)))
      have a2 : rv double (fadd .f64 (accN (fun i s => fadd .f64 s (g i)) n 0) (g n)) = _ := a2
      rw [a2]; exact h2.add g2
    · show rv double (fadd .f64 _ (g n)) = sumQ n _ + _
      have a2 : rv double (fadd .f64 (accN (fun i s => fadd .f64 s (g i)) n 0) (g n)) = _ := a2
      rw [a2, ← h3]; rfl
theorem narrow_fin {x : Nat} (h : sf (fconv .f64 .f32 x)) : fconvOk .f64 .f32 x = true := by
  unfold fconvOk
  unfold fconv at h
  simp only [reduceCtorEq, if_false] at h ⊢
  split
  · rename_i n m e hd
    rw [hd] at h
    obtain ⟨s, a, b, hr, _⟩ := read_rv (f := single) h
    show (!(single.read (FloatKind.f32.encode (.number n m e))).isInfinity) = true
    rw [hr]; rfl
  · rfl
/-- a double of a grid, narrowed -/
theorem narrow_gr {x : Nat} {j : Int} {b : Nat} (hx : df x) (h : Gr j b (dv x)) (hb : b < 2 ^ 24) (hj : -149 ≤ j) (hj2 : j ≤ 0) : sf (fconv .f64 .f32 x) ∧ sv (fconv .f64 .f32 x) = dv x ∧ fconvOk .f64 .f32 x = true := by
  have h1 := gr_le h
  have h2 := le_rabs (dv x)
  have h3 : (b : Rat) * 2 ^ j ≤ 1000000000000 := by
    have a1 : (2 : Rat) ^ j ≤ 1 := by have := zp_le hj2; have e : (2 : Rat) ^ (0 : Int) = 1 := rfl; rw [e] at this; exact this
    have a2 : (b : Rat) ≤ 16777216 := by have := nat_le_rat (show b ≤ 16777216 by omega); exact this
    have := Rat.mul_le_mul_of_nonneg_left a1 (nat_rat b)
    grind
  have hd := conv_down hx (by grind) (by grind)
  obtain ⟨n, e1, e2⟩ := gr_abs h
  exact ⟨hd.fin, hd.exact n j e1 (Nat.lt_of_le_of_lt e2 hb) hj, narrow_fin hd.fin⟩
section
variable {b : Nat} {xs : List Nat}
theorem sumN_rat (f : Nat → Int) : ∀ n, ((sumN n f : Int) : Rat) = sumQ n fun i => ((f i : Int) : Rat)
  | 0 => rfl
  | n + 1 => by
    have e : sumQ (n + 1) (fun i => ((f i : Int) : Rat)) = sumQ n (fun i => ((f i : Int) : Rat)) + ((f n : Int) : Rat) := rfl
    rw [e, sumN_succ, Rat.intCast_add, sumN_rat f n]
theorem rk_sum (h : HL b xs) (hl : xs.length ≤ 96) : sf (fconv .f64 .f32 (accN (fun i s => fadd .f64 s (fconv .f32 .f64 ((rkM xs).getD i 0))) xs.length 0)) ∧ fconvOk .f64 .f32 (accN (fun i s => fadd .f64 s (fconv .f32 .f64 ((rkM xs).getD i 0))) xs.length 0) = true ∧
    sv (fconv .f64 .f32 (accN (fun i s => fadd .f64 s (fconv .f32 .f64 ((rkM xs).getD i 0))) xs.length 0)) = ((xs.length : Rat) * xs.length + xs.length) / 2 := by
  obtain ⟨a1, a2, a3⟩ := acc_grD (g := fun i => fconv .f32 .f64 ((rkM xs).getD i 0)) (j := -1) (b := 200) (by omega) (by omega) xs.length (by omega) (fun i hi => by
    obtain ⟨r1, r2, r3⟩ := rk_val h hl hi
    obtain ⟨c1, c2⟩ := conv_up r1
    exact ⟨c1, by rw [c2]; exact r2⟩)
  obtain ⟨n1, n2, n3⟩ := narrow_gr a1 a2 (by omega) (by omega) (by omega)
  refine ⟨n1, n3, ?_⟩
  rw [n2, a3, sumQ_congr (g := fun i => 1 / 2 * ((rkI xs i : Int) : Rat) + 1 / 2) xs.length (fun i hi => by
    obtain ⟨r1, r2, r3⟩ := rk_val h hl hi
    obtain ⟨c1, c2⟩ := conv_up r1
    rw [c2, r3, Rat.intCast_add]
    have : ((1 : Int) : Rat) = 1 := rfl
    grind), sumQ_add (fun i => 1 / 2 * ((rkI xs i : Int) : Rat)) (fun _ => 1 / 2), sumQ_mul, sumQ_const, ← sumN_rat, rk_total h, Rat.intCast_mul]
  show 1 / 2 * ((xs.length : Rat) * (xs.length : Rat)) + _ = _
  grind
end
/-! ### numbers that are far away -/
theorem neg_val {x : Nat} (h : sf x) : sf (fneg .f32 x) ∧ sv (fneg .f32 x) = - sv x := by
  have h1 : (FloatKind.f32.format.read x).isNaN = false := fnt_nan (k := .f32) h
  have e : fneg .f32 x = x ^^^ 2 ^ 31 := by
    unfold fneg; rw [h1]; simp only [Bool.false_eq_true, if_false]
    unfold Op.negFloat
    rw [show FloatKind.f32.format.exponentBits + FloatKind.f32.format.fractionBits = 31 by decide]
  have hS : Ieee.single.signWeight = 2 ^ 31 := by decide
  have h2 : rung Ieee.single (fneg .f32 x) = rung Ieee.single x := by
    rw [e]; unfold rung; rw [hS, Nat.xor_mod_two_pow, Nat.mod_self, Nat.xor_zero]
  have h3 : sign Ieee.single (fneg .f32 x) = !(sign Ieee.single x) := by
    rw [e]; unfold sign; rw [hS, Nat.xor_div_two_pow, Nat.div_self (by decide)]
    generalize x / 2 ^ 31 = d
    have h4 : (d ^^^ 1) % 2 = d % 2 ^^^ 1 % 2 := Nat.xor_mod_two_pow (n := 1)
    rw [h4]
    rcases Nat.mod_two_eq_zero_or_one d with h5 | h5 <;> rw [h5] <;> rfl
  refine ⟨by unfold sf fnt at *; rw [h2]; exact h, ?_⟩
  unfold sv rv
  rw [h2, h3]
  cases sign Ieee.single x
  · rfl
  · show _ = - - _; rw [Rat.neg_neg]; rfl
theorem abs_val {x : Nat} (h : sf x) : sf (absF x) ∧ sv (absF x) = rabs (sv x) := by
  obtain ⟨n1, n2⟩ := neg_val h
  obtain ⟨m1, m2, m3, m4⟩ := fmax_val h n1
  refine ⟨m1, ?_⟩
  have e : absF x = fmax .f32 x (fneg .f32 x) := rfl
  rw [e]
  rw [n2] at m3 m4
  unfold rabs
  split <;> grind
/-- lists on a grid -/
def GL (j : Int) (b : Nat) (xs : List Nat) : Prop := ∀ i, i < xs.length → sf (xs.getD i 0) ∧ Gr j b (sv (xs.getD i 0))
theorem GL.sort {j : Int} {b : Nat} {xs : List Nat} (h : GL j b xs) {i : Nat} (hi : i < xs.length) : sf ((sortM KS xs).getD i 0) ∧ Gr j b (sv ((sortM KS xs).getD i 0)) := by
  have hm : (sortM KS xs).getD i 0 ∈ xs := sort_mem (getD_mem (by rw [sort_len]; exact hi))
  obtain ⟨k, hk, e⟩ := mem_getD hm
  rw [← e]; exact h k hk
theorem med_gr {j : Int} {b : Nat} {xs : List Nat} (h : GL j b xs) (hl : 1 ≤ xs.length) (hb : 4 * b < 2 ^ 24) (hj : -100 ≤ j) (hj2 : j ≤ 60) : sf (medM xs) ∧ Gr (j - 1) (2 * b) (sv (medM xs)) := by
  unfold medM
  split
  · obtain ⟨a, c⟩ := h.sort (i := xs.length / 2) (by omega)
    have := c.fine 1
    exact ⟨a, by rw [Nat.mul_comm]; exact this⟩
  · obtain ⟨a1, c1⟩ := h.sort (i := xs.length / 2 - 1) (by omega)
    obtain ⟨a2, c2⟩ := h.sort (i := xs.length / 2) (by omega)
    obtain ⟨h1, h2⟩ := half_sf
    obtain ⟨s1, s2⟩ := add_gr .f32 a1 a2 c1 c2 (by show _ < 2 ^ 24; omega) (by show -149 ≤ j; omega) hj2
    have s2 : sv (fadd .f32 ((sortM KS xs).getD (xs.length / 2 - 1) 0) ((sortM KS xs).getD (xs.length / 2) 0)) = _ := s2
    have gs := c1.add c2
    have hg : Gr (-1) 1 (rv single 1056964608) := ⟨1, by rw [show rv single 1056964608 = 1 / 2 from h2, half_zp]; decide +kernel, by decide⟩
    have gs' : Gr j (b + b) (rv single (fadd .f32 ((sortM KS xs).getD (xs.length / 2 - 1) 0) ((sortM KS xs).getD (xs.length / 2) 0))) := by
      rw [show rv single _ = _ from s2]; exact gs
    obtain ⟨p1, p2⟩ := mul_gr .f32 (i := -1) (j := j) (a := 1) (b := b + b) h1 s1 hg gs' (by show _ < 2 ^ 24; omega) (by show -149 ≤ _; omega) (by omega)
    have p2 : sv (fmul .f32 1056964608 (fadd .f32 ((sortM KS xs).getD (xs.length / 2 - 1) 0) ((sortM KS xs).getD (xs.length / 2) 0))) = _ := p2
    refine ⟨p1, ?_⟩
    rw [p2, show j - 1 = -1 + j by omega, show 2 * b = 1 * (b + b) by omega]
    exact hg.mul gs'
theorem HL.gl {b : Nat} {xs : List Nat} (h : HL b xs) : GL (-1) b xs := fun i hi => h i hi
theorem rabs_gr {j : Int} {b : Nat} {q : Rat} (h : Gr j b q) : Gr j b (rabs q) := by
  obtain ⟨n, h1, h2⟩ := gr_abs h
  exact ⟨(n : Int), by rw [h1]; rfl, by omega⟩
section
variable {xs : List Nat}
theorem far_val (h : HL 46 xs) (hl : 1 ≤ xs.length) : (sf (medM xs) ∧ Gr (-2) 92 (sv (medM xs))) ∧ GL (-2) 184 (farV xs) ∧ ∀ i, i < xs.length → sf (absF (fsub .f32 (xs.getD i 0) (medM xs))) ∧ sv (absF (fsub .f32 (xs.getD i 0) (medM xs))) = rabs (sv (xs.getD i 0) - sv (medM xs)) := by
  obtain ⟨m1, m2⟩ := med_gr h.gl hl (by decide) (by decide) (by decide)
  have m2 : Gr (-2) 92 (sv (medM xs)) := m2
  have key : ∀ i, i < xs.length → sf (absF (fsub .f32 (xs.getD i 0) (medM xs))) ∧ sv (absF (fsub .f32 (xs.getD i 0) (medM xs))) = rabs (sv (xs.getD i 0) - sv (medM xs)) ∧ Gr (-2) 184 (sv (absF (fsub .f32 (xs.getD i 0) (medM xs)))) := fun i hi => by
    have g1 : Gr (-2) 92 (sv (xs.getD i 0)) := (h i hi).2.fine 1
    obtain ⟨d1, d2⟩ := sub_gr .f32 (h i hi).1 m1 g1 m2 (by decide) (by decide) (by decide)
    have d2 : sv (fsub .f32 (xs.getD i 0) (medM xs)) = sv (xs.getD i 0) - sv (medM xs) := d2
    obtain ⟨a1, a2⟩ := abs_val d1
    rw [d2] at a2
    exact ⟨a1, a2, by rw [a2]; exact rabs_gr (g1.sub m2)⟩
  refine ⟨⟨m1, m2⟩, fun i hi => ?_, fun i hi => ⟨(key i hi).1, (key i hi).2.1⟩⟩
  rw [farV_len] at hi
  have e : (farV xs).getD i 0 = absF (fsub .f32 (xs.getD i 0) (medM xs)) := tab_at' _ _ hi
  rw [e]; exact ⟨(key i hi).1, (key i hi).2.2⟩
theorem mem_pos {ys : List Nat} (h0 : ∀ i, i < ys.length → 0 ≤ sv (ys.getD i 0)) {j : Int} {b : Nat} (h : GL j b ys) (hl : 1 ≤ ys.length) (hb : 4 * b < 2 ^ 24) (hj : -100 ≤ j) (hj2 : j ≤ 60) : 0 ≤ sv (medM ys) := by
  have hs : ∀ i, i < ys.length → 0 ≤ sv ((sortM KS ys).getD i 0) := fun i hi => by
    obtain ⟨k, hk, e⟩ := mem_getD (sort_mem (getD_mem (l := sortM KS ys) (i := i) (by rw [sort_len]; exact hi)))
    rw [← e]; exact h0 k hk
  unfold medM
  split
  · exact hs _ (by omega)
  · obtain ⟨a1, c1⟩ := h.sort (i := ys.length / 2 - 1) (by omega)
    obtain ⟨a2, c2⟩ := h.sort (i := ys.length / 2) (by omega)
    obtain ⟨h1, h2⟩ := half_sf
    obtain ⟨s1, s2⟩ := add_gr .f32 a1 a2 c1 c2 (by show _ < 2 ^ 24; omega) (by show -149 ≤ j; omega) hj2
    have s2 : sv (fadd .f32 ((sortM KS ys).getD (ys.length / 2 - 1) 0) ((sortM KS ys).getD (ys.length / 2) 0)) = _ := s2
    have hg : Gr (-1) 1 (rv single 1056964608) := ⟨1, by rw [show rv single 1056964608 = 1 / 2 from h2, half_zp]; decide +kernel, by decide⟩
    have gs' : Gr j (b + b) (rv single (fadd .f32 ((sortM KS ys).getD (ys.length / 2 - 1) 0) ((sortM KS ys).getD (ys.length / 2) 0))) := by
      rw [show rv single _ = _ from s2]; exact c1.add c2
    obtain ⟨p1, p2⟩ := mul_gr .f32 (i := -1) (j := j) (a := 1) (b := b + b) h1 s1 hg gs' (by show _ < 2 ^ 24; omega) (by show -149 ≤ _; omega) (by omega)
    have p2 : sv (fmul .f32 1056964608 (fadd .f32 ((sortM KS ys).getD (ys.length / 2 - 1) 0) ((sortM KS ys).getD (ys.length / 2) 0))) = sv 1056964608 * sv (fadd .f32 ((sortM KS ys).getD (ys.length / 2 - 1) 0) ((sortM KS ys).getD (ys.length / 2) 0)) := p2
    rw [p2, h2, s2]
    have := hs (ys.length / 2 - 1) (by omega)
    have := hs (ys.length / 2) (by omega)
    show 0 ≤ 1 / 2 * (sv _ + sv _)
    grind
/-- halves of small numbers -/
theorem half_val {a : Nat} (ha : a ≤ 100) : sf (fdiv .f32 (fofi .f32 (a : Int)) 1073741824) ∧ sv (fdiv .f32 (fofi .f32 (a : Int)) 1073741824) = (a : Rat) / 2 ∧ Gr (-1) a (sv (fdiv .f32 (fofi .f32 (a : Int)) 1073741824)) := by
  obtain ⟨f1, f2⟩ := fofi_rv .f32 (n := (a : Int)) (Nat.lt_of_le_of_lt (show ((a : Int)).natAbs ≤ 100 by omega) (by decide))
  have f2 : sv (fofi .f32 (a : Int)) = (a : Rat) := f2
  obtain ⟨t1, t2⟩ := two_sf
  have g : Gr (-1) a ((a : Rat) / 2) := ⟨(a : Int), by rw [half_zp]; show (a : Rat) / 2 = (a : Rat) * _; grind, by omega⟩
  obtain ⟨d1, d2⟩ := div_gr .f32 (q := (a : Rat) / 2) (j := -1) (b := a) f1 t1 (by show sv 1073741824 ≠ 0; rw [t2]; decide) (by show _ * sv 1073741824 = sv _; rw [t2, f2]; grind) g (by show _ < 2 ^ 24; omega) (by decide) (by decide)
  exact ⟨d1, d2, by rw [show sv _ = _ from d2]; exact g⟩
/-- how far away numbers may be -/
theorem wide_val (h : HL 46 xs) (hl : 1 ≤ xs.length) {a : Nat} (ha : a ≤ 7) : sf (farW xs (fdiv .f32 (fofi .f32 (a : Int)) 1073741824)) ∧ Gr (-4) 2576 (sv (farW xs (fdiv .f32 (fofi .f32 (a : Int)) 1073741824))) ∧ 0 ≤ sv (farW xs (fdiv .f32 (fofi .f32 (a : Int)) 1073741824)) := by
  obtain ⟨⟨m1, m2⟩, f1, f2⟩ := far_val h hl
  obtain ⟨b1, b2, b3⟩ := half_val (a := a) (by omega)
  have ll := farV_len xs
  obtain ⟨v1, v2⟩ := med_gr f1 (by omega) (by decide) (by decide) (by decide)
  have v2 : Gr (-3) 368 (sv (medM (farV xs))) := v2
  have v0 := mem_pos (ys := farV xs) (fun i hi => by
    rw [ll] at hi
    have e : (farV xs).getD i 0 = absF (fsub .f32 (xs.getD i 0) (medM xs)) := tab_at' _ _ hi
    rw [e, (f2 i hi).2]; exact rabs_nonneg _) f1 (by omega) (by decide) (by decide) (by decide)
  have g7 : Gr (-1) 7 (sv (fdiv .f32 (fofi .f32 (a : Int)) 1073741824)) := b3.mono ha
  obtain ⟨p1, p2⟩ := mul_gr .f32 (i := -1) (j := -3) (a := 7) (b := 368) b1 v1 g7 v2 (by decide) (by decide) (by decide)
  have p2 : sv (farW xs (fdiv .f32 (fofi .f32 (a : Int)) 1073741824)) = sv (fdiv .f32 (fofi .f32 (a : Int)) 1073741824) * sv (medM (farV xs)) := p2
  refine ⟨p1, by rw [p2]; exact g7.mul v2, ?_⟩
  rw [p2, b2]
  exact Rat.mul_nonneg (by have := nat_rat a; grind) v0
/-- the gap of two numbers of a grid -/
theorem r8G_gr {a b : Nat} {A B : Nat} (ha : sf a) (hb : sf b) (ga : Gr (-4) A (sv a)) (gb : Gr (-4) B (sv b)) (h : A + B < 2 ^ 24) : df (r8G a b) ∧ dv (r8G a b) = rabs (sv a - sv b) := by
  obtain ⟨a1, a2⟩ := conv_up ha
  obtain ⟨b1, b2⟩ := conv_up hb
  have ga' : Gr (-4) A (dv (fconv .f32 .f64 a)) := by rw [a2]; exact ga
  have gb' : Gr (-4) B (dv (fconv .f32 .f64 b)) := by rw [b2]; exact gb
  have e : (2 : Nat) ^ (double.fractionBits + 1) = 2 ^ 53 := by decide
  obtain ⟨x1, x2⟩ := sub_gr .f64 a1 b1 ga' gb' (by show _ < 2 ^ (double.fractionBits + 1); rw [e]; omega) (by decide) (by decide)
  obtain ⟨y1, y2⟩ := sub_gr .f64 b1 a1 gb' ga' (by show _ < 2 ^ (double.fractionBits + 1); rw [e]; omega) (by decide) (by decide)
  have x2 : dv (fsub .f64 (fconv .f32 .f64 a) (fconv .f32 .f64 b)) = sv a - sv b := by rw [← a2, ← b2]; exact x2
  have y2 : dv (fsub .f64 (fconv .f32 .f64 b) (fconv .f32 .f64 a)) = sv b - sv a := by rw [← a2, ← b2]; exact y2
  have h1 := srung_rv .f64 (fsub .f64 (fconv .f32 .f64 a) (fconv .f32 .f64 b)) (fsub .f64 (fconv .f32 .f64 b) (fconv .f32 .f64 a))
  have h2 := srung_rv .f64 (fsub .f64 (fconv .f32 .f64 b) (fconv .f32 .f64 a)) (fsub .f64 (fconv .f32 .f64 a) (fconv .f32 .f64 b))
  have u1 : rv double (fsub .f64 (fconv .f32 .f64 a) (fconv .f32 .f64 b)) = sv a - sv b := x2
  have u2 : rv double (fsub .f64 (fconv .f32 .f64 b) (fconv .f32 .f64 a)) = sv b - sv a := y2
  have k1 := h1.1
  have k2 := h2.1
  rw [show rv FloatKind.f64.format _ = _ from u1, show rv FloatKind.f64.format _ = _ from u2] at k1 k2
  unfold r8G
  rcases fmax_mem (fnt_nan (k := .f64) x1) (fnt_nan (k := .f64) y1) with ⟨e, hs⟩ | ⟨e, hs⟩ <;> rw [e]
  · refine ⟨x1, ?_⟩
    rw [x2]
    have : ¬ sv a - sv b < sv b - sv a := fun hlt => by have := k1.2 hlt; omega
    unfold rabs; split <;> grind
  · refine ⟨y1, ?_⟩
    rw [y2]
    have : ¬ sv b - sv a < sv a - sv b := fun hlt => by have := k2.2 hlt; omega
    unfold rabs; split <;> grind
end
section
variable {xs : List Nat} {m wd : Nat}
theorem fo_tail (i : Nat) : ∀ N, i ≤ N → ∃ tl : List Int, foN xs m wd N = foN xs m wd i ++ tl ∧ ∀ x ∈ tl, (i : Int) ≤ x
  | 0, h => ⟨[], by rw [show i = 0 by omega]; simp, by simp⟩
  | N + 1, h => by
    by_cases hi : i = N + 1
    · exact ⟨[], by rw [hi]; simp, by simp⟩
    · obtain ⟨tl, h1, h2⟩ := fo_tail i N (by omega)
      have e : foN xs m wd (N + 1) = if foB xs m wd N = true then foN xs m wd N ++ [(N : Int)] else foN xs m wd N := rfl
      rw [e]
      split
      · refine ⟨tl ++ [(N : Int)], by rw [h1, List.append_assoc], fun x hx => ?_⟩
        rw [List.mem_append, List.mem_singleton] at hx
        rcases hx with hx | hx
        · exact h2 x hx
        · omega
      · exact ⟨tl, h1, h2⟩
theorem fo_yes {i N : Nat} (hi : i < N) (hb : foB xs m wd i = true) : (foN xs m wd i).length < (foN xs m wd N).length ∧ (foN xs m wd N).getD (foN xs m wd i).length 0 = i ∧ foN xs m wd (i + 1) = foN xs m wd i ++ [(i : Int)] := by
  obtain ⟨tl, h1, _⟩ := fo_tail (xs := xs) (m := m) (wd := wd) (i + 1) N (by omega)
  have e : foN xs m wd (i + 1) = foN xs m wd i ++ [(i : Int)] := by
    show (if foB xs m wd i = true then foN xs m wd i ++ [(i : Int)] else foN xs m wd i) = _
    rw [if_pos hb]
  rw [e] at h1
  refine ⟨by rw [h1]; simp, ?_, e⟩
  rw [h1]
  simp [List.getD]
theorem fo_no {i N : Nat} (hi : i < N) (hb : foB xs m wd i = false) : ((foN xs m wd i).length < (foN xs m wd N).length → (foN xs m wd N).getD (foN xs m wd i).length 0 ≠ i) ∧ foN xs m wd (i + 1) = foN xs m wd i := by
  obtain ⟨tl, h1, h2⟩ := fo_tail (xs := xs) (m := m) (wd := wd) (i + 1) N (by omega)
  have e : foN xs m wd (i + 1) = foN xs m wd i := by
    show (if foB xs m wd i = true then foN xs m wd i ++ [(i : Int)] else foN xs m wd i) = _
    rw [hb]; rfl
  rw [e] at h1
  refine ⟨fun hl => ?_, e⟩
  rw [h1] at hl ⊢
  rw [List.length_append] at hl
  have : (foN xs m wd i ++ tl).getD (foN xs m wd i).length 0 = tl.getD 0 0 := by
    simp only [List.getD]
    rw [List.getElem?_append_right (Nat.le_refl _), Nat.sub_self]
  rw [this]
  cases tl with
  | nil => simp at hl
  | cons a tl =>
    have := h2 a (by simp)
    show a ≠ _
    omega
theorem tm_state (N : Nat) (hN : N ≤ xs.length) : ∀ i, i ≤ N → ∀ j, j < xs.length → (tmN xs (foN xs m wd N) m wd (foN xs m wd i).length).getD j 0 = if j < i ∧ foB xs m wd j = true then tmV m wd (xs.getD j 0) else xs.getD j 0
  | 0, _, j, hj => by rw [if_neg (by omega)]; rfl
  | i + 1, hi, j, hj => by
    have ih := tm_state N hN i (by omega)
    have hl := tmN_len xs (foN xs m wd N) m wd (foN xs m wd i).length
    cases hb : foB xs m wd i with
    | true =>
      obtain ⟨f1, f2, f3⟩ := fo_yes (by omega : i < N) hb
      rw [f3, List.length_append, List.length_singleton]
      show ((tmN xs (foN xs m wd N) m wd (foN xs m wd i).length).set ((foN xs m wd N).getD (foN xs m wd i).length 0).toNat (tmV m wd ((tmN xs (foN xs m wd N) m wd (foN xs m wd i).length).getD ((foN xs m wd N).getD (foN xs m wd i).length 0).toNat 0))).getD j 0 = _
      rw [f2, Int.toNat_natCast, ih i (by omega), if_neg (by omega)]
      by_cases hji : j = i
      · subst hji
        rw [if_pos ⟨by omega, hb⟩]
        simp only [List.getD]
        rw [List.getElem?_set_self (by rw [hl]; exact hj)]; rfl
      · have e : ((tmN xs (foN xs m wd N) m wd (foN xs m wd i).length).set i (tmV m wd (xs.getD i 0))).getD j 0 = (tmN xs (foN xs m wd N) m wd (foN xs m wd i).length).getD j 0 := by
          simp only [List.getD]
          rw [List.getElem?_set_ne (by omega)]
        rw [e, ih j hj]
        have : (j < i ∧ foB xs m wd j = true) ↔ (j < i + 1 ∧ foB xs m wd j = true) := by constructor <;> (intro ⟨a, b⟩; exact ⟨by omega, b⟩)
        simp only [this]
    | false =>
      obtain ⟨_, f3⟩ := fo_no (by omega : i < N) hb
      rw [f3, ih j hj]
      by_cases hji : j = i
      · subst hji
        rw [if_neg (by omega), if_neg (by rw [hb]; simp)]
      · have : (j < i ∧ foB xs m wd j = true) ↔ (j < i + 1 ∧ foB xs m wd j = true) := by constructor <;> (intro ⟨a, b⟩; exact ⟨by omega, b⟩)
        simp only [this]
theorem tm_at {j : Nat} (hj : j < xs.length) : (tmM xs m wd).getD j 0 = if foB xs m wd j = true then tmV m wd (xs.getD j 0) else xs.getD j 0 := by
  have := tm_state (xs := xs) (m := m) (wd := wd) xs.length (Nat.le_refl _) xs.length (Nat.le_refl _) j hj
  show (tmN xs (foN xs m wd xs.length) m wd (foN xs m wd xs.length).length).getD j 0 = _
  rw [this]
  simp only [hj, true_and]
theorem tm_len : (tmM xs m wd).length = xs.length := tmN_len _ _ _ _ _
end
/-- the numbers that are tamed -/
theorem tame_val {xs : List Nat} (h : HL 46 xs) (hl : 1 ≤ xs.length) {a : Nat} (ha : a ≤ 7) {m wd : Nat} (em : medM xs = m) (ew : farW xs (fdiv .f32 (fofi .f32 (a : Int)) 1073741824) = wd) {i : Nat} (hi : i < xs.length) :
    sf ((tmM xs m wd).getD i 0) ∧ (foB xs m wd i = false → (tmM xs m wd).getD i 0 = xs.getD i 0) ∧ (foB xs m wd i = true → fgt .f64 (r8G ((tmM xs m wd).getD i 0) m) (r8G (xs.getD i 0) m) = false) := by
  obtain ⟨⟨m1, m2⟩, _, f2⟩ := far_val h hl
  obtain ⟨w1, w2, w3⟩ := wide_val h hl ha
  obtain ⟨a1, a2⟩ := f2 i hi
  rw [em] at m1 m2 a1 a2
  rw [ew] at w1 w2 w3
  rw [tm_at hi]
  have g4 : Gr (-4) 368 (sv m) := m2.fine 2
  have x4 : Gr (-4) 368 (sv (xs.getD i 0)) := (h i hi).2.fine 3
  cases hb : foB xs m wd i with
  | false => exact ⟨by rw [if_neg (by decide)]; exact (h i hi).1, fun _ => by rw [if_neg (by decide)], fun h => nomatch h⟩
  | true =>
    rw [if_pos rfl]
    have hfar : sv wd < rabs (sv (xs.getD i 0) - sv m) := by
      unfold foB at hb
      rw [fgt_rv (k := .f32) a1 w1] at hb
      have := of_decide_eq_true hb
      rw [← a2]; exact this
    have key : sf (tmV m wd (xs.getD i 0)) ∧ Gr (-4) 2944 (sv (tmV m wd (xs.getD i 0))) ∧ rabs (sv (tmV m wd (xs.getD i 0)) - sv m) = sv wd := by
      unfold tmV
      split
      · obtain ⟨s1, s2⟩ := add_gr .f32 m1 w1 g4 w2 (by decide) (by decide) (by decide)
        have s2 : sv (fadd .f32 m wd) = sv m + sv wd := s2
        exact ⟨s1, by rw [s2]; exact g4.add w2, by rw [s2]; unfold rabs; split <;> grind⟩
      · obtain ⟨s1, s2⟩ := sub_gr .f32 m1 w1 g4 w2 (by decide) (by decide) (by decide)
        have s2 : sv (fsub .f32 m wd) = sv m - sv wd := s2
        exact ⟨s1, by rw [s2]; exact g4.sub w2, by rw [s2]; unfold rabs; split <;> grind⟩
    obtain ⟨k1, k2, k3⟩ := key
    refine ⟨k1, (fun h => nomatch h), fun _ => ?_⟩
    obtain ⟨p1, p2⟩ := r8G_gr k1 m1 k2 g4 (by decide)
    obtain ⟨q1, q2⟩ := r8G_gr (h i hi).1 m1 x4 g4 (by decide)
    rw [fgt_rv (k := .f64) p1 q1]
    refine decide_eq_false ?_
    show ¬ dv _ < dv _
    rw [p2, q2, k3]
    grind
/-- numbers that lie within 8/10000 have no gap -/
theorem r8G_near {a b : Nat} (ha : sf a) (hb : sf b) (h1 : sv a - sv b ≤ 8 / 10000) (h2 : sv b - sv a ≤ 8 / 10000) : fgt .f64 (r8G a b) 4562254508917369340 = false := by
  obtain ⟨a1, a2⟩ := conv_up ha
  obtain ⟨b1, b2⟩ := conv_up hb
  obtain ⟨x1, x2, x3⟩ := d_sub (B := 1) a1 b1 (by rw [a2, b2]; grind) (by rw [a2, b2]; grind) (by decide +kernel)
  obtain ⟨y1, y2, y3⟩ := d_sub (B := 1) b1 a1 (by rw [a2, b2]; grind) (by rw [a2, b2]; grind) (by decide +kernel)
  obtain ⟨c1, c2, _⟩ := c001
  have hE : 1 * e53 + eta ≤ 1 / 100000 := by decide +kernel
  have key : ∀ z, df z → dv z ≤ 85 / 100000 → fgt .f64 z 4562254508917369340 = false := by
    intro z hz hz2
    rw [fgt_rv (k := .f64) hz c1, decide_eq_false]
    have c2 : 9 / 10000 ≤ rv double 4562254508917369340 := c2
    have hz2 : rv double z ≤ 85 / 100000 := hz2
    show ¬ (rv double 4562254508917369340 < rv double z)
    grind
  rw [a2, b2] at x2 y2
  unfold r8G
  rcases fmax_mem (fnt_nan (k := .f64) x1) (fnt_nan (k := .f64) y1) with ⟨e, _⟩ | ⟨e, _⟩
  · rw [e]; exact key _ x1 (by grind)
  · rw [e]; exact key _ y1 (by grind)
/-- what lies no more than 8/10000 above is not refused -/
theorem not_above8 {x hi : Nat} (hx : sf x) (hl : sf hi) (h : sv x ≤ sv hi + 8 / 10000) (hb : -1000 ≤ sv hi ∧ sv hi ≤ 1000) : fgt .f64 (fconv .f32 .f64 x) (fadd .f64 (fconv .f32 .f64 hi) 4562254508917369340) = false := by
  obtain ⟨x1, x2⟩ := conv_up hx
  obtain ⟨l1, l2⟩ := conv_up hl
  obtain ⟨k1, k2, k3⟩ := c001
  obtain ⟨r1, r2, r3⟩ := d_add (B := 2000) l1 k1 (by rw [l2]; grind) (by rw [l2]; grind) (by decide +kernel)
  have hE : 2000 * e53 + eta ≤ 1 / 100000 := by decide +kernel
  rw [fgt_rv (k := .f64) x1 r1]
  refine decide_eq_false ?_
  show ¬ dv _ < dv _
  rw [x2]
  rw [l2] at r2 r3
  grind
end Go.Proofs.LV

namespace Go.Proofs.LV
open Go Ieee
set_option linter.unusedVariables false
set_option linter.unusedSimpArgs false

theorem s2X_46 {cs : List Int} (hc : Byt cs) (i : Nat) (hi : i ≤ 20) : (s2X cs 0 0 i).natAbs ≤ 46 := by
  have hV := s2V_le hc 0 0
  have hW := s2W_le hc 0 0
  have hE := s2E_le hc 0 0 (s2P cs 0 0) (i % s2P cs 0 0)
  have hv := vl_mod hc 0 0 (3 + s2P cs 0 0 + i) (n := 5) (by omega)
  have hWi : -40 ≤ s2W cs 0 0 * (i : Int) ∧ s2W cs 0 0 * (i : Int) ≤ 40 := by
    have h1 : (i : Int) ≤ 20 := by omega
    rcases (show s2W cs 0 0 = -2 ∨ s2W cs 0 0 = -1 ∨ s2W cs 0 0 = 0 ∨ s2W cs 0 0 = 1 ∨ s2W cs 0 0 = 2 by omega) with e | e | e | e | e <;> rw [e] <;> omega
  have hd : -20 ≤ (s2W cs 0 0 * (i : Int)).tdiv 2 ∧ (s2W cs 0 0 * (i : Int)).tdiv 2 ≤ 20 := by
    generalize s2W cs 0 0 * (i : Int) = x at hWi
    rcases Int.le_total 0 x with h0 | h0
    · rw [Int.tdiv_eq_ediv_of_nonneg h0]; omega
    · obtain ⟨y, rfl⟩ : ∃ y, x = -y := ⟨-x, by omega⟩
      rw [Int.neg_tdiv, Int.tdiv_eq_ediv_of_nonneg (by omega)]; omega
  unfold s2X
  omega
theorem s2L_46 {cs : List Int} (hc : Byt cs) {n : Nat} (hn : n ≤ 21) : HL 46 (s2L cs 0 0 n) := fun i hi => by
  rw [s2L_len] at hi
  unfold s2L
  rw [tab_get _ _ _ _ hi]
  have h46 := s2X_46 hc i (by omega)
  obtain ⟨a, b⟩ := s2F_val (s2X_le hc i (by omega))
  refine ⟨a.1, ?_⟩
  rw [b]
  exact ⟨s2X cs 0 0 i, by rw [half_zp]; grind, h46⟩

end Go.Proofs.LV
