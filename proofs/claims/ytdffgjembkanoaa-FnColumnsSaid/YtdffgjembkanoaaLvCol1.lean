/- Elimination of three columns: how far each step is from what is meant. -/
import Derived.Test.YtdffgjembkanoaaLvFnMM
import Derived.Test.YtdffgjembkanoaaLvLawWX
namespace Go.Proofs.LV
open Go Ieee
set_option linter.unusedVariables false
set_option linter.unusedSimpArgs false

/-! ### bounds -/
def Ab (B q : Rat) : Prop := -B ≤ q ∧ q ≤ B
theorem Ab.mono {B C q : Rat} (h : Ab B q) (hc : B ≤ C) : Ab C q := by obtain ⟨a, b⟩ := h; exact ⟨by grind, by grind⟩
theorem Ab.mul {A B a b : Rat} (ha : Ab A a) (hb : Ab B b) : Ab (A * B) (a * b) := by
  obtain ⟨a1, a2⟩ := ha
  obtain ⟨b1, b2⟩ := hb
  have p1 := Rat.mul_nonneg (show 0 ≤ A - a by grind) (show 0 ≤ B + b by grind)
  have p2 := Rat.mul_nonneg (show 0 ≤ A + a by grind) (show 0 ≤ B - b by grind)
  have p3 := Rat.mul_nonneg (show 0 ≤ A - a by grind) (show 0 ≤ B - b by grind)
  have p4 := Rat.mul_nonneg (show 0 ≤ A + a by grind) (show 0 ≤ B + b by grind)
  exact ⟨by grind, by grind⟩
theorem Ab.add {A B a b : Rat} (ha : Ab A a) (hb : Ab B b) : Ab (A + B) (a + b) := by
  obtain ⟨a1, a2⟩ := ha
  obtain ⟨b1, b2⟩ := hb
  exact ⟨by grind, by grind⟩
theorem Ab.sub {A B a b : Rat} (ha : Ab A a) (hb : Ab B b) : Ab (A + B) (a - b) := by
  obtain ⟨a1, a2⟩ := ha
  obtain ⟨b1, b2⟩ := hb
  exact ⟨by grind, by grind⟩
theorem Ab.rabs {B q : Rat} (h : Ab B q) : rabs q ≤ B := rabs_le h.1 h.2
theorem ab_rabs (q : Rat) : Ab (rabs q) q := le_rabs q
theorem nr_ab {z q E : Rat} : Nr z q E ↔ Ab E (z - q) := ⟨fun h => ⟨by have := h.1; have := h.2; grind, by have := h.1; grind⟩, fun h => ⟨by have := h.2; grind, by have := h.1; grind⟩⟩
theorem Nr.ab {z q E B : Rat} (h : Nr z q E) (hq : Ab B q) : Ab (B + E) z := by
  obtain ⟨a1, a2⟩ := h
  obtain ⟨b1, b2⟩ := hq
  exact ⟨by grind, by grind⟩
theorem topB {B : Rat} (h : B ≤ 1000000000000000000000000000000000000) : B ≤ (2 : Rat) ^ (top .f32) := by
  have : (2 : Rat) ^ (top .f32) = ((2 ^ 120 : Nat) : Rat) := zp_nat 120
  rw [this]
  have : (1000000000000000000000000000000000000 : Rat) ≤ ((2 ^ 120 : Nat) : Rat) := by decide +kernel
  grind
theorem topB64 {B : Rat} (h : B ≤ 1000000000000000000000000000000000000) : B ≤ (2 : Rat) ^ (top .f64) := by
  have : (2 : Rat) ^ (top .f64) = ((2 ^ 1000 : Nat) : Rat) := zp_nat 1000
  rw [this]
  have : (1000000000000000000000000000000000000 : Rat) ≤ ((2 ^ 1000 : Nat) : Rat) := by decide +kernel
  grind
abbrev HUGE : Rat := 1000000000000000000000000000000000000
theorem t_add {x y : Nat} {B : Rat} (hx : sf x) (hy : sf y) (h : Ab B (sv x + sv y)) (hB : B ≤ HUGE) : sf (fadd .f32 x y) ∧ Nr (sv (fadd .f32 x y)) (sv x + sv y) (B * e24 + eta) :=
  rd_use (fadd_rd .f32 hx hy (Rat.le_trans h.rabs (topB hB))) h.1 h.2 p24 etaS
theorem t_sub {x y : Nat} {B : Rat} (hx : sf x) (hy : sf y) (h : Ab B (sv x - sv y)) (hB : B ≤ HUGE) : sf (fsub .f32 x y) ∧ Nr (sv (fsub .f32 x y)) (sv x - sv y) (B * e24 + eta) :=
  rd_use (fsub_rd .f32 hx hy (Rat.le_trans h.rabs (topB hB))) h.1 h.2 p24 etaS
theorem t_mul {x y : Nat} {B : Rat} (hx : sf x) (hy : sf y) (h : Ab B (sv x * sv y)) (hB : B ≤ HUGE) : sf (fmul .f32 x y) ∧ Nr (sv (fmul .f32 x y)) (sv x * sv y) (B * e24 + eta) :=
  rd_use (fmul_rd .f32 hx hy (Rat.le_trans h.rabs (topB hB))) h.1 h.2 p24 etaS
theorem t_div {x y : Nat} {B q : Rat} (hx : sf x) (hy : sf y) (hy0 : sv y ≠ 0) (hq : q * sv y = sv x) (h : Ab B q) (hB : B * 2 ≤ HUGE) : sf (fdiv .f32 x y) ∧ Nr (sv (fdiv .f32 x y)) q (B * e23 + eta) :=
  rdq_use (fdiv_rd .f32 hx hy hy0 hq (by have := h.rabs; have := topB (B := B * 2) hB; grind)) h.1 h.2 p23 etaS
theorem u_add {x y : Nat} {B : Rat} (hx : df x) (hy : df y) (h : Ab B (dv x + dv y)) (hB : B ≤ HUGE) : df (fadd .f64 x y) ∧ Nr (dv (fadd .f64 x y)) (dv x + dv y) (B * e53 + eta) :=
  rd_use (fadd_rd .f64 hx hy (Rat.le_trans h.rabs (topB64 hB))) h.1 h.2 p53 etaD
theorem u_sub {x y : Nat} {B : Rat} (hx : df x) (hy : df y) (h : Ab B (dv x - dv y)) (hB : B ≤ HUGE) : df (fsub .f64 x y) ∧ Nr (dv (fsub .f64 x y)) (dv x - dv y) (B * e53 + eta) :=
  rd_use (fsub_rd .f64 hx hy (Rat.le_trans h.rabs (topB64 hB))) h.1 h.2 p53 etaD
theorem u_mul {x y : Nat} {B : Rat} (hx : df x) (hy : df y) (h : Ab B (dv x * dv y)) (hB : B ≤ HUGE) : df (fmul .f64 x y) ∧ Nr (dv (fmul .f64 x y)) (dv x * dv y) (B * e53 + eta) :=
  rd_use (fmul_rd .f64 hx hy (Rat.le_trans h.rabs (topB64 hB))) h.1 h.2 p53 etaD

/-! ### absolute values -/
theorem negS {x : Nat} (h : sf x) : sf (fneg .f32 x) ∧ sv (fneg .f32 x) = - sv x := by
  have h1 : (FloatKind.f32.format.read x).isNaN = false := fnt_nan (k := .f32) h
  have e : fneg .f32 x = x ^^^ 2 ^ 31 := by
    unfold fneg; rw [h1]; simp only [Bool.false_eq_true, if_false]
    unfold Op.negFloat
    rw [show FloatKind.f32.format.exponentBits + FloatKind.f32.format.fractionBits = 31 by decide]
  have hS : Ieee.single.signWeight = 2 ^ 31 := by decide
  have h2 : rung Ieee.single (fneg .f32 x) = rung Ieee.single x := by
    rw [e]; unfold rung; rw [hS, Nat.xor_mod_two_pow, Nat.mod_self, Nat.xor_zero]
  have h3 : sign Ieee.single (fneg .f32 x) = !(sign Ieee.single x) := by
    rw [e]; unfold sign; rw [hS, Nat.xor_div_two_pow, Nat.div_self (by decide)]
    generalize x / 2 ^ 31 = d
    have h4 : (d ^^^ 1) % 2 = d % 2 ^^^ 1 % 2 := Nat.xor_mod_two_pow (n := 1)
    rw [h4]
    rcases Nat.mod_two_eq_zero_or_one d with h5 | h5 <;> rw [h5] <;> rfl
  refine ⟨by unfold sf fnt at *; rw [h2]; exact h, ?_⟩
  unfold sv rv
  rw [h2, h3]
  cases sign Ieee.single x
  · rfl
  · show _ = - - _; rw [Rat.neg_neg]; rfl
theorem fmaxS {k : FloatKind} {x y : Nat} (hx : nanB k x = false) (hy : nanB k y = false) : (fmax k x y = x ∧ srung k y ≤ srung k x) ∨ (fmax k x y = y ∧ srung k x ≤ srung k y) := by
  have ho := order_rung hx hy
  have ec : ∀ a b : Int, compare a b = if a < b then .lt else if a = b then .eq else .gt := fun a b => rfl
  rw [ec] at ho
  unfold fmax
  rw [ho]
  rcases Int.lt_trichotomy (srung k x) (srung k y) with h | h | h
  · rw [if_pos h]; exact .inr ⟨rfl, by omega⟩
  · rw [if_neg (by omega), if_pos h]
    simp only
    split
    · exact .inr ⟨rfl, by omega⟩
    · exact .inl ⟨rfl, by omega⟩
  · rw [if_neg (by omega), if_neg (by omega)]; exact .inl ⟨rfl, by omega⟩
theorem absV {x : Nat} (h : sf x) : sf (absF x) ∧ sv (absF x) = rabs (sv x) := by
  obtain ⟨n1, n2⟩ := negS h
  have e : absF x = fmax .f32 x (fneg .f32 x) := rfl
  have h1 := srung_rv .f32 (fneg .f32 x) x
  have h2 := srung_rv .f32 x (fneg .f32 x)
  rw [e]
  rcases fmaxS (fnt_nan (k := .f32) h) (fnt_nan (k := .f32) n1) with ⟨e, hs⟩ | ⟨e, hs⟩ <;> rw [e]
  · have h3 : ¬ sv x < sv (fneg .f32 x) := fun hlt => by have := h2.1.2 hlt; omega
    refine ⟨h, ?_⟩
    rw [n2] at h3
    unfold rabs
    split <;> grind
  · have h3 : ¬ sv (fneg .f32 x) < sv x := fun hlt => by have := h1.1.2 hlt; omega
    refine ⟨n1, ?_⟩
    rw [n2] at h3 ⊢
    unfold rabs
    split <;> grind

/-! ### one row from another -/
theorem quo_ab {x p q : Rat} (hp : p ≠ 0) (hq : q * p = x) (h : rabs x ≤ rabs p) : Ab 1 q := by
  unfold rabs at h
  constructor
  · refine Rat.not_lt.1 fun hn => ?_
    have h1 : q < -1 := by grind
    by_cases h2 : 0 < p
    · have := Rat.mul_lt_mul_of_pos_right h1 h2
      split at h <;> split at h <;> grind
    · have h2 : p ≤ 0 := Rat.not_lt.1 h2
      have h2 : 0 < -p := by grind
      have := Rat.mul_lt_mul_of_pos_right h1 h2
      split at h <;> split at h <;> grind
  · refine Rat.not_lt.1 fun hn => ?_
    by_cases h2 : 0 < p
    · have := Rat.mul_lt_mul_of_pos_right hn h2
      split at h <;> split at h <;> grind
    · have h2 : p ≤ 0 := Rat.not_lt.1 h2
      have h2 : 0 < -p := by grind
      have := Rat.mul_lt_mul_of_pos_right hn h2
      split at h <;> split at h <;> grind
theorem e24v : e24 = 1 / 16777216 := rfl
theorem e23v : e23 = 1 / 8388608 := rfl
theorem etav : eta = 1 / 1000000000000000000000000000000 := rfl
theorem e53v : e53 = 1 / 9007199254740992 := rfl
theorem el_f {x p : Nat} {B : Rat} (hx : sf x) (hp : sf p) (hp0 : sv p ≠ 0) (hle : rabs (sv x) ≤ rabs (sv p)) (hB : Ab B (sv p)) (h1 : 1 ≤ B) :
    sf (fdiv .f32 x p) ∧ Ab (101 / 100) (sv (fdiv .f32 x p)) ∧ Nr (sv (fdiv .f32 x p) * sv p) (sv x) (4 * B * e24) := by
  have hq : (sv x / sv p) * sv p = sv x := Rat.div_mul_cancel hp0
  have ha := quo_ab hp0 hq hle
  obtain ⟨d1, d2⟩ := t_div hx hp hp0 hq ha (by decide +kernel)
  generalize sv x / sv p = q at *
  refine ⟨d1, (d2.ab ha).mono (by decide +kernel), ?_⟩
  have := (nr_ab.1 d2).mul hB
  rw [nr_ab]
  have e : (sv (fdiv .f32 x p) - q) * sv p = sv (fdiv .f32 x p) * sv p - sv x := by grind
  rw [e] at this
  refine this.mono ?_
  rw [e23v, etav, e24v]
  grind
theorem el_n {x f t : Nat} {B : Rat} (hx : sf x) (hf : sf f) (ht : sf t) (bx : Ab B (sv x)) (bt : Ab B (sv t)) (bf : Ab (101 / 100) (sv f)) (h1 : 1 ≤ B) (h2 : B ≤ 2000) :
    sf (fsub .f32 x (fmul .f32 f t)) ∧ Ab (202 / 100 * B) (sv (fsub .f32 x (fmul .f32 f t))) ∧ Nr (sv (fsub .f32 x (fmul .f32 f t))) (sv x - sv f * sv t) (4 * B * e24) := by
  have bm := bf.mul bt
  obtain ⟨m1, m2⟩ := t_mul hf ht bm (by show _ ≤ (1000000000000000000000000000000000000 : Rat); grind)
  have bs := bx.sub (m2.ab bm)
  rw [e24v, etav] at bs
  have bs : Ab (2011 / 1000 * B) (sv x - sv (fmul .f32 f t)) := bs.mono (by grind)
  obtain ⟨s1, s2⟩ := t_sub hx m1 bs (by show _ ≤ (1000000000000000000000000000000000000 : Rat); grind)
  have bn := s2.ab bs
  refine ⟨s1, bn.mono (by rw [e24v, etav]; grind), ?_⟩
  obtain ⟨m2, m3⟩ := m2
  obtain ⟨s2, s3⟩ := s2
  rw [e24v, etav] at *
  exact ⟨by grind, by grind⟩

/-! ### rows that change places -/
abbrev mv (M : LL) (r j : Nat) : Rat := sv (mAt M r j)
structure Mb (M : LL) (k : Nat) (B : Rat) : Prop where
  rect : Rect M 3
  fin : ∀ r j, k ≤ r → r < 3 → k ≤ j → j ≤ 3 → sf (mAt M r j)
  bd : ∀ r j, k ≤ r → r < 3 → k ≤ j → j ≤ 3 → Ab B (mv M r j)
theorem gt_abs {x y : Nat} (hx : sf x) (hy : sf y) : fgt .f32 (absF x) (absF y) = decide (rabs (sv y) < rabs (sv x)) := by
  obtain ⟨a1, a2⟩ := absV hx
  obtain ⟨b1, b2⟩ := absV hy
  rw [fgt_rv (k := .f32) a1 b1]
  show decide (sv (absF y) < sv (absF x)) = _
  rw [a2, b2]
theorem best_max {M : LL} {k : Nat} : ∀ m, (∀ r, k ≤ r → r < k + m → sf (mAt M r k)) → ∀ r, k ≤ r → r < k + m → rabs (mv M r k) ≤ rabs (mv M (bestL M k m) k)
  | 0, _, r, h1, h2 => by omega
  | m + 1, hf, r, h1, h2 => by
    have ih := best_max m (fun r a b => hf r a (by omega))
    have hb := bestL_range M k m
    have e : bestL M k (m + 1) = if fgt .f32 (absF (mAt M (k + m) k)) (absF (mAt M (bestL M k m) k)) = true then k + m else bestL M k m := rfl
    rw [e, gt_abs (hf (k + m) (by omega) (by omega)) (hf (bestL M k m) (by omega) (by omega))]
    by_cases h : rabs (mv M (bestL M k m) k) < rabs (mv M (k + m) k)
    · rw [decide_eq_true h, if_pos rfl]
      by_cases hr : r = k + m
      · subst hr; exact Rat.le_refl
      · exact Rat.le_trans (ih r h1 (by omega)) (Rat.le_of_lt h)
    · rw [decide_eq_false h, if_neg (by simp)]
      by_cases hr : r = k + m
      · subst hr; exact Rat.not_lt.1 h
      · exact ih r h1 (by omega)
/-- where a row of M is found after the change -/
theorem sw_row {M : LL} {k : Nat} (hM : Rect M 3) (hk : k < 3) : (∀ r, k ≤ r → r < 3 → ∃ r', k ≤ r' ∧ r' < 3 ∧ (swK M 3 k).getD r' [] = M.getD r []) ∧ (∀ r, r < k → (swK M 3 k).getD r [] = M.getD r []) ∧ (∀ r, k ≤ r → r < 3 → ∃ r', k ≤ r' ∧ r' < 3 ∧ (swK M 3 k).getD r [] = M.getD r' []) := by
  have hb := best_lt (M := M) hk
  have hr := bestL_range M k (3 - k)
  have hl := hM.len
  unfold swK
  generalize bestL M k (3 - k) = b at *
  refine ⟨fun r h1 h2 => ?_, fun r h1 => ?_, fun r h1 h2 => ?_⟩
  · by_cases e1 : r = k
    · exact ⟨b, hr.1, hb, by rw [swL_get (by omega) (by omega), if_pos rfl, e1]⟩
    · by_cases e2 : r = b
      · exact ⟨k, Nat.le_refl _, hk, by
          rw [swL_get (by omega) (by omega)]
          by_cases e3 : b = k
          · omega
          · rw [if_neg e3, if_pos rfl, e2]⟩
      · exact ⟨r, h1, h2, by rw [swL_get (by omega) (by omega), if_neg (fun h => e2 h.symm), if_neg (fun h => e1 h.symm)]⟩
  · rw [swL_get (by omega) (by omega), if_neg (by omega), if_neg (by omega)]
  · rw [swL_get (by omega) (by omega)]
    split
    · exact ⟨k, Nat.le_refl _, hk, rfl⟩
    · split
      · exact ⟨b, hr.1, hb, rfl⟩
      · exact ⟨r, h1, h2, rfl⟩
theorem mAt_row {M N : LL} {r r' : Nat} (h : M.getD r [] = N.getD r' []) (j : Nat) : mAt M r j = mAt N r' j := by unfold mAt; rw [h]
theorem Mb.swap {M : LL} {k : Nat} {B : Rat} (h : Mb M k B) (hk : k < 3) : Mb (swK M 3 k) k B ∧ ∀ r, k ≤ r → r < 3 → rabs (mv (swK M 3 k) r k) ≤ rabs (mv (swK M 3 k) k k) := by
  obtain ⟨s1, s2, s3⟩ := sw_row h.rect hk
  refine ⟨⟨swK_rect h.rect hk, fun r j a b c d => ?_, fun r j a b c d => ?_⟩, fun r a b => ?_⟩
  · obtain ⟨r', c1, c2, c3⟩ := s3 r a b
    rw [mAt_row c3]; exact h.fin r' j c1 c2 c d
  · obtain ⟨r', c1, c2, c3⟩ := s3 r a b
    show Ab B (sv (mAt _ r j))
    rw [mAt_row c3]; exact h.bd r' j c1 c2 c d
  · have hb := best_lt (M := M) hk
    have hl := h.rect.len
    have hm := best_max (M := M) (k := k) (3 - k) (fun r a b => h.fin r k a (by omega) (Nat.le_refl _) (by omega))
    obtain ⟨r', c1, c2, c3⟩ := s3 r a b
    have e : (swK M 3 k).getD k [] = M.getD (bestL M k (3 - k)) [] := by
      unfold swK
      rw [swL_get (by omega) (by omega)]
      split
      · rename_i e; rw [e]
      · rw [if_pos rfl]
    show rabs (sv (mAt (swK M 3 k) r k)) ≤ rabs (sv (mAt (swK M 3 k) k k))
    rw [mAt_row c3, mAt_row e]
    exact hm r' c1 (by omega)

/-! ### one column -/
theorem piv_gt {M : LL} {k : Nat} (hf : sf (mAt M k k)) (h : pivOk M k = true) : 99 / 100000000 ≤ rabs (mv M k k) := by
  unfold pivOk at h
  obtain ⟨a1, a2⟩ := absV hf
  have hc : sf 897988541 := by unfold sf fnt; decide
  have hv : 99 / 100000000 ≤ sv 897988541 := by decide +kernel
  rw [fgt_rv (k := .f32) a1 hc] at h
  have h : sv 897988541 < sv (absF (mAt M k k)) := of_decide_eq_true h
  rw [a2] at h
  show _ ≤ rabs (sv _)
  grind
theorem rabs_ne {q c : Rat} (hc : 0 < c) (h : c ≤ rabs q) : q ≠ 0 := by
  intro e; rw [e] at h
  have : rabs 0 = 0 := by decide +kernel
  grind
/-- what a step leaves -/
structure Stp (S N : LL) (k : Nat) (B : Rat) : Prop where
  same : ∀ r, r ≤ k → r < 3 → N.getD r [] = S.getD r []
  less : ∀ r, k < r → r < 3 → ∃ f : Rat, Ab (101 / 100) f ∧ Nr (f * mv S k k) (mv S r k) (4 * B * e24) ∧ ∀ j, k < j → j ≤ 3 → Nr (mv N r j) (mv S r j - f * mv S k j) (4 * B * e24)
theorem Mb.step {S : LL} {k : Nat} {B : Rat} (h : Mb S k B) (hk : k < 3) (hp : mv S k k ≠ 0) (hm : ∀ r, k ≤ r → r < 3 → rabs (mv S r k) ≤ rabs (mv S k k)) (h1 : 1 ≤ B) (h2 : B ≤ 2000) :
    Stp S (elL S k 3 3) k B ∧ Mb (elL S k 3 3) (k + 1) (202 / 100 * B) := by
  have hl := h.rect.len
  have hf : ∀ r, k < r → r < 3 → _ := fun r a b => el_f (h.fin r k (by omega) b (Nat.le_refl _) (by omega)) (h.fin k k (Nat.le_refl _) hk (Nat.le_refl _) (by omega)) hp (hm r (by omega) b) (h.bd k k (Nat.le_refl _) hk (Nat.le_refl _) (by omega)) h1
  have he : ∀ r j, k < r → r < 3 → k < j → j ≤ 3 → mAt (elL S k 3 3) r j = fsub .f32 (mAt S r j) (fmul .f32 (elF S k r) (mAt S k j)) := fun r j a b c d => by rw [mAt_el h.rect b d, if_pos ⟨⟨a, b⟩, c⟩]
  have hn : ∀ r j, k < r → r < 3 → k < j → j ≤ 3 → _ := fun r j a b c d => el_n (h.fin r j (by omega) b (by omega) d) (hf r a b).1 (h.fin k j (Nat.le_refl _) hk (by omega) d) (h.bd r j (by omega) b (by omega) d) (h.bd k j (Nat.le_refl _) hk (by omega) d) (hf r a b).2.1 h1 h2
  refine ⟨⟨fun r a b => ?_, fun r a b => ⟨sv (elF S k r), (hf r a b).2.1, (hf r a b).2.2, fun j c d => ?_⟩⟩, ⟨elL_rect h.rect, fun r j a b c d => ?_, fun r j a b c d => ?_⟩⟩
  · rw [elL_get (by omega), if_neg (by omega)]
  · show Nr (sv (mAt _ r j)) _ _
    rw [he r j a b c d]; exact (hn r j a b c d).2.2
  · rw [he r j (by omega) b (by omega) d]; exact (hn r j (by omega) b (by omega) d).1
  · show Ab _ (sv (mAt _ r j))
    rw [he r j (by omega) b (by omega) d]; exact (hn r j (by omega) b (by omega) d).2.1
end Go.Proofs.LV
