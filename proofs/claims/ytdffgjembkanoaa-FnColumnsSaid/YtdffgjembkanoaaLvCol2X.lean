/- Texts that belong together. -/
import Derived.Test.YtdffgjembkanoaaLvCol1
import Derived.Test.YtdffgjembkanoaaLvLawWX
namespace Go.Proofs.LV
open Go Ieee
set_option linter.unusedVariables false
set_option linter.unusedSimpArgs false

structure Stages (M S N T L U F : LL) : Prop where
  mS : Mb S 0 272
  maxS : ∀ r, 0 ≤ r → r < 3 → rabs (mv S r 0) ≤ rabs (mv S 0 0)
  inS : ∀ r, 0 ≤ r → r < 3 → ∃ r', 0 ≤ r' ∧ r' < 3 ∧ S.getD r' [] = M.getD r []
  p : 99 / 100000000 ≤ rabs (mv S 0 0)
  st1 : Stp S N 0 272
  mT : Mb T 1 550
  maxT : ∀ r, 1 ≤ r → r < 3 → rabs (mv T r 1) ≤ rabs (mv T 1 1)
  inT : ∀ r, 1 ≤ r → r < 3 → ∃ r', 1 ≤ r' ∧ r' < 3 ∧ T.getD r' [] = N.getD r []
  q : 99 / 100000000 ≤ rabs (mv T 1 1)
  st2 : Stp T L 1 550
  mU : Mb U 2 1111
  inU : U.getD 2 [] = L.getD 2 []
  w : 99 / 100000000 ≤ rabs (mv U 2 2)
  r0 : F.getD 0 [] = S.getD 0 []
  r1 : F.getD 1 [] = T.getD 1 []
  r2 : F.getD 2 [] = U.getD 2 []
theorem Mb.mono {M : LL} {k : Nat} {B C : Rat} (h : Mb M k B) (hc : B ≤ C) : Mb M k C := ⟨h.rect, h.fin, fun r j a b c d => (h.bd r j a b c d).mono hc⟩
theorem stages {M : LL} (h : Mb M 0 272) (ho : cfOk M 3 = true) : ∃ S N T L U, Stages M S N T L U (stN M 3 3) := by
  have hk : ∀ k, k < 3 → okK (stN M 3 k) 3 k = true := allN_iff.1 ho
  have hp : ∀ k, k < 3 → pivOk (swK (stN M 3 k) 3 k) k = true := fun k hk' => by
    have := hk k hk'
    unfold okK at this
    rw [Bool.and_eq_true, Bool.and_eq_true] at this
    exact this.2.1
  have p0 := hp 0 (by omega)
  have p1 := hp 1 (by omega)
  have p2 := hp 2 (by omega)
  have e1 : stN M 3 1 = elL (swK M 3 0) 0 3 3 := rfl
  have e2 : stN M 3 2 = elL (swK (stN M 3 1) 3 1) 1 3 3 := rfl
  have e3 : stN M 3 3 = elL (swK (stN M 3 2) 3 2) 2 3 3 := rfl
  have p0 : pivOk (swK M 3 0) 0 = true := p0
  obtain ⟨a1, a2⟩ := h.swap (show 0 < 3 by omega)
  obtain ⟨a3, _, _⟩ := sw_row h.rect (show 0 < 3 by omega)
  have w0 := piv_gt (a1.fin 0 0 (by omega) (by omega) (by omega) (by omega)) p0
  obtain ⟨b1, b2⟩ := a1.step (show 0 < 3 by omega) (rabs_ne (by decide +kernel) w0) a2 (by decide +kernel) (by decide +kernel)
  rw [← e1] at b1 b2
  have b2 : Mb (stN M 3 1) 1 550 := b2.mono (by decide +kernel)
  obtain ⟨c1, c2⟩ := b2.swap (show 1 < 3 by omega)
  obtain ⟨c3, c4, _⟩ := sw_row b2.rect (show 1 < 3 by omega)
  have w1 := piv_gt (c1.fin 1 1 (by omega) (by omega) (by omega) (by omega)) p1
  obtain ⟨d1, d2⟩ := c1.step (show 1 < 3 by omega) (rabs_ne (by decide +kernel) w1) c2 (by decide +kernel) (by decide +kernel)
  rw [← e2] at d1 d2
  have d2 : Mb (stN M 3 2) 2 1111 := d2.mono (by decide +kernel)
  obtain ⟨f1, f2⟩ := d2.swap (show 2 < 3 by omega)
  obtain ⟨f3, f4, _⟩ := sw_row d2.rect (show 2 < 3 by omega)
  have w2 := piv_gt (f1.fin 2 2 (by omega) (by omega) (by omega) (by omega)) p2
  obtain ⟨g1, g2⟩ := f1.step (show 2 < 3 by omega) (rabs_ne (by decide +kernel) w2) f2 (by decide +kernel) (by decide +kernel)
  rw [← e3] at g1 g2
  refine ⟨_, _, _, _, _, ⟨a1, a2, a3, w0, b1, c1, c2, c3, w1, d1, f1, ?_, w2, ?_, ?_, ?_⟩⟩
  · obtain ⟨r', h1, h2, h3⟩ := f3 2 (by omega) (by omega)
    rw [show r' = 2 by omega] at h3
    exact h3
  · rw [g1.same 0 (by omega) (by omega), f4 0 (by omega), d1.same 0 (by omega) (by omega), c4 0 (by omega), b1.same 0 (by omega) (by omega)]
  · rw [g1.same 1 (by omega) (by omega), f4 1 (by omega), d1.same 1 (by omega) (by omega)]
  · rw [g1.same 2 (by omega) (by omega)]

/-! ### the terms -/
def bk2 (F : LL) : Nat := fdiv .f32 (mAt F 2 3) (mAt F 2 2)
def bk1 (F : LL) : Nat := fdiv .f32 (fsub .f32 (mAt F 1 3) (fmul .f32 (mAt F 1 2) (bk2 F))) (mAt F 1 1)
def bk0 (F : LL) : Nat := fdiv .f32 (fsub .f32 (fsub .f32 (mAt F 0 3) (fmul .f32 (mAt F 0 1) (bk1 F))) (fmul .f32 (mAt F 0 2) (bk2 F))) (mAt F 0 0)
theorem bk_three (F : LL) : bkN F 3 3 = [bk0 F, bk1 F, bk2 F] := rfl
theorem rabs_mul (a b : Rat) : rabs (a * b) = rabs a * rabs b := by
  unfold rabs
  by_cases ha : 0 ≤ a <;> by_cases hb : 0 ≤ b
  · have := Rat.mul_nonneg ha hb
    rw [if_pos this, if_pos ha, if_pos hb]
  · have h1 := Rat.mul_nonneg ha (show 0 ≤ -b by grind)
    rw [if_pos ha, if_neg hb]
    split <;> grind
  · have h1 := Rat.mul_nonneg (show 0 ≤ -a by grind) hb
    rw [if_neg ha, if_pos hb]
    split <;> grind
  · have h1 := Rat.mul_nonneg (show 0 ≤ -a by grind) (show 0 ≤ -b by grind)
    rw [if_neg ha, if_neg hb, if_pos (by grind)]
    grind
theorem quo_le {x y q b C Q : Rat} (hb : 0 < b) (hy : b ≤ rabs y) (hq : q * y = x) (hx : Ab C x) (hQ : C ≤ Q * b) : Ab Q q := by
  have e := rabs_mul q y
  rw [hq] at e
  have h1 := hx.rabs
  have h0 := rabs_nonneg q
  have h2 : rabs q * b ≤ rabs q * rabs y := Rat.mul_le_mul_of_nonneg_left hy h0
  have h3 : rabs q * b ≤ Q * b := by grind
  have h4 : rabs q ≤ Q := Rat.le_of_mul_le_mul_right h3 hb
  exact (ab_rabs q).mono h4
/-- a quotient, times what it was divided by -/
theorem div_back {x y : Nat} {b C D Q : Rat} (hx : sf x) (hy : sf y) (hb : 0 < b) (hyb : b ≤ rabs (sv y)) (hx2 : Ab C (sv x)) (hy2 : Ab D (sv y)) (hQ : C ≤ Q * b) (hH : Q * 2 ≤ HUGE) :
    sf (fdiv .f32 x y) ∧ Ab (Q + Q * e23 + eta) (sv (fdiv .f32 x y)) ∧ Nr (sv (fdiv .f32 x y) * sv y) (sv x) (C * e23 + D * eta) := by
  have hy0 := rabs_ne hb hyb
  have hq : (sv x / sv y) * sv y = sv x := Rat.div_mul_cancel hy0
  have ha := quo_le hb hyb hq hx2 hQ
  generalize sv x / sv y = q at *
  obtain ⟨d1, d2⟩ := t_div hx hy hy0 hq ha hH
  have hr : rabs q * 2 ≤ HUGE := by have := ha.rabs; grind
  obtain ⟨d3, d4⟩ := t_div hx hy hy0 hq (ab_rabs q) hr
  refine ⟨d1, (d2.ab ha).mono (by grind), ?_⟩
  have h1 := (nr_ab.1 d4).mul (ab_rabs (sv y))
  rw [nr_ab]
  have e : (sv (fdiv .f32 x y) - q) * sv y = sv (fdiv .f32 x y) * sv y - sv x := by grind
  rw [e] at h1
  refine h1.mono ?_
  have e2 := rabs_mul q (sv y)
  rw [hq] at e2
  have h2 := hx2.rabs
  have h3 := hy2.rabs
  have h4 : (0 : Rat) ≤ e23 := by decide +kernel
  have h5 : (0 : Rat) ≤ eta := by decide +kernel
  have h6 := Rat.mul_le_mul_of_nonneg_right h2 h4
  have h7 := Rat.mul_le_mul_of_nonneg_right h3 h5
  have e3 : (rabs q * e23 + eta) * rabs (sv y) = rabs (sv x) * e23 + rabs (sv y) * eta := by
    rw [e2]
    generalize rabs q = a
    generalize rabs (sv y) = b
    grind
  rw [e3]
  generalize rabs (sv x) * e23 = z1 at *
  generalize rabs (sv y) * eta = z2 at *
  generalize C * e23 = z3 at *
  generalize D * eta = z4 at *
  grind
/-- an operation on bounds -/
theorem mul_bd {x y : Nat} {A B s : Rat} (hx : sf x) (hy : sf y) (bx : Ab A (sv x)) (bys : Ab s (sv y)) (hs : 1 ≤ s) (hA : 1 ≤ A) (hH : A * s * 2 ≤ HUGE) :
    sf (fmul .f32 x y) ∧ Nr (sv (fmul .f32 x y)) (sv x * sv y) (101 / 100 * (A * s) * e24) ∧ Ab (1001 / 1000 * (A * s)) (sv (fmul .f32 x y)) := by
  have b := bx.mul bys
  obtain ⟨m1, m2⟩ := t_mul hx hy b (by grind)
  have h1 : 1 ≤ A * s := by have := mul_mono (a := 1) (b := A) (c := s) (d := 1) (by decide) (by decide) hA hs; grind
  generalize A * s = C at *
  refine ⟨m1, ?_, (m2.ab b).mono (by rw [e24v, etav]; grind)⟩
  obtain ⟨m2, m3⟩ := m2
  rw [e24v, etav] at *
  exact ⟨by grind, by grind⟩
theorem sub_bd {x y : Nat} {C : Rat} (hx : sf x) (hy : sf y) (b : Ab C (sv x - sv y)) (h1 : 1 ≤ C) (hH : C * 2 ≤ HUGE) :
    sf (fsub .f32 x y) ∧ Nr (sv (fsub .f32 x y)) (sv x - sv y) (101 / 100 * C * e24) ∧ Ab (1001 / 1000 * C) (sv (fsub .f32 x y)) := by
  obtain ⟨m1, m2⟩ := t_sub hx hy b (by grind)
  refine ⟨m1, ?_, (m2.ab b).mono (by rw [e24v, etav]; grind)⟩
  obtain ⟨m2, m3⟩ := m2
  rw [e24v, etav] at *
  exact ⟨by grind, by grind⟩
theorem add_bd {x y : Nat} {C : Rat} (hx : sf x) (hy : sf y) (b : Ab C (sv x + sv y)) (h1 : 1 ≤ C) (hH : C * 2 ≤ HUGE) :
    sf (fadd .f32 x y) ∧ Nr (sv (fadd .f32 x y)) (sv x + sv y) (101 / 100 * C * e24) ∧ Ab (1001 / 1000 * C) (sv (fadd .f32 x y)) := by
  obtain ⟨m1, m2⟩ := t_add hx hy b (by grind)
  refine ⟨m1, ?_, (m2.ab b).mono (by rw [e24v, etav]; grind)⟩
  obtain ⟨m2, m3⟩ := m2
  rw [e24v, etav] at *
  exact ⟨by grind, by grind⟩
/-- what a row leaves of the terms -/
theorem row_step {f p a1 a2 a3 s0 s1 s2 s3 n1 n2 n3 X0 X1 X2 x0 x1 x2 R R' E : Rat} (hf : Ab (101 / 100) f) (h0 : Nr (f * p) s0 E) (h1 : Nr n1 (s1 - f * a1) E) (h2 : Nr n2 (s2 - f * a2) E) (h3 : Nr n3 (s3 - f * a3) E)
    (k0 : Ab x0 X0) (k1 : Ab x1 X1) (k2 : Ab x2 X2) (r : Ab R (p * X0 + a1 * X1 + a2 * X2 - a3)) (r' : Ab R' (n1 * X1 + n2 * X2 - n3)) :
    Ab (101 / 100 * R + R' + (E * x0 + E * x1 + E * x2 + E)) (s0 * X0 + s1 * X1 + s2 * X2 - s3) := by
  have t0 := (nr_ab.1 h0).mul k0
  have t1 := (nr_ab.1 h1).mul k1
  have t2 := (nr_ab.1 h2).mul k2
  have t3 := nr_ab.1 h3
  have t4 := hf.mul r
  have e : s0 * X0 + s1 * X1 + s2 * X2 - s3 = f * (p * X0 + a1 * X1 + a2 * X2 - a3) + (n1 * X1 + n2 * X2 - n3) - (f * p - s0) * X0 - (n1 - (s1 - f * a1)) * X1 - (n2 - (s2 - f * a2)) * X2 + (n3 - (s3 - f * a3)) := by grind
  rw [e]
  generalize f * (p * X0 + a1 * X1 + a2 * X2 - a3) = z1 at *
  generalize n1 * X1 + n2 * X2 - n3 = z2 at *
  generalize (f * p - s0) * X0 = z3 at *
  generalize (n1 - (s1 - f * a1)) * X1 = z4 at *
  generalize (n2 - (s2 - f * a2)) * X2 = z5 at *
  generalize n3 - (s3 - f * a3) = z6 at *
  obtain ⟨u0, v0⟩ := t0; obtain ⟨u1, v1⟩ := t1; obtain ⟨u2, v2⟩ := t2; obtain ⟨u3, v3⟩ := t3; obtain ⟨u4, v4⟩ := t4; obtain ⟨u5, v5⟩ := r'
  exact ⟨by grind, by grind⟩

section
variable {M S N T L U F : LL}
/-- how great the terms are -/
theorem terms_bd (h : Stages M S N T L U F) (hp : 1 ≤ rabs (mv S 0 0)) (hq : 1 / 2 ≤ rabs (mv T 1 1)) :
    (sf (bk2 F) ∧ Ab 1300000000 (sv (bk2 F))) ∧ (sf (bk1 F) ∧ Ab 1600000000000 (sv (bk1 F))) ∧ sf (bk0 F) ∧ Ab 500000000000000 (sv (bk0 F)) := by
  have m0 : ∀ j, mAt F 0 j = mAt S 0 j := mAt_row h.r0
  have m1 : ∀ j, mAt F 1 j = mAt T 1 j := mAt_row h.r1
  have m2 : ∀ j, mAt F 2 j = mAt U 2 j := mAt_row h.r2
  have x2 : sf (bk2 F) ∧ Ab 1300000000 (sv (bk2 F)) := by
    unfold bk2; rw [m2, m2]
    obtain ⟨d1, d2, d3⟩ := div_back (b := 99 / 100000000) (Q := 1200000000) (h.mU.fin 2 3 (by omega) (by omega) (by omega) (by omega)) (h.mU.fin 2 2 (by omega) (by omega) (by omega) (by omega)) (by decide +kernel) h.w (h.mU.bd 2 3 (by omega) (by omega) (by omega) (by omega)) (h.mU.bd 2 2 (by omega) (by omega) (by omega) (by omega)) (by decide +kernel) (by decide +kernel)
    exact ⟨d1, d2.mono (by decide +kernel)⟩
  have x1 : sf (bk1 F) ∧ Ab 1600000000000 (sv (bk1 F)) := by
    unfold bk1; rw [m1, m1, m1]
    obtain ⟨c1, c2, c3⟩ := mul_bd (A := 550) (B := 0) (s := 1300000000) (h.mT.fin 1 2 (by omega) (by omega) (by omega) (by omega)) x2.1 (h.mT.bd 1 2 (by omega) (by omega) (by omega) (by omega)) x2.2 (by decide +kernel) (by decide +kernel) (by decide +kernel)
    have b := ((h.mT.bd 1 3 (by omega) (by omega) (by omega) (by omega)).sub c3).mono (show _ ≤ (720000000000 : Rat) by decide +kernel)
    obtain ⟨s1, s2, s3⟩ := sub_bd (h.mT.fin 1 3 (by omega) (by omega) (by omega) (by omega)) c1 b (by decide +kernel) (by decide +kernel)
    obtain ⟨d1, d2, d3⟩ := div_back (b := 1 / 2) (Q := 1500000000000) s1 (h.mT.fin 1 1 (by omega) (by omega) (by omega) (by omega)) (by decide +kernel) hq s3 (h.mT.bd 1 1 (by omega) (by omega) (by omega) (by omega)) (by decide +kernel) (by decide +kernel)
    exact ⟨d1, d2.mono (by decide +kernel)⟩
  refine ⟨x2, x1, ?_⟩
  unfold bk0; rw [m0, m0, m0, m0]
  obtain ⟨c1, c2, c3⟩ := mul_bd (A := 272) (B := 0) (s := 1600000000000) (h.mS.fin 0 1 (by omega) (by omega) (by omega) (by omega)) x1.1 (h.mS.bd 0 1 (by omega) (by omega) (by omega) (by omega)) x1.2 (by decide +kernel) (by decide +kernel) (by decide +kernel)
  have b := ((h.mS.bd 0 3 (by omega) (by omega) (by omega) (by omega)).sub c3).mono (show _ ≤ (440000000000000 : Rat) by decide +kernel)
  obtain ⟨s1, s2, s3⟩ := sub_bd (h.mS.fin 0 3 (by omega) (by omega) (by omega) (by omega)) c1 b (by decide +kernel) (by decide +kernel)
  obtain ⟨e1, e2, e3⟩ := mul_bd (A := 272) (B := 0) (s := 1300000000) (h.mS.fin 0 2 (by omega) (by omega) (by omega) (by omega)) x2.1 (h.mS.bd 0 2 (by omega) (by omega) (by omega) (by omega)) x2.2 (by decide +kernel) (by decide +kernel) (by decide +kernel)
  have b := (s3.sub e3).mono (show _ ≤ (450000000000000 : Rat) by decide +kernel)
  obtain ⟨t1, t2, t3⟩ := sub_bd s1 e1 b (by decide +kernel) (by decide +kernel)
  obtain ⟨d1, d2, d3⟩ := div_back (b := 1) (Q := 470000000000000) t1 (h.mS.fin 0 0 (by omega) (by omega) (by omega) (by omega)) (by decide +kernel) hp t3 (h.mS.bd 0 0 (by omega) (by omega) (by omega) (by omega)) (by decide +kernel) (by decide +kernel)
  exact ⟨d1, d2.mono (by decide +kernel)⟩
end
end Go.Proofs.LV

namespace Go.Proofs.LV
open Go Ieee
set_option linter.unusedVariables false
set_option linter.unusedSimpArgs false

theorem Ab.s {A B q : Rat} (h : Ab A q) (hc : A ≤ B) : Ab B q := h.mono hc
section
variable {M S N T L U F : LL}
/-- what the terms leave of the rows -/
theorem resid (h : Stages M S N T L U F) {s : Rat} (hs1 : 1 ≤ s) (hs2 : s ≤ 10000000000000000) (f1 : sf (bk1 F)) (f2 : sf (bk2 F)) (k0 : Ab s (sv (bk0 F))) (k1 : Ab s (sv (bk1 F))) (k2 : Ab s (sv (bk2 F))) :
    ∀ r, r < 3 → Ab (21000 * e24 * s) (mv M r 0 * sv (bk0 F) + mv M r 1 * sv (bk1 F) + mv M r 2 * sv (bk2 F) - mv M r 3) := by
  have m0 : ∀ j, mAt F 0 j = mAt S 0 j := mAt_row h.r0
  have m1 : ∀ j, mAt F 1 j = mAt T 1 j := mAt_row h.r1
  have m2 : ∀ j, mAt F 2 j = mAt U 2 j := mAt_row h.r2
  have hH : s * 1000000000000000 ≤ HUGE := by show _ ≤ (1000000000000000000000000000000000000 : Rat); grind
  have hH : s * 1000000000000000 ≤ 1000000000000000000000000000000000000 := hH
  -- the last row
  have R2 : Ab (2300 * e24 * s) (mv U 2 2 * sv (bk2 F) - mv U 2 3) := by
    have e : bk2 F = fdiv .f32 (mAt U 2 3) (mAt U 2 2) := by unfold bk2; rw [m2, m2]
    rw [e]
    obtain ⟨d1, d2, d3⟩ := div_back (b := 99 / 100000000) (Q := 1200000000) (h.mU.fin 2 3 (by omega) (by omega) (by omega) (by omega)) (h.mU.fin 2 2 (by omega) (by omega) (by omega) (by omega)) (by decide +kernel) h.w (h.mU.bd 2 3 (by omega) (by omega) (by omega) (by omega)) (h.mU.bd 2 2 (by omega) (by omega) (by omega) (by omega)) (by decide +kernel) (by decide +kernel)
    obtain ⟨d3, d4⟩ := d3
    rw [e24v, e23v, etav] at *
    exact ⟨by grind, by grind⟩
  -- the second row
  have R1 : Ab (3900 * e24 * s) (mv T 1 1 * sv (bk1 F) + mv T 1 2 * sv (bk2 F) - mv T 1 3) := by
    have e : bk1 F = fdiv .f32 (fsub .f32 (mAt T 1 3) (fmul .f32 (mAt T 1 2) (bk2 F))) (mAt T 1 1) := by unfold bk1; rw [m1, m1, m1]
    rw [e]
    obtain ⟨c1, c2, c3⟩ := mul_bd (A := 550) (B := 0) (s := s) (h.mT.fin 1 2 (by omega) (by omega) (by omega) (by omega)) f2 (h.mT.bd 1 2 (by omega) (by omega) (by omega) (by omega)) k2 hs1 (by decide +kernel) (by show _ ≤ (1000000000000000000000000000000000000 : Rat); grind)
    have b := ((h.mT.bd 1 3 (by omega) (by omega) (by omega) (by omega)).sub c3).mono (show _ ≤ 1102 * s by grind)
    obtain ⟨s1, s2, s3⟩ := sub_bd (h.mT.fin 1 3 (by omega) (by omega) (by omega) (by omega)) c1 b (by grind) (by show _ ≤ (1000000000000000000000000000000000000 : Rat); grind)
    obtain ⟨d1, d2, d3⟩ := div_back (b := 99 / 100000000) (Q := 1200000000 * s) s1 (h.mT.fin 1 1 (by omega) (by omega) (by omega) (by omega)) (by decide +kernel) h.q s3 (h.mT.bd 1 1 (by omega) (by omega) (by omega) (by omega)) (by grind) (by show _ ≤ (1000000000000000000000000000000000000 : Rat); grind)
    clear b s3 c3 e k0 k1 k2 m0 m1 m2
    obtain ⟨d3, d4⟩ := d3
    obtain ⟨c2, c4⟩ := c2
    obtain ⟨s2, s4⟩ := s2
    rw [e24v, e23v, etav] at *
    exact ⟨by grind, by grind⟩
  -- the first row
  have R0 : Ab (3600 * e24 * s) (mv S 0 0 * sv (bk0 F) + mv S 0 1 * sv (bk1 F) + mv S 0 2 * sv (bk2 F) - mv S 0 3) := by
    have e : bk0 F = fdiv .f32 (fsub .f32 (fsub .f32 (mAt S 0 3) (fmul .f32 (mAt S 0 1) (bk1 F))) (fmul .f32 (mAt S 0 2) (bk2 F))) (mAt S 0 0) := by unfold bk0; rw [m0, m0, m0, m0]
    rw [e]
    obtain ⟨c1, c2, c3⟩ := mul_bd (A := 272) (B := 0) (s := s) (h.mS.fin 0 1 (by omega) (by omega) (by omega) (by omega)) f1 (h.mS.bd 0 1 (by omega) (by omega) (by omega) (by omega)) k1 hs1 (by decide +kernel) (by show _ ≤ (1000000000000000000000000000000000000 : Rat); grind)
    have b := ((h.mS.bd 0 3 (by omega) (by omega) (by omega) (by omega)).sub c3).mono (show _ ≤ 545 * s by grind)
    obtain ⟨s1, s2, s3⟩ := sub_bd (h.mS.fin 0 3 (by omega) (by omega) (by omega) (by omega)) c1 b (by grind) (by show _ ≤ (1000000000000000000000000000000000000 : Rat); grind)
    obtain ⟨g1, g2, g3⟩ := mul_bd (A := 272) (B := 0) (s := s) (h.mS.fin 0 2 (by omega) (by omega) (by omega) (by omega)) f2 (h.mS.bd 0 2 (by omega) (by omega) (by omega) (by omega)) k2 hs1 (by decide +kernel) (by show _ ≤ (1000000000000000000000000000000000000 : Rat); grind)
    have b2 := (s3.sub g3).mono (show _ ≤ 818 * s by grind)
    obtain ⟨t1, t2, t3⟩ := sub_bd s1 g1 b2 (by grind) (by show _ ≤ (1000000000000000000000000000000000000 : Rat); grind)
    obtain ⟨d1, d2, d3⟩ := div_back (b := 99 / 100000000) (Q := 1200000000 * s) t1 (h.mS.fin 0 0 (by omega) (by omega) (by omega) (by omega)) (by decide +kernel) h.p t3 (h.mS.bd 0 0 (by omega) (by omega) (by omega) (by omega)) (by grind) (by show _ ≤ (1000000000000000000000000000000000000 : Rat); grind)
    clear b b2 t3 s3 c3 g3 e k0 k1 k2 m0 m1 m2 R1 R2
    obtain ⟨d3, d4⟩ := d3
    obtain ⟨c2, c4⟩ := c2
    obtain ⟨s2, s4⟩ := s2
    obtain ⟨g2, g4⟩ := g2
    obtain ⟨t2, t4⟩ := t2
    rw [e24v, e23v, etav] at *
    exact ⟨by grind, by grind⟩
  have z0 : Ab 0 (0 : Rat) := ⟨by decide, by decide⟩
  -- what is left in the second round
  have Q1 : ∀ r, 1 ≤ r → r < 3 → Ab (13000 * e24 * s) (mv N r 1 * sv (bk1 F) + mv N r 2 * sv (bk2 F) - mv N r 3) := by
    intro r hr hr'
    obtain ⟨r', a1, a2, a3⟩ := h.inT r hr hr'
    have ea : ∀ j, mAt T r' j = mAt N r j := mAt_row a3
    have ea : ∀ j, mv N r j = mv T r' j := fun j => by show sv _ = sv _; rw [ea]
    rw [ea, ea, ea]
    by_cases e1 : r' = 1
    · rw [e1]; refine R1.mono ?_; rw [e24v]; grind
    · have e2 : r' = 2 := by omega
      subst e2
      obtain ⟨f, g1, g2, g3⟩ := h.st2.less 2 (by omega) (by omega)
      have eU : ∀ j, mAt U 2 j = mAt L 2 j := mAt_row h.inU
      have eU : ∀ j, mv L 2 j = mv U 2 j := fun j => by show sv _ = sv _; rw [eU]
      have g4 := g3 2 (by omega) (by omega)
      have g5 := g3 3 (by omega) (by omega)
      rw [eU] at g4 g5
      have E0 : (0 : Rat) ≤ 4 * 550 * e24 := by decide +kernel
      have r1 : Ab (3900 * e24 * s) (mv T 1 1 * sv (bk1 F) + mv T 1 2 * sv (bk2 F) + 0 * 0 - mv T 1 3) := by
        have e : mv T 1 1 * sv (bk1 F) + mv T 1 2 * sv (bk2 F) + 0 * 0 - mv T 1 3 = mv T 1 1 * sv (bk1 F) + mv T 1 2 * sv (bk2 F) - mv T 1 3 := by grind
        rw [e]; exact R1
      have r2 : Ab (2300 * e24 * s) (mv U 2 2 * sv (bk2 F) + 0 * 0 - mv U 2 3) := by
        have e : mv U 2 2 * sv (bk2 F) + 0 * 0 - mv U 2 3 = mv U 2 2 * sv (bk2 F) - mv U 2 3 := by grind
        rw [e]; exact R2
      have gz : Nr 0 (0 - f * 0) (4 * 550 * e24) := by constructor <;> grind
      have t := row_step g1 g2 g4 gz g5 k1 k2 z0 r1 r2
      have e : mv T 2 1 * sv (bk1 F) + mv T 2 2 * sv (bk2 F) + 0 * 0 - mv T 2 3 = mv T 2 1 * sv (bk1 F) + mv T 2 2 * sv (bk2 F) - mv T 2 3 := by grind
      rw [e] at t
      refine t.mono ?_
      rw [e24v]; grind
  intro r hr
  obtain ⟨r', _, a2, a3⟩ := h.inS r (by omega) hr
  have ea : ∀ j, mAt S r' j = mAt M r j := mAt_row a3
  have ea : ∀ j, mv M r j = mv S r' j := fun j => by show sv _ = sv _; rw [ea]
  rw [ea, ea, ea, ea]
  by_cases e1 : r' = 0
  · rw [e1]; refine R0.mono ?_; rw [e24v]; grind
  · obtain ⟨f, g1, g2, g3⟩ := h.st1.less r' (by omega) a2
    have t := row_step (E := 4 * 272 * e24) g1 g2 (g3 1 (by omega) (by omega)) (g3 2 (by omega) (by omega)) (g3 3 (by omega) (by omega)) k0 k1 k2 R0 (Q1 r' (by omega) a2)
    refine t.mono ?_
    rw [e24v]; grind
/-- the second number in the middle is not small -/
theorem piv2 (h : Stages M S N T L U F) (h0 : 0 ≤ mv M 0 0) (h1 : 0 ≤ mv M 1 0) (h2 : mv M 0 0 + mv M 1 0 ≤ 544) (hd : (mv M 0 0 + mv M 1 0) / 2 + 1 / 10 ≤ mv M 0 0 * mv M 1 1 - mv M 1 0 * mv M 0 1) : 1 / 2 ≤ rabs (mv T 1 1) := by
  refine Rat.not_lt.1 fun hn => ?_
  have key : ∀ i, i < 2 → ∃ φ ν : Rat, Ab (101 / 100) φ ∧ Ab (1 / 2) ν ∧ Nr (φ * mv S 0 0) (mv M i 0) (4 * 272 * e24) ∧ Nr ν (mv M i 1 - φ * mv S 0 1) (4 * 272 * e24) := by
    intro i hi
    obtain ⟨r', _, a2, a3⟩ := h.inS i (by omega) (by omega)
    have ea : ∀ j, mAt S r' j = mAt M i j := mAt_row a3
    have ea : ∀ j, mv M i j = mv S r' j := fun j => by show sv _ = sv _; rw [ea]
    rw [ea, ea]
    by_cases e1 : r' = 0
    · subst e1
      have hE : (0 : Rat) ≤ 4 * 272 * e24 := by decide +kernel
      exact ⟨1, 0, ⟨by decide +kernel, by decide +kernel⟩, ⟨by decide +kernel, by decide +kernel⟩, ⟨by grind, by grind⟩, ⟨by grind, by grind⟩⟩
    · obtain ⟨f, g1, g2, g3⟩ := h.st1.less r' (by omega) a2
      refine ⟨f, mv N r' 1, g1, ?_, g2, g3 1 (by omega) (by omega)⟩
      obtain ⟨r2, b1, b2, b3⟩ := h.inT r' (by omega) a2
      have eb : ∀ j, mAt T r2 j = mAt N r' j := mAt_row b3
      have eb : mv N r' 1 = mv T r2 1 := by show sv _ = sv _; rw [eb]
      have hm := h.maxT r2 b1 b2
      rw [eb]
      exact (ab_rabs _).mono (by grind)
  obtain ⟨φ0, ν0, p1, p2, p3, p4⟩ := key 0 (by omega)
  obtain ⟨φ1, ν1, q1, q2, q3, q4⟩ := key 1 (by omega)
  have ba : Ab 272 (mv S 0 1) := h.mS.bd 0 1 (by omega) (by omega) (by omega) (by omega)
  have n0 : Ab (mv M 0 0) (mv M 0 0) := ⟨by grind, by grind⟩
  have n1 : Ab (mv M 1 0) (mv M 1 0) := ⟨by grind, by grind⟩
  generalize mv S 0 0 = p at *
  generalize mv S 0 1 = a at *
  generalize mv M 0 0 = g00 at *
  generalize mv M 1 0 = g10 at *
  generalize mv M 0 1 = g01 at *
  generalize mv M 1 1 = g11 at *
  rw [nr_ab] at p3 p4 q3 q4
  have t1 := n0.mul (q2.sub q4)
  have t2 := n1.mul (p2.sub p4)
  have t3 := ba.mul ((q3.mul p1).sub (p3.mul q1))
  have e : g00 * g11 - g10 * g01 = g00 * (ν1 - (ν1 - (g11 - φ1 * a))) - g10 * (ν0 - (ν0 - (g01 - φ0 * a))) + a * ((φ1 * p - g10) * φ0 - (φ0 * p - g00) * φ1) := by grind
  rw [e] at hd
  generalize g00 * (ν1 - (ν1 - (g11 - φ1 * a))) = z1 at *
  generalize g10 * (ν0 - (ν0 - (g01 - φ0 * a))) = z2 at *
  generalize a * ((φ1 * p - g10) * φ0 - (φ0 * p - g00) * φ1) = z3 at *
  obtain ⟨_, t1⟩ := t1
  obtain ⟨t2, _⟩ := t2
  obtain ⟨_, t3⟩ := t3
  rw [e24v] at *
  clear p1 p2 p3 p4 q1 q2 q3 q4 key e
  grind
end

/-! ### sums of products of small numbers -/
theorem p4 : (2 : Rat) ^ (-2 + -2 : Int) = 1 / 16 := zp_neg 4 (1 / 16) (by decide +kernel)
theorem dot_q {xs ys : List Nat} {n : Nat} (hn : n ≤ 17) (hx : xs.length = n) (qx : ∀ i, i < n → Qx (xs.getD i 0)) (qy : ∀ i, i < n → Qx (ys.getD i 0)) :
    sf (dotM xs ys) ∧ sv (dotM xs ys) = (sumQ n fun i => sv (xs.getD i 0) * sv (ys.getD i 0)) ∧ Ab 272 (sv (dotM xs ys)) := by
  have hm : ∀ i, i < n → sf (fmul .f32 (xs.getD i 0) (ys.getD i 0)) ∧ Gr (-2 + -2) 256 (sv (fmul .f32 (xs.getD i 0) (ys.getD i 0))) ∧ sv (fmul .f32 (xs.getD i 0) (ys.getD i 0)) = sv (xs.getD i 0) * sv (ys.getD i 0) := by
    intro i hi
    obtain ⟨a1, a2⟩ := qx i hi
    obtain ⟨b1, b2⟩ := qy i hi
    obtain ⟨m1, m2⟩ := mul_gr .f32 a1 b1 a2 b2 (by decide) (by decide) (by decide)
    have m2 : sv (fmul .f32 (xs.getD i 0) (ys.getD i 0)) = sv (xs.getD i 0) * sv (ys.getD i 0) := m2
    exact ⟨m1, by rw [m2]; exact a2.mul b2, m2⟩
  obtain ⟨c1, c2, c3⟩ := acc_gr (g := fun i => fmul .f32 (xs.getD i 0) (ys.getD i 0)) (j := -2 + -2) (b := 256) (by decide) (by decide) n (by omega) (fun i hi => ⟨(hm i hi).1, (hm i hi).2.1⟩)
  have e : dotM xs ys = accN (fun i s => fadd .f32 s (fmul .f32 (xs.getD i 0) (ys.getD i 0))) n 0 := by unfold dotM; rw [hx]
  rw [e]
  refine ⟨c1, by rw [c3]; exact sumQ_congr n fun i hi => (hm i hi).2.2, ?_⟩
  have hb := gr_bound (B := 272) (c2.mono (show 256 * n ≤ 4352 by omega)) (by rw [p4]; decide +kernel)
  exact hb
end Go.Proofs.LV
