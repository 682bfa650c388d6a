/- Texts that belong together. -/
import Derived.Test.YtdffgjembkanoaaLvCol2X
import Derived.Test.YtdffgjembkanoaaLvFnNNX
namespace Go.Proofs.LV
open Go Ieee
set_option linter.unusedVariables false
set_option linter.unusedSimpArgs false

/-- a number of a column -/
abbrev ce (C : LL) (k i : Nat) : Nat := (C.getD k []).getD i 0
structure Cols (C : LL) (y : List Nat) (n : Nat) : Prop where
  hn : 6 ≤ n ∧ n ≤ 17
  lC : C.length = 3
  len : ∀ k, k < 3 → (C.getD k []).length = n
  q : ∀ k i, k < 3 → i < n → Qx (ce C k i)
  v0 : ∀ i, i < n → sv (ce C 0 i) = 1
  v1 : ∀ i, i < n → sv (ce C 1 i) = (i : Rat) / 4
  ly : y.length = n
  qy : ∀ i, i < n → Qx (y.getD i 0)
/-- sums of products -/
def gQ (C : LL) (n k j : Nat) : Rat := sumQ n fun i => sv (ce C k i) * sv (ce C j i)
def bQ (C : LL) (y : List Nat) (n k : Nat) : Rat := sumQ n fun i => sv (ce C k i) * sv (y.getD i 0)
theorem getD_mem_ll {xss : LL} {r : List Nat} (h : r ∈ xss) : ∃ k, k < xss.length ∧ xss.getD k [] = r := by
  obtain ⟨k, hk, e⟩ := List.getElem_of_mem h
  exact ⟨k, hk, by rw [List.getD_eq_getElem?_getD, List.getElem?_eq_getElem hk]; exact e⟩
section
variable {C : LL} {y : List Nat} {n : Nat}
theorem Cols.g (c : Cols C y n) {k j : Nat} (hk : k < 3) (hj : j < 3) : sf (mAt (cfG C y) k j) ∧ mv (cfG C y) k j = gQ C n k j ∧ Ab 272 (mv (cfG C y) k j) := by
  have e : mAt (cfG C y) k j = dotM (C.getD k []) (C.getD j []) := by
    unfold mAt
    rw [cfG_get _ _ (by rw [c.lC]; exact hk)]
    unfold cfRow
    rw [getD_app_l _ _ _ (by rw [tab_len, c.lC]; exact hj), tab_get _ _ _ _ (by rw [c.lC]; exact hj)]
  unfold mv
  rw [e]
  exact dot_q (by have := c.hn; omega) (c.len k hk) (fun i hi => c.q k i hk hi) (fun i hi => c.q j i hj hi)
theorem Cols.b (c : Cols C y n) {k : Nat} (hk : k < 3) : sf (mAt (cfG C y) k 3) ∧ mv (cfG C y) k 3 = bQ C y n k ∧ Ab 272 (mv (cfG C y) k 3) := by
  have e : mAt (cfG C y) k 3 = dotM (C.getD k []) y := by
    unfold mAt
    rw [cfG_get _ _ (by rw [c.lC]; exact hk)]
    unfold cfRow
    rw [getD_app_r _ _ _ (by rw [tab_len, c.lC])]
  unfold mv
  rw [e]
  exact dot_q (by have := c.hn; omega) (c.len k hk) (fun i hi => c.q k i hk hi) c.qy
theorem Cols.mb (c : Cols C y n) : Mb (cfG C y) 0 272 := by
  have hr := cfG_rect C y
  rw [c.lC] at hr
  refine ⟨hr, fun r j _ hr _ hj => ?_, fun r j _ hr _ hj => ?_⟩
  · by_cases e : j = 3
    · subst e; exact (c.b hr).1
    · exact (c.g hr (by omega)).1
  · by_cases e : j = 3
    · subst e; exact (c.b hr).2.2
    · exact (c.g hr (by omega)).2.2
theorem Cols.cols (c : Cols C y n) : colsM C y.length = true := by
  unfold colsM
  have h : C.all (colP y.length) = true := by
    rw [List.all_eq_true]
    intro r hr
    obtain ⟨k, hk, e⟩ := getD_mem_ll hr
    rw [c.lC] at hk
    rw [← e]
    unfold colP
    have hl := c.len k hk
    have hs : seriesM (C.getD k []) = true := series_of (by rw [hl]; have := c.hn; omega) (by rw [hl]; have := c.hn; omega) (fun i hi => (c.q k i hk (by omega)).1)
    rw [hs, hl, c.ly]; simp
  rw [h, c.lC]; rfl
theorem Cols.ser (c : Cols C y n) : seriesM y = true := series_of (by rw [c.ly]; have := c.hn; omega) (by rw [c.ly]; have := c.hn; omega) (fun i hi => (c.qy i (by have := c.ly; omega)).1)
theorem gnum : ∀ n : Nat, n < 18 → 6 ≤ n → ((0 : Rat) ≤ (n : Rat) * ((n : Rat) - 1) / 8 ∧ (n : Rat) + (n : Rat) * ((n : Rat) - 1) / 8 ≤ 544 ∧
    ((n : Rat) + (n : Rat) * ((n : Rat) - 1) / 8) / 2 + 1 / 10 ≤ (n : Rat) * ((n : Rat) * ((n : Rat) - 1) * (2 * (n : Rat) - 1) / 96) - (n : Rat) * ((n : Rat) - 1) / 8 * ((n : Rat) * ((n : Rat) - 1) / 8)) := by decide +kernel
theorem Cols.pre (c : Cols C y n) : gQ C n 0 0 = n ∧ gQ C n 1 0 = (n : Rat) * ((n : Rat) - 1) / 8 ∧ gQ C n 0 1 = (n : Rat) * ((n : Rat) - 1) / 8 ∧ gQ C n 1 1 = (n : Rat) * ((n : Rat) - 1) * (2 * (n : Rat) - 1) / 96 := by
  have e0 : gQ C n 0 0 = sumQ n fun _ => 1 := sumQ_congr n fun i hi => by rw [c.v0 i hi]; grind
  have e1 : gQ C n 1 0 = sumQ n fun i => 1 / 4 * (i : Rat) := sumQ_congr n fun i hi => by rw [c.v0 i hi, c.v1 i hi]; grind
  have e2 : gQ C n 0 1 = sumQ n fun i => 1 / 4 * (i : Rat) := sumQ_congr n fun i hi => by rw [c.v0 i hi, c.v1 i hi]; grind
  have e3 : gQ C n 1 1 = sumQ n fun i => 1 / 16 * ((i : Rat) * i) := sumQ_congr n fun i hi => by rw [c.v1 i hi]; grind
  rw [e0, e1, e2, e3, sumQ_const, sumQ_mul, sumQ_mul, sumQ_id, sumQ_sq]
  exact ⟨by grind, by grind, by grind, by grind⟩

/-- what is known of the terms -/
structure Trm (C : LL) (y : List Nat) (n t0 t1 t2 : Nat) : Prop where
  f0 : sf t0
  f1 : sf t1
  f2 : sf t2
  b0 : Ab 500000000000000 (sv t0)
  b1 : Ab 500000000000000 (sv t1)
  b2 : Ab 500000000000000 (sv t2)
  res : ∀ s : Rat, 1 ≤ s → s ≤ 10000000000000000 → Ab s (sv t0) → Ab s (sv t1) → Ab s (sv t2) → ∀ k, k < 3 → Ab (21000 * e24 * s) (gQ C n k 0 * sv t0 + gQ C n k 1 * sv t1 + gQ C n k 2 * sv t2 - bQ C y n k)
theorem Cols.terms (c : Cols C y n) (ho : ftOk C y = true) : ∃ t0 t1 t2, ftT C y = [t0, t1, t2] ∧ Trm C y n t0 t1 t2 := by
  have hc : cfOk (cfG C y) 3 = true := by
    unfold ftOk ftC at ho
    simp only [Bool.and_eq_true] at ho
    have := ho.1.2.2
    rw [c.lC] at this; exact this
  obtain ⟨S, N, T, L, U, h⟩ := stages c.mb hc
  obtain ⟨p0, p1, p2, p3⟩ := c.pre
  obtain ⟨n0, n1, n2⟩ := gnum n (by have := c.hn; omega) c.hn.1
  have g00 : mv (cfG C y) 0 0 = n := by rw [(c.g (by omega) (by omega)).2.1, p0]
  have g10 : mv (cfG C y) 1 0 = (n : Rat) * ((n : Rat) - 1) / 8 := by rw [(c.g (by omega) (by omega)).2.1, p1]
  have g01 : mv (cfG C y) 0 1 = (n : Rat) * ((n : Rat) - 1) / 8 := by rw [(c.g (by omega) (by omega)).2.1, p2]
  have g11 : mv (cfG C y) 1 1 = (n : Rat) * ((n : Rat) - 1) * (2 * (n : Rat) - 1) / 96 := by rw [(c.g (by omega) (by omega)).2.1, p3]
  have hq := piv2 h (by rw [g00]; exact nat_rat n) (by rw [g10]; exact n0) (by rw [g00, g10]; exact n1) (by rw [g00, g10, g01, g11]; exact n2)
  have hp : 1 ≤ rabs (mv S 0 0) := by
    obtain ⟨r', a1, a2, a3⟩ := h.inS 0 (by omega) (by omega)
    have hm := h.maxS r' a1 a2
    have ea : ∀ j, mAt S r' j = mAt (cfG C y) 0 j := mAt_row a3
    have eb : mv S r' 0 = (n : Rat) := by show sv _ = _; rw [ea]; exact g00
    rw [eb] at hm
    have h6 := nat_le_rat c.hn.1
    have : ((6 : Nat) : Rat) = 6 := rfl
    have hr : rabs (n : Rat) = n := by unfold rabs; rw [if_pos (nat_rat n)]
    rw [hr] at hm
    grind
  obtain ⟨⟨x2, y2⟩, ⟨x1, y1⟩, x0, y0⟩ := terms_bd h hp hq
  refine ⟨bk0 (stN (cfG C y) 3 3), bk1 (stN (cfG C y) 3 3), bk2 (stN (cfG C y) 3 3), by unfold ftT cfOut; rw [c.lC]; exact bk_three _, x0, x1, x2, y0, y1.mono (by decide +kernel), y2.mono (by decide +kernel), ?_⟩
  intro s s1 s2 k0 k1 k2 k hk
  have := resid h s1 s2 x1 x2 k0 k1 k2 k hk
  rw [(c.g hk (by omega)).2.1, (c.g hk (by omega)).2.1, (c.g hk (by omega)).2.1, (c.b hk).2.1] at this
  exact this

/-! ### what is fitted -/
variable {t0 t1 t2 : Nat}
def exQ (C : LL) (t0 t1 t2 i : Nat) : Rat := sv (ce C 0 i) * sv t0 + sv (ce C 1 i) * sv t1 + sv (ce C 2 i) * sv t2
theorem fit_three (C : LL) (h : C.length = 3) (t0 t1 t2 i : Nat) : fitAt C [t0, t1, t2] C.length i = fadd .f32 (fadd .f32 (fadd .f32 0 (fmul .f32 (ce C 0 i) t0)) (fmul .f32 (ce C 1 i) t1)) (fmul .f32 (ce C 2 i) t2) := by rw [h]; rfl
theorem fit_near (c : Cols C y n) (t : Trm C y n t0 t1 t2) {s : Rat} (s1 : 1 ≤ s) (s2 : s ≤ 10000000000000000) (k0 : Ab s (sv t0)) (k1 : Ab s (sv t1)) (k2 : Ab s (sv t2)) {i : Nat} (hi : i < n) :
    sf (fitAt C [t0, t1, t2] C.length i) ∧ Nr (sv (fitAt C [t0, t1, t2] C.length i)) (exQ C t0 t1 t2 i) (45 * s * e24) ∧ Ab (16 * s) (sv (fitAt C [t0, t1, t2] C.length i)) := by
  rw [fit_three C c.lC]
  unfold exQ
  have cm : ∀ {t : Nat} (k : Nat), k < 3 → sf t → Ab s (sv t) → _ := fun {t} k hk ht hb => mul_bd (A := 4) (B := 0) (s := s) (c.q k i hk hi).1 ht (q_bound (c.q k i hk hi)) hb s1 (by decide +kernel) (by show _ ≤ (1000000000000000000000000000000000000 : Rat); grind)
  obtain ⟨a1, a2, a3⟩ := cm 0 (by omega) t.f0 k0
  obtain ⟨b1, b2, b3⟩ := cm 1 (by omega) t.f1 k1
  obtain ⟨d1, d2, d3⟩ := cm 2 (by omega) t.f2 k2
  clear cm k0 k1 k2
  generalize fmul .f32 (ce C 0 i) t0 = x0 at *
  generalize fmul .f32 (ce C 1 i) t1 = x1 at *
  generalize fmul .f32 (ce C 2 i) t2 = x2 at *
  generalize sv (ce C 0 i) * sv t0 = X0 at *
  generalize sv (ce C 1 i) * sv t1 = X1 at *
  generalize sv (ce C 2 i) * sv t2 = X2 at *
  have z : sv 0 = 0 := zero_rv _
  have hH : ∀ m : Rat, 0 ≤ m → m ≤ 100 → m * s * 2 ≤ HUGE := fun m hm hm2 => by
    have := mul_mono (a := m) (b := 100) (c := 10000000000000000) (d := s) hm (by grind) hm2 s2
    show _ ≤ (1000000000000000000000000000000000000 : Rat)
    grind
  have e0 : Ab (5 * s) (sv 0 + sv x0) := by rw [z]; have := a3; exact ⟨by have := a3.1; grind, by have := a3.2; grind⟩
  obtain ⟨e1, e2, e3⟩ := add_bd (C := 5 * s) zero_sf a1 e0 (by grind) (hH 5 (by decide) (by decide))
  rw [z] at e2
  clear e0
  generalize fadd .f32 0 x0 = y0 at *
  have g0 : Ab (10 * s) (sv y0 + sv x1) := (e3.add b3).mono (by grind)
  obtain ⟨g1, g2, g3⟩ := add_bd (C := 10 * s) e1 b1 g0 (by grind) (hH 10 (by decide) (by decide))
  clear g0
  generalize fadd .f32 y0 x1 = y1 at *
  have h0 : Ab (15 * s) (sv y1 + sv x2) := (g3.add d3).mono (by grind)
  obtain ⟨h1, h2, h3⟩ := add_bd (C := 15 * s) g1 d1 h0 (by grind) (hH 15 (by decide) (by decide))
  refine ⟨h1, ?_, h3.mono (by grind)⟩
  clear h0 hH h3 g3 e3 a3 b3 d3 t c
  obtain ⟨a2, a4⟩ := a2
  obtain ⟨b2, b4⟩ := b2
  obtain ⟨d2, d4⟩ := d2
  obtain ⟨e2, e4⟩ := e2
  obtain ⟨g2, g4⟩ := g2
  obtain ⟨h2, h4⟩ := h2
  rw [e24v] at *
  exact ⟨by grind, by grind⟩
end
end Go.Proofs.LV

namespace Go.Proofs.LV
open Go Ieee
set_option linter.unusedVariables false
set_option linter.unusedSimpArgs false

/-! ### helpers -/
theorem acc_posB {g : Nat → Nat} {D : Rat} (hD : 1 ≤ D) (hD2 : D ≤ 1000000000000000000000000000000000) : ∀ n : Nat, n ≤ 100 → (∀ i, i < n → sf (g i) ∧ 0 ≤ sv (g i) ∧ sv (g i) ≤ D) →
    sf (accN (fun i s => fadd .f32 s (g i)) n 0) ∧ 0 ≤ sv (accN (fun i s => fadd .f32 s (g i)) n 0) ∧ sv (accN (fun i s => fadd .f32 s (g i)) n 0) ≤ 2 * D * n
  | 0, _, _ => by
    have z : sv (accN (fun i s => fadd .f32 s (g i)) 0 0) = 0 := zero_rv _
    have z2 : ((0 : Nat) : Rat) = 0 := rfl
    exact ⟨zero_sf, by rw [z]; decide, by rw [z, z2]; grind⟩
  | n + 1, hn, h => by
    obtain ⟨a1, a2, a3⟩ := acc_posB hD hD2 n (by omega) (fun i hi => h i (by omega))
    obtain ⟨b1, b2, b3⟩ := h n (by omega)
    show sf (fadd .f32 _ (g n)) ∧ 0 ≤ sv (fadd .f32 _ (g n)) ∧ sv (fadd .f32 _ (g n)) ≤ _
    generalize accN (fun i s => fadd .f32 s (g i)) n 0 = x at *
    have hnr : (n : Rat) ≤ 100 := by have := nat_le_rat (show n ≤ 100 by omega); exact this
    have h0 := nat_rat n
    have hm : 2 * D * (n : Rat) ≤ 200 * D := by have := mul_mono (a := 2 * D) (b := 2 * D) (c := 100) (d := (n : Rat)) (by grind) h0 Rat.le_refl hnr; grind
    have e : 2 * D * ((n + 1 : Nat) : Rat) = 2 * D * (n : Rat) + 2 * D := by rw [nat_succ]; grind
    rw [e]
    generalize 2 * D * (n : Rat) = m at *
    clear e
    have hb : Ab (201 * D) (sv x + sv (g n)) := ⟨by grind, by grind⟩
    have hH : 201 * D ≤ HUGE := by show _ ≤ (1000000000000000000000000000000000000 : Rat); grind
    obtain ⟨t1, t2⟩ := t_add a1 b1 hb hH
    have hp := (fadd_rd .f32 a1 b1 (Rat.le_trans hb.rabs (topB hH))).pos (by show 0 ≤ sv x + sv (g n); grind)
    refine ⟨t1, hp, ?_⟩
    have t3 := t2.1
    rw [e24v, etav] at t3
    grind
theorem sq_bd {x : Nat} {B : Rat} (hx : sf x) (hb : Ab B (sv x)) (h1 : 1 ≤ B) (h2 : B ≤ 20000000000000000) : sf (fmul .f32 x x) ∧ 0 ≤ sv (fmul .f32 x x) ∧ sv (fmul .f32 x x) ≤ 500000000000000000000000000000000 := by
  have hm := hb.mul hb
  have hB : B * B ≤ 400000000000000000000000000000000 := by
    have := mul_mono (a := B) (b := 20000000000000000) (c := 20000000000000000) (d := B) (by grind) (by grind) h2 h2
    grind
  have hm := hm.mono hB
  obtain ⟨t1, t2⟩ := t_mul hx hx hm (by decide +kernel)
  have hp := (fmul_rd .f32 hx hx (Rat.le_trans hm.rabs (topB (by decide +kernel)))).pos (by
    show 0 ≤ sv x * sv x
    by_cases h : 0 ≤ sv x
    · exact Rat.mul_nonneg h h
    · have := Rat.mul_nonneg (show 0 ≤ - sv x by grind) (show 0 ≤ - sv x by grind)
      grind)
  refine ⟨t1, hp, ?_⟩
  have := (t2.ab hm).2
  refine Rat.le_trans this (by decide +kernel)
/-- the gap of two numbers, however great -/
theorem gap_leB {a b : Nat} {G : Rat} (ha : df a) (hb : df b) (h : Nr (dv a) (dv b) G) (hG : G ≤ HUGE) : df (gapD a b) ∧ 0 ≤ dv (gapD a b) ∧ dv (gapD a b) ≤ G + G * e53 + eta := by
  obtain ⟨h1, h2⟩ := h
  unfold gapD
  rw [flt_rv (k := .f64) ha hb]
  split
  · rename_i hlt
    have hlt : dv a < dv b := of_decide_eq_true hlt
    have hb1 : Ab G (dv b - dv a) := ⟨by grind, by grind⟩
    have hrd := fsub_rd .f64 hb ha (Rat.le_trans hb1.rabs (topB64 hG))
    obtain ⟨s1, s2⟩ := u_sub (B := G) hb ha hb1 hG
    obtain ⟨w1, w2⟩ := s2
    refine ⟨s1, hrd.pos (by show 0 ≤ dv b - dv a; grind), by grind⟩
  · rename_i hlt
    have hlt : dv b ≤ dv a := by
      have : ¬ dv a < dv b := fun h => hlt (decide_eq_true h)
      exact Rat.not_lt.1 this
    have hb1 : Ab G (dv a - dv b) := ⟨by grind, by grind⟩
    have hrd := fsub_rd .f64 ha hb (Rat.le_trans hb1.rabs (topB64 hG))
    obtain ⟨s1, s2⟩ := u_sub (B := G) ha hb hb1 hG
    obtain ⟨w1, w2⟩ := s2
    refine ⟨s1, hrd.pos (by show 0 ≤ dv a - dv b; grind), by grind⟩
/-- the absolute value of a number, by the gap to 0 -/
theorem gap_zero {x : Nat} {B : Rat} (hx : sf x) (hb : Ab B (sv x)) (hB : B ≤ HUGE) : df (gapD (fconv .f32 .f64 x) 0) ∧ Nr (dv (gapD (fconv .f32 .f64 x) 0)) (rabs (sv x)) (B * e53 + eta) := by
  obtain ⟨c1, c2⟩ := conv_up hx
  have z : dv 0 = 0 := zero_rv _
  unfold gapD
  rw [flt_rv (k := .f64) c1 zero_df]
  by_cases h : rv FloatKind.f64.format (fconv .f32 .f64 x) < rv FloatKind.f64.format 0
  · rw [decide_eq_true h, if_pos rfl]
    have h : dv (fconv .f32 .f64 x) < dv 0 := h
    rw [c2, z] at h
    obtain ⟨s1, s2⟩ := u_sub (B := B) zero_df c1 (by rw [c2, z]; exact ⟨by have := hb.2; grind, by have := hb.1; grind⟩) hB
    rw [c2, z] at s2
    have e : rabs (sv x) = 0 - sv x := by unfold rabs; rw [if_neg (by grind)]; grind
    rw [e]; exact ⟨s1, s2⟩
  · rw [decide_eq_false h, if_neg (by simp)]
    have h : ¬ dv (fconv .f32 .f64 x) < dv 0 := h
    rw [c2, z] at h
    obtain ⟨s1, s2⟩ := u_sub (B := B) c1 zero_df (by rw [c2, z]; exact ⟨by have := hb.1; grind, by have := hb.2; grind⟩) hB
    rw [c2, z] at s2
    have e : rabs (sv x) = sv x - 0 := by unfold rabs; rw [if_pos (by grind)]; grind
    rw [e]; exact ⟨s1, s2⟩

section
variable {C : LL} {y : List Nat} {n t0 t1 t2 : Nat}
/-! ### what is left -/
theorem roR_at (c : Cols C y n) (ht : ftT C y = [t0, t1, t2]) {i : Nat} (hi : i < n) : (roR C y).getD i 0 = fsub .f32 (y.getD i 0) (fitAt C [t0, t1, t2] C.length i) ∧ (fitM C (ftT C y)).getD i 0 = fitAt C [t0, t1, t2] C.length i := by
  have hf : (fitM C (ftT C y)).getD i 0 = fitAt C [t0, t1, t2] C.length i := by
    rw [ht]; unfold fitM
    exact tab_get _ _ _ _ (by rw [c.len 0 (by omega)]; exact hi)
  refine ⟨?_, hf⟩
  unfold roR
  rw [less_get _ _ _ (by rw [c.ly]; exact hi), hf]
theorem rest_near (c : Cols C y n) (t : Trm C y n t0 t1 t2) (ht : ftT C y = [t0, t1, t2]) {s : Rat} (s1 : 1 ≤ s) (s2 : s ≤ 10000000000000000) (k0 : Ab s (sv t0)) (k1 : Ab s (sv t1)) (k2 : Ab s (sv t2)) {i : Nat} (hi : i < n) :
    sf ((roR C y).getD i 0) ∧ Nr (sv ((roR C y).getD i 0)) (sv (y.getD i 0) - sv (fitAt C [t0, t1, t2] C.length i)) (21 * s * e24) ∧ Ab (66 * e24 * s) (sv ((roR C y).getD i 0) - (sv (y.getD i 0) - exQ C t0 t1 t2 i)) ∧ Ab (21 * s) (sv ((roR C y).getD i 0)) := by
  rw [(roR_at c ht hi).1]
  obtain ⟨f1, f2, f3⟩ := fit_near c t s1 s2 k0 k1 k2 hi
  have b := ((show Ab 4 (sv (y.getD i 0)) from q_bound (c.qy i hi)).sub f3).mono (show _ ≤ 20 * s by grind)
  obtain ⟨r1, r2, r3⟩ := sub_bd (c.qy i hi).1 f1 b (by grind) (by show _ ≤ (1000000000000000000000000000000000000 : Rat); grind)
  clear k0 k1 k2
  generalize fitAt C [t0, t1, t2] C.length i = f at *
  generalize exQ C t0 t1 t2 i = q at *
  refine ⟨r1, ?_, ?_, r3.mono (by grind)⟩
  · obtain ⟨r2, r4⟩ := r2
    rw [e24v] at *
    exact ⟨by grind, by grind⟩
  · obtain ⟨r2, r4⟩ := r2
    obtain ⟨f2, f4⟩ := f2
    rw [e24v] at *
    exact ⟨by grind, by grind⟩
/-- the squares are finite -/
theorem roS_ok (c : Cols C y n) (t : Trm C y n t0 t1 t2) (ht : ftT C y = [t0, t1, t2]) : finAllM (roR C y) = true ∧ sf (roS C y) ∧ 0 ≤ sv (roS C y) := by
  have hl : (roR C y).length = n := by rw [roR_len, c.ly]
  refine ⟨finAll_of fun i hi => (rest_near (s := 500000000000000) c t ht (by decide) (by decide) t.b0 t.b1 t.b2 (by omega)).1, ?_⟩
  have h := acc_posB (g := fun i => fmul .f32 ((roR C y).getD i 0) ((roR C y).getD i 0)) (D := 500000000000000000000000000000000) (by decide +kernel) (by decide +kernel) n (by have := c.hn; omega) (fun i hi => by
    have r := (rest_near (s := 500000000000000) c t ht (by decide) (by decide) t.b0 t.b1 t.b2 hi)
    exact sq_bd r.1 r.2.2.2 (by decide +kernel) (by decide +kernel))
  have e : roS C y = accN (fun i s => fadd .f32 s (fmul .f32 ((roR C y).getD i 0) ((roR C y).getD i 0))) n 0 := by unfold roS dotM; rw [hl]
  rw [e]
  exact ⟨h.1, h.2.1⟩
theorem fit_ok (c : Cols C y n) (t : Trm C y n t0 t1 t2) (ht : ftT C y = [t0, t1, t2]) : finAllM (fitM C (ftT C y)) = true := by
  refine finAll_of fun i hi => ?_
  rw [fit_len, c.len 0 (by omega)] at hi
  rw [(roR_at c ht hi).2]
  exact (fit_near (s := 500000000000000) c t (by decide) (by decide) t.b0 t.b1 t.b2 hi).1

/-! ### the size of the terms -/
def szW (t0 t1 t2 : Nat) : Nat := fadd .f64 (fadd .f64 (fadd .f64 4607182418800017408 (gapD (fconv .f32 .f64 t0) 0)) (gapD (fconv .f32 .f64 t1) 0)) (gapD (fconv .f32 .f64 t2) 0)
theorem one_dw : df 4607182418800017408 ∧ dv 4607182418800017408 = 1 := by
  have h : fnt double 4607182418800017408 := by unfold fnt; decide +kernel
  exact ⟨h, by decide +kernel⟩
structure Siz (t0 t1 t2 : Nat) : Prop where
  f : df (szW t0 t1 t2)
  a0 : rabs (sv t0) ≤ 1001 / 1000 * dv (szW t0 t1 t2)
  a1 : rabs (sv t1) ≤ 1001 / 1000 * dv (szW t0 t1 t2)
  a2 : rabs (sv t2) ≤ 1001 / 1000 * dv (szW t0 t1 t2)
  lo : 1 ≤ 1001 / 1000 * dv (szW t0 t1 t2)
  hi : 1001 / 1000 * dv (szW t0 t1 t2) ≤ 2000000000000000
theorem Trm.siz (t : Trm C y n t0 t1 t2) : Siz t0 t1 t2 := by
  have r0 := rabs_nonneg (sv t0); have r1 := rabs_nonneg (sv t1); have r2 := rabs_nonneg (sv t2)
  have b0 := t.b0.rabs; have b1 := t.b1.rabs; have b2 := t.b2.rabs
  obtain ⟨g1, g2⟩ := gap_zero t.f0 (ab_rabs _) (by show _ ≤ (1000000000000000000000000000000000000 : Rat); grind)
  obtain ⟨h1, h2⟩ := gap_zero t.f1 (ab_rabs _) (by show _ ≤ (1000000000000000000000000000000000000 : Rat); grind)
  obtain ⟨i1, i2⟩ := gap_zero t.f2 (ab_rabs _) (by show _ ≤ (1000000000000000000000000000000000000 : Rat); grind)
  obtain ⟨o1, o2⟩ := one_dw
  have key : df (szW t0 t1 t2) ∧ Nr (dv (szW t0 t1 t2)) (1 + rabs (sv t0) + rabs (sv t1) + rabs (sv t2)) (1 / 10000 * (1 + rabs (sv t0) + rabs (sv t1) + rabs (sv t2))) := by
    unfold szW
    generalize gapD (fconv .f32 .f64 t0) 0 = w0 at *
    generalize gapD (fconv .f32 .f64 t1) 0 = w1 at *
    generalize gapD (fconv .f32 .f64 t2) 0 = w2 at *
    generalize rabs (sv t0) = x0 at *
    generalize rabs (sv t1) = x1 at *
    generalize rabs (sv t2) = x2 at *
    rw [e53v, etav] at g2 h2 i2
    obtain ⟨g2, g3⟩ := g2
    obtain ⟨h2, h3⟩ := h2
    obtain ⟨i2, i3⟩ := i2
    clear t
    obtain ⟨p1, p2⟩ := u_add (B := 2 * (1 + x0)) o1 g1 (by rw [o2]; exact ⟨by grind, by grind⟩) (by show _ ≤ (1000000000000000000000000000000000000 : Rat); grind)
    rw [o2, e53v, etav] at p2
    obtain ⟨p2, p3⟩ := p2
    generalize fadd .f64 4607182418800017408 w0 = z0 at *
    obtain ⟨q1, q2⟩ := u_add (B := 2 * (1 + x0 + x1)) p1 h1 ⟨by grind, by grind⟩ (by show _ ≤ (1000000000000000000000000000000000000 : Rat); grind)
    rw [e53v, etav] at q2
    obtain ⟨q2, q3⟩ := q2
    generalize fadd .f64 z0 w1 = z1 at *
    obtain ⟨u1, u2⟩ := u_add (B := 2 * (1 + x0 + x1 + x2)) q1 i1 ⟨by grind, by grind⟩ (by show _ ≤ (1000000000000000000000000000000000000 : Rat); grind)
    rw [e53v, etav] at u2
    obtain ⟨u2, u3⟩ := u2
    exact ⟨u1, by grind, by grind⟩
  obtain ⟨k1, k2, k3⟩ := key
  exact ⟨k1, by grind, by grind, by grind, by grind, by grind⟩
end
end Go.Proofs.LV
