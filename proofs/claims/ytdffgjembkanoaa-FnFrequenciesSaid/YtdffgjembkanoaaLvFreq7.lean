/- Tapers of short series make nothing greater, nearly. -/
import Derived.Test.YtdffgjembkanoaaLvFreq6
import Derived.Test.YtdffgjembkanoaaLvFreqT6
namespace Go.Proofs.LV
open Go Ieee
set_option linter.unusedVariables false
set_option linter.unusedSimpArgs false

/-! ### tapers -/
def tpO (x : Nat) : Option (Nat × Nat × Nat) := tpL.find? fun e => Nat.beq e.1 x
theorem tpO_ok {x : Nat} {e : Nat × Nat × Nat} (h : tpO x = some e) : (phM x).1 = e.2.1 := by
  have h1 : e.1 = x := Nat.eq_of_beq_eq_true (by have := List.find?_some h; exact this)
  have h2 := List.all_eq_true.1 tpL_ok e (List.mem_of_find?_eq_some h)
  rw [← h1, phF_ok h2]
def bxR (w : Nat) : Bool := Nat.blt (rung single w) single.infRung && Nat.ble ((gI w).natAbs * 10000) (10001 * 2 ^ 149)
def tpC (n i : Nat) : Bool := (match tpO (fconv .f32 .f64 (tpT n i)) with | some e => bxR (fsub .f32 1056964608 (fmul .f32 1056964608 e.2.1)) | none => false) &&
  bxR (fsub .f32 1065353216 (absF (fsub .f32 (fmul .f32 1073741824 (tpT n i)) 1065353216)))
theorem tpC_all : (allN 21 fun n => allN n fun i => tpC n i) = true := by decide +kernel
theorem bxR_ok {w : Nat} (h : bxR w = true) : sf w ∧ rabs (sv w) ≤ 10001 / 10000 := by
  unfold bxR at h
  rw [Bool.and_eq_true] at h
  have h2 := nat_le_rat (Nat.le_of_ble_eq_true h.2)
  rw [Rat.natCast_mul, Rat.natCast_mul] at h2
  have k1 : ((10000 : Nat) : Rat) = 10000 := rfl
  have k2 : ((10001 : Nat) : Rat) = 10001 := rfl
  rw [k1, k2] at h2
  have h3 := Rat.mul_le_mul_of_nonneg_right h2 (Rat.le_of_lt (zp_pos (-149)))
  have h4 := p149
  refine ⟨Nat.le_of_ble_eq_true h.1, ?_⟩
  rw [gI_abs]
  grind
theorem one_w : bxR 1065353216 = true := by decide +kernel
theorem tpW_ok {n i : Nat} (hn : n ≤ 20) (hi : i < n) (kind : Int) : sf (tpW kind n i) ∧ rabs (sv (tpW kind n i)) ≤ 10001 / 10000 := by
  have h := allN_iff.1 (allN_iff.1 tpC_all n (by omega)) i hi
  unfold tpC at h
  rw [Bool.and_eq_true] at h
  by_cases h1 : kind = 1
  · rw [tp_1 h1]
    have h := h.1
    cases he : tpO (fconv .f32 .f64 (tpT n i)) with
    | none => rw [he] at h; cases h
    | some e =>
      rw [he] at h
      rw [tpO_ok he]
      exact bxR_ok h
  · by_cases h2 : kind = 2
    · rw [tp_2 h2]; exact bxR_ok h.2
    · rw [tp_3 h1 h2]; exact bxR_ok one_w
theorem gap_nil {x : Nat} (hx : df x) (h1 : -100 ≤ dv x) (h2 : dv x ≤ 100) : df (gapD x 0) ∧ Nr (dv (gapD x 0)) (rabs (dv x)) (1 / 1000000000) := by
  have z0 : dv 0 = 0 := zero_rv _
  have small : (100 : Rat) * e53 + eta ≤ 1 / 1000000000 := by decide +kernel
  obtain ⟨a1, a2, a3⟩ := d_sub (B := 100) zero_df hx (by rw [z0]; grind) (by rw [z0]; grind) (by decide)
  obtain ⟨b1, b2, b3⟩ := d_sub (B := 100) hx zero_df (by rw [z0]; grind) (by rw [z0]; grind) (by decide)
  rw [z0] at a2 a3 b2 b3
  have hf := flt_rv (k := .f64) hx zero_df
  have hf : flt .f64 x 0 = decide (dv x < dv 0) := hf
  rw [z0] at hf
  unfold gapD
  rw [hf]
  by_cases h : dv x < 0
  · rw [decide_eq_true h, if_pos rfl]
    have e : rabs (dv x) = - dv x := if_neg (Rat.not_le.2 h)
    rw [e]
    exact ⟨a1, by grind, by grind⟩
  · rw [decide_eq_false h, if_neg (by decide)]
    have e : rabs (dv x) = dv x := if_pos (Rat.not_lt.1 h)
    rw [e]
    exact ⟨b1, by grind, by grind⟩
section
variable {a : List Nat} {n : Nat}
theorem tp_near (s : SA a n) {kind : Int} {i : Nat} (hi : i < n) : sf ((tpM a kind n).getD i 0) ∧ rabs (sv ((tpM a kind n).getD i 0)) ≤ rabs (al a i) + 5 / 10000 := by
  have e : (tpM a kind n).getD i 0 = fmul .f32 (a.getD i 0) (tpW kind n i) := by
    unfold tpM
    rw [tab_get _ _ _ _ hi, s.ln]
  obtain ⟨w1, w2⟩ := tpW_ok s.hn.2 hi kind
  obtain ⟨x1, b1, b2⟩ := s.bd i hi
  have hw := le_rabs (sv (tpW kind n i))
  have hr := rabs_nonneg (al a i)
  have m := mul_size (c := al a i) (d := 0) (a := sv (tpW kind n i)) (b := 0) (L := 10001 / 10000) (by decide +kernel) ⟨by grind, by grind⟩ ⟨by decide +kernel, by decide +kernel⟩
  have z0 : rabs 0 = 0 := by decide
  rw [z0] at m
  have hle : rabs (al a i) ≤ 4 := rabs_le b1 b2
  have ea : sv (a.getD i 0) = al a i := rfl
  obtain ⟨r1, r2, r3⟩ := s_mul (B := 5) x1 w1 (by rw [ea]; grind) (by rw [ea]; grind) (by decide)
  rw [ea] at r2 r3
  have small : (5 : Rat) * e24 + eta ≤ 1 / 1000000 := by decide +kernel
  rw [e]
  exact ⟨r1, rabs_le (by grind) (by grind)⟩
theorem taper_held (s : SA a n) {kind : Int} {i : Nat} (hi : i < n) : fgt .f64 (gapD (up ((tpM a kind n).getD i 0)) 0) (fadd .f64 (gapD (up (a.getD i 0)) 0) 4562254508917369340) = false := by
  obtain ⟨t1, t2⟩ := tp_near s (kind := kind) hi
  obtain ⟨x1, b1, b2⟩ := s.bd i hi
  obtain ⟨ut, vt⟩ := conv_up t1
  obtain ⟨ux, vx⟩ := conv_up x1
  have ea : sv (a.getD i 0) = al a i := rfl
  have hle : rabs (al a i) ≤ 4 := rabs_le b1 b2
  have hr := rabs_nonneg (al a i)
  have ht := le_rabs (sv ((tpM a kind n).getD i 0))
  obtain ⟨g1, g2, g3⟩ := gap_nil ut (by rw [vt]; grind) (by rw [vt]; grind)
  obtain ⟨h1, h2, h3⟩ := gap_nil ux (by rw [vx, ea]; grind) (by rw [vx, ea]; grind)
  rw [vt] at g2 g3
  rw [vx, ea] at h2 h3
  obtain ⟨k1, k2, k3⟩ := c001
  have small : (100 : Rat) * e53 + eta ≤ 1 / 1000000000 := by decide +kernel
  obtain ⟨r1, r2, r3⟩ := d_add (B := 100) h1 k1 (by grind) (by grind) (by decide)
  rw [fgt_rv (k := .f64) g1 r1]
  refine decide_eq_false fun hlt => ?_
  have hlt : dv (fadd .f64 (gapD (up (a.getD i 0)) 0) 4562254508917369340) < dv (gapD (up ((tpM a kind n).getD i 0)) 0) := hlt
  grind
theorem one_sv : sf 1065353216 ∧ sv 1065353216 = 1 := by
  have hf : fnt single 1065353216 := by unfold fnt; decide
  exact ⟨hf, lit_neg (n := 23) (m := 8388608) hf (by decide) (by decide +kernel)⟩
theorem taper_none (s : SA a n) {i : Nat} (hi : i < n) : sv ((tpM a 0 n).getD i 0) = sv (a.getD i 0) := by
  have e : (tpM a 0 n).getD i 0 = fmul .f32 (a.getD i 0) 1065353216 := by
    unfold tpM
    rw [tab_get _ _ _ _ hi, s.ln, tp_3 (by decide) (by decide)]
  obtain ⟨x1, b1, b2⟩ := s.bd i hi
  have b1 : -4 ≤ sv (a.getD i 0) := b1
  have b2 : sv (a.getD i 0) ≤ 4 := b2
  obtain ⟨o1, o2⟩ := one_sv
  have eq : rv FloatKind.f32.format (a.getD i 0) * rv FloatKind.f32.format 1065353216 = sv (a.getD i 0) := by
    show sv (a.getD i 0) * sv 1065353216 = _
    rw [o2]; grind
  have hr := fmul_rd .f32 x1 o1 (by rw [eq]; exact topS (rabs_le (by grind) (by grind)))
  rw [eq] at hr
  obtain ⟨s', m, e', r1, r2, r3, r4⟩ := read_under x1
  have r2 : sv (a.getD i 0) = sgR s' ((m : Nat) * (2 : Rat) ^ e') := r2
  have hm : rabs (sv (a.getD i 0)) = (m : Rat) * 2 ^ e' := by rw [r2]; exact rabs_sg (zp_two _ _)
  rw [e]
  exact hr.exact m e' hm r4 r3
end

end Go.Proofs.LV
