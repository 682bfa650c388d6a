/- Numbers that are not finite stay so; a root of what is greater than 0 is greater than 0. -/
import Derived.Test.YtjfgmnfkkehgfaaLvSqrt
import Derived.Test.YtjfgmnfkkehgfaaLvFnDX
namespace Go.Proofs.LV
open Go Ieee
set_option linter.unusedVariables false
set_option linter.unusedSimpArgs false

theorem inf_write (s : Bool) : single.read (single.write (.infinity s)) = .infinity s := by cases s <;> decide
theorem fnan_bad : finM (fnan .f32) = false := by decide
theorem finM_iff (x : Nat) : finM x = decide (rung single x < single.infRung) := by
  unfold finM fsub Format.sub
  show feq .f32 ((Option.map single.write ((single.read x).sum (single.read x).opposite)).getD (fnan .f32)) 0 = _
  rcases Nat.lt_trichotomy (rung single x) single.infRung with h | h | h
  · obtain ⟨m, p, e, _⟩ := read_num h
    have ez : (Option.map single.write ((single.read x).sum (single.read x).opposite)) = some 0 := by
      rw [e]
      generalize sign single x = s
      have : Datum.sum (.number s m (single.leastPlace + (p : Nat))) (Datum.opposite (.number s m (single.leastPlace + (p : Nat)))) = some (.number false 0 (single.leastPlace + (p : Nat))) := by
        cases s <;> simp [Datum.sum, Datum.opposite, signed] <;> omega
      rw [this, Option.map_some]
      show some (single.nearest false 0 _) = some 0
      unfold Format.nearest; rw [if_pos rfl]; rfl
    rw [ez, Option.getD_some, decide_eq_true h]; decide
  · have e := read_inf (fmt_ok .f32) h
    have e : single.read x = .infinity (sign single x) := e
    have ez : (Option.map single.write ((single.read x).sum (single.read x).opposite)) = none := by
      rw [e]
      cases sign single x <;> rfl
    rw [ez]
    have : ¬ (rung single x < single.infRung) := by omega
    rw [decide_eq_false this]; decide
  · have e := read_nan (fmt_ok .f32) h
    have e : (single.read x).isNaN = true := e
    have ez : (Option.map single.write ((single.read x).sum (single.read x).opposite)) = none := by
      cases h3 : single.read x <;> simp [h3, Datum.isNaN] at e
      rfl
    rw [ez]
    have : ¬ (rung single x < single.infRung) := by omega
    rw [decide_eq_false this]; decide
theorem bad_class {x : Nat} (h : finM x = false) : (∃ s, single.read x = .infinity s) ∨ ∃ s t, single.read x = .nan s t := by
  rw [finM_iff] at h
  have h := of_decide_eq_false h
  rcases Nat.lt_or_eq_of_le (Nat.le_of_not_lt h) with h | h
  · right
    have e : (single.read x).isNaN = true := read_nan (fmt_ok .f32) h
    cases h3 : single.read x <;> simp [h3, Datum.isNaN] at e
    exact ⟨_, _, rfl⟩
  · left; exact ⟨_, read_inf (fmt_ok .f32) h.symm⟩
theorem fin_class {x : Nat} (h : finM x = true) : ∃ s m e, single.read x = .number s m e := by
  rw [finM_iff] at h
  obtain ⟨m, p, e, _⟩ := read_num (of_decide_eq_true h)
  exact ⟨_, _, _, e⟩
theorem inf_bad {x : Nat} {s : Bool} (h : single.read x = .infinity s) : finM x = false := by
  rw [finM_iff]
  cases hd : decide (rung single x < single.infRung) with
  | false => rfl
  | true =>
    obtain ⟨m, p, e, _⟩ := read_num (of_decide_eq_true hd)
    rw [h] at e; cases e
theorem bad_getD {o : Option Datum} (h : ∀ d, o = some d → ∃ s, d = .infinity s) : finM ((o.map single.write).getD (fnan .f32)) = false := by
  cases o with
  | none => exact fnan_bad
  | some d =>
    obtain ⟨s, rfl⟩ := h d rfl
    exact inf_bad (inf_write s)
theorem bad_add {a b : Nat} (h : finM b = false) : finM (fadd .f32 a b) = false := by
  refine bad_getD (o := (single.read a).sum (single.read b)) fun d hd => ?_
  rcases bad_class h with ⟨s, e⟩ | ⟨s, t, e⟩
  · rw [e] at hd
    cases ha : single.read a with
    | number u m i => rw [ha] at hd; cases hd; exact ⟨_, rfl⟩
    | infinity u =>
      rw [ha] at hd
      simp only [Datum.sum] at hd
      split at hd
      · cases hd; exact ⟨_, rfl⟩
      · cases hd
    | nan u v => rw [ha] at hd; cases hd
  · rw [e] at hd
    cases ha : single.read a <;> rw [ha] at hd <;> cases hd
theorem bad_sub {a b : Nat} (ha : finM a = true) (h : finM b = false) : finM (fsub .f32 a b) = false := by
  obtain ⟨u, m, i, ha⟩ := fin_class ha
  refine bad_getD (o := (single.read a).sum (single.read b).opposite) fun d hd => ?_
  rw [ha] at hd
  rcases bad_class h with ⟨s, e⟩ | ⟨s, t, e⟩
  · rw [e] at hd; cases hd; exact ⟨_, rfl⟩
  · rw [e] at hd; cases hd
theorem bad_square {a : Nat} (h : finM a = false) : finM (fmul .f32 a a) = false := by
  refine bad_getD (o := (single.read a).product (single.read a)) fun d hd => ?_
  rcases bad_class h with ⟨s, e⟩ | ⟨s, t, e⟩
  · rw [e] at hd; cases hd; exact ⟨_, rfl⟩
  · rw [e] at hd; cases hd
theorem bad_div {a b : Nat} (h : finM a = false) (hb : finM b = true) : finM (fdiv .f32 a b) = false := by
  obtain ⟨u, m, i, hb⟩ := fin_class hb
  refine bad_getD (o := (single.read a).quotient (single.fractionBits + 2) (single.read b)) fun d hd => ?_
  rw [hb] at hd
  rcases bad_class h with ⟨s, e⟩ | ⟨s, t, e⟩
  · rw [e] at hd; cases hd; exact ⟨_, rfl⟩
  · rw [e] at hd; cases hd
theorem nan_narrow : fconv .f64 .f32 (fnan .f64) = fnan .f32 := by decide
theorem bad_root {x : Nat} (h : finM x = false) : finM (rootM x) = false := by
  unfold rootM
  rcases bad_class h with ⟨s, e⟩ | ⟨s, t, e⟩
  · have e1 : fconv .f32 .f64 x = double.word s double.infRung := by
      unfold fconv
      simp only [reduceCtorEq, if_false, FloatKind.decode, FloatKind.format, e]; rfl
    rw [e1]
    cases s <;> decide
  · have e1 : fconv .f32 .f64 x = fnan .f64 := by
      unfold fconv
      simp only [reduceCtorEq, if_false, FloatKind.decode, FloatKind.format, e]
    rw [e1]
    decide
theorem small_fin : ∀ n : Fin 97, finM (fofi .f32 (n.val : Int)) = true := by decide +kernel

/-! ### what is greater than 0 has a root greater than 0 -/
theorem nearest_exact (f : Format) (neg : Bool) (mag : Nat) (place : Int) (h0 : mag ≠ 0) (hm : mag < 2 * f.binade) (hp : f.leastPlace ≤ place) (hr : (place - f.leastPlace).toNat * f.binade + 2 * f.binade ≤ f.infRung) :
    ∃ r, f.nearest neg mag place = f.word neg r ∧ r < f.infRung ∧ units f.binade r = mag * 2 ^ (place - f.leastPlace).toNat := by
  have hB : f.binade = 2 ^ f.fractionBits := rfl
  have hlog : mag.log2 ≤ f.fractionBits := by
    have := log2_lt' (show mag < 2 ^ (f.fractionBits + 1) by rw [Nat.pow_succ, Nat.mul_comm]; exact hm) h0
    omega
  have hlo : 2 ^ mag.log2 ≤ mag := Nat.log2_self_le h0
  have hhi : mag < 2 ^ (mag.log2 + 1) := Nat.lt_log2_self
  unfold Format.nearest
  rw [if_neg h0]
  generalize hl : max (place + (mag.log2 : Int) - f.fractionBits) f.leastPlace = last
  have hd : (last - place).toNat = 0 := by omega
  simp only [hd, cut_zero, Nat.shiftLeft_eq]
  generalize hs : (place - last).toNat = s
  have hs2 : mag.log2 + s ≤ f.fractionBits := by omega
  have hk : mag * 2 ^ s < 2 * f.binade := by
    calc mag * 2 ^ s < 2 ^ (mag.log2 + 1) * 2 ^ s := Nat.mul_lt_mul_of_pos_right hhi (Nat.two_pow_pos _)
      _ = 2 ^ (mag.log2 + 1 + s) := (Nat.pow_add ..).symm
      _ ≤ 2 ^ (f.fractionBits + 1) := Nat.pow_le_pow_right (by omega) (by omega)
      _ = 2 * f.binade := by rw [Nat.pow_succ, Nat.mul_comm, hB]
  have hql : (last - f.leastPlace).toNat ≤ (place - f.leastPlace).toNat := by omega
  have hmul := Nat.mul_le_mul_right f.binade hql
  have hlt : (last - f.leastPlace).toNat * f.binade + mag * 2 ^ s < f.infRung := by omega
  refine ⟨_, rfl, by rw [Nat.min_eq_left (Nat.le_of_lt hlt)]; exact hlt, ?_⟩
  rw [Nat.min_eq_left (Nat.le_of_lt hlt)]
  have hBp : 0 < f.binade := Nat.two_pow_pos _
  have etot : (place - f.leastPlace).toNat = s + (last - f.leastPlace).toNat := by omega
  rw [etot, Nat.pow_add, ← Nat.mul_assoc]
  by_cases hq : (last - f.leastPlace).toNat = 0
  · rw [hq, Nat.zero_mul, Nat.zero_add, Nat.pow_zero, Nat.mul_one]
    unfold units
    split
    · rfl
    · rename_i h
      have h1 : mag * 2 ^ s / f.binade = 1 := by
        have h2 := Nat.div_lt_of_lt_mul (show mag * 2 ^ s < f.binade * 2 by omega)
        have h3 := (Nat.le_div_iff_mul_le hBp).2 (show 1 * f.binade ≤ mag * 2 ^ s by omega)
        omega
      have h4 := Nat.div_add_mod (mag * 2 ^ s) f.binade
      rw [h1] at h4 ⊢
      simp; omega
  · generalize (last - f.leastPlace).toNat = q at *
    have hsx : mag.log2 + s = f.fractionBits := by omega
    have hge : f.binade ≤ mag * 2 ^ s := by
      calc f.binade = 2 ^ (mag.log2 + s) := by rw [hsx, hB]
        _ = 2 ^ mag.log2 * 2 ^ s := Nat.pow_add ..
        _ ≤ mag * 2 ^ s := Nat.mul_le_mul_right _ hlo
    generalize mag * 2 ^ s = k at *
    have h1 : (q * f.binade + k) / f.binade = q + 1 := by
      rw [Nat.mul_comm, Nat.mul_add_div hBp]
      have h2 := Nat.div_lt_of_lt_mul (show k < f.binade * 2 by omega)
      have h3 := (Nat.le_div_iff_mul_le hBp).2 (show 1 * f.binade ≤ k by omega)
      omega
    have h4 : (q * f.binade + k) % f.binade = k - f.binade := by
      have := Nat.div_add_mod (q * f.binade + k) f.binade
      rw [h1, Nat.mul_succ, Nat.mul_comm f.binade q] at this
      omega
    unfold units
    rw [if_neg (by have := Nat.le_mul_of_pos_left f.binade (show 0 < q by omega); omega), h1, h4, Nat.add_sub_cancel]
    rw [show f.binade + (k - f.binade) = k by omega]
theorem cut_ge (neg : Bool) (n d : Nat) (h : d ≤ n.log2 + 2) : n / 2 ^ d ≤ Toward.even.cut neg n d := by
  unfold Toward.cut
  simp only
  rw [Nat.min_eq_left h, Nat.shiftLeft_eq, Nat.one_mul]
  exact Nat.le_add_right _ _
theorem nearest_ge (f : Format) (neg : Bool) (mag : Nat) (place K : Int) (h0 : mag ≠ 0) (hK : K ≤ place + mag.log2) (hL : f.leastPlace + f.fractionBits ≤ K) :
    ∃ r, f.nearest neg mag place = f.word neg r ∧ r ≤ f.infRung ∧ min (((K - f.fractionBits - f.leastPlace).toNat + 1) * f.binade) f.infRung ≤ r := by
  have hlo : 2 ^ mag.log2 ≤ mag := Nat.log2_self_le h0
  unfold Format.nearest
  rw [if_neg h0]
  refine ⟨_, rfl, Nat.min_le_right _ _, ?_⟩
  have hl : max (place + (mag.log2 : Int) - f.fractionBits) f.leastPlace = place + (mag.log2 : Int) - f.fractionBits := by omega
  rw [hl]
  have h2 : (K - f.fractionBits - f.leastPlace).toNat ≤ (place + (mag.log2 : Int) - f.fractionBits - f.leastPlace).toNat := by omega
  have h3 := Nat.mul_le_mul_right f.binade h2
  have hB : f.binade = 2 ^ f.fractionBits := rfl
  have hk : f.binade ≤ Toward.even.cut neg (mag <<< (place - (place + (mag.log2 : Int) - f.fractionBits)).toNat) (place + (mag.log2 : Int) - f.fractionBits - place).toNat := by
    by_cases hc : (place + (mag.log2 : Int) - f.fractionBits - place).toNat = 0
    · rw [hc, cut_zero, Nat.shiftLeft_eq]
      calc f.binade = 2 ^ (mag.log2 + (place - (place + (mag.log2 : Int) - f.fractionBits)).toNat) := by rw [hB]; congr 1; omega
        _ = 2 ^ mag.log2 * 2 ^ (place - (place + (mag.log2 : Int) - f.fractionBits)).toNat := Nat.pow_add ..
        _ ≤ mag * 2 ^ (place - (place + (mag.log2 : Int) - f.fractionBits)).toNat := Nat.mul_le_mul_right _ hlo
    · have hz : (place - (place + (mag.log2 : Int) - f.fractionBits)).toNat = 0 := by omega
      rw [hz, Nat.shiftLeft_zero]
      refine Nat.le_trans ?_ (cut_ge neg mag _ (by omega))
      rw [Nat.le_div_iff_mul_le (Nat.two_pow_pos _), hB, ← Nat.pow_add]
      exact Nat.le_trans (Nat.pow_le_pow_right (by omega) (by omega)) hlo
  rw [Nat.add_mul, Nat.one_mul]
  omega
theorem read_big {f : Format} {x m : Nat} {s : Bool} {e : Int} {q : Nat} (hr : f.read x = .number s m e) (hx : (q + 1) * f.binade ≤ rung f x) : f.binade ≤ m ∧ f.leastPlace + q ≤ e := by
  unfold Format.read at hr
  unfold rung at hx
  simp only at hr
  have hB : 0 < f.binade := Nat.two_pow_pos _
  rw [Nat.add_mul, Nat.one_mul] at hx
  split at hr
  · omega
  · split at hr
    · cases hr
      have h2 : q + 1 ≤ x % f.signWeight / f.binade := by rw [Nat.le_div_iff_mul_le hB, Nat.add_mul, Nat.one_mul]; exact hx
      omega
    · split at hr <;> cases hr
theorem rootFrom_ge (n : Nat) : ∀ todo root, root ≤ Datum.rootFrom n todo root
  | 0, root => by simp [Datum.rootFrom]
  | todo + 1, root => by
    unfold Datum.rootFrom
    simp only
    have h1 := rootFrom_ge n todo (root + 1 <<< todo)
    have h2 := rootFrom_ge n todo root
    have := Nat.two_pow_pos todo
    rw [Nat.shiftLeft_eq, Nat.one_mul] at *
    split <;> omega
theorem rootFrom_half {n : Nat} (h0 : n ≠ 0) : 2 ^ (n.log2 / 2) ≤ Datum.rootFrom n (n.log2 / 2 + 1) 0 := by
  have h : 1 <<< (n.log2 / 2) * 1 <<< (n.log2 / 2) ≤ n := by
    rw [Nat.shiftLeft_eq, Nat.one_mul, ← Nat.pow_add]
    exact Nat.le_trans (Nat.pow_le_pow_right (by omega) (by omega)) (Nat.log2_self_le h0)
  unfold Datum.rootFrom
  simp only [Nat.zero_add]
  rw [if_pos h]
  have := rootFrom_ge n (n.log2 / 2) (1 <<< (n.log2 / 2))
  simpa [Nat.shiftLeft_eq] using this
theorem zero_srung : srung .f32 0 = 0 := by decide
theorem zero_nan : nanB .f32 0 = false := by decide
theorem fgt_word {r : Nat} (h0 : 0 < r) (h : r ≤ single.infRung) : fgt .f32 (single.word false r) 0 = true := by
  have hr := rung_word single false r h
  have hs : sign single (single.word false r) = false := (read_word_rung single false r (Nat.lt_of_le_of_lt h single.infRung_lt)).2
  have hn : nanB .f32 (single.word false r) = false := by
    rw [nanB_iff]
    show decide (single.infRung < rung single (single.word false r)) = false
    rw [hr]; exact decide_eq_false (by omega)
  have e : srung .f32 (single.word false r) = r := by
    show sg (sign single (single.word false r)) (rung single (single.word false r)) = _
    rw [hr, hs]; rfl
  rw [fgt_eq, hn, zero_nan, e, zero_srung]
  simp; exact h0
theorem fgt_class {x : Nat} (h : fgt .f32 x 0 = true) : nanB .f32 x = false ∧ sign single x = false ∧ 0 < rung single x := by
  rw [fgt_eq, zero_nan, zero_srung] at h
  simp only [Bool.and_eq_true, Bool.not_eq_true', decide_eq_true_eq] at h
  obtain ⟨h1, _, h2⟩ := h
  refine ⟨h1, ?_⟩
  have h2 : 0 < sg (sign single x) (rung single x) := h2
  cases hs : sign single x with
  | false => rw [hs] at h2; refine ⟨rfl, ?_⟩; unfold sg at h2; simp at h2; omega
  | true => rw [hs] at h2; unfold sg at h2; simp at h2; omega
theorem over_ok {pl : Int} (h0 : -149 ≤ pl) (h : pl ≤ 105) : (pl - double.leastPlace).toNat * double.binade + 2 * double.binade ≤ double.infRung := by
  have h1 : (pl - double.leastPlace).toNat ≤ 1179 := by rw [dbl.1]; omega
  have h2 := Nat.mul_le_mul_right double.binade h1
  have h3 : 1179 * double.binade + 2 * double.binade ≤ double.infRung := by decide
  exact Nat.le_trans (Nat.add_le_add_right h2 _) h3
/-- a number of the lesser format in the greater one -/
theorem conv_read {x m : Nat} {s : Bool} {pl : Int} (e : single.read x = .number s m pl) (hm0 : m ≠ 0) : ∃ m' i', double.read (fconv .f32 .f64 x) = .number s m' i' ∧ m' ≠ 0 := by
  have hb := read32_bounds e
  have hx : rung single x < single.infRung := by
    rcases Nat.lt_trichotomy (rung single x) single.infRung with h | h | h
    · exact h
    · have := read_inf (fmt_ok .f32) h
      have : single.read x = .infinity (sign single x) := this
      rw [this] at e; cases e
    · have := read_nan (fmt_ok .f32) h
      have : (single.read x).isNaN = true := this
      rw [e] at this; cases this
  have hle : pl ≤ 105 := by
    have := (read_small (f := single) (q := 255) (by omega) e (by rw [sgl.2.2.1]; rw [sgl.2.2.2] at hx; omega)).2.1
    have := sgl.1
    omega
  have ey : fconv .f32 .f64 x = double.nearest s m pl := by
    unfold fconv
    simp only [reduceCtorEq, if_false, FloatKind.decode, FloatKind.format, e, FloatKind.encode, Format.write]
  obtain ⟨r, e1, hr, hur⟩ := nearest_exact double s m pl hm0 (by rw [dbl.2.2]; omega) (by rw [dbl.1]; omega) (over_ok hb.2.1 hle)
  have hrw := rung_word double s r (Nat.le_of_lt hr)
  have hsw : sign double (double.word s r) = s := (read_word_rung double s r (Nat.lt_of_le_of_lt (Nat.le_of_lt hr) double.infRung_lt)).2
  obtain ⟨m', p', e2, hu2⟩ := read_num (f := double) (x := double.word s r) (by rw [hrw]; exact hr)
  rw [hsw] at e2
  rw [hrw, hur] at hu2
  refine ⟨m', _, by rw [ey, e1]; exact e2, fun h0 => ?_⟩
  rw [h0, Nat.zero_mul] at hu2
  exact Nat.mul_ne_zero hm0 (Nat.ne_of_gt (Nat.two_pow_pos _)) hu2.symm
theorem root_pos {x : Nat} (h : fgt .f32 x 0 = true) : fgt .f32 (rootM x) 0 = true := by
  obtain ⟨hn, hs, hr0⟩ := fgt_class h
  rw [nanB_iff] at hn
  have hn : ¬ (single.infRung < rung single x) := of_decide_eq_false hn
  unfold rootM
  rcases Nat.lt_or_eq_of_le (Nat.le_of_not_lt hn) with hx | hx
  · obtain ⟨m, p, e, hu⟩ := read_num hx
    rw [hs] at e
    have hb := read32_bounds e
    have hle : single.leastPlace + (p : Int) ≤ 105 := by
      have := (read_small (f := single) (q := 255) (by omega) e (by rw [sgl.2.2.1]; rw [sgl.2.2.2] at hx; omega)).2.1
      have := sgl.1
      omega
    have hm0 : m ≠ 0 := by
      intro h0
      rw [h0, Nat.zero_mul] at hu
      have := units_lt (binade_pos single) hr0
      omega
    generalize single.leastPlace + (p : Int) = pl at *
    have ey : fconv .f32 .f64 x = double.nearest false m pl := by
      unfold fconv
      simp only [reduceCtorEq, if_false, FloatKind.decode, FloatKind.format, e, FloatKind.encode, Format.write]
    obtain ⟨r, e1, hr, hur⟩ := nearest_exact double false m pl hm0 (by rw [dbl.2.2]; omega) (by rw [dbl.1]; omega) (over_ok hb.2.1 hle)
    rw [dbl.1, dbl.2.2] at hur
    have hrw := rung_word double false r (Nat.le_of_lt hr)
    have hsw : sign double (double.word false r) = false := (read_word_rung double false r (Nat.lt_of_le_of_lt (Nat.le_of_lt hr) double.infRung_lt)).2
    obtain ⟨m', p', e2, hu2⟩ := read_num (f := double) (x := double.word false r) (by rw [hrw]; exact hr)
    rw [hsw] at e2
    rw [hrw, dbl.2.2, hur] at hu2
    rw [ey, e1]
    have hm'0 : m' ≠ 0 := by
      intro h0
      rw [h0, Nat.zero_mul] at hu2
      have := Nat.mul_ne_zero hm0 (Nat.ne_of_gt (Nat.two_pow_pos (pl - -1074).toNat))
      exact this hu2.symm
    have hm'1 : m' < 2 ^ 53 := by
      have := (read_small (f := double) (q := 2047) (by omega) e2 (by rw [hrw, dbl.2.2]; rw [show double.infRung = 2047 * 2 ^ 52 by decide] at hr; omega)).1
      rw [dbl.2.2] at this; omega
    have hlm : m'.log2 ≤ 52 := by have := log2_lt' hm'1 hm'0; omega
    have hval' : ∀ k : Nat, k = 925 → k ≤ m'.log2 + p' := by
      intro k hk
      have h1 : 2 ^ k ≤ m' * 2 ^ p' := by
        rw [hu2]
        have h2 : 2 ^ k ≤ 2 ^ (pl - -1074).toNat := Nat.pow_le_pow_right (by omega) (by omega)
        exact Nat.le_trans h2 (Nat.le_mul_of_pos_left _ (Nat.pos_of_ne_zero hm0))
      have h2 : m' * 2 ^ p' < 2 ^ (m'.log2 + 1 + p') := by
        rw [Nat.pow_add]
        exact Nat.mul_lt_mul_of_pos_right Nat.lt_log2_self (Nat.two_pow_pos _)
      have h3 := (Nat.pow_lt_pow_iff_right (show 1 < 2 by omega)).1 (Nat.lt_of_le_of_lt h1 h2)
      omega
    have hval := hval' 925 rfl
    rw [dbl.1] at e2
    -- the root
    generalize hmo : 2 * 54 - m'.log2 + (((-1074 + (p' : Int)) - (2 * 54 - m'.log2 : Nat)) % 2).toNat = more
    have hmo2 : 108 ≤ more + m'.log2 ∧ more + m'.log2 ≤ 109 := by omega
    have hn0 : m' <<< more ≠ 0 := by
      rw [Nat.shiftLeft_eq]
      exact Nat.mul_ne_zero hm'0 (Nat.ne_of_gt (Nat.two_pow_pos _))
    have hn2 : 108 ≤ (m' <<< more).log2 := by
      rw [Nat.le_log2 hn0, Nat.shiftLeft_eq]
      calc 2 ^ 108 ≤ 2 ^ (m'.log2 + more) := Nat.pow_le_pow_right (by omega) (by omega)
        _ = 2 ^ m'.log2 * 2 ^ more := Nat.pow_add ..
        _ ≤ m' * 2 ^ more := Nat.mul_le_mul_right _ (Nat.log2_self_le hm'0)
    have hw : 2 ^ 54 ≤ Datum.rootFrom (m' <<< more) ((m' <<< more).log2 / 2 + 1) 0 := Nat.le_trans (Nat.pow_le_pow_right (by omega) (by omega)) (rootFrom_half hn0)
    have er : fsqrt (double.word false r) = double.nearest false (2 * Datum.rootFrom (m' <<< more) ((m' <<< more).log2 / 2 + 1) 0 + (Datum.rootFrom (m' <<< more) ((m' <<< more).log2 / 2 + 1) 0 * Datum.rootFrom (m' <<< more) ((m' <<< more).log2 / 2 + 1) 0 != m' <<< more).toNat) (((-1074 + (p' : Int)) - more) / 2 - 1) := by
      show ((Option.map double.write ((double.read (double.word false r)).root 54)).getD (fnan .f64)) = _
      rw [e2]
      simp only [Datum.root, hm'0, if_false, Bool.false_eq_true, hmo]
      rfl
    rw [er]
    generalize Datum.rootFrom (m' <<< more) ((m' <<< more).log2 / 2 + 1) 0 = whole at *
    generalize (whole * whole != m' <<< more).toNat = bit at *
    have hmag0 : 2 * whole + bit ≠ 0 := by omega
    have hmag : 55 ≤ (2 * whole + bit).log2 := by rw [Nat.le_log2 hmag0]; omega
    generalize 2 * whole + bit = mag at *
    generalize hpl2 : ((-1074 + (p' : Int)) - more) / 2 - 1 = pl2
    obtain ⟨r2, e3, hr2, hr2b⟩ := nearest_ge double false mag pl2 (-75) hmag0 (by omega) (by rw [dbl.1, dbl.2.1]; omega)
    rw [e3]
    rw [dbl.1, dbl.2.1, dbl.2.2, show double.infRung = 2047 * 2 ^ 52 by decide, show ((-75 : Int) - ((52 : Nat) : Int) - (-1074)).toNat = 947 by decide] at hr2b
    have hr2c : 948 * 2 ^ 52 ≤ r2 := by omega
    have hrw2 := rung_word double false r2 hr2
    have hsw2 : sign double (double.word false r2) = false := (read_word_rung double false r2 (Nat.lt_of_le_of_lt hr2 double.infRung_lt)).2
    rcases Nat.lt_or_eq_of_le hr2 with hlt | heq
    · obtain ⟨m3, p3, e4, _⟩ := read_num (f := double) (x := double.word false r2) (by rw [hrw2]; exact hlt)
      rw [hsw2] at e4
      obtain ⟨hm3, hp3⟩ := read_big (q := 947) e4 (by rw [hrw2, dbl.2.2]; exact hr2c)
      rw [dbl.2.2] at hm3
      rw [dbl.1] at hp3 e4
      have ez : fconv .f64 .f32 (double.word false r2) = single.nearest false m3 (-1074 + (p3 : Int)) := by
        unfold fconv
        simp only [reduceCtorEq, if_false, FloatKind.decode, FloatKind.format, e4, FloatKind.encode, Format.write]
      have hm30 : m3 ≠ 0 := by omega
      have hl3 : 52 ≤ m3.log2 := by rw [Nat.le_log2 hm30]; exact hm3
      obtain ⟨r3, e5, hr3, hr3b⟩ := nearest_ge single false m3 (-1074 + (p3 : Int)) (-75) hm30 (by omega) (by rw [sgl.1, sgl.2.1]; omega)
      rw [ez, e5]
      rw [sgl.1, sgl.2.1, sgl.2.2.1, sgl.2.2.2, show ((-75 : Int) - ((23 : Nat) : Int) - (-149)).toNat = 51 by decide] at hr3b
      exact fgt_word (by omega) hr3
    · rw [heq]; decide
  · have e := read_inf (fmt_ok .f32) hx
    have e : single.read x = .infinity (sign single x) := e
    rw [hs] at e
    have e1 : fconv .f32 .f64 x = double.word false double.infRung := by
      unfold fconv
      simp only [reduceCtorEq, if_false, FloatKind.decode, FloatKind.format, e]; rfl
    rw [e1]; decide
theorem root_npos {x : Nat} (h : fgt .f32 x 0 = false) : fgt .f32 (rootM x) 0 = false := by
  unfold rootM
  cases e : single.read x with
  | nan s t =>
    have e1 : fconv .f32 .f64 x = fnan .f64 := by
      unfold fconv
      simp only [reduceCtorEq, if_false, FloatKind.decode, FloatKind.format, e]
    rw [e1]; decide
  | infinity s =>
    have e1 : fconv .f32 .f64 x = double.word s double.infRung := by
      unfold fconv
      simp only [reduceCtorEq, if_false, FloatKind.decode, FloatKind.format, e]; rfl
    cases s with
    | true => rw [e1]; decide
    | false =>
      exfalso
      have : fgt .f32 x 0 = true := by
        have e0 : single.read 0 = .number false 0 (-149) := by decide
        show (single.order x 0 == some .gt) = true
        unfold Format.order; rw [e, e0]; rfl
      rw [this] at h; cases h
  | number s m pl =>
    by_cases hm0 : m = 0
    · subst hm0
      have e1 : fconv .f32 .f64 x = double.word s 0 := by
        unfold fconv
        simp only [reduceCtorEq, if_false, FloatKind.decode, FloatKind.format, e, FloatKind.encode, Format.write]
        unfold Format.nearest; rw [if_pos rfl]
      rw [e1]
      cases s <;> decide
    · obtain ⟨m', i', e2, hm'⟩ := conv_read e hm0
      cases s with
      | true =>
        have : fsqrt (fconv .f32 .f64 x) = fnan .f64 := by
          show ((Option.map double.write ((double.read (fconv .f32 .f64 x)).root 54)).getD (fnan .f64)) = _
          rw [e2]
          simp [Datum.root, hm']
        rw [this]; decide
      | false =>
        exfalso
        have : fgt .f32 x 0 = true := by
          have e0 : single.read 0 = .number false 0 (-149) := by decide
          show (single.order x 0 == some .gt) = true
          unfold Format.order; rw [e, e0]
          simp only [Datum.order, signed_eq, sg, Bool.false_eq_true, if_false, Nat.zero_mul]
          have hp : 0 < m * 2 ^ (pl - min pl (-149)).toNat := Nat.mul_pos (Nat.pos_of_ne_zero hm0) (Nat.two_pow_pos _)
          generalize m * 2 ^ (pl - min pl (-149)).toNat = u at *
          simp only [compare, compareOfLessAndEq]
          rw [if_neg (by omega), if_neg (by omega)]; rfl
        rw [this] at h; cases h
theorem root_gt (x : Nat) : fgt .f32 (rootM x) 0 = fgt .f32 x 0 := by
  cases h : fgt .f32 x 0 with
  | true => exact root_pos h
  | false => exact root_npos h
end Go.Proofs.LV
