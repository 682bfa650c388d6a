/- Texts that belong together. -/
import Derived.Test.YtjfgmnfkkehgfaaLvFnCX
import Derived.Test.YtjfgmnfkkehgfaaLvExtX
import GoSem.Extern.MathSqrt
import Derived.Test.YtjfgmnfkkehgfaaLvFnF
namespace Go.Proofs.LV
open Go Ieee
set_option linter.unusedVariables false
set_option linter.unusedSimpArgs false

theorem root_some {k : Nat} {d e : Datum} (h : d.root k = some e) : e.isNaN = false := by
  cases d with
  | nan s t => simp [Datum.root] at h
  | infinity s =>
    simp only [Datum.root] at h
    split at h
    · cases h
    · cases h; rfl
  | number s m i =>
    simp only [Datum.root] at h
    split at h
    · cases h; rfl
    · split at h
      · cases h
      · cases h; rfl
theorem sqrt_some {a r : Nat} (h : FloatKind.f64.format.sqrt a = some r) : canon .f64 r = r ∧ r < 2 ^ FloatKind.f64.format.width := map_write_canon (fun d hd => root_some hd) h
theorem sqrt_canon (b : Nat) : FloatKind.f64.format.sqrt (canon .f64 b) = FloatKind.f64.format.sqrt b := by
  unfold canon
  split
  · rename_i h
    have nan : ∀ d : Datum, d.isNaN = true → d.root (FloatKind.f64.format.fractionBits + 2) = none := by
      intro d hd
      cases d <;> simp [Datum.isNaN] at hd
      rfl
    have h1 : FloatKind.f64.format.sqrt (fnan .f64) = none := by
      unfold Format.sqrt
      rw [nan _ (nanB_fnan .f64)]; rfl
    have h2 : FloatKind.f64.format.sqrt b = none := by
      unfold Format.sqrt
      rw [nan _ h]; rfl
    rw [h1, h2]
  · rfl
theorem sqrt_ok {P : Program} {f : FuncId} (h : ExtIs P f Extern.MathSqrt.sqrt) (x : Nat) : VCall P f [.f .f64 x] (.f .f64 (fsqrt x)) := by
  refine ext_call h (hr := fun G w vs hv => ?_)
  obtain ⟨u, hu, b, rfl, hb, rfl⟩ := vl1 hv
  obtain ⟨vs⟩ := vs
  simp only at hu
  subst hu
  unfold fsqrt
  rw [sqrt_canon]
  have e : Extern.MathSqrt.sqrt #[.float .f64 b] = (match FloatKind.f64.format.sqrt b with | some r => pure (.float .f64 r) | none => do pure (.float .f64 (← choose (.nanBits .f64 b b)))) := rfl
  cases hs : FloatKind.f64.format.sqrt b with
  | some r =>
    have := sqrt_some hs
    rw [hs] at e
    exact ⟨.float .f64 r, w.drawn, by simp [e], fun G' w' => ⟨r, rfl, this.2, this.1⟩⟩
  | none =>
    rw [hs] at e
    refine ⟨.float .f64 ((Question.nanBits .f64 b b).cut (w.tape w.drawn (.nanBits .f64 b b))), w.drawn + 1, ?_, fun G' w' => ⟨_, rfl, (cut_nan .f64 b b _).2, canon_cut .f64 b b _⟩⟩
    simp [e, choose, Sem.run, Question.forced]

/-! ### how great -/
theorem kept_le (neg : Bool) (mag : Nat) (place last : Int) (fb : Nat) (h0 : mag ≠ 0) (h : place + mag.log2 - fb ≤ last) : Toward.even.cut neg (mag <<< (place - last).toNat) (last - place).toNat ≤ 2 ^ (fb + 1) := by
  have hb : mag < 2 ^ (mag.log2 + 1) := Nat.lt_log2_self
  by_cases hd : (last - place).toNat = 0
  · rw [hd, cut_zero, Nat.shiftLeft_eq]
    apply Nat.le_of_lt
    calc mag * 2 ^ (place - last).toNat < 2 ^ (mag.log2 + 1) * 2 ^ (place - last).toNat := Nat.mul_lt_mul_of_pos_right hb (Nat.two_pow_pos _)
      _ = 2 ^ (mag.log2 + 1 + (place - last).toNat) := (Nat.pow_add ..).symm
      _ ≤ 2 ^ (fb + 1) := Nat.pow_le_pow_right (by omega) (by omega)
  · have hs : (place - last).toNat = 0 := by omega
    rw [hs, Nat.shiftLeft_zero]
    unfold Toward.cut
    simp only
    generalize hg : min (last - place).toNat (mag.log2 + 2) = g
    have hlow : mag / (1 <<< g) < 2 ^ (fb + 1) := by
      rw [Nat.shiftLeft_eq, Nat.one_mul, Nat.div_lt_iff_lt_mul (Nat.two_pow_pos _), ← Nat.pow_add]
      exact Nat.lt_of_lt_of_le hb (Nat.pow_le_pow_right (by omega) (by omega))
    have hm : ∀ b : Bool, b.toNat ≤ 1 := fun b => by cases b <;> simp
    exact Nat.le_trans (Nat.add_le_add_left (hm _) _) hlow
theorem nearest_rung (f : Format) (neg : Bool) (mag : Nat) (place K : Int) (h0 : mag ≠ 0) (hK : place + mag.log2 ≤ K) (hL : f.leastPlace + f.fractionBits ≤ K) :
    ∃ r, f.nearest neg mag place = f.word neg r ∧ r ≤ ((K - f.fractionBits - f.leastPlace).toNat + 2) * f.binade ∧ r ≤ f.infRung := by
  unfold Format.nearest
  rw [if_neg h0]
  refine ⟨_, rfl, ?_, Nat.min_le_right _ _⟩
  refine Nat.le_trans (Nat.min_le_left _ _) ?_
  generalize hl : max (place + (mag.log2 : Int) - f.fractionBits) f.leastPlace = last
  have h1 := kept_le neg mag place last f.fractionBits h0 (by omega)
  have h2 : (last - f.leastPlace).toNat ≤ (K - f.fractionBits - f.leastPlace).toNat := by omega
  have h3 := Nat.mul_le_mul_right f.binade h2
  have h4 : 2 ^ (f.fractionBits + 1) = 2 * f.binade := by unfold Format.binade; rw [Nat.pow_succ, Nat.mul_comm]
  rw [Nat.add_mul]
  omega
/-- numbers below a rung -/
theorem read_small {f : Format} {x m : Nat} {s : Bool} {e : Int} {q : Nat} (hq : 1 ≤ q) (hr : f.read x = .number s m e) (hx : rung f x ≤ q * f.binade) : m < 2 * f.binade ∧ e ≤ f.leastPlace + (q - 1 : Nat) ∧ f.leastPlace ≤ e := by
  unfold Format.read at hr
  unfold rung at hx
  simp only at hr
  have hB : 0 < f.binade := Nat.two_pow_pos _
  split at hr
  · cases hr; omega
  · split at hr
    · cases hr
      have h1 : x % f.signWeight % f.binade < f.binade := Nat.mod_lt _ hB
      have h2 : x % f.signWeight / f.binade ≤ q := by
        have := Nat.div_le_div_right (c := f.binade) hx
        rwa [Nat.mul_div_cancel _ hB] at this
      omega
    · split at hr <;> cases hr
theorem rung_word (f : Format) (neg : Bool) (r : Nat) (h : r ≤ f.infRung) : rung f (f.word neg r) = r := (read_word_rung f neg r (Nat.lt_of_le_of_lt h f.infRung_lt)).1
theorem log2_lt' {m k : Nat} (h : m < 2 ^ k) (h0 : m ≠ 0) : m.log2 < k := (Nat.log2_lt h0).2 h
theorem dbl : double.leastPlace = -1074 ∧ double.fractionBits = 52 ∧ double.binade = 2 ^ 52 := by decide
theorem sgl : single.leastPlace = -149 ∧ single.fractionBits = 23 ∧ single.binade = 2 ^ 23 ∧ single.infRung = 255 * 2 ^ 23 := by decide
/-- a double that is small enough passes into the lesser format -/
theorem narrow_ok {y q : Nat} (hq : 1 ≤ q) (hq2 : q ≤ 1149) (hy : rung double y ≤ q * 2 ^ 52) : fconvOk .f64 .f32 y = true := by
  unfold fconvOk
  simp only [reduceCtorEq, if_false]
  split
  · rename_i n m e h
    have h : double.read y = .number n m e := h
    obtain ⟨hm, he, _⟩ := read_small (f := double) hq h (by rw [dbl.2.2]; exact hy)
    rw [dbl.1] at he
    rw [dbl.2.2] at hm
    show (!(single.read (single.nearest n m e)).isInfinity) = true
    by_cases h0 : m = 0
    · subst h0
      have : single.nearest n 0 e = single.word n 0 := by unfold Format.nearest; rw [if_pos rfl]
      rw [this, read_word_fin _ _ _ (by decide)]; rfl
    · have hl := log2_lt' (show m < 2 ^ 53 by omega) h0
      obtain ⟨r, hr, hr2, _⟩ := nearest_rung single n m e 126 h0 (by omega) (by rw [sgl.1, sgl.2.1]; omega)
      rw [sgl.1, sgl.2.1, sgl.2.2.1] at hr2
      rw [hr, read_word_fin _ _ _ (by rw [sgl.2.2.2]; omega)]; rfl
  · rfl
theorem rootFrom_lt (n : Nat) : ∀ todo root, Datum.rootFrom n todo root < root + 2 ^ todo
  | 0, root => by simp [Datum.rootFrom]
  | todo + 1, root => by
    unfold Datum.rootFrom
    simp only
    have h1 := rootFrom_lt n todo (root + 1 <<< todo)
    have h2 := rootFrom_lt n todo root
    rw [Nat.shiftLeft_eq, Nat.one_mul] at *
    rw [Nat.pow_succ]
    split <;> omega
theorem conv_rung {x : Nat} (hf : rung single x < single.infRung) : rung double (fconv .f32 .f64 x) ≤ 1152 * 2 ^ 52 := by
  obtain ⟨m, p, e, hm⟩ := read_num hf
  have hb := read32_bounds e
  have ep : fconv .f32 .f64 x = double.nearest (sign single x) m (single.leastPlace + (p : Nat)) := by
    unfold fconv
    simp only [reduceCtorEq, if_false, FloatKind.decode, FloatKind.format, e, FloatKind.encode, Format.write]
  have hp : single.leastPlace + (p : Int) ≤ 105 := by
    have := (read_small (f := single) (q := 255) (by omega) e (by rw [sgl.2.2.1]; rw [sgl.2.2.2] at hf; omega)).2.1
    have := sgl.1
    omega
  rw [ep]
  by_cases h0 : m = 0
  · subst h0
    have : double.nearest (sign single x) 0 (single.leastPlace + (p : Nat)) = double.word (sign single x) 0 := by unfold Format.nearest; rw [if_pos rfl]
    exact Nat.le_trans (Nat.le_of_eq ((congrArg (rung double) this).trans (rung_word _ _ _ (Nat.zero_le _)))) (Nat.zero_le _)
  · have hl := log2_lt' (show m < 2 ^ 24 from hb.1) h0
    obtain ⟨r, hr, hr2, hr3⟩ := nearest_rung double (sign single x) m (single.leastPlace + (p : Nat)) 128 h0 (by omega) (by rw [dbl.1, dbl.2.1]; omega)
    rw [dbl.1, dbl.2.1, dbl.2.2] at hr2
    have hk : ((128 : Int) - ((52 : Nat) : Int) - (-1074)).toNat = 1150 := by decide
    rw [hk] at hr2
    exact Nat.le_trans (Nat.le_of_eq ((congrArg (rung double) hr).trans (rung_word _ _ _ hr3))) hr2
/-- the root of a number of the lesser format, in it again -/
def rootM (x : Nat) : Nat := fconv .f64 .f32 (fsqrt (fconv .f32 .f64 x))
theorem root_narrow (x : Nat) : fconvOk .f64 .f32 (fsqrt (fconv .f32 .f64 x)) = true := by
  have nan : ∀ y, (double.read y).isNaN = true → fconvOk .f64 .f32 y = true := by
    intro y h
    unfold fconvOk
    simp only [reduceCtorEq, if_false]
    split
    · rename_i n m e h'
      have h' : double.read y = .number n m e := h'
      rw [h'] at h; cases h
    · rfl
  have inf : ∀ y, (double.read y).isInfinity = true → fconvOk .f64 .f32 y = true := by
    intro y h
    unfold fconvOk
    simp only [reduceCtorEq, if_false]
    split
    · rename_i n m e h'
      have h' : double.read y = .number n m e := h'
      rw [h'] at h; cases h
    · rfl
  cases hs : FloatKind.f64.format.sqrt (fconv .f32 .f64 x) with
  | none =>
    unfold fsqrt; rw [hs]
    exact nan _ (nanB_fnan .f64)
  | some r =>
    unfold fsqrt; rw [hs, Option.getD_some]
    have hs2 : ((double.read (fconv .f32 .f64 x)).root 54).map double.write = some r := hs
    rw [Option.map_eq_some_iff] at hs2
    obtain ⟨d, hd, rfl⟩ := hs2
    cases hr : double.read (fconv .f32 .f64 x) with
    | nan s t => rw [hr] at hd; simp [Datum.root] at hd
    | infinity s =>
      rw [hr] at hd
      simp only [Datum.root] at hd
      split at hd
      · cases hd
      · cases hd
        refine inf _ ?_
        cases s <;> decide
    | number s m i =>
      -- the number itself is not too great
      have hx : rung single x < single.infRung := by
        rcases Nat.lt_trichotomy (rung single x) single.infRung with h | h | h
        · exact h
        · exfalso
          have e := read_inf (fmt_ok .f32) h
          have e : single.read x = .infinity (sign single x) := e
          have : fconv .f32 .f64 x = double.word (sign single x) double.infRung := by
            unfold fconv
            simp only [reduceCtorEq, if_false, FloatKind.decode, FloatKind.format, e]; rfl
          rw [this] at hr
          have h2 := read_inf (f := double) (x := double.word (sign single x) double.infRung) (by decide) (rung_word _ _ _ (Nat.le_refl _))
          rw [h2] at hr; cases hr
        · exfalso
          have e := read_nan (fmt_ok .f32) h
          have e : (single.read x).isNaN = true := e
          have : fconv .f32 .f64 x = fnan .f64 := by
            unfold fconv
            simp only [reduceCtorEq, if_false, FloatKind.decode, FloatKind.format]
            cases h3 : single.read x <;> simp [h3, Datum.isNaN] at e
            rfl
          rw [this] at hr
          have h2 := nanB_fnan .f64
          unfold nanB at h2
          have h2 : (double.read (fnan .f64)).isNaN = true := h2
          rw [hr] at h2; cases h2
      have hc := conv_rung hx
      obtain ⟨hm, hi, _⟩ := read_small (f := double) (q := 1152) (by omega) hr (by rw [dbl.2.2]; exact hc)
      rw [dbl.1] at hi
      rw [dbl.2.2] at hm
      rw [hr] at hd
      simp only [Datum.root] at hd
      split at hd
      · rename_i h0
        cases hd; subst h0
        have : double.write (.number s 0 i) = double.word s 0 := by show double.nearest s 0 i = _; unfold Format.nearest; rw [if_pos rfl]
        rw [this]
        exact narrow_ok (q := 1) (by omega) (by omega) (Nat.le_trans (Nat.le_of_eq (rung_word _ _ _ (Nat.zero_le _))) (Nat.zero_le _))
      · rename_i h0
        split at hd
        · cases hd
        · cases hd
          have hl := log2_lt' (show m < 2 ^ 53 by omega) h0
          generalize hmo : 2 * 54 - m.log2 + ((i - (2 * 54 - m.log2 : Nat)) % 2).toNat = more
          have hmo2 : 56 ≤ more ∧ more + m.log2 ≤ 109 := by omega
          have hn : m <<< more < 2 ^ 110 := by
            rw [Nat.shiftLeft_eq]
            have hb : m < 2 ^ (m.log2 + 1) := Nat.lt_log2_self
            calc m * 2 ^ more < 2 ^ (m.log2 + 1) * 2 ^ more := Nat.mul_lt_mul_of_pos_right hb (Nat.two_pow_pos _)
              _ = 2 ^ (m.log2 + 1 + more) := (Nat.pow_add ..).symm
              _ ≤ 2 ^ 110 := Nat.pow_le_pow_right (by omega) (by omega)
          have hw := rootFrom_lt (m <<< more) ((m <<< more).log2 / 2 + 1) 0
          have hn0 : m <<< more ≠ 0 := by
            rw [Nat.shiftLeft_eq]
            exact Nat.mul_ne_zero h0 (Nat.ne_of_gt (Nat.two_pow_pos _))
          have hl2 := log2_lt' hn hn0
          have hw2 : Datum.rootFrom (m <<< more) ((m <<< more).log2 / 2 + 1) 0 < 2 ^ 55 := Nat.lt_of_lt_of_le (by simpa using hw) (Nat.pow_le_pow_right (by omega) (by omega))
          generalize Datum.rootFrom (m <<< more) ((m <<< more).log2 / 2 + 1) 0 = whole at *
          have hbn : ∀ b : Bool, b.toNat ≤ 1 := fun b => by cases b <;> simp
          have hb1 := hbn (whole * whole != m <<< more)
          generalize (whole * whole != m <<< more).toNat = bit at *
          show fconvOk .f64 .f32 (double.nearest false (2 * whole + bit) ((i - more) / 2 - 1)) = true
          by_cases hz : 2 * whole + bit = 0
          · rw [hz]
            have : double.nearest false 0 ((i - more) / 2 - 1) = double.word false 0 := by unfold Format.nearest; rw [if_pos rfl]
            rw [this]
            exact narrow_ok (q := 1) (by omega) (by omega) (Nat.le_trans (Nat.le_of_eq (rung_word _ _ _ (Nat.zero_le _))) (Nat.zero_le _))
          · have hl3 := log2_lt' (show 2 * whole + bit < 2 ^ 56 by omega) hz
            obtain ⟨r, hr, hr2, hr3⟩ := nearest_rung double false (2 * whole + bit) ((i - more) / 2 - 1) 70 hz (by omega) (by rw [dbl.1, dbl.2.1]; omega)
            rw [dbl.1, dbl.2.1, dbl.2.2] at hr2
            rw [hr]
            have hk : ((70 : Int) - ((52 : Nat) : Int) - (-1074)).toNat = 1092 := by decide
            rw [hk] at hr2
            exact narrow_ok (q := 1094) (by omega) (by omega) (Nat.le_trans (Nat.le_of_eq (rung_word _ _ _ hr3)) hr2)
end Go.Proofs.LV

namespace Go.Proofs.LV
open Go Ieee
set_option linter.unusedVariables false
set_option linter.unusedSimpArgs false

theorem inf_write (s : Bool) : single.read (single.write (.infinity s)) = .infinity s := by cases s <;> decide
theorem fnan_bad : finM (fnan .f32) = false := by decide
theorem finM_iff (x : Nat) : finM x = decide (rung single x < single.infRung) := by
  unfold finM fsub Format.sub
  show feq .f32 ((Option.map single.write ((single.read x).sum (single.read x).opposite)).getD (fnan .f32)) 0 = _
  rcases Nat.lt_trichotomy (rung single x) single.infRung with h | h | h
  · obtain ⟨m, p, e, _⟩ := read_num h
    have ez : (Option.map single.write ((single.read x).sum (single.read x).opposite)) = some 0 := by
      rw [e]
      generalize sign single x = s
      have : Datum.sum (.number s m (single.leastPlace + (p : Nat))) (Datum.opposite (.number s m (single.leastPlace + (p : Nat)))) = some (.number false 0 (single.leastPlace + (p : Nat))) := by
        cases s <;> simp [Datum.sum, Datum.opposite, signed] <;> omega
      rw [this, Option.map_some]
      show some (single.nearest false 0 _) = some 0
      unfold Format.nearest; rw [if_pos rfl]; rfl
    rw [ez, Option.getD_some, decide_eq_true h]; decide
  · have e := read_inf (fmt_ok .f32) h
    have e : single.read x = .infinity (sign single x) := e
    have ez : (Option.map single.write ((single.read x).sum (single.read x).opposite)) = none := by
      rw [e]
      cases sign single x <;> rfl
    rw [ez]
    have : ¬ (rung single x < single.infRung) := by omega
    rw [decide_eq_false this]; decide
  · have e := read_nan (fmt_ok .f32) h
    have e : (single.read x).isNaN = true := e
    have ez : (Option.map single.write ((single.read x).sum (single.read x).opposite)) = none := by
      cases h3 : single.read x <;> simp [h3, Datum.isNaN] at e
      rfl
    rw [ez]
    have : ¬ (rung single x < single.infRung) := by omega
    rw [decide_eq_false this]; decide
theorem bad_class {x : Nat} (h : finM x = false) : (∃ s, single.read x = .infinity s) ∨ ∃ s t, single.read x = .nan s t := by
  rw [finM_iff] at h
  have h := of_decide_eq_false h
  rcases Nat.lt_or_eq_of_le (Nat.le_of_not_lt h) with h | h
  · right
    have e : (single.read x).isNaN = true := read_nan (fmt_ok .f32) h
    cases h3 : single.read x <;> simp [h3, Datum.isNaN] at e
    exact ⟨_, _, rfl⟩
  · left; exact ⟨_, read_inf (fmt_ok .f32) h.symm⟩
theorem fin_class {x : Nat} (h : finM x = true) : ∃ s m e, single.read x = .number s m e := by
  rw [finM_iff] at h
  obtain ⟨m, p, e, _⟩ := read_num (of_decide_eq_true h)
  exact ⟨_, _, _, e⟩
theorem inf_bad {x : Nat} {s : Bool} (h : single.read x = .infinity s) : finM x = false := by
  rw [finM_iff]
  cases hd : decide (rung single x < single.infRung) with
  | false => rfl
  | true =>
    obtain ⟨m, p, e, _⟩ := read_num (of_decide_eq_true hd)
    rw [h] at e; cases e
theorem bad_getD {o : Option Datum} (h : ∀ d, o = some d → ∃ s, d = .infinity s) : finM ((o.map single.write).getD (fnan .f32)) = false := by
  cases o with
  | none => exact fnan_bad
  | some d =>
    obtain ⟨s, rfl⟩ := h d rfl
    exact inf_bad (inf_write s)
theorem bad_add {a b : Nat} (h : finM b = false) : finM (fadd .f32 a b) = false := by
  refine bad_getD (o := (single.read a).sum (single.read b)) fun d hd => ?_
  rcases bad_class h with ⟨s, e⟩ | ⟨s, t, e⟩
  · rw [e] at hd
    cases ha : single.read a with
    | number u m i => rw [ha] at hd; cases hd; exact ⟨_, rfl⟩
    | infinity u =>
      rw [ha] at hd
      simp only [Datum.sum] at hd
      split at hd
      · cases hd; exact ⟨_, rfl⟩
      · cases hd
    | nan u v => rw [ha] at hd; cases hd
  · rw [e] at hd
    cases ha : single.read a <;> rw [ha] at hd <;> cases hd
theorem bad_sub {a b : Nat} (ha : finM a = true) (h : finM b = false) : finM (fsub .f32 a b) = false := by
  obtain ⟨u, m, i, ha⟩ := fin_class ha
  refine bad_getD (o := (single.read a).sum (single.read b).opposite) fun d hd => ?_
  rw [ha] at hd
  rcases bad_class h with ⟨s, e⟩ | ⟨s, t, e⟩
  · rw [e] at hd; cases hd; exact ⟨_, rfl⟩
  · rw [e] at hd; cases hd
theorem bad_square {a : Nat} (h : finM a = false) : finM (fmul .f32 a a) = false := by
  refine bad_getD (o := (single.read a).product (single.read a)) fun d hd => ?_
  rcases bad_class h with ⟨s, e⟩ | ⟨s, t, e⟩
  · rw [e] at hd; cases hd; exact ⟨_, rfl⟩
  · rw [e] at hd; cases hd
theorem bad_div {a b : Nat} (h : finM a = false) (hb : finM b = true) : finM (fdiv .f32 a b) = false := by
  obtain ⟨u, m, i, hb⟩ := fin_class hb
  refine bad_getD (o := (single.read a).quotient (single.fractionBits + 2) (single.read b)) fun d hd => ?_
  rw [hb] at hd
  rcases bad_class h with ⟨s, e⟩ | ⟨s, t, e⟩
  · rw [e] at hd; cases hd; exact ⟨_, rfl⟩
  · rw [e] at hd; cases hd
theorem bad_root {x : Nat} (h : finM x = false) : finM (rootM x) = false := by
  unfold rootM
  rcases bad_class h with ⟨s, e⟩ | ⟨s, t, e⟩
  · have e1 : fconv .f32 .f64 x = double.word s double.infRung := by
      unfold fconv
      simp only [reduceCtorEq, if_false, FloatKind.decode, FloatKind.format, e]; rfl
    rw [e1]
    cases s <;> decide
  · have e1 : fconv .f32 .f64 x = fnan .f64 := by
      unfold fconv
      simp only [reduceCtorEq, if_false, FloatKind.decode, FloatKind.format, e]
    rw [e1]
    decide
theorem small_fin : ∀ n : Fin 97, finM (fofi .f32 (n.val : Int)) = true := by decide +kernel

/-! ### what is greater than 0 has a root greater than 0 -/
theorem nearest_exact (f : Format) (neg : Bool) (mag : Nat) (place : Int) (h0 : mag ≠ 0) (hm : mag < 2 * f.binade) (hp : f.leastPlace ≤ place) (hr : (place - f.leastPlace).toNat * f.binade + 2 * f.binade ≤ f.infRung) :
    ∃ r, f.nearest neg mag place = f.word neg r ∧ r < f.infRung ∧ units f.binade r = mag * 2 ^ (place - f.leastPlace).toNat := by
  have hB : f.binade = 2 ^ f.fractionBits := rfl
  have hlog : mag.log2 ≤ f.fractionBits := by
    have := log2_lt' (show mag < 2 ^ (f.fractionBits + 1) by rw [Nat.pow_succ, Nat.mul_comm]; exact hm) h0
    omega
  have hlo : 2 ^ mag.log2 ≤ mag := Nat.log2_self_le h0
  have hhi : mag < 2 ^ (mag.log2 + 1) := Nat.lt_log2_self
  unfold Format.nearest
  rw [if_neg h0]
  generalize hl : max (place + (mag.log2 : Int) - f.fractionBits) f.leastPlace = last
  have hd : (last - place).toNat = 0 := by omega
  simp only [hd, cut_zero, Nat.shiftLeft_eq]
  generalize hs : (place - last).toNat = s
  have hs2 : mag.log2 + s ≤ f.fractionBits := by omega
  have hk : mag * 2 ^ s < 2 * f.binade := by
    calc mag * 2 ^ s < 2 ^ (mag.log2 + 1) * 2 ^ s := Nat.mul_lt_mul_of_pos_right hhi (Nat.two_pow_pos _)
      _ = 2 ^ (mag.log2 + 1 + s) := (Nat.pow_add ..).symm
      _ ≤ 2 ^ (f.fractionBits + 1) := Nat.pow_le_pow_right (by omega) (by omega)
      _ = 2 * f.binade := by rw [Nat.pow_succ, Nat.mul_comm, hB]
  have hql : (last - f.leastPlace).toNat ≤ (place - f.leastPlace).toNat := by omega
  have hmul := Nat.mul_le_mul_right f.binade hql
  have hlt : (last - f.leastPlace).toNat * f.binade + mag * 2 ^ s < f.infRung := by omega
  refine ⟨_, rfl, by rw [Nat.min_eq_left (Nat.le_of_lt hlt)]; exact hlt, ?_⟩
  rw [Nat.min_eq_left (Nat.le_of_lt hlt)]
  have hBp : 0 < f.binade := Nat.two_pow_pos _
  have etot : (place - f.leastPlace).toNat = s + (last - f.leastPlace).toNat := by omega
  rw [etot, Nat.pow_add, ← Nat.mul_assoc]
  by_cases hq : (last - f.leastPlace).toNat = 0
  · rw [hq, Nat.zero_mul, Nat.zero_add, Nat.pow_zero, Nat.mul_one]
    unfold units
    split
    · rfl
    · rename_i h
      have h1 : mag * 2 ^ s / f.binade = 1 := by
        have h2 := Nat.div_lt_of_lt_mul (show mag * 2 ^ s < f.binade * 2 by omega)
        have h3 := (Nat.le_div_iff_mul_le hBp).2 (show 1 * f.binade ≤ mag * 2 ^ s by omega)
        omega
      have h4 := Nat.div_add_mod (mag * 2 ^ s) f.binade
      rw [h1] at h4 ⊢
      simp; omega
  · generalize (last - f.leastPlace).toNat = q at *
    have hsx : mag.log2 + s = f.fractionBits := by omega
    have hge : f.binade ≤ mag * 2 ^ s := by
      calc f.binade = 2 ^ (mag.log2 + s) := by rw [hsx, hB]
        _ = 2 ^ mag.log2 * 2 ^ s := Nat.pow_add ..
        _ ≤ mag * 2 ^ s := Nat.mul_le_mul_right _ hlo
    generalize mag * 2 ^ s = k at *
    have h1 : (q * f.binade + k) / f.binade = q + 1 := by
      rw [Nat.mul_comm, Nat.mul_add_div hBp]
      have h2 := Nat.div_lt_of_lt_mul (show k < f.binade * 2 by omega)
      have h3 := (Nat.le_div_iff_mul_le hBp).2 (show 1 * f.binade ≤ k by omega)
      omega
    have h4 : (q * f.binade + k) % f.binade = k - f.binade := by
      have := Nat.div_add_mod (q * f.binade + k) f.binade
      rw [h1, Nat.mul_succ, Nat.mul_comm f.binade q] at this
      omega
    unfold units
    rw [if_neg (by have := Nat.le_mul_of_pos_left f.binade (show 0 < q by omega); omega), h1, h4, Nat.add_sub_cancel]
    rw [show f.binade + (k - f.binade) = k by omega]
theorem cut_ge (neg : Bool) (n d : Nat) (h : d ≤ n.log2 + 2) : n / 2 ^ d ≤ Toward.even.cut neg n d := by
  unfold Toward.cut
  simp only
  rw [Nat.min_eq_left h, Nat.shiftLeft_eq, Nat.one_mul]
  exact Nat.le_add_right _ _
theorem zero_srung : srung .f32 0 = 0 := by decide
theorem zero_nan : nanB .f32 0 = false := by decide
theorem over_ok {pl : Int} (h0 : -149 ≤ pl) (h : pl ≤ 105) : (pl - double.leastPlace).toNat * double.binade + 2 * double.binade ≤ double.infRung := by
  have h1 : (pl - double.leastPlace).toNat ≤ 1179 := by rw [dbl.1]; omega
  have h2 := Nat.mul_le_mul_right double.binade h1
  have h3 : 1179 * double.binade + 2 * double.binade ≤ double.infRung := by decide
  exact Nat.le_trans (Nat.add_le_add_right h2 _) h3
end Go.Proofs.LV
