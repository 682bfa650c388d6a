/- Texts that belong together. -/
import Derived.Test.YtjfgmnfkkehgfaaLvFnGX
import Derived.Test.YtjfgmnfkkehgfaaLvBad
import Derived.Test.YtjfgmnfkkehgfaaLvExtX
import GoSem.Extern.MathFloor
namespace Go.Proofs.LV
open Go
set_option linter.unusedVariables false
set_option linter.unusedSimpArgs false

abbrev C_math_sqrt (P : Program) (f : FuncId) : Prop := ∀ x : Nat, VCall P f [.f .f64 x] (.f .f64 (fsqrt x))
theorem k_math_sqrt {P : Program} {f : FuncId} (h : ExtIs P f Extern.MathSqrt.sqrt) : C_math_sqrt P f := fun x => sqrt_ok h x
def oc1_math_sqrt (as : List AV) : T AV := match as with | [.f _ x] => .leaf (.f .f64 (fsqrt x)) | _ => .fail



-- FN spec_l01Narrow
/-- spec.l01Narrow: slots 5, results [.t 2]; calls []; names [(x, 0), (x, 1)] -/
def ps_spec_l01Narrow : List Nat := [0, 2]
def b_spec_l01Narrow : VCode :=
  (.seq
   (.region false [
    ⟨some 2, .mv, [.k (.f .f32 0)], none⟩])
   (.seq
    (.region false [
     ⟨some 3, .mv, [.t 0], none⟩,
     ⟨some 4, (.convF .f32), [.t 3], none⟩,
     ⟨some 2, .mv, [.t 4], none⟩])
    .ret))

abbrev Is_spec_l01Narrow (P : Program) (g_f : FuncId) : Prop := FnIs P g_f 5 [.t 2] (b_spec_l01Narrow)

abbrev C_spec_l01Narrow (P : Program) (g_f : FuncId) : Prop := ∀ (x : Nat) (hx : fconvOk .f64 .f32 x = true), VCall P g_f [.f .f64 x] (.f .f32 (fconv .f64 .f32 x))
def oc1_spec_l01Narrow (as : List AV) : T AV := match as with | [.f .f64 x] => .leaf (.f .f32 (fconv .f64 .f32 x)) | _ => .fail



theorem q_spec_l01Narrow {P : Program} {g_f : FuncId} (h_ : Is_spec_l01Narrow P g_f) (x : Nat) (ht : T.ok (fun x_ => x_ = .f .f32 (fconv .f64 .f32 x)) (
      T.ob (fconvOk FloatKind.f64 FloatKind.f32 x = true) (T.leaf (AV.f FloatKind.f32 (fconv FloatKind.f64 FloatKind.f32 x))))) :
    VCall P g_f [.f .f64 x] (.f .f32 (fconv .f64 .f32 x)) := h_.call_of ps_spec_l01Narrow ⟨fun _ _ => .fail, fun _ _ => none⟩ (by kernel_rfl) ht

-- END spec_l01Narrow


def spreadM (xs : List Nat) : Nat := rootM (fdiv .f32 (squaresM xs) (fofi .f32 xs.length))
def spOk (xs : List Nat) : Bool := seriesM xs && finM (spreadM xs)




def evenM (xs : List Nat) : List Nat := tab xs.length fun i => fdiv .f32 (fsub .f32 (xs.getD i 0) (meanM xs)) (spreadM xs)
def evenOk (xs : List Nat) : Bool := seriesM xs && ((finM (spreadM xs) && fgt .f32 (spreadM xs) 0) && finAllM (evenM xs))



theorem root_unfold (x : Nat) : fconv .f64 .f32 (fsqrt (fconv .f32 .f64 x)) = rootM x := rfl
theorem k_spec_l01Narrow {P : Program} {f : FuncId} (h : Is_spec_l01Narrow P f) : C_spec_l01Narrow P f := by
  intro x hx
  exact q_spec_l01Narrow h x ⟨hx, fun _ => rfl⟩
theorem series_fin {xs : List Nat} (h : seriesM xs = true) {i : Nat} (hi : i < xs.length) : finM (xs.getD i 0) = true := by
  simp only [seriesM, Bool.and_eq_true, finAllM, List.all_eq_true] at h
  refine h.2.2 _ ?_
  rw [List.getD_eq_getElem?_getD, List.getElem?_eq_getElem hi]
  exact List.getElem_mem hi
theorem acc_bad {f : Nat → Nat → Nat} {a : Nat} : ∀ n : Nat, 1 ≤ n → (∀ i s, finM (f i s) = false) → finM (accN f n a) = false
  | 0, h, _ => by omega
  | n + 1, _, hf => hf n _
/-- a spread that is finite comes of a mean that is -/
theorem mean_of_spread {xs : List Nat} (hs : seriesM xs = true) (h : finM (spreadM xs) = true) : finM (meanM xs) = true := by
  cases hm : finM (meanM xs) with
  | true => rfl
  | false =>
    exfalso
    have hl := series_len hs
    have hsq : finM (squaresM xs) = false := by
      unfold squaresM dotM
      have e : (lessOneM xs (meanM xs)).length = (xs.length - 1) + 1 := by rw [lessOne_len]; omega
      rw [e]
      simp only [accN]
      refine bad_add (bad_square ?_)
      rw [lessOne_get _ _ _ (by omega)]
      exact bad_sub (series_fin hs (by omega)) hm
    have hd : finM (fdiv .f32 (squaresM xs) (fofi .f32 xs.length)) = false := bad_div hsq (small_fin ⟨xs.length, by omega⟩)
    have := bad_root hd
    unfold spreadM at h
    rw [this] at h; cases h
theorem even_get (xs : List Nat) (i : Nat) (h : i < xs.length) : (evenM xs).getD i 0 = fdiv .f32 (fsub .f32 (xs.getD i 0) (meanM xs)) (spreadM xs) := tab_get _ _ _ _ h
theorem even_len (xs : List Nat) : (evenM xs).length = xs.length := tab_len _ _
end Go.Proofs.LV

namespace Go.Proofs.LV
open Go Ieee
set_option linter.unusedVariables false
set_option linter.unusedSimpArgs false

theorem log2_mul_pow {n : Nat} (hn : n ≠ 0) (a : Nat) : (n * 2 ^ a).log2 = n.log2 + a := by
  have h1 : 2 ^ n.log2 ≤ n := Nat.log2_self_le hn
  have h2 : n < 2 ^ (n.log2 + 1) := Nat.lt_log2_self
  have h0 : n * 2 ^ a ≠ 0 := Nat.mul_ne_zero hn (by have := Nat.two_pow_pos a; omega)
  have u : n.log2 + a ≤ (n * 2 ^ a).log2 := (Nat.le_log2 h0).2 (by rw [Nat.pow_add]; exact Nat.mul_le_mul_right _ h1)
  have l : (n * 2 ^ a).log2 < n.log2 + a + 1 := (Nat.log2_lt h0).2 (by
    rw [show n.log2 + a + 1 = n.log2 + 1 + a by omega, Nat.pow_add]; exact Nat.mul_lt_mul_of_pos_right h2 (Nat.two_pow_pos a))
  omega
theorem cut_shift (neg : Bool) {n : Nat} (hn : n ≠ 0) (d a : Nat) : Toward.even.cut neg (n * 2 ^ a) (d + a) = Toward.even.cut neg n d := by
  unfold Toward.cut
  rw [log2_mul_pow hn]
  have e : min (d + a) (n.log2 + a + 2) = min d (n.log2 + 2) + a := by omega
  rw [e]
  simp only [Nat.one_shiftLeft]
  generalize min d (n.log2 + 2) = g
  have p := Nat.two_pow_pos a
  rw [Nat.pow_add, Nat.mul_div_mul_right _ _ p, Nat.mul_mod_mul_right]
  have e1 : (2 ^ g * 2 ^ a < 2 * (n % 2 ^ g * 2 ^ a)) = (2 ^ g < 2 * (n % 2 ^ g)) := by
    rw [← Nat.mul_assoc]; exact propext ⟨fun h => Nat.lt_of_mul_lt_mul_right h, fun h => Nat.mul_lt_mul_of_pos_right h p⟩
  have e2 : (2 ^ g * 2 ^ a == 2 * (n % 2 ^ g * 2 ^ a)) = (2 ^ g == 2 * (n % 2 ^ g)) := by
    rw [← Nat.mul_assoc, Bool.eq_iff_iff]
    simp only [beq_iff_eq]
    exact ⟨fun h => Nat.eq_of_mul_eq_mul_right p h, fun h => congrArg (· * 2 ^ a) h⟩
  simp only [e1, e2]
theorem nearest_shift (f : Format) (neg : Bool) (mag : Nat) (place : Int) (a : Nat) : f.nearest neg (mag * 2 ^ a) (place - a) = f.nearest neg mag place := by
  unfold Format.nearest
  by_cases h0 : mag = 0
  · simp [h0]
  have h1 : mag * 2 ^ a ≠ 0 := Nat.mul_ne_zero h0 (by have := Nat.two_pow_pos a; omega)
  rw [if_neg h0, if_neg h1, log2_mul_pow h0]
  have e : place - (a : Int) + ((mag.log2 + a : Nat) : Int) - f.fractionBits = place + mag.log2 - f.fractionBits := by omega
  simp only [e]
  generalize max (place + (mag.log2 : Int) - f.fractionBits) f.leastPlace = last
  have key : Toward.even.cut neg ((mag * 2 ^ a) <<< (place - a - last).toNat) (last - (place - a)).toNat = Toward.even.cut neg (mag <<< (place - last).toNat) (last - place).toNat := by
    by_cases c1 : place ≤ last
    · rw [show (place - a - last).toNat = 0 by omega, show (place - last).toNat = 0 by omega, show (last - (place - a)).toNat = (last - place).toNat + a by omega]
      simp only [Nat.shiftLeft_zero]
      exact cut_shift neg h0 _ _
    · by_cases c2 : (a : Int) ≤ place - last
      · rw [show (last - (place - a)).toNat = 0 by omega, show (last - place).toNat = 0 by omega, Nat.shiftLeft_eq, Nat.shiftLeft_eq, Nat.mul_assoc, ← Nat.pow_add]
        congr 3
        omega
      · rw [show (place - a - last).toNat = 0 by omega, Nat.shiftLeft_zero, show (last - place).toNat = 0 by omega, Nat.shiftLeft_eq]
        have e3 : mag * 2 ^ a = mag * 2 ^ (place - last).toNat * 2 ^ (last - (place - a)).toNat := by
          rw [Nat.mul_assoc, ← Nat.pow_add]; congr 2; omega
        rw [e3]
        have h2 : mag * 2 ^ (place - last).toNat ≠ 0 := Nat.mul_ne_zero h0 (by have := Nat.two_pow_pos (place - last).toNat; omega)
        have := cut_shift neg h2 0 (last - (place - a)).toNat
        rw [Nat.zero_add] at this
        exact this
  rw [key]
theorem read_two : single.read 1073741824 = .number false (2 ^ 23) (-22) := by decide +kernel
theorem read_half : single.read 1056964608 = .number false (2 ^ 23) (-24) := by decide +kernel
theorem read_mag {x : Nat} {s : Bool} {m : Nat} {e : Int} (h : single.read x = .number s m e) : m < 2 ^ 24 := (read32_bounds h).1
theorem half_eq (x : Nat) : fdiv .f32 x 1073741824 = fmul .f32 1056964608 x := by
  unfold fdiv fmul
  show (Format.div single x 1073741824).getD _ = (Format.mul single 1056964608 x).getD _
  unfold Format.div Format.mul
  rw [read_two, read_half]
  cases h : single.read x with
  | nan s t => rfl
  | infinity s => simp [Datum.quotient, Datum.product, Bool.xor_comm]
  | number s m e =>
    have hm := read_mag h
    simp only [Datum.quotient, Datum.product]
    rw [if_neg (by decide)]
    simp only [Option.map_some, Option.getD_some, Format.write]
    have hl : m.log2 ≤ 23 := by
      by_cases h0 : m = 0
      · subst h0; decide
      · have := (Nat.log2_lt h0).2 hm; omega
    have l23 : (2 ^ 23 : Nat).log2 = 23 := by decide
    have hsf : single.fractionBits = 23 := rfl
    rw [l23, hsf]
    generalize hmore : 23 + 2 + 23 - m.log2 = more
    have h25 : 25 ≤ more := by omega
    have e1 : m <<< more = m * 2 ^ (more - 23) * 2 ^ 23 := by
      rw [Nat.shiftLeft_eq, Nat.mul_assoc, ← Nat.pow_add]; congr 2; omega
    rw [e1, Nat.mul_div_cancel _ (by decide), Nat.mul_mod_left]
    simp only [bne_self_eq_false, Bool.toNat_false, Nat.add_zero, Bool.xor_false, Bool.false_xor]
    have a1 := nearest_shift single s m (e - 1) 23
    have a2 := nearest_shift single s m (e - 1) (more - 22)
    rw [show e - 1 - ((23 : Nat) : Int) = -24 + e by omega, Nat.mul_comm m (2 ^ 23)] at a1
    rw [a1]
    rw [show e - 1 - ((more - 22 : Nat) : Int) = e - -22 - (more : Int) - 1 by omega] at a2
    rw [← a2]
    congr 1
    rw [Nat.mul_comm 2, Nat.mul_assoc]
    congr 1
    rw [← Nat.pow_succ]
    congr 1
    omega
end Go.Proofs.LV

namespace Go.Proofs.LV
open Go Ieee
set_option linter.unusedVariables false
set_option linter.unusedSimpArgs false

def ffloor (x : Nat) : Nat := double.write ((double.read x).integral .down)
theorem floor_ok {P : Program} {f : FuncId} (h : ExtIs P f (Extern.MathFloor.toIntegral "math.archFloor" .down)) (x : Nat) (hx : nanB .f64 x = false) : VCall P f [.f .f64 x] (.f .f64 (ffloor x)) := by
  refine ext_call h (hr := fun G w vs hv => ?_)
  obtain ⟨u, hu, b, rfl, hb, hbx⟩ := vl1 hv
  obtain ⟨vs⟩ := vs
  simp only at hu
  subst hu
  have ebx : b = x := by
    unfold canon at hbx
    split at hbx
    · rw [← hbx, nanB_fnan] at hx; cases hx
    · exact hbx
  subst ebx
  have e0 : ∃ X : Bool → Nat → Sem Value, Extern.MathFloor.toIntegral "math.archFloor" .down #[.float .f64 b] = (match FloatKind.f64.format.read b with | .nan s t => X s t | d => pure (.float .f64 (double.write (d.integral .down)))) := ⟨_, rfl⟩
  have e : Extern.MathFloor.toIntegral "math.archFloor" .down #[.float .f64 b] = pure (.float .f64 (ffloor b)) := by
    obtain ⟨X, e0⟩ := e0
    rw [e0]
    unfold ffloor
    cases hr : FloatKind.f64.format.read b with
    | nan s t => unfold nanB at hx; rw [hr] at hx; cases hx
    | infinity s =>
      have hr' : double.read b = .infinity s := hr
      rw [hr']
    | number s m e =>
      have hr' : double.read b = .number s m e := hr
      rw [hr']
  have hn : ((double.read b).integral .down).isNaN = false := by
    cases hr : double.read b with
    | nan s t => have : (double.read b).isNaN = false := hx; rw [hr] at this; cases this
    | infinity s => rfl
    | number s m e => rfl
  have hc := map_write_canon (k := .f64) (D := some ((double.read b).integral .down)) (r := ffloor b) (fun d hd => by cases hd; exact hn) rfl
  exact ⟨.float .f64 (ffloor b), w.drawn, by simp [e], fun G' w' => ⟨_, rfl, hc.2, hc.1⟩⟩

theorem mul_pow_div (a K : Nat) : a * 2 ^ K / 2 ^ K = a := Nat.mul_div_cancel _ (Nat.two_pow_pos _)
theorem div_pow_add (a K L : Nat) : a * 2 ^ L / 2 ^ (K + L) = a / 2 ^ K := by rw [Nat.pow_add, Nat.mul_div_mul_right _ _ (Nat.two_pow_pos _)]
theorem div_small {n d : Nat} (h : n.log2 + 2 ≤ d) : n / 2 ^ d = 0 ∧ n / 2 ^ (n.log2 + 2) = 0 := by
  have h1 : n < 2 ^ (n.log2 + 1) := Nat.lt_log2_self
  have h2 : 2 ^ (n.log2 + 1) ≤ 2 ^ (n.log2 + 2) := Nat.pow_le_pow_right (by omega) (by omega)
  have h3 : 2 ^ (n.log2 + 2) ≤ 2 ^ d := Nat.pow_le_pow_right (by omega) h
  exact ⟨Nat.div_eq_of_lt (by omega), Nat.div_eq_of_lt (by omega)⟩
theorem low_eq (n d : Nat) : n / (1 <<< min d (n.log2 + 2)) = n / 2 ^ d := by
  rw [Nat.one_shiftLeft]
  by_cases h : d ≤ n.log2 + 2
  · rw [Nat.min_eq_left h]
  · rw [Nat.min_eq_right (by omega)]
    obtain ⟨h1, h2⟩ := div_small (n := n) (d := d) (by omega)
    rw [h1, h2]
theorem cut_zway (s : Bool) (n d : Nat) : Toward.zero.cut s n d = n / 2 ^ d := by
  unfold Toward.cut
  simp only [Bool.toNat_false, Nat.add_zero]
  exact low_eq n d
theorem cut_down {s : Bool} {n : Nat} (d : Nat) (h : s = false ∨ n = 0) : Toward.down.cut s n d = n / 2 ^ d := by
  unfold Toward.cut
  have e : (s && n % (1 <<< min d (n.log2 + 2)) != 0) = false := by
    rcases h with h | h
    · rw [h]; rfl
    · rw [h, Nat.zero_mod]; cases s <;> rfl
  simp only [e, Bool.toNat_false, Nat.add_zero]
  exact low_eq n d
/-- mag * 2 ^ (least + p), cut -/
theorem shift_div (m K p : Nat) : (m <<< (-(K : Int) + p).toNat) / 2 ^ (-(-(K : Int) + p)).toNat = m * 2 ^ p / 2 ^ K := by
  rw [Nat.shiftLeft_eq]
  by_cases h : K ≤ p
  · rw [show (-(K : Int) + p).toNat = p - K by omega, show (-(-(K : Int) + p)).toNat = 0 by omega, Nat.pow_zero, Nat.div_one]
    have : 2 ^ p = 2 ^ (p - K) * 2 ^ K := by rw [← Nat.pow_add]; congr 1; omega
    rw [this, ← Nat.mul_assoc, Nat.mul_div_cancel _ (Nat.two_pow_pos _)]
  · rw [show (-(K : Int) + p).toNat = 0 by omega, show (-(-(K : Int) + p)).toNat = K - p by omega, Nat.pow_zero, Nat.mul_one]
    have : 2 ^ K = 2 ^ (K - p) * 2 ^ p := by rw [← Nat.pow_add]; congr 1; omega
    rw [this, Nat.mul_div_mul_right _ _ (Nat.two_pow_pos _)]
theorem toInt_num (s : Bool) (m K p : Nat) : (Datum.number s m (-(K : Int) + p)).toInt .zero = some (sg s (m * 2 ^ p / 2 ^ K)) := by
  unfold Datum.toInt Datum.integral
  simp only
  rw [cut_zway, shift_div, signed_eq, Nat.pow_zero, Nat.mul_one]
theorem floor_num {s : Bool} {m : Nat} (K p : Nat) (h : s = false ∨ m = 0) : (Datum.number s m (-(K : Int) + p)).integral .down = .number s (m * 2 ^ p / 2 ^ K) 0 := by
  unfold Datum.integral
  simp only
  rw [cut_down _ (by rcases h with h | h; exact .inl h; exact .inr (by rw [h, Nat.zero_shiftLeft])), shift_div]
/-- the word of an integer, read again -/
theorem whole_read (s : Bool) {k : Nat} (hk : k < 2 ^ 53) : (double.read (double.nearest s k 0)).toInt .zero = some (sg s k) := by
  by_cases h0 : k = 0
  · subst h0; cases s <;> decide +kernel
  · obtain ⟨r, e1, hr, hu⟩ := nearest_exact double s k 0 h0 (by rw [dbl.2.2]; omega) (by rw [dbl.1]; omega) (by decide)
    have hrw := rung_word double s r (Nat.le_of_lt hr)
    have hsw : sign double (double.word s r) = s := (read_word_rung double s r (Nat.lt_of_le_of_lt (Nat.le_of_lt hr) double.infRung_lt)).2
    obtain ⟨m', p', e2, hu2⟩ := read_num (f := double) (x := double.word s r) (by rw [hrw]; exact hr)
    rw [hsw] at e2
    rw [hrw, hu, dbl.1] at hu2
    rw [e1, e2, dbl.1, show (-1074 : Int) = -((1074 : Nat) : Int) by rfl, toInt_num, hu2]
    rw [show (0 - (-1074 : Int)).toNat = 1074 by rfl]
    generalize (1074 : Nat) = K
    rw [mul_pow_div]
theorem ftoi_floor {x : Nat} {s : Bool} {m : Nat} {e : Int} (hr : single.read x = .number s m e) (hs : s = false ∨ m = 0) (he : e ≤ 0) :
    ∃ k : Nat, k < 2 ^ 24 ∧ ftoi .f32 .i64 x = some (k : Int) ∧ ftoi .f64 .i64 (ffloor (fconv .f32 .f64 x)) = some (k : Int) ∧ nanB .f64 (fconv .f32 .f64 x) = false := by
  have hb := read32_bounds hr
  obtain ⟨p, rfl⟩ : ∃ p : Nat, e = -((149 : Nat) : Int) + p := ⟨(e + 149).toNat, by omega⟩
  have hk : m * 2 ^ p / 2 ^ 149 < 2 ^ 24 := by
    have h1 : 2 ^ p ≤ 2 ^ 149 := Nat.pow_le_pow_right (by omega) (by omega)
    have h2 : m * 2 ^ p ≤ m * 2 ^ 149 := Nat.mul_le_mul_left _ h1
    have h3 : m * 2 ^ p / 2 ^ 149 ≤ m := by
      have := Nat.div_le_div_right (c := 2 ^ 149) h2
      rwa [Nat.mul_div_cancel _ (Nat.two_pow_pos _)] at this
    omega
  have hsg : sg s (m * 2 ^ p / 2 ^ 149) = ((m * 2 ^ p / 2 ^ 149 : Nat) : Int) := by
    rcases hs with h | h
    · rw [h]; rfl
    · rw [h, Nat.zero_mul, Nat.zero_div]; cases s <;> rfl
  have rng : ∀ n : Nat, n < 2 ^ 24 → IntKind.min .i64 ≤ (n : Int) ∧ (n : Int) ≤ IntKind.max .i64 := by
    intro n hn
    have h1 : IntKind.min .i64 = -9223372036854775808 := by decide
    have h2 : IntKind.max .i64 = 9223372036854775807 := by decide
    rw [h1, h2]; omega
  have h32 : ftoi .f32 .i64 x = some ((m * 2 ^ p / 2 ^ 149 : Nat) : Int) := by
    unfold ftoi
    simp only [FloatKind.decode, FloatKind.format, hr]
    rw [toInt_num, hsg]
    simp only [rng _ hk, and_self, if_true]
  have ey : fconv .f32 .f64 x = double.nearest s m (-((149 : Nat) : Int) + p) := by
    unfold fconv
    simp only [reduceCtorEq, if_false, FloatKind.decode, FloatKind.format, hr, FloatKind.encode, Format.write]
  have key : ∃ m' p' : Nat, double.read (fconv .f32 .f64 x) = .number s m' (-((1074 : Nat) : Int) + p') ∧ m' * 2 ^ p' / 2 ^ 1074 = m * 2 ^ p / 2 ^ 149 ∧ (s = false ∨ m' = 0) := by
    by_cases h0 : m = 0
    · subst h0
      refine ⟨0, 0, ?_, by simp only [Nat.zero_mul, Nat.zero_div], .inr rfl⟩
      rw [ey]
      have : double.nearest s 0 (-((149 : Nat) : Int) + p) = double.word s 0 := by unfold Format.nearest; rw [if_pos rfl]
      rw [this]
      cases s <;> decide +kernel
    · obtain ⟨r, e1, hr2, hu⟩ := nearest_exact double s m (-((149 : Nat) : Int) + p) h0 (by rw [dbl.2.2]; omega) (by rw [dbl.1]; omega) (over_ok hb.2.1 (by omega))
      have hrw := rung_word double s r (Nat.le_of_lt hr2)
      have hsw : sign double (double.word s r) = s := (read_word_rung double s r (Nat.lt_of_le_of_lt (Nat.le_of_lt hr2) double.infRung_lt)).2
      obtain ⟨m', p', e2, hu2⟩ := read_num (f := double) (x := double.word s r) (by rw [hrw]; exact hr2)
      rw [hsw] at e2
      rw [hrw, hu, dbl.1, show (-((149 : Nat) : Int) + p - (-1074 : Int)).toNat = p + 925 by omega] at hu2
      refine ⟨m', p', by rw [ey, e1, e2, dbl.1]; rfl, ?_, .inl (hs.resolve_right h0)⟩
      rw [hu2, Nat.pow_add, ← Nat.mul_assoc]
      rw [show (1074 : Nat) = 149 + 925 from rfl]
      exact div_pow_add _ 149 925
  obtain ⟨m', p', e2, ev, hs'⟩ := key
  refine ⟨m * 2 ^ p / 2 ^ 149, hk, h32, ?_, ?_⟩
  · unfold ffloor
    rw [e2, floor_num _ _ hs', ev]
    unfold ftoi
    simp only [FloatKind.decode, FloatKind.format, Format.write]
    rw [whole_read s (by omega), hsg]
    simp only [rng _ hk, and_self, if_true]
  · show (double.read (fconv .f32 .f64 x)).isNaN = false
    rw [e2]; rfl

/-- a share -/
theorem share_read {x : Nat} (h : isShareM x = true) : ∃ s m e, single.read x = .number s m e ∧ (s = false ∨ m = 0) ∧ e ≤ -23 ∧ m < 2 ^ 24 := by
  unfold isShareM at h
  simp only [Bool.and_eq_true] at h
  obtain ⟨h1, h2⟩ := h
  have n1 : nanB .f32 1065353216 = false := by decide
  have hx : nanB .f32 x = false := by
    rw [fge_eq, fgt_eq, feq_eq] at h1
    cases hn : nanB .f32 x
    · rfl
    · rw [hn] at h1; simp at h1
  have s1 : srung .f32 1065353216 = 127 * 2 ^ 23 := by decide
  rw [fge_not _ hx zero_nan, flt_eq, hx, zero_nan, zero_srung] at h1
  rw [fle_not _ hx n1, fgt_eq, hx, n1, s1] at h2
  simp at h1 h2
  have hsr : srung .f32 x = sg (sign single x) (rung single x) := rfl
  rw [hsr] at h1 h2
  have hrung : rung single x ≤ 127 * 2 ^ 23 ∧ (sign single x = true → rung single x = 0) := by
    cases hs : sign single x
    · rw [hs] at h1 h2; simp only [sg, Bool.false_eq_true, if_false] at h1 h2; exact ⟨by omega, fun h => by cases h⟩
    · rw [hs] at h1 h2; simp only [sg, if_true] at h1 h2; exact ⟨by omega, fun _ => by omega⟩
  obtain ⟨m, p, e, hu⟩ := read_num (f := single) (x := x) (by rw [sgl.2.2.2]; omega)
  have hsm := read_small (f := single) (q := 127) (by omega) e (by rw [sgl.2.2.1]; exact hrung.1)
  rw [sgl.2.2.1, sgl.1] at hsm
  refine ⟨_, m, _, e, ?_, by have := sgl.1; omega, by omega⟩
  cases hs : sign single x
  · exact .inl rfl
  · refine .inr ?_
    rw [hrung.2 hs, units_zero (by rw [sgl.2.2.1]; omega)] at hu
    rcases Nat.mul_eq_zero.mp hu with h | h
    · exact h
    · exact absurd h (Nat.ne_of_gt (Nat.two_pow_pos _))
def cntOk (n : Nat) : Bool := match single.read (fofi .f32 (n : Int)) with
  | .number s m e => !s && (decide (m < 2 ^ 24) && decide (e + m.log2 ≤ 6))
  | _ => false
theorem cnt_all : ∀ n : Fin 97, cntOk n.val = true := by decide +kernel
theorem cnt_read {n : Nat} (h : n ≤ 96) : ∃ m e, single.read (fofi .f32 (n : Int)) = .number false m e ∧ e + (m.log2 : Int) ≤ 6 := by
  have := cnt_all ⟨n, by omega⟩
  unfold cntOk at this
  cases hr : single.read (fofi .f32 (n : Int)) with
  | nan s t => rw [hr] at this; cases this
  | infinity s => rw [hr] at this; cases this
  | number s m e =>
    rw [hr] at this
    simp only [Bool.and_eq_true, Bool.not_eq_true', decide_eq_true_eq] at this
    exact ⟨m, e, by rw [this.1], this.2.2⟩
/-- a share of a count -/
theorem part_read {x n : Nat} (h : isShareM x = true) (hn : n ≤ 96) : ∃ s m e, single.read (fmul .f32 x (fofi .f32 (n : Int))) = .number s m e ∧ (s = false ∨ m = 0) ∧ e ≤ 0 := by
  obtain ⟨s, m, e, hr, hs, he, hm⟩ := share_read h
  obtain ⟨m2, e2, hr2, he2⟩ := cnt_read hn
  have ep : fmul .f32 x (fofi .f32 (n : Int)) = single.nearest s (m * m2) (e + e2) := by
    unfold fmul Format.mul
    show (Option.map single.write ((single.read x).product (single.read (fofi .f32 (n : Int))))).getD _ = _
    rw [hr, hr2]
    simp only [Datum.product, Bool.xor_false, Option.map_some, Option.getD_some, Format.write]
  rw [ep]
  by_cases h0 : m * m2 = 0
  · rw [h0]
    have : single.nearest s 0 (e + e2) = single.word s 0 := by unfold Format.nearest; rw [if_pos rfl]
    rw [this]
    refine ⟨s, 0, -149, ?_, .inr rfl, by omega⟩
    cases s <;> decide +kernel
  · have hm0 : m ≠ 0 := fun h => h0 (by rw [h, Nat.zero_mul])
    have hm20 : m2 ≠ 0 := fun h => h0 (by rw [h, Nat.mul_zero])
    have hs' : s = false := hs.resolve_right hm0
    subst hs'
    have hlog : (m * m2).log2 ≤ m.log2 + m2.log2 + 1 := by
      have a1 : m < 2 ^ (m.log2 + 1) := Nat.lt_log2_self
      have a2 : m2 < 2 ^ (m2.log2 + 1) := Nat.lt_log2_self
      have a3 : m * m2 < 2 ^ (m.log2 + m2.log2 + 2) := by
        have := Nat.mul_lt_mul'' a1 a2
        rwa [← Nat.pow_add, show m.log2 + 1 + (m2.log2 + 1) = m.log2 + m2.log2 + 2 by omega] at this
      have := (Nat.log2_lt h0).2 a3
      omega
    have hml : m.log2 < 24 := log2_lt' hm hm0
    obtain ⟨r, e1, hr1, hr2⟩ := nearest_rung single false (m * m2) (e + e2) 8 h0 (by omega) (by rw [sgl.1, sgl.2.1]; omega)
    rw [sgl.1, sgl.2.1, sgl.2.2.1] at hr1
    rw [e1]
    have hrw := rung_word single false r hr2
    have hsw : sign single (single.word false r) = false := (read_word_rung single false r (Nat.lt_of_le_of_lt hr2 single.infRung_lt)).2
    have hrr : r ≤ 136 * 2 ^ 23 := by
      have : ((8 : Int) - (23 : Nat) - (-149)).toNat + 2 = 136 := by decide
      rw [this] at hr1; exact hr1
    obtain ⟨m', p', e3, _⟩ := read_num (f := single) (x := single.word false r) (by rw [hrw, sgl.2.2.2]; omega)
    have hsm := read_small (f := single) (q := 136) (by omega) e3 (by rw [hrw, sgl.2.2.1]; exact hrr)
    rw [sgl.2.2.1, sgl.1] at hsm
    rw [hsw] at e3
    exact ⟨false, m', _, e3, .inl rfl, by have := sgl.1; omega⟩
end Go.Proofs.LV
