/- Texts that belong together. -/
import Derived.Test.YtjfgmnfkkehgfaaLvRatS
import Derived.Test.YtjfgmnfkkehgfaaLvFnDDX
import Derived.Test.YtjfgmnfkkehgfaaLvFnF
import Derived.Test.YtjfgmnfkkehgfaaLvHalfX
import Derived.Test.YtjfgmnfkkehgfaaLvFnRX
import Derived.Test.YtjfgmnfkkehgfaaLvAbsX
import Derived.Test.YtjfgmnfkkehgfaaLvFnCX
import Derived.Test.YtjfgmnfkkehgfaaLvSqrtX
import Derived.Test.YtjfgmnfkkehgfaaLvFnGX
namespace Go.Proofs.LV
open Go Ieee
set_option linter.unusedVariables false

/-! ### sums of fractions -/
theorem sumQ_add (f g : Nat → Rat) : ∀ n, (sumQ n fun i => f i + g i) = sumQ n f + sumQ n g
  | 0 => by show (0 : Rat) = 0 + 0; grind
  | n + 1 => by show (sumQ n fun i => f i + g i) + (f n + g n) = (sumQ n f + f n) + (sumQ n g + g n); rw [sumQ_add f g n]; grind
theorem sumQ_sub (f g : Nat → Rat) : ∀ n, (sumQ n fun i => f i - g i) = sumQ n f - sumQ n g
  | 0 => by show (0 : Rat) = 0 - 0; grind
  | n + 1 => by show (sumQ n fun i => f i - g i) + (f n - g n) = (sumQ n f + f n) - (sumQ n g + g n); rw [sumQ_sub f g n]; grind
theorem sumQ_mul (c : Rat) (f : Nat → Rat) : ∀ n, (sumQ n fun i => c * f i) = c * sumQ n f
  | 0 => by show (0 : Rat) = c * 0; grind
  | n + 1 => by show (sumQ n fun i => c * f i) + c * f n = c * (sumQ n f + f n); rw [sumQ_mul c f n]; grind
theorem nat_rat (n : Nat) : (0 : Rat) ≤ (n : Rat) := by have := nat_le_rat (Nat.zero_le n); simpa using this
theorem nat_succ (n : Nat) : ((n + 1 : Nat) : Rat) = (n : Rat) + 1 := Rat.natCast_add n 1
theorem sumQ_le {f : Nat → Rat} {C : Rat} : ∀ n, (∀ i, i < n → -C ≤ f i ∧ f i ≤ C) → -(n * C) ≤ sumQ n f ∧ sumQ n f ≤ n * C
  | 0, _ => by show -(((0 : Nat) : Rat) * C) ≤ 0 ∧ 0 ≤ ((0 : Nat) : Rat) * C; have : ((0 : Nat) : Rat) = 0 := rfl; rw [this]; grind
  | n + 1, h => by
    have h1 := sumQ_le n (fun i hi => h i (by omega))
    have h2 := h n (by omega)
    rw [nat_succ]
    show _ ≤ sumQ n f + f n ∧ sumQ n f + f n ≤ _
    grind
theorem sumQ_nonneg {f : Nat → Rat} : ∀ n, (∀ i, i < n → 0 ≤ f i) → 0 ≤ sumQ n f
  | 0, _ => Rat.le_refl
  | n + 1, h => by
    have h1 := sumQ_nonneg n (fun i hi => h i (by omega))
    have h2 := h n (by omega)
    show 0 ≤ sumQ n f + f n
    grind
/-! ### sums from the left of numbers that are nearly told -/
theorem mul_mono {a b c d : Rat} (ha : 0 ≤ a) (hd : 0 ≤ d) (h1 : a ≤ b) (h2 : d ≤ c) : a * d ≤ b * c :=
  Rat.le_trans (Rat.mul_le_mul_of_nonneg_right h1 hd) (Rat.mul_le_mul_of_nonneg_left h2 (Rat.le_trans ha h1))
theorem acc_nearS {g : Nat → Nat} {t : Nat → Rat} {C E N : Rat} (hC : 0 ≤ C) (hE : 0 ≤ E) (n : Nat) (hN : (n : Rat) ≤ N) (hB : (C + E + 1) * N ≤ 10000000)
    (h : ∀ i, i < n → sf (g i) ∧ Nr (sv (g i)) (t i) E ∧ -C ≤ t i ∧ t i ≤ C) :
    sf (accN (fun i s => fadd .f32 s (g i)) n 0) ∧ Nr (sv (accN (fun i s => fadd .f32 s (g i)) n 0)) (sumQ n t) (n * (E + ((C + E + 1) * N * e24 + eta))) := by
  induction n with
  | zero =>
    refine ⟨zero_sf, ?_⟩
    have z : sv (accN (fun i s => fadd .f32 s (g i)) 0 0) = 0 := zero_rv _
    rw [z]
    show Nr 0 0 (((0 : Nat) : Rat) * _)
    have : ((0 : Nat) : Rat) = 0 := rfl
    rw [this]
    exact ⟨by grind, by grind⟩
  | succ n ih =>
    rw [nat_succ] at hN
    obtain ⟨h1, h2⟩ := ih (by grind) (fun i hi => h i (by omega))
    obtain ⟨g1, g2, g3, g4⟩ := h n (by omega)
    have hs := sumQ_le (C := C) n (fun i hi => (h i (by omega)).2.2)
    have e24p : (0 : Rat) ≤ e24 := by decide +kernel
    have hK : (C + E + 1) * N * e24 + eta ≤ 1 := by
      have : (C + E + 1) * N * e24 ≤ 10000000 * e24 := Rat.mul_le_mul_of_nonneg_right hB e24p
      have : (10000000 : Rat) * e24 + eta ≤ 1 := by decide +kernel
      grind
    have hn0 := nat_rat n
    have hK0 : 0 ≤ (C + E + 1) * N * e24 + eta := by
      have a : 0 ≤ (C + E + 1) * N := Rat.mul_nonneg (by grind) (by grind)
      have b := Rat.mul_nonneg a e24p
      have c : (0 : Rat) ≤ eta := by decide +kernel
      grind
    generalize hKK : (C + E + 1) * N * e24 + eta = K at *
    have k1 : (n : Rat) * K ≤ n * 1 := Rat.mul_le_mul_of_nonneg_left hK hn0
    have k2 : ((n : Rat) + 1) * (C + E + 1) ≤ N * (C + E + 1) := Rat.mul_le_mul_of_nonneg_right hN (by grind)
    obtain ⟨u1, u2⟩ := h2
    obtain ⟨v1, v2⟩ := g2
    obtain ⟨s1, s2⟩ := s_add (B := (C + E + 1) * N) h1 g1 (by grind) (by grind) (by grind)
    rw [hKK] at s2
    refine ⟨s1, ?_⟩
    show Nr (sv (fadd .f32 _ (g n))) (sumQ n t + t n) _
    rw [nat_succ]
    obtain ⟨w1, w2⟩ := s2
    exact ⟨by grind, by grind⟩
/-! ### the gap -/
theorem c001 : df 4562254508917369340 ∧ 9 / 10000 ≤ dv 4562254508917369340 ∧ dv 4562254508917369340 ≤ 1 / 500 := by
  have h : df 4562254508917369340 := by unfold df fnt; decide +kernel
  refine ⟨h, ?_⟩
  have : dv 4562254508917369340 = 1152921504606847 / 1152921504606846976 := lit_neg h (m := 4611686018427388) (n := 62) (by decide +kernel) (by decide +kernel)
  rw [this]; decide +kernel
theorem div_bound {x d e b : Rat} (hd : 0 < d) (h1 : -e ≤ x * d) (h2 : x * d ≤ e) (hb : e ≤ b * d) : -b ≤ x ∧ x ≤ b := by
  constructor
  · refine Rat.le_of_mul_le_mul_right ?_ hd
    grind
  · refine Rat.le_of_mul_le_mul_right ?_ hd
    grind
end Go.Proofs.LV

namespace Go.Proofs.LV
open Go Ieee
set_option linter.unusedVariables false
set_option linter.unusedSimpArgs false

/-- a number on the half grid -/
def Hg (b x : Nat) : Prop := sf x ∧ Gr (-1) b (sv x)
theorem half_zp : (2 : Rat) ^ (-1 : Int) = 1 / 2 := by decide +kernel
theorem two_sf : sf 1073741824 ∧ sv 1073741824 = 2 := by
  have hf : fnt single 1073741824 := by unfold fnt; decide
  refine ⟨hf, ?_⟩
  exact lit_neg (n := 22) (m := 8388608) hf (by decide) (by decide +kernel)
theorem s2F_val {x : Int} (h : x.natAbs ≤ 100) : Hg 100 (s2F x) ∧ sv (s2F x) = (x : Rat) / 2 := by
  obtain ⟨f1, f2⟩ := fofi_rv .f32 (n := x) (Nat.lt_of_le_of_lt h (by decide))
  obtain ⟨t1, t2⟩ := two_sf
  have t2 : rv single 1073741824 = 2 := t2
  have f2 : rv single (fofi .f32 x) = x := f2
  have hG : Gr (-1) 100 ((x : Rat) / 2) := ⟨x, by rw [half_zp]; grind, h⟩
  have hd := div_gr .f32 (q := (x : Rat) / 2) (j := -1) (b := 100) f1 t1 (by show rv single 1073741824 ≠ 0; rw [t2]; decide) (by show (x : Rat) / 2 * rv single 1073741824 = rv single (fofi .f32 x); rw [t2, f2]; grind) hG (by decide) (by decide) (by decide)
  have e : sv (s2F x) = (x : Rat) / 2 := hd.2
  exact ⟨⟨hd.1, by rw [e]; exact hG⟩, e⟩
theorem s2X_le {cs : List Int} (hc : Byt cs) (i : Nat) (hi : i ≤ 21) : (s2X cs 0 0 i).natAbs ≤ 100 := by
  have hV := s2V_le hc 0 0
  have hW := s2W_le hc 0 0
  have hE := s2E_le hc 0 0 (s2P cs 0 0) (i % s2P cs 0 0)
  have hv := vl_mod hc 0 0 (3 + s2P cs 0 0 + i) (n := 5) (by omega)
  have hWi : -42 ≤ s2W cs 0 0 * (i : Int) ∧ s2W cs 0 0 * (i : Int) ≤ 42 := by
    have h1 : (i : Int) ≤ 21 := by omega
    rcases (show s2W cs 0 0 = -2 ∨ s2W cs 0 0 = -1 ∨ s2W cs 0 0 = 0 ∨ s2W cs 0 0 = 1 ∨ s2W cs 0 0 = 2 by omega) with e | e | e | e | e <;> rw [e] <;> omega
  have hd : -42 ≤ (s2W cs 0 0 * (i : Int)).tdiv 2 ∧ (s2W cs 0 0 * (i : Int)).tdiv 2 ≤ 42 := by
    generalize s2W cs 0 0 * (i : Int) = x at hWi
    rcases Int.le_total 0 x with h0 | h0
    · rw [Int.tdiv_eq_ediv_of_nonneg h0]; omega
    · obtain ⟨y, rfl⟩ : ∃ y, x = -y := ⟨-x, by omega⟩
      rw [Int.neg_tdiv, Int.tdiv_eq_ediv_of_nonneg (by omega)]; omega
  unfold s2X
  omega
/-- all numbers of a list lie on the half grid -/
def HL (b : Nat) (xs : List Nat) : Prop := ∀ i, i < xs.length → Hg b (xs.getD i 0)
theorem HL.mono {b c : Nat} {xs : List Nat} (h : HL b xs) (hb : b ≤ c) : HL c xs := fun i hi => ⟨(h i hi).1, (h i hi).2.mono hb⟩
theorem HL.fin {b : Nat} {xs : List Nat} (h : HL b xs) : finAllM xs = true := finAll_of fun i hi => (h i hi).1
theorem HL.series {b : Nat} {xs : List Nat} (h : HL b xs) (h1 : 1 ≤ xs.length ∧ xs.length ≤ 96) : seriesM xs = true := by
  unfold seriesM
  rw [h.fin, decide_eq_true (by omega), decide_eq_true (by omega)]; rfl
theorem Hg.sub {a b x y : Nat} (hx : Hg a x) (hy : Hg b y) (hb : a + b < 2 ^ 24) : Hg (a + b) (fsub .f32 x y) ∧ sv (fsub .f32 x y) = sv x - sv y := by
  have := sub_gr .f32 hx.1 hy.1 hx.2 hy.2 hb (by decide) (by decide)
  have e : sv (fsub .f32 x y) = sv x - sv y := this.2
  exact ⟨⟨this.1, by rw [e]; exact hx.2.sub hy.2⟩, e⟩
theorem Hg.add {a b x y : Nat} (hx : Hg a x) (hy : Hg b y) (hb : a + b < 2 ^ 24) : Hg (a + b) (fadd .f32 x y) ∧ sv (fadd .f32 x y) = sv x + sv y := by
  have := add_gr .f32 hx.1 hy.1 hx.2 hy.2 hb (by decide) (by decide)
  have e : sv (fadd .f32 x y) = sv x + sv y := this.2
  exact ⟨⟨this.1, by rw [e]; exact hx.2.add hy.2⟩, e⟩
theorem getD_takeN (xs : List Nat) (a m : Nat) (h : m < a) : (xs.take a).getD m 0 = xs.getD m 0 := by
  simp [List.getD, List.getElem?_take, h]
end Go.Proofs.LV

namespace Go.Proofs.LV
open Go
set_option linter.unusedVariables false
set_option linter.unusedSimpArgs false

end Go.Proofs.LV

namespace Go.Proofs.LV
open Go Ieee
set_option linter.unusedVariables false
set_option linter.unusedSimpArgs false

/-! ### gaps in 64 bits -/
def r8G (a b : Nat) : Nat := fmax .f64 (fsub .f64 (fconv .f32 .f64 a) (fconv .f32 .f64 b)) (fsub .f64 (fconv .f32 .f64 b) (fconv .f32 .f64 a))
theorem fmax_mem {k : FloatKind} {x y : Nat} (hx : nanB k x = false) (hy : nanB k y = false) : (fmax k x y = x ∧ srung k y ≤ srung k x) ∨ (fmax k x y = y ∧ srung k x ≤ srung k y) := by
  have ho := order_rung hx hy
  have ec : ∀ a b : Int, compare a b = if a < b then .lt else if a = b then .eq else .gt := fun a b => rfl
  rw [ec] at ho
  unfold fmax
  rw [ho]
  rcases Int.lt_trichotomy (srung k x) (srung k y) with h | h | h
  · rw [if_pos h]; exact .inr ⟨rfl, by omega⟩
  · rw [if_neg (by omega), if_pos h]
    simp only
    split
    · exact .inr ⟨rfl, by omega⟩
    · exact .inl ⟨rfl, by omega⟩
  · rw [if_neg (by omega), if_neg (by omega)]; exact .inl ⟨rfl, by omega⟩
/-- numbers that are the same have no gap to speak of -/
theorem r8G_same {a b : Nat} (ha : sf a) (hb : sf b) (h : sv a = sv b) : fgt .f64 (r8G a b) 4562254508917369340 = false := by
  obtain ⟨a1, a2⟩ := conv_up ha
  obtain ⟨b1, b2⟩ := conv_up hb
  obtain ⟨x1, x2, x3⟩ := d_sub (B := 0) a1 b1 (by rw [a2, b2, h]; grind) (by rw [a2, b2, h]; grind) (by decide +kernel)
  obtain ⟨y1, y2, y3⟩ := d_sub (B := 0) b1 a1 (by rw [a2, b2, h]; grind) (by rw [a2, b2, h]; grind) (by decide +kernel)
  obtain ⟨c1, c2, _⟩ := c001
  have he : eta < 9 / 10000 := by decide +kernel
  have key : ∀ z, df z → dv z ≤ eta → fgt .f64 z 4562254508917369340 = false := by
    intro z hz hz2
    rw [fgt_rv (k := .f64) hz c1, decide_eq_false]
    have c2 : 9 / 10000 ≤ rv double 4562254508917369340 := c2
    have hz2 : rv double z ≤ eta := hz2
    show ¬ (rv double 4562254508917369340 < rv double z)
    grind
  unfold r8G
  rcases fmax_mem (fnt_nan (k := .f64) x1) (fnt_nan (k := .f64) y1) with ⟨e, _⟩ | ⟨e, _⟩
  · rw [e]; exact key _ x1 (by grind)
  · rw [e]; exact key _ y1 (by grind)
end Go.Proofs.LV

namespace Go.Proofs.LV
open Go
set_option linter.unusedVariables false
set_option linter.unusedSimpArgs false

-- FN laws_r8Gap
def ps_laws_r8Gap : List Nat := [0, 1, 4]
def b_laws_r8Gap : VCode :=
 (.seq
 (.region false [
 ⟨some 4, .mv, [.k (.f .f64 0)], none⟩])
 (.seq
 (.region false [
 ⟨some 5, .mv, [.t 0], none⟩,
 ⟨some 6, (.convF .f64), [.t 5], none⟩,
 ⟨some 7, .mv, [.t 1], none⟩,
 ⟨some 8, (.convF .f64), [.t 7], none⟩,
 ⟨some 9, (.bin .sub), [.t 6, .t 8], none⟩,
 ⟨some 10, .mv, [.t 1], none⟩,
 ⟨some 11, (.convF .f64), [.t 10], none⟩,
 ⟨some 12, .mv, [.t 0], none⟩,
 ⟨some 13, (.convF .f64), [.t 12], none⟩,
 ⟨some 14, (.bin .sub), [.t 11, .t 13], none⟩,
 ⟨some 15, .max, [.t 9, .t 14], none⟩,
 ⟨some 4, .mv, [.t 15], none⟩])
 .ret))

abbrev Is_laws_r8Gap (P : Program) (g_f : FuncId) : Prop := FnIs P g_f 16 [.t 4] (b_laws_r8Gap)

abbrev C_laws_r8Gap (P : Program) (g_f : FuncId) : Prop := ∀ (a : Nat) (b : Nat), VCall P g_f [.f .f32 a, .f .f32 b] (.f .f64 (r8G a b))
def oc1_laws_r8Gap (as : List AV) : T AV := match as with | [.f .f32 a, .f .f32 b] => .leaf (.f .f64 (r8G a b)) | _ => .fail



theorem q_laws_r8Gap {P : Program} {g_f : FuncId} (h_ : Is_laws_r8Gap P g_f) (a : Nat) (b : Nat) (ht : T.ok (fun x_ => x_ = .f .f64 (r8G a b)) (
 T.ob (fconvOk .f32 .f64 a = true)
 (T.ob (fconvOk .f32 .f64 b = true)
 (T.ob (fconvOk .f32 .f64 b = true)
 (T.ob (fconvOk .f32 .f64 a = true)
 (T.leaf
 (AV.f .f64
 (fmax .f64 (fsub .f64 (fconv .f32 .f64 a) (fconv .f32 .f64 b))
 (fsub .f64 (fconv .f32 .f64 b) (fconv .f32 .f64 a)))))))))) :
 VCall P g_f [.f .f32 a, .f .f32 b] (.f .f64 (r8G a b)) := h_.call_of ps_laws_r8Gap ⟨fun _ _ => .fail, fun _ _ => none⟩ (by kernel_rfl) ht

-- END laws_r8Gap

theorem k_laws_r8Gap {P : Program} {f : FuncId} (h : Is_laws_r8Gap P f) : C_laws_r8Gap P f := by
  intro a b
  refine q_laws_r8Gap h a b ?_
  repeat' (first | with_reducible refine T.ok_ob ?_ (fun _ => ?_) | with_reducible refine T.ok_ite (fun _ => ?_) (fun _ => ?_) | with_reducible refine T.ok_leaf ?_)
  all_goals first | exact fconvOk_32_64 _ | rfl

end Go.Proofs.LV

namespace Go.Proofs.LV
open Go Ieee
set_option linter.unusedVariables false
set_option linter.unusedSimpArgs false

theorem HL.mem {b : Nat} {xs : List Nat} (h : HL b xs) {x : Nat} (hx : x ∈ xs) : Hg b x := by
  obtain ⟨i, hi, rfl⟩ := List.getElem_of_mem hx
  have := h i hi
  simpa [List.getD, hi] using this
theorem sumQ_between {f : Nat → Rat} {lo hi : Rat} : ∀ n : Nat, (∀ i, i < n → lo ≤ f i ∧ f i ≤ hi) → (n : Rat) * lo ≤ sumQ n f ∧ sumQ n f ≤ (n : Rat) * hi
  | 0, _ => by
    show ((0 : Nat) : Rat) * lo ≤ 0 ∧ (0 : Rat) ≤ ((0 : Nat) : Rat) * hi
    have : ((0 : Nat) : Rat) = 0 := rfl
    rw [this]; constructor <;> grind
  | n + 1, h => by
    have ih := sumQ_between n (fun i hi => h i (by omega))
    have h1 := h n (by omega)
    have e : sumQ (n + 1) f = sumQ n f + f n := rfl
    rw [e, nat_succ]
    constructor <;> grind
theorem rat_div_between {q n s lo hi : Rat} (hn : 0 < n) (e : q * n = s) (h1 : n * lo ≤ s) (h2 : s ≤ n * hi) : lo ≤ q ∧ q ≤ hi := by
  constructor
  · refine Rat.not_lt.1 fun h => ?_
    have := Rat.mul_lt_mul_of_pos_right h hn
    grind
  · refine Rat.not_lt.1 fun h => ?_
    have := Rat.mul_lt_mul_of_pos_right h hn
    grind
theorem Hg.bound {b x : Nat} (h : Hg b x) {B : Rat} (hB : (b : Rat) * 2 ^ (-1 : Int) ≤ B) : -B ≤ sv x ∧ sv x ≤ B := gr_bound h.2 hB
theorem b100 : ((100 : Nat) : Rat) * 2 ^ (-1 : Int) ≤ 50 := by decide +kernel
theorem nat_small {n : Nat} (h : n ≤ 96) : ((n : Int)).natAbs < 2 ^ (FloatKind.f32.format.fractionBits + 1) :=
  Nat.lt_of_le_of_lt (show ((n : Int)).natAbs ≤ 96 by omega) (by decide)
theorem mean_val {w : List Nat} (h : HL 100 w) (hl : 1 ≤ w.length ∧ w.length ≤ 96) {lo hi : Rat} (hb : ∀ j, j < w.length → lo ≤ sv (w.getD j 0) ∧ sv (w.getD j 0) ≤ hi) :
    sf (meanM w) ∧ lo - 1 / 10000 ≤ sv (meanM w) ∧ sv (meanM w) ≤ hi + 1 / 10000 := by
  obtain ⟨s1, s2, s3⟩ := acc_gr (g := fun i => w.getD i 0) (j := -1) (b := 100) (by omega) (by omega) w.length (by omega) (fun i hi => h i hi)
  obtain ⟨f1, f2⟩ := fofi_rv .f32 (n := (w.length : Int)) (nat_small hl.2)
  have f2 : sv (fofi .f32 (w.length : Int)) = (w.length : Rat) := f2
  have hn : (0 : Rat) < (w.length : Rat) := by
    have := nat_le_rat hl.1
    have e : ((1 : Nat) : Rat) = 1 := rfl
    rw [e] at this; grind
  have hne : sv (fofi .f32 (w.length : Int)) ≠ 0 := by rw [f2]; grind
  obtain ⟨q, hq⟩ : ∃ q : Rat, q * (w.length : Rat) = sumQ w.length fun i => sv (w.getD i 0) := ⟨(sumQ w.length fun i => sv (w.getD i 0)) / (w.length : Rat), Rat.div_mul_cancel (by grind)⟩
  have h1 := sumQ_between w.length hb
  have h2 := sumQ_between (lo := -50) (hi := 50) w.length (fun i hi => by have := (h i hi).bound b100; exact this)
  obtain ⟨l1, l2⟩ := rat_div_between hn hq h1.1 h1.2
  obtain ⟨k1, k2⟩ := rat_div_between hn hq h2.1 h2.2
  obtain ⟨d1, d2, d3⟩ := s_div (B := 50) s1 f1 hne (q := q) (by rw [f2, hq]; exact s3.symm) k1 k2 (by decide +kernel)
  have hE : 50 * e23 + eta ≤ 1 / 10000 := by decide +kernel
  have e : meanM w = fdiv .f32 (accN (fun i s => fadd .f32 s (w.getD i 0)) w.length 0) (fofi .f32 (w.length : Int)) := rfl
  rw [e]
  refine ⟨d1, ?_, ?_⟩ <;> grind
theorem one_sf : sf 1065353216 ∧ sv 1065353216 = 1 := by
  have hf : fnt single 1065353216 := by unfold fnt; decide
  exact ⟨hf, lit_neg (n := 23) (m := 8388608) hf (by decide) (by decide +kernel)⟩
theorem half_sf : sf 1056964608 ∧ sv 1056964608 = 1 / 2 := by
  have hf : fnt single 1056964608 := by unfold fnt; decide
  exact ⟨hf, lit_neg (n := 24) (m := 8388608) hf (by decide) (by decide +kernel)⟩
end Go.Proofs.LV

namespace Go.Proofs.LV
open Go Ieee
set_option linter.unusedVariables false
set_option linter.unusedSimpArgs false

theorem mul_abs_le {a b A B : Rat} (hA : 0 ≤ A) (hB : 0 ≤ B) (h1 : -A ≤ a) (h2 : a ≤ A) (h3 : -B ≤ b) (h4 : b ≤ B) : -(A * B) ≤ a * b ∧ a * b ≤ A * B := by
  have p1 : 0 ≤ (A - a) * (B + b) := Rat.mul_nonneg (by grind) (by grind)
  have p2 : 0 ≤ (A + a) * (B - b) := Rat.mul_nonneg (by grind) (by grind)
  have p3 : 0 ≤ (A - a) * (B - b) := Rat.mul_nonneg (by grind) (by grind)
  have p4 : 0 ≤ (A + a) * (B + b) := Rat.mul_nonneg (by grind) (by grind)
  constructor <;> grind
end Go.Proofs.LV

namespace Go.Proofs.LV
open Go
set_option linter.unusedVariables false
set_option linter.unusedSimpArgs false



end Go.Proofs.LV

namespace Go.Proofs.LV
open Go
set_option linter.unusedVariables false
set_option linter.unusedSimpArgs false

end Go.Proofs.LV

namespace Go.Proofs.LV
open Go Ieee
set_option linter.unusedVariables false
set_option linter.unusedSimpArgs false


/-! ### the numbers that are drawn -/
theorem fne_of {x y : Nat} (hx : sf x) (hy : sf y) (h : sv x = sv y) : fne .f32 x y = false := by
  rw [fne_eq, feq_rv (k := .f32) hx hy]
  simp only [Bool.not_eq_false', decide_eq_true_eq]
  exact h
theorem series_of {xs : List Nat} (h1 : 1 ≤ xs.length) (h2 : xs.length ≤ 96) (h : ∀ i, i < xs.length → sf (xs.getD i 0)) : seriesM xs = true := by
  unfold seriesM
  rw [finAll_of h]
  simp; omega
/-! ### folded at any period -/
/-! ### folded at its own period -/
/-! ### waves -/
/-! ### the best period -/
theorem byt_of {cs : List Int} (h : Cont.rng (.i .u8 cs)) : Byt cs ∧ cs.length ≤ maxLen := by
  refine ⟨fun i => ?_, h.1⟩
  by_cases hi : i < cs.length
  · have := h.2 (cs.getD i 0) (by simp [List.getD, hi])
    exact this
  · have : cs.getD i 0 = 0 := by simp [List.getD, List.getElem?_eq_none (Nat.le_of_not_lt hi)]
    rw [this]; omega
end Go.Proofs.LV

namespace Go.Proofs.LV
open Go Ieee
set_option linter.unusedVariables false
set_option linter.unusedSimpArgs false

theorem at_le {cs : List Int} (hc : Byt cs) {i n : Int} (hn : 1 ≤ n) : 0 ≤ atM cs i n ∧ atM cs i n < n := by
  unfold atM
  split
  · omega
  · exact tmod_byte (hc _).1 (by omega)
theorem tab_at' (n : Nat) (f : Nat → Nat) {i : Nat} (h : i < n) : (tab n f).getD i 0 = f i := tab_get _ _ _ _ h
theorem ifAll_fin {xs : List Nat} (h : finAllM xs = true) : ifAllM xs = xs := by unfold ifAllM; rw [if_pos h]
theorem inM_of {a b c : Int} (h : b ≤ a ∧ a ≤ c) : inM a b c = true := by unfold inM; simp; exact h
theorem HL.take {b : Nat} {xs : List Nat} (h : HL b xs) (m : Nat) : HL b (xs.take m) := fun i hi => by
  rw [List.length_take] at hi
  rw [getD_takeN _ _ _ (by omega)]; exact h i (by omega)
theorem not_below {x lo : Nat} (hx : sf x) (hl : sf lo) (h : sv lo - 1 / 10000 ≤ sv x) (hb : -1000000 ≤ sv lo ∧ sv lo ≤ 1000000) : flt .f64 (fconv .f32 .f64 x) (fsub .f64 (fconv .f32 .f64 lo) 4562254508917369340) = false := by
  obtain ⟨x1, x2⟩ := conv_up hx
  obtain ⟨l1, l2⟩ := conv_up hl
  obtain ⟨k1, k2, k3⟩ := c001
  obtain ⟨r1, r2, r3⟩ := d_sub (B := 2000000) l1 k1 (by rw [l2]; grind) (by rw [l2]; grind) (by decide +kernel)
  have hE : 2000000 * e53 + eta ≤ 1 / 10000 := by decide +kernel
  rw [flt_rv (k := .f64) x1 r1]
  refine decide_eq_false ?_
  show ¬ dv _ < dv _
  rw [x2]
  rw [l2] at r2 r3
  grind
theorem not_above {x hi : Nat} (hx : sf x) (hl : sf hi) (h : sv x ≤ sv hi + 1 / 10000) (hb : -1000000 ≤ sv hi ∧ sv hi ≤ 1000000) : fgt .f64 (fconv .f32 .f64 x) (fadd .f64 (fconv .f32 .f64 hi) 4562254508917369340) = false := by
  obtain ⟨x1, x2⟩ := conv_up hx
  obtain ⟨l1, l2⟩ := conv_up hl
  obtain ⟨k1, k2, k3⟩ := c001
  obtain ⟨r1, r2, r3⟩ := d_add (B := 2000000) l1 k1 (by rw [l2]; grind) (by rw [l2]; grind) (by decide +kernel)
  have hE : 2000000 * e53 + eta ≤ 1 / 10000 := by decide +kernel
  rw [fgt_rv (k := .f64) x1 r1]
  refine decide_eq_false ?_
  show ¬ dv _ < dv _
  rw [x2]
  rw [l2] at r2 r3
  grind
theorem flt_not {x y : Nat} (hx : sf x) (hy : sf y) (h : sv y ≤ sv x) : flt .f32 x y = false := by
  rw [flt_rv (k := .f32) hx hy]
  exact decide_eq_false (Rat.not_lt.2 h)
theorem fgt_not {x y : Nat} (hx : sf x) (hy : sf y) (h : sv x ≤ sv y) : fgt .f32 x y = false := by
  rw [fgt_rv (k := .f32) hx hy]
  exact decide_eq_false (Rat.not_lt.2 h)
theorem w_succ {i : Nat} (h : i ≤ 1000) : IntKind.wrap .i64 ((i : Int) + 1) = ((i + 1 : Nat) : Int) := by rw [wrap64_id (by omega) (by omega)]; omega
theorem fne_same {x y : Nat} (hx : sf x) (hy : sf y) (h : sv x = sv y) : fne .f32 x y = false := fne_of hx hy h
theorem fmax_val {a b : Nat} (ha : sf a) (hb : sf b) : sf (fmax .f32 a b) ∧ sv a ≤ sv (fmax .f32 a b) ∧ sv b ≤ sv (fmax .f32 a b) ∧ (sv (fmax .f32 a b) = sv a ∨ sv (fmax .f32 a b) = sv b) := by
  have h1 := srung_rv .f32 b a
  have h2 := srung_rv .f32 a b
  rcases fmax_mem (fnt_nan (k := .f32) ha) (fnt_nan (k := .f32) hb) with ⟨e, hs⟩ | ⟨e, hs⟩ <;> rw [e]
  · exact ⟨ha, Rat.le_refl, Rat.not_lt.1 fun hlt => by have := h2.1.2 hlt; omega, .inl rfl⟩
  · exact ⟨hb, Rat.not_lt.1 fun hlt => by have := h1.1.2 hlt; omega, Rat.le_refl, .inr rfl⟩
theorem bne_no {a b : Int} (h : a = b) : (a != b) = false := by rw [h]; simp

end Go.Proofs.LV
