/- Texts that belong together. -/
import Derived.Test.YtjfgmnfkkehgfaaLvFnXX
import Derived.Test.YtjfgmnfkkehgfaaLvAbsX
import Derived.Test.YtjfgmnfkkehgfaaLvFnF
import Derived.Test.YtjfgmnfkkehgfaaLvFnCX
import Derived.Test.YtjfgmnfkkehgfaaLvHalfX
import Derived.Test.YtjfgmnfkkehgfaaLvFnIX
import Derived.Test.YtjfgmnfkkehgfaaLvFnFFX
import Derived.Test.YtjfgmnfkkehgfaaLvRatS
namespace Go.Proofs.LV
open Go
set_option linter.unusedVariables false
set_option linter.unusedSimpArgs false

-- FN laws_r8Gap
/-- laws.r8Gap: slots 16, results [.t 4]; calls []; names [(a, 0), (b, 1), (a, 2), (b, 3)] -/
def ps_laws_r8Gap : List Nat := [0, 1, 4]
def b_laws_r8Gap : VCode :=
 (.seq
 (.region false [
 ⟨some 4, .mv, [.k (.f .f64 0)], none⟩])
 (.seq
 (.region false [
 ⟨some 5, .mv, [.t 0], none⟩,
 ⟨some 6, (.convF .f64), [.t 5], none⟩,
 ⟨some 7, .mv, [.t 1], none⟩,
 ⟨some 8, (.convF .f64), [.t 7], none⟩,
 ⟨some 9, (.bin .sub), [.t 6, .t 8], none⟩,
 ⟨some 10, .mv, [.t 1], none⟩,
 ⟨some 11, (.convF .f64), [.t 10], none⟩,
 ⟨some 12, .mv, [.t 0], none⟩,
 ⟨some 13, (.convF .f64), [.t 12], none⟩,
 ⟨some 14, (.bin .sub), [.t 11, .t 13], none⟩,
 ⟨some 15, .max, [.t 9, .t 14], none⟩,
 ⟨some 4, .mv, [.t 15], none⟩])
 .ret))

abbrev Is_laws_r8Gap (P : Program) (g_f : FuncId) : Prop := FnIs P g_f 16 [.t 4] (b_laws_r8Gap)

abbrev C_laws_r8Gap (P : Program) (g_f : FuncId) : Prop := ∀ (a : Nat) (b : Nat), VCall P g_f [.f .f32 a, .f .f32 b] (.f .f64 (r8G a b))
def oc1_laws_r8Gap (as : List AV) : T AV := match as with | [.f .f32 a, .f .f32 b] => .leaf (.f .f64 (r8G a b)) | _ => .fail



theorem q_laws_r8Gap {P : Program} {g_f : FuncId} (h_ : Is_laws_r8Gap P g_f) (a : Nat) (b : Nat) (ht : T.ok (fun x_ => x_ = .f .f64 (r8G a b)) (
 T.ob (fconvOk FloatKind.f32 FloatKind.f64 a = true)
 (T.ob (fconvOk FloatKind.f32 FloatKind.f64 b = true)
 (T.ob (fconvOk FloatKind.f32 FloatKind.f64 b = true)
 (T.ob (fconvOk FloatKind.f32 FloatKind.f64 a = true)
 (T.leaf
 (AV.f FloatKind.f64
 (fmax FloatKind.f64 (fsub FloatKind.f64 (fconv FloatKind.f32 FloatKind.f64 a) (fconv FloatKind.f32 FloatKind.f64 b))
 (fsub FloatKind.f64 (fconv FloatKind.f32 FloatKind.f64 b) (fconv FloatKind.f32 FloatKind.f64 a)))))))))) :
 VCall P g_f [.f .f32 a, .f .f32 b] (.f .f64 (r8G a b)) := h_.call_of ps_laws_r8Gap ⟨fun _ _ => .fail, fun _ _ => none⟩ (by kernel_rfl) ht

-- END laws_r8Gap

theorem k_laws_r8Gap {P : Program} {f : FuncId} (h : Is_laws_r8Gap P f) : C_laws_r8Gap P f := by
  intro a b
  refine q_laws_r8Gap h a b ?_
  repeat' (first | with_reducible refine T.ok_ob ?_ (fun _ => ?_) | with_reducible refine T.ok_ite (fun _ => ?_) (fun _ => ?_) | with_reducible refine T.ok_leaf ?_)
  all_goals first | exact fconvOk_32_64 _ | rfl

end Go.Proofs.LV

namespace Go.Proofs.LV
open Go
set_option linter.unusedVariables false
set_option linter.unusedSimpArgs false

-- FN impl_MovingMedian
/-- impl.MovingMedian: slots 20, results [.t 4, .t 5]; calls [7:gq0, 11:gq1, 16:gq2, 17:gq3]; names [(list, 0), (side, 1), (list, 2), (side, 3)] -/
def ps_impl_MovingMedian : List Nat := [0, 1, 4, 5, 13]
def b_impl_MovingMedian (gq0 gq1 gq2 gq4 gq3 : FuncId) : VCode :=
 (.seq
 (.region false [
 ⟨some 4, (.nilsl (.f .f32 [])), [], none⟩,
 ⟨some 5, .mv, [.k (.b false)], none⟩])
 (.seq
 (.seq
 (.region false [
 ⟨some 6, .mv, [.t 0], none⟩,
 ⟨some 7, (.call gq0), [.t 6], none⟩,
 ⟨some 8, .not, [.t 7], none⟩,
 ⟨some 9, .mv, [.t 8], none⟩,
 ⟨some 10, .mv, [.t 1], some (9, false)⟩,
 ⟨some 11, (.call gq1), [.t 10], some (9, false)⟩,
 ⟨some 12, .not, [.t 11], some (9, false)⟩,
 ⟨some 13, .pick, [.t 9, .k (.b true), .t 12], none⟩])
 (.cond (.t 13)
 (.seq
 (.region false [
 ⟨some 4, (.nilsl (.f .f32 [])), [], none⟩,
 ⟨some 5, .mv, [.k (.b false)], none⟩])
 .ret)
 .skip))
 (.seq
 (.region false [
 ⟨some 14, .mv, [.t 0], none⟩,
 ⟨some 15, .mv, [.t 1], none⟩,
 ⟨some 16, (.call gq2), [.t 14, .t 15, .k (.fn gq4 [])], none⟩,
 ⟨some 17, (.call gq3), [.t 16], none⟩,
 ⟨some 18, (.extract 0), [.t 17], none⟩,
 ⟨some 19, (.extract 1), [.t 17], none⟩,
 ⟨some 4, .mv, [.t 18], none⟩,
 ⟨some 5, .mv, [.t 19], none⟩])
 .ret)))

abbrev Is_impl_MovingMedian (P : Program) (g_f : FuncId) (gq0 gq1 gq2 gq4 gq3 : FuncId) : Prop := FnIs P g_f 20 [.t 4, .t 5] (b_impl_MovingMedian gq0 gq1 gq2 gq4 gq3)

abbrev C_impl_MovingMedian (P : Program) (g_f : FuncId) : Prop := ∀ (xs : List Nat) (side : Int) (hx : xs.length ≤ maxLen), VCall P g_f [PS [0] .f32 xs, .i .i64 side] (.tup [OS 0 .f32 (if mmOk medM xs side = true then movM medM xs side.toNat else []), .b (mmOk medM xs side)])
def oc_impl_MovingMedian (xs : List Nat) (side : Int) (d : Nat) (as : List AV) : T AV := match d with | 7 => oc1_impl_IsSeries as | 11 => oc1_impl_isSide as | 16 => .leaf (OS 0 .f32 (movM medM xs side.toNat)) | 17 => oc1_impl_ifAll as | _ => .fail



theorem q_impl_MovingMedian {P : Program} {g_f : FuncId} {gq0 gq1 gq2 gq4 gq3 : FuncId} (h_ : Is_impl_MovingMedian P g_f gq0 gq1 gq2 gq4 gq3) (xs : List Nat) (side : Int) (ht : T.ok (fun x_ => x_ = .tup [OS 0 .f32 (if mmOk medM xs side = true then movM medM xs side.toNat else []), .b (mmOk medM xs side)]) (
 T.ob ((VCall P) gq0 [AV.sl (Tag.par [0]) 0 (Cont.f FloatKind.f32 xs)] (AV.b (seriesM xs)))
 (T.ite (!seriesM xs) (T.leaf (AV.tup [AV.sl (Tag.own 0) 0 (Cont.f FloatKind.f32 []), AV.b false]))
 (T.ob ((VCall P) gq1 [AV.i IntKind.i64 side] (AV.b (inM side 0 96)))
 (T.ite (!inM side 0 96) (T.leaf (AV.tup [AV.sl (Tag.own 0) 0 (Cont.f FloatKind.f32 []), AV.b false]))
 (T.ob ((VCall P) gq2 [AV.sl (Tag.par [0]) 0 (Cont.f FloatKind.f32 xs), AV.i IntKind.i64 side, AV.fn gq4 []] (AV.sl (Tag.own 0) 0 (Cont.f FloatKind.f32 (movM medM xs (Int.toNat side)))))
 (T.ob
 ((VCall P) gq3 [AV.sl (Tag.par [0]) 0 (Cont.f FloatKind.f32 (movM medM xs (Int.toNat side)))]
 (AV.tup [AV.sl (Tag.par [0]) 0 (Cont.f FloatKind.f32 (ifAllM (movM medM xs (Int.toNat side)))), AV.b (finAllM (movM medM xs (Int.toNat side)))]))
 (T.leaf (AV.tup [AV.sl (Tag.own 0) 0 (Cont.f FloatKind.f32 (ifAllM (movM medM xs (Int.toNat side)))), AV.b (finAllM (movM medM xs (Int.toNat side)))]))))))))) :
 VCall P g_f [PS [0] .f32 xs, .i .i64 side] (.tup [OS 0 .f32 (if mmOk medM xs side = true then movM medM xs side.toNat else []), .b (mmOk medM xs side)]) := h_.call_of ps_impl_MovingMedian ⟨oc_impl_MovingMedian xs side, fun _ _ => none⟩ (by kernel_rfl) ht

-- END impl_MovingMedian


theorem k_impl_MovingMedian {P : Program} {f g1 g2 g3 g4 g5 : FuncId} (h : Is_impl_MovingMedian P f g1 g2 g3 g4 g5) (c1 : C_impl_IsSeries P g1) (c2 : C_impl_isSide P g2) (c3 : C_impl_moving P g3) (c4 : C_impl_median P g4) (c5 : C_impl_ifAll P g5) : C_impl_MovingMedian P f := by
  intro xs side hx
  refine q_impl_MovingMedian h xs side ?_
  have hl := fun h => series_len (xs := xs) h
  have hi : inM side 0 96 = true → 0 ≤ side ∧ side ≤ 96 := by intro h; simpa [inM] using h
  have ml := mov_len medM xs side.toNat
  repeat' (first | with_reducible refine T.ok_ob ?_ (fun _ => ?_) | with_reducible refine T.ok_ite (fun _ => ?_) (fun _ => ?_) | with_reducible refine T.ok_leaf ?_)
  all_goals first | with_reducible rfl | with_reducible exact c1 _ hx | with_reducible exact c2 _ | exact c3 xs side _ medM ⟨fun x => nanB .f32 x = false, fun i => series_nan (by simp_all) i, fun ys h1 h2 h3 => c4 ys h1 h3 (by omega)⟩ (hi (by simp_all)) (hl (by simp_all)).2 | exact c5 _ (by rw [ml]; exact hx) | (simp_all [mmOk, ifAllM]; done)
end Go.Proofs.LV

namespace Go.Proofs.LV
open Go Ieee
set_option linter.unusedVariables false
set_option linter.unusedSimpArgs false

theorem HL.mem {b : Nat} {xs : List Nat} (h : HL b xs) {x : Nat} (hx : x ∈ xs) : Hg b x := by
  obtain ⟨i, hi, rfl⟩ := List.getElem_of_mem hx
  have := h i hi
  simpa [List.getD, hi] using this
theorem win_lenE (xs : List Nat) (s i : Nat) (hi : i < xs.length) : (winM xs s i).length = min xs.length (i + s + 1) - (i - s) := by
  unfold winM
  rw [List.length_take, List.length_drop]; omega
theorem win_get (xs : List Nat) (s i : Nat) {j : Nat} (hj : j < (winM xs s i).length) : (winM xs s i).getD j 0 = xs.getD (i - s + j) 0 := by
  unfold winM at hj ⊢
  rw [List.length_take] at hj
  rw [getD_takeN _ _ _ (by omega), getD_dropN]
theorem win_HL {b : Nat} {xs : List Nat} (h : HL b xs) (s i : Nat) (hi : i < xs.length) : HL b (winM xs s i) := fun j hj => by
  rw [win_get _ _ _ hj]
  rw [win_lenE _ _ _ hi] at hj
  exact h _ (by omega)
theorem sumQ_between {f : Nat → Rat} {lo hi : Rat} : ∀ n : Nat, (∀ i, i < n → lo ≤ f i ∧ f i ≤ hi) → (n : Rat) * lo ≤ sumQ n f ∧ sumQ n f ≤ (n : Rat) * hi
  | 0, _ => by
    show ((0 : Nat) : Rat) * lo ≤ 0 ∧ (0 : Rat) ≤ ((0 : Nat) : Rat) * hi
    have : ((0 : Nat) : Rat) = 0 := rfl
    rw [this]; constructor <;> grind
  | n + 1, h => by
    have ih := sumQ_between n (fun i hi => h i (by omega))
    have h1 := h n (by omega)
    have e : sumQ (n + 1) f = sumQ n f + f n := rfl
    rw [e, nat_succ]
    constructor <;> grind
theorem rat_div_between {q n s lo hi : Rat} (hn : 0 < n) (e : q * n = s) (h1 : n * lo ≤ s) (h2 : s ≤ n * hi) : lo ≤ q ∧ q ≤ hi := by
  constructor
  · refine Rat.not_lt.1 fun h => ?_
    have := Rat.mul_lt_mul_of_pos_right h hn
    grind
  · refine Rat.not_lt.1 fun h => ?_
    have := Rat.mul_lt_mul_of_pos_right h hn
    grind
theorem Hg.bound {b x : Nat} (h : Hg b x) {B : Rat} (hB : (b : Rat) * 2 ^ (-1 : Int) ≤ B) : -B ≤ sv x ∧ sv x ≤ B := gr_bound h.2 hB
theorem b100 : ((100 : Nat) : Rat) * 2 ^ (-1 : Int) ≤ 50 := by decide +kernel
theorem nat_small {n : Nat} (h : n ≤ 96) : ((n : Int)).natAbs < 2 ^ (FloatKind.f32.format.fractionBits + 1) :=
  Nat.lt_of_le_of_lt (show ((n : Int)).natAbs ≤ 96 by omega) (by decide)
theorem mean_val {w : List Nat} (h : HL 100 w) (hl : 1 ≤ w.length ∧ w.length ≤ 96) {lo hi : Rat} (hb : ∀ j, j < w.length → lo ≤ sv (w.getD j 0) ∧ sv (w.getD j 0) ≤ hi) :
    sf (meanM w) ∧ lo - 1 / 10000 ≤ sv (meanM w) ∧ sv (meanM w) ≤ hi + 1 / 10000 := by
  obtain ⟨s1, s2, s3⟩ := acc_gr (g := fun i => w.getD i 0) (j := -1) (b := 100) (by omega) (by omega) w.length (by omega) (fun i hi => h i hi)
  obtain ⟨f1, f2⟩ := fofi_rv .f32 (n := (w.length : Int)) (nat_small hl.2)
  have f2 : sv (fofi .f32 (w.length : Int)) = (w.length : Rat) := f2
  have hn : (0 : Rat) < (w.length : Rat) := by
    have := nat_le_rat hl.1
    have e : ((1 : Nat) : Rat) = 1 := rfl
    rw [e] at this; grind
  have hne : sv (fofi .f32 (w.length : Int)) ≠ 0 := by rw [f2]; grind
  obtain ⟨q, hq⟩ : ∃ q : Rat, q * (w.length : Rat) = sumQ w.length fun i => sv (w.getD i 0) := ⟨(sumQ w.length fun i => sv (w.getD i 0)) / (w.length : Rat), Rat.div_mul_cancel (by grind)⟩
  have h1 := sumQ_between w.length hb
  have h2 := sumQ_between (lo := -50) (hi := 50) w.length (fun i hi => by have := (h i hi).bound b100; exact this)
  obtain ⟨l1, l2⟩ := rat_div_between hn hq h1.1 h1.2
  obtain ⟨k1, k2⟩ := rat_div_between hn hq h2.1 h2.2
  obtain ⟨d1, d2, d3⟩ := s_div (B := 50) s1 f1 hne (q := q) (by rw [f2, hq]; exact s3.symm) k1 k2 (by decide +kernel)
  have hE : 50 * e23 + eta ≤ 1 / 10000 := by decide +kernel
  have e : meanM w = fdiv .f32 (accN (fun i s => fadd .f32 s (w.getD i 0)) w.length 0) (fofi .f32 (w.length : Int)) := rfl
  rw [e]
  refine ⟨d1, ?_, ?_⟩ <;> grind
theorem mean_one {x : Nat} (h : Hg 100 x) : sf (meanM [x]) ∧ sv (meanM [x]) = sv x := by
  have z : Hg 0 0 := ⟨zero_sf, by show Gr (-1) 0 (rv single 0); rw [zero_rv]; exact Gr.zero _ _⟩
  obtain ⟨a1, a2⟩ := z.add h (by decide)
  have hz : sv 0 = 0 := zero_rv _
  obtain ⟨f1, f2⟩ := fofi_rv .f32 (n := (1 : Int)) (by decide)
  have f2 : rv single (fofi .f32 1) = 1 := f2
  have a2 : sv (fadd .f32 0 x) = sv x := by rw [a2, hz]; grind
  have hd := div_gr .f32 (q := sv x) (j := -1) (b := 100) a1.1 f1 (by show rv single (fofi .f32 1) ≠ 0; rw [f2]; decide) (by show sv x * rv single (fofi .f32 1) = sv (fadd .f32 0 x); rw [f2, a2]; grind) h.2 (by decide) (by decide) (by decide)
  exact ⟨hd.1, hd.2⟩
theorem half_sf : sf 1056964608 ∧ sv 1056964608 = 1 / 2 := by
  have hf : fnt single 1056964608 := by unfold fnt; decide
  exact ⟨hf, lit_neg (n := 24) (m := 8388608) hf (by decide) (by decide +kernel)⟩
theorem med_val {w : List Nat} (h : HL 100 w) (hl : 1 ≤ w.length) {lo hi : Rat} (hb : ∀ x, x ∈ w → lo ≤ sv x ∧ sv x ≤ hi) : sf (medM w) ∧ lo ≤ sv (medM w) ∧ sv (medM w) ≤ hi := by
  have mem : ∀ j, j < w.length → (sortM KS w).getD j 0 ∈ w := fun j hj => by
    have hj' : j < (sortM KS w).length := by rw [sort_len]; exact hj
    refine sort_mem ?_
    simp [List.getD, hj']
  unfold medM
  split
  · have hm := mem (w.length / 2) (by omega)
    exact ⟨(h.mem hm).1, hb _ hm⟩
  · have m1 := mem (w.length / 2 - 1) (by omega)
    have m2 := mem (w.length / 2) (by omega)
    obtain ⟨a1, a2⟩ := (h.mem m1).add (h.mem m2) (by decide)
    obtain ⟨h1, h2⟩ := half_sf
    have hg : Gr (-1) 1 (rv single 1056964608) := ⟨1, by rw [show rv single 1056964608 = 1 / 2 from h2, half_zp]; decide +kernel, by decide⟩
    have hmul := mul_gr .f32 (i := -1) (j := -1) (a := 1) (b := 200) h1 a1.1 hg a1.2 (by decide) (by decide) (by decide)
    have e : sv (fmul .f32 1056964608 (fadd .f32 ((sortM KS w).getD (w.length / 2 - 1) 0) ((sortM KS w).getD (w.length / 2) 0))) = 1 / 2 * (sv ((sortM KS w).getD (w.length / 2 - 1) 0) + sv ((sortM KS w).getD (w.length / 2) 0)) := by
      have := hmul.2
      have e2 : rv single (fmul .f32 1056964608 (fadd .f32 ((sortM KS w).getD (w.length / 2 - 1) 0) ((sortM KS w).getD (w.length / 2) 0))) = _ := this
      rw [← a2, ← h2]; exact e2
    refine ⟨hmul.1, ?_, ?_⟩
    · rw [e]; have := hb _ m1; have := hb _ m2; grind
    · rw [e]; have := hb _ m1; have := hb _ m2; grind
end Go.Proofs.LV

namespace Go.Proofs.LV
open Go Ieee
set_option linter.unusedVariables false
set_option linter.unusedSimpArgs false

theorem mul_abs_le {a b A B : Rat} (hA : 0 ≤ A) (hB : 0 ≤ B) (h1 : -A ≤ a) (h2 : a ≤ A) (h3 : -B ≤ b) (h4 : b ≤ B) : -(A * B) ≤ a * b ∧ a * b ≤ A * B := by
  have p1 : 0 ≤ (A - a) * (B + b) := Rat.mul_nonneg (by grind) (by grind)
  have p2 : 0 ≤ (A + a) * (B - b) := Rat.mul_nonneg (by grind) (by grind)
  have p3 : 0 ≤ (A - a) * (B - b) := Rat.mul_nonneg (by grind) (by grind)
  have p4 : 0 ≤ (A + a) * (B + b) := Rat.mul_nonneg (by grind) (by grind)
  constructor <;> grind
theorem nat_lt_rat {a b : Nat} (h : a < b) : (a : Rat) < b := by
  have := nat_le_rat (show a + 1 ≤ b from h)
  rw [nat_succ] at this; grind
theorem fill_val {x y p q : Nat} (hx : Hg 100 x) (hy : Hg 100 y) (hp : 1 ≤ p ∧ p < q ∧ q ≤ 96) {lo hi : Rat} (l1 : lo ≤ sv x) (l2 : lo ≤ sv y) (h1 : sv x ≤ hi) (h2 : sv y ≤ hi) :
    sf (fadd .f32 x (fmul .f32 (fsub .f32 y x) (fdiv .f32 (fofi .f32 (p : Int)) (fofi .f32 (q : Int))))) ∧ lo - 1 / 10000 ≤ sv (fadd .f32 x (fmul .f32 (fsub .f32 y x) (fdiv .f32 (fofi .f32 (p : Int)) (fofi .f32 (q : Int))))) ∧
      sv (fadd .f32 x (fmul .f32 (fsub .f32 y x) (fdiv .f32 (fofi .f32 (p : Int)) (fofi .f32 (q : Int))))) ≤ hi + 1 / 10000 := by
  obtain ⟨d1, d2⟩ := hy.sub hx (by decide)
  have bx := hx.bound b100
  have byy := hy.bound b100
  obtain ⟨f1, f2⟩ := fofi_rv .f32 (n := (p : Int)) (nat_small (by omega))
  obtain ⟨g1, g2⟩ := fofi_rv .f32 (n := (q : Int)) (nat_small (by omega))
  have f2 : sv (fofi .f32 (p : Int)) = (p : Rat) := f2
  have g2 : sv (fofi .f32 (q : Int)) = (q : Rat) := g2
  have hpq : (p : Rat) < (q : Rat) := nat_lt_rat hp.2.1
  have hp0 : (0 : Rat) ≤ (p : Rat) := nat_rat p
  have hq0 : (0 : Rat) < (q : Rat) := by grind
  obtain ⟨t, ht⟩ : ∃ t : Rat, t * (q : Rat) = (p : Rat) := ⟨(p : Rat) / (q : Rat), Rat.div_mul_cancel (by grind)⟩
  obtain ⟨t0, t1⟩ := rat_div_between (lo := 0) (hi := 1) hq0 ht (by grind) (by grind)
  obtain ⟨v1, v2, v3⟩ := s_div (B := 1) f1 g1 (by rw [g2]; grind) (q := t) (by rw [g2, f2]; exact ht) (by grind) t1 (by decide +kernel)
  have hE : 1 * e23 + eta ≤ 1 / 4000000 := by decide +kernel
  generalize fdiv .f32 (fofi .f32 (p : Int)) (fofi .f32 (q : Int)) = T at *
  generalize fsub .f32 y x = D at *
  have bd : -100 ≤ sv D ∧ sv D ≤ 100 := by constructor <;> grind
  have m1 := mul_abs_le (a := sv D) (b := sv T - t) (A := 100) (B := 1 / 4000000) (by decide +kernel) (by decide +kernel) bd.1 bd.2 (by grind) (by grind)
  have m2 := mul_abs_le (a := sv D) (b := sv T) (A := 100) (B := 2) (by decide +kernel) (by decide +kernel) bd.1 bd.2 (by grind) (by grind)
  obtain ⟨w1, w2, w3⟩ := s_mul (B := 200) d1.1 v1 (by grind) (by grind) (by decide +kernel)
  have hE2 : 200 * e24 + eta ≤ 1 / 80000 := by decide +kernel
  generalize fmul .f32 D T = W at *
  obtain ⟨r1, r2, r3⟩ := s_add (B := 300) hx.1 w1 (by grind) (by grind) (by decide +kernel)
  have hE3 : 300 * e24 + eta ≤ 1 / 50000 := by decide +kernel
  -- the exact value lies between
  have c1 : 0 ≤ t * (sv y - lo) := Rat.mul_nonneg t0 (by grind)
  have c2 : 0 ≤ (1 - t) * (sv x - lo) := Rat.mul_nonneg (by grind) (by grind)
  have c3 : 0 ≤ t * (hi - sv y) := Rat.mul_nonneg t0 (by grind)
  have c4 : 0 ≤ (1 - t) * (hi - sv x) := Rat.mul_nonneg (by grind) (by grind)
  have k1 : sv D * t = t * sv y - t * sv x := by rw [d2]; grind
  have k2 : sv D * (sv T - t) = sv D * sv T - sv D * t := by grind
  have k3 : t * (sv y - lo) = t * sv y - t * lo := by grind
  have k4 : (1 - t) * (sv x - lo) = sv x - lo - t * sv x + t * lo := by grind
  have k5 : t * (hi - sv y) = t * hi - t * sv y := by grind
  have k6 : (1 - t) * (hi - sv x) = hi - sv x - t * hi + t * sv x := by grind
  rw [k3] at c1; rw [k4] at c2; rw [k5] at c3; rw [k6] at c4
  rw [k2, k1] at m1
  have q1 : (100 : Rat) * (1 / 4000000) ≤ 1 / 40000 := by decide +kernel
  have q2 : (1 : Rat) / 40000 + 1 / 80000 + 1 / 50000 ≤ 1 / 10000 := by decide +kernel
  generalize t * sv y = ty at *
  generalize t * sv x = tx at *
  generalize t * lo = tl at *
  generalize t * hi = th at *
  generalize sv D * sv T = DT at *
  generalize (1 : Rat) / 10000 = e1 at *
  generalize (1 : Rat) / 40000 = e2 at *
  generalize (1 : Rat) / 80000 = e3 at *
  generalize (1 : Rat) / 50000 = e4 at *
  generalize (100 : Rat) * (1 / 4000000) = e5 at *
  generalize 200 * e24 + eta = e6 at *
  generalize 300 * e24 + eta = e7 at *
  clear ht k1 k2 k3 k4 k5 k6 m2 v2 v3 hE
  obtain ⟨m1a, m1b⟩ := m1
  refine ⟨r1, ?_, ?_⟩
  · have z1 : lo ≤ sv x + (ty - tx) := by grind
    have z2 : sv x + DT - e3 - e4 ≤ sv (fadd .f32 x W) := by grind
    grind
  · have z1 : sv x + (ty - tx) ≤ hi := by grind
    have z2 : sv (fadd .f32 x W) ≤ sv x + DT + e3 + e4 := by grind
    grind
/-- a gap, filled -/
theorem gap_val {xs : List Nat} {ks : List Bool} (h : HL 100 xs) (hx : xs.length ≤ 96) (hk : ks.length = xs.length) (hany : upK ks 0 < ks.length) {i : Nat} (hi : i < xs.length) {lo hi' : Rat}
    (hd : ∀ m : Nat, dnK ks i = m → lo ≤ sv (xs.getD m 0) ∧ sv (xs.getD m 0) ≤ hi') (hu : upK ks i < xs.length → lo ≤ sv (xs.getD (upK ks i) 0) ∧ sv (xs.getD (upK ks i) 0) ≤ hi') (hkn : ks.getD i false = false) :
    sf (gapM xs ks i) ∧ lo - 1 / 10000 ≤ sv (gapM xs ks i) ∧ sv (gapM xs ks i) ≤ hi' + 1 / 10000 := by
  have hz : (0 : Rat) ≤ 1 / 10000 := by decide +kernel
  obtain ⟨u1, u2, u3, u4⟩ := up_spec ks i (by omega)
  unfold gapM
  rw [if_neg (by rw [hkn]; decide)]
  rcases dn_spec ks i with ⟨d1, d2⟩ | ⟨m, m1, m2, m3, m4⟩
  · rw [if_pos (by omega)]
    have hlt := up_lt_of hany (by omega) d2
    have := hu (by omega)
    exact ⟨(h _ (by omega)).1, by grind, by grind⟩
  · rw [if_neg (by omega)]
    have hm := hd m m2
    by_cases hun : upK ks i = xs.length
    · rw [if_pos hun, m2, Int.toNat_natCast]
      exact ⟨(h _ (by omega)).1, by grind, by grind⟩
    · rw [if_neg hun, m2, Int.toNat_natCast]
      have huu := hu (by omega)
      have hmi : m ≠ i := fun e => by rw [e, hkn] at m3; cases m3
      have hui : upK ks i ≠ i := fun e => by
        have := u3 (by omega)
        rw [e, hkn] at this; cases this
      have e1 : ((i : Int) - (m : Int)) = ((i - m : Nat) : Int) := by omega
      have e2 : (((upK ks i : Nat) : Int) - (m : Int)) = ((upK ks i - m : Nat) : Int) := by omega
      rw [e1, e2]
      exact fill_val (h m (by omega)) (h (upK ks i) (by omega)) (by omega) hm.1 huu.1 hm.2 huu.2
end Go.Proofs.LV

namespace Go.Proofs.LV
open Go
set_option linter.unusedVariables false
set_option linter.unusedSimpArgs false

end Go.Proofs.LV

namespace Go.Proofs.LV
open Go Ieee
set_option linter.unusedVariables false
set_option linter.unusedSimpArgs false


/-! ### the numbers that are drawn -/
theorem fne_of {x y : Nat} (hx : sf x) (hy : sf y) (h : sv x = sv y) : fne .f32 x y = false := by
  rw [fne_eq, feq_rv (k := .f32) hx hy]
  simp only [Bool.not_eq_false', decide_eq_true_eq]
  exact h
/-! ### folded at any period -/
/-! ### folded at its own period -/
/-! ### waves -/
/-! ### the best period -/
theorem byt_of {cs : List Int} (h : Cont.rng (.i .u8 cs)) : Byt cs ∧ cs.length ≤ maxLen := by
  refine ⟨fun i => ?_, h.1⟩
  by_cases hi : i < cs.length
  · have := h.2 (cs.getD i 0) (by simp [List.getD, hi])
    exact this
  · have : cs.getD i 0 = 0 := by simp [List.getD, List.getElem?_eq_none (Nat.le_of_not_lt hi)]
    rw [this]; omega
end Go.Proofs.LV
