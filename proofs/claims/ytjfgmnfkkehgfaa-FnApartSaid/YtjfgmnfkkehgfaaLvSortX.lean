/- Texts that belong together. -/
import Derived.Test.YtjfgmnfkkehgfaaLvFnCX
import Derived.Test.YtjfgmnfkkehgfaaLvSqrtX
import Derived.Test.YtjfgmnfkkehgfaaLvFnJX
import Derived.Test.YtjfgmnfkkehgfaaLvFnF
import Derived.Test.YtjfgmnfkkehgfaaLvRatTX
import Derived.Test.YtjfgmnfkkehgfaaLvFnHX
import Derived.Test.YtjfgmnfkkehgfaaLvFnFF
import Derived.Test.YtjfgmnfkkehgfaaLvFnI
import Derived.Test.YtjfgmnfkkehgfaaLvRatS
namespace Go.Proofs.LV
open Go
set_option linter.unusedVariables false
set_option linter.unusedSimpArgs false

section
variable (K : Nat → Int)

/-- the same numbers, equals in the same order -/
def same (l l' : List Nat) : Prop := ∀ k : Int, l'.filter (fun x => decide (K x = k)) = l.filter (fun x => decide (K x = k))
structure Rel (a b : Nat) (l l' : List Nat) : Prop where
  len : l'.length = l.length
  out : ∀ i, i < a ∨ b ≤ i → l'.getD i 0 = l.getD i 0
  all : ∀ p : Nat → Prop, (∀ i, a ≤ i → i < b → p (l.getD i 0)) → ∀ i, a ≤ i → i < b → p (l'.getD i 0)
  cls : same K l l'
variable {K}
theorem Rel.trans {a b : Nat} {l m n : List Nat} (h1 : Rel K a b l m) (h2 : Rel K a b m n) : Rel K a b l n :=
  ⟨h2.len.trans h1.len, fun i hi => (h2.out i hi).trans (h1.out i hi), fun p hp => h2.all p (h1.all p hp), fun k => (h2.cls k).trans (h1.cls k)⟩
/-- the numbers from a up to b -/
def part (l : List Nat) (a b : Nat) : List Nat := (l.take b).drop a
/-! ### in order, equals kept: there is one such list -/
variable (K)
def sortM : List Nat → List Nat
  | [] => []
  | x :: r => let s := sortM r; insFirst x s
where
  /-- x goes ahead of all that are not less -/
  insFirst (x : Nat) : List Nat → List Nat
  | [] => [x]
  | y :: r => if K y < K x then y :: insFirst x r else x :: y :: r
variable {K}
/-- the numbers from a up to b put in order -/
def srt (K : Nat → Int) (l : List Nat) (a b : Nat) : List Nat := l.take a ++ (sortM K (part l a b) ++ l.drop b)
end
end Go.Proofs.LV

namespace Go.Proofs.LV
open Go
set_option linter.unusedVariables false
set_option linter.unusedSimpArgs false

def swp (l : List Nat) (i j : Nat) : List Nat := (l.set i (l.getD j 0)).set j (l.getD i 0)
section
variable {K : Nat → Int}
variable (K)
variable {K}
end

/-! ### two parts change places -/
section
variable {K : Nat → Int}
end

/-! ### halving -/
end Go.Proofs.LV

namespace Go.Proofs.LV
open Go
set_option linter.unusedVariables false
set_option linter.unusedSimpArgs false

-- FN slices_swapRangeCmpFunc_float32_
-- END slices_swapRangeCmpFunc_float32_

-- FN slices_rotateCmpFunc_float32_
-- END slices_rotateCmpFunc_float32_

end Go.Proofs.LV

namespace Go.Proofs.LV
open Go
set_option linter.unusedVariables false
set_option linter.unusedSimpArgs false

-- FN slices_symMergeCmpFunc_float32_
-- END slices_symMergeCmpFunc_float32_

end Go.Proofs.LV

namespace Go.Proofs.LV
open Go
set_option linter.unusedVariables false
set_option linter.unusedSimpArgs false

section
variable (K : Nat → Int)
/-- the first k blocks of 20 put in order -/
def insB (xs : List Nat) : Nat → List Nat
  | 0 => xs
  | k + 1 => srt K (insB xs k) (20 * k) (20 * k + 20)
/-- the first k pairs of blocks merged -/
def mrgB (s : Nat) (D : List Nat) : Nat → List Nat
  | 0 => D
  | k + 1 => srt K (mrgB s D k) (2 * s * k) (2 * s * k + 2 * s)
/-- all pairs of blocks merged, and what is left -/
def pass (s : Nat) (D : List Nat) : List Nat :=
  if 2 * s * (D.length / (2 * s)) + s < D.length then srt K (mrgB K s D (D.length / (2 * s))) (2 * s * (D.length / (2 * s))) D.length else mrgB K s D (D.length / (2 * s))
def passes : Nat → Nat → List Nat → List Nat
  | 0, s, D => D
  | f + 1, s, D => if s < D.length then passes f (2 * s) (pass K s D) else D
variable {K}

/-- blocks of 20, all in order -/
def blocks (K : Nat → Int) (xs : List Nat) : List Nat := srt K (insB K xs (xs.length / 20)) (20 * (xs.length / 20)) xs.length
end
end Go.Proofs.LV

namespace Go.Proofs.LV
open Go
set_option linter.unusedVariables false
set_option linter.unusedSimpArgs false

end Go.Proofs.LV

namespace Go.Proofs.LV
open Go
set_option linter.unusedVariables false
set_option linter.unusedSimpArgs false




end Go.Proofs.LV

namespace Go.Proofs.LV
open Go
set_option linter.unusedVariables false
set_option linter.unusedSimpArgs false

end Go.Proofs.LV

namespace Go.Proofs.LV
open Go
set_option linter.unusedVariables false
set_option linter.unusedSimpArgs false

end Go.Proofs.LV

namespace Go.Proofs.LV
open Go
set_option linter.unusedVariables false
set_option linter.unusedSimpArgs false

end Go.Proofs.LV

namespace Go.Proofs.LV
open Go
set_option linter.unusedVariables false
set_option linter.unusedSimpArgs false

end Go.Proofs.LV

namespace Go.Proofs.LV
open Go Ieee
set_option linter.unusedVariables false
set_option linter.unusedSimpArgs false

/-! ### gaps in 64 bits -/
def r8G (a b : Nat) : Nat := fmax .f64 (fsub .f64 (fconv .f32 .f64 a) (fconv .f32 .f64 b)) (fsub .f64 (fconv .f32 .f64 b) (fconv .f32 .f64 a))
theorem fmax_mem {k : FloatKind} {x y : Nat} (hx : nanB k x = false) (hy : nanB k y = false) : (fmax k x y = x ∧ srung k y ≤ srung k x) ∨ (fmax k x y = y ∧ srung k x ≤ srung k y) := by
  have ho := order_rung hx hy
  have ec : ∀ a b : Int, compare a b = if a < b then .lt else if a = b then .eq else .gt := fun a b => rfl
  rw [ec] at ho
  unfold fmax
  rw [ho]
  rcases Int.lt_trichotomy (srung k x) (srung k y) with h | h | h
  · rw [if_pos h]; exact .inr ⟨rfl, by omega⟩
  · rw [if_neg (by omega), if_pos h]
    simp only
    split
    · exact .inr ⟨rfl, by omega⟩
    · exact .inl ⟨rfl, by omega⟩
  · rw [if_neg (by omega), if_neg (by omega)]; exact .inl ⟨rfl, by omega⟩
end Go.Proofs.LV

namespace Go.Proofs.LV
open Go
set_option linter.unusedVariables false
set_option linter.unusedSimpArgs false

-- FN laws_r8Gap
/-- laws.r8Gap: slots 16, results [.t 4]; calls []; names [(a, 0), (b, 1), (a, 2), (b, 3)] -/
def ps_laws_r8Gap : List Nat := [0, 1, 4]
def b_laws_r8Gap : VCode :=
  (.seq
   (.region false [
    ⟨some 4, .mv, [.k (.f .f64 0)], none⟩])
   (.seq
    (.region false [
     ⟨some 5, .mv, [.t 0], none⟩,
     ⟨some 6, (.convF .f64), [.t 5], none⟩,
     ⟨some 7, .mv, [.t 1], none⟩,
     ⟨some 8, (.convF .f64), [.t 7], none⟩,
     ⟨some 9, (.bin .sub), [.t 6, .t 8], none⟩,
     ⟨some 10, .mv, [.t 1], none⟩,
     ⟨some 11, (.convF .f64), [.t 10], none⟩,
     ⟨some 12, .mv, [.t 0], none⟩,
     ⟨some 13, (.convF .f64), [.t 12], none⟩,
     ⟨some 14, (.bin .sub), [.t 11, .t 13], none⟩,
     ⟨some 15, .max, [.t 9, .t 14], none⟩,
     ⟨some 4, .mv, [.t 15], none⟩])
    .ret))

abbrev Is_laws_r8Gap (P : Program) (g_f : FuncId) : Prop := FnIs P g_f 16 [.t 4] (b_laws_r8Gap)

abbrev C_laws_r8Gap (P : Program) (g_f : FuncId) : Prop := ∀ (a : Nat) (b : Nat), VCall P g_f [.f .f32 a, .f .f32 b] (.f .f64 (r8G a b))
def oc1_laws_r8Gap (as : List AV) : T AV := match as with | [.f .f32 a, .f .f32 b] => .leaf (.f .f64 (r8G a b)) | _ => .fail



theorem q_laws_r8Gap {P : Program} {g_f : FuncId} (h_ : Is_laws_r8Gap P g_f) (a : Nat) (b : Nat) (ht : T.ok (fun x_ => x_ = .f .f64 (r8G a b)) (
      T.ob (fconvOk FloatKind.f32 FloatKind.f64 a = true)
        (T.ob (fconvOk FloatKind.f32 FloatKind.f64 b = true)
          (T.ob (fconvOk FloatKind.f32 FloatKind.f64 b = true)
            (T.ob (fconvOk FloatKind.f32 FloatKind.f64 a = true)
              (T.leaf
                (AV.f FloatKind.f64
                  (fmax FloatKind.f64 (fsub FloatKind.f64 (fconv FloatKind.f32 FloatKind.f64 a) (fconv FloatKind.f32 FloatKind.f64 b))
                    (fsub FloatKind.f64 (fconv FloatKind.f32 FloatKind.f64 b) (fconv FloatKind.f32 FloatKind.f64 a)))))))))) :
    VCall P g_f [.f .f32 a, .f .f32 b] (.f .f64 (r8G a b)) := h_.call_of ps_laws_r8Gap ⟨fun _ _ => .fail, fun _ _ => none⟩ (by kernel_rfl) ht

-- END laws_r8Gap

theorem k_laws_r8Gap {P : Program} {f : FuncId} (h : Is_laws_r8Gap P f) : C_laws_r8Gap P f := by
  intro a b
  refine q_laws_r8Gap h a b ?_
  repeat' (first | with_reducible refine T.ok_ob ?_ (fun _ => ?_) | with_reducible refine T.ok_ite (fun _ => ?_) (fun _ => ?_) | with_reducible refine T.ok_leaf ?_)
  all_goals first | exact fconvOk_32_64 _ | rfl

end Go.Proofs.LV

namespace Go.Proofs.LV
open Go Ieee
set_option linter.unusedVariables false
set_option linter.unusedSimpArgs false

theorem win_lenE (xs : List Nat) (s i : Nat) (hi : i < xs.length) : (winM xs s i).length = min xs.length (i + s + 1) - (i - s) := by
  unfold winM
  rw [List.length_take, List.length_drop]; omega
theorem win_get (xs : List Nat) (s i : Nat) {j : Nat} (hj : j < (winM xs s i).length) : (winM xs s i).getD j 0 = xs.getD (i - s + j) 0 := by
  unfold winM at hj ⊢
  rw [List.length_take] at hj
  rw [getD_takeN _ _ _ (by omega), getD_dropN]
theorem sumQ_between {f : Nat → Rat} {lo hi : Rat} : ∀ n : Nat, (∀ i, i < n → lo ≤ f i ∧ f i ≤ hi) → (n : Rat) * lo ≤ sumQ n f ∧ sumQ n f ≤ (n : Rat) * hi
  | 0, _ => by
    show ((0 : Nat) : Rat) * lo ≤ 0 ∧ (0 : Rat) ≤ ((0 : Nat) : Rat) * hi
    have : ((0 : Nat) : Rat) = 0 := rfl
    rw [this]; constructor <;> grind
  | n + 1, h => by
    have ih := sumQ_between n (fun i hi => h i (by omega))
    have h1 := h n (by omega)
    have e : sumQ (n + 1) f = sumQ n f + f n := rfl
    rw [e, nat_succ]
    constructor <;> grind
theorem rat_div_between {q n s lo hi : Rat} (hn : 0 < n) (e : q * n = s) (h1 : n * lo ≤ s) (h2 : s ≤ n * hi) : lo ≤ q ∧ q ≤ hi := by
  constructor
  · refine Rat.not_lt.1 fun h => ?_
    have := Rat.mul_lt_mul_of_pos_right h hn
    grind
  · refine Rat.not_lt.1 fun h => ?_
    have := Rat.mul_lt_mul_of_pos_right h hn
    grind
theorem Hg.bound {b x : Nat} (h : Hg b x) {B : Rat} (hB : (b : Rat) * 2 ^ (-1 : Int) ≤ B) : -B ≤ sv x ∧ sv x ≤ B := gr_bound h.2 hB
theorem b100 : ((100 : Nat) : Rat) * 2 ^ (-1 : Int) ≤ 50 := by decide +kernel
theorem nat_small {n : Nat} (h : n ≤ 96) : ((n : Int)).natAbs < 2 ^ (FloatKind.f32.format.fractionBits + 1) :=
  Nat.lt_of_le_of_lt (show ((n : Int)).natAbs ≤ 96 by omega) (by decide)
end Go.Proofs.LV

namespace Go.Proofs.LV
open Go Ieee
set_option linter.unusedVariables false
set_option linter.unusedSimpArgs false

theorem mul_abs_le {a b A B : Rat} (hA : 0 ≤ A) (hB : 0 ≤ B) (h1 : -A ≤ a) (h2 : a ≤ A) (h3 : -B ≤ b) (h4 : b ≤ B) : -(A * B) ≤ a * b ∧ a * b ≤ A * B := by
  have p1 : 0 ≤ (A - a) * (B + b) := Rat.mul_nonneg (by grind) (by grind)
  have p2 : 0 ≤ (A + a) * (B - b) := Rat.mul_nonneg (by grind) (by grind)
  have p3 : 0 ≤ (A - a) * (B - b) := Rat.mul_nonneg (by grind) (by grind)
  have p4 : 0 ≤ (A + a) * (B + b) := Rat.mul_nonneg (by grind) (by grind)
  constructor <;> grind
end Go.Proofs.LV

namespace Go.Proofs.LV
open Go
set_option linter.unusedVariables false
set_option linter.unusedSimpArgs false



end Go.Proofs.LV

namespace Go.Proofs.LV
open Go
set_option linter.unusedVariables false
set_option linter.unusedSimpArgs false

end Go.Proofs.LV

namespace Go.Proofs.LV
open Go Ieee
set_option linter.unusedVariables false
set_option linter.unusedSimpArgs false


/-! ### the numbers that are drawn -/
theorem fne_of {x y : Nat} (hx : sf x) (hy : sf y) (h : sv x = sv y) : fne .f32 x y = false := by
  rw [fne_eq, feq_rv (k := .f32) hx hy]
  simp only [Bool.not_eq_false', decide_eq_true_eq]
  exact h
/-! ### folded at any period -/
theorem cnt_ge {n p per : Nat} (hp : p < per) (hn : per ≤ n) : 1 ≤ cntM n p per := by
  have := (cnt_lt n p per 0 hp).2 (by omega)
  omega
theorem cnt_top (n p per : Nat) (h : 1 ≤ per) : cntM n p per ≤ n + 1 := by
  unfold cntM
  have := Nat.div_le_self n per
  split <;> omega
/-! ### folded at its own period -/
/-! ### waves -/
/-! ### the best period -/
theorem byt_of {cs : List Int} (h : Cont.rng (.i .u8 cs)) : Byt cs ∧ cs.length ≤ maxLen := by
  refine ⟨fun i => ?_, h.1⟩
  by_cases hi : i < cs.length
  · have := h.2 (cs.getD i 0) (by simp [List.getD, hi])
    exact this
  · have : cs.getD i 0 = 0 := by simp [List.getD, List.getElem?_eq_none (Nat.le_of_not_lt hi)]
    rw [this]; omega
end Go.Proofs.LV

namespace Go.Proofs.LV
open Go Ieee
set_option linter.unusedVariables false
set_option linter.unusedSimpArgs false

theorem at_le {cs : List Int} (hc : Byt cs) {i n : Int} (hn : 1 ≤ n) : 0 ≤ atM cs i n ∧ atM cs i n < n := by
  unfold atM
  split
  · omega
  · exact tmod_byte (hc _).1 (by omega)
theorem tab_at' (n : Nat) (f : Nat → Nat) {i : Nat} (h : i < n) : (tab n f).getD i 0 = f i := tab_get _ _ _ _ h
theorem inM_of {a b c : Int} (h : b ≤ a ∧ a ≤ c) : inM a b c = true := by unfold inM; simp; exact h
theorem HL.take {b : Nat} {xs : List Nat} (h : HL b xs) (m : Nat) : HL b (xs.take m) := fun i hi => by
  rw [List.length_take] at hi
  rw [getD_takeN _ _ _ (by omega)]; exact h i (by omega)
theorem mov_at (g : List Nat → Nat) (xs : List Nat) (s : Nat) {i : Nat} (hi : i < xs.length) : (movM g xs s).getD i 0 = g (winM xs s i) := tab_at' _ _ hi
theorem flt_not {x y : Nat} (hx : sf x) (hy : sf y) (h : sv y ≤ sv x) : flt .f32 x y = false := by
  rw [flt_rv (k := .f32) hx hy]
  exact decide_eq_false (Rat.not_lt.2 h)
theorem w_succ {i : Nat} (h : i ≤ 1000) : IntKind.wrap .i64 ((i : Int) + 1) = ((i + 1 : Nat) : Int) := by rw [wrap64_id (by omega) (by omega)]; omega
theorem fne_same {x y : Nat} (hx : sf x) (hy : sf y) (h : sv x = sv y) : fne .f32 x y = false := fne_of hx hy h
theorem bne_no {a b : Int} (h : a = b) : (a != b) = false := by rw [h]; simp

end Go.Proofs.LV

namespace Go.Proofs.LV
open Go
set_option linter.unusedVariables false
set_option linter.unusedSimpArgs false

/-! ### likenesses of two series -/
end Go.Proofs.LV
