/- Texts that belong together. -/
import Derived.Test.YtjfgmnfkkehgfaaLvFnS
import Derived.Test.YtjfgmnfkkehgfaaLvHalfX
import Derived.Test.YtjfgmnfkkehgfaaLvFnIX
import Derived.Test.YtjfgmnfkkehgfaaLvFnOOX
import Derived.Test.YtjfgmnfkkehgfaaLvFnU
import Derived.Test.YtjfgmnfkkehgfaaLvRatTX
import Derived.Test.YtjfgmnfkkehgfaaLvFnK
namespace Go.Proofs.LV
open Go
set_option linter.unusedVariables false
set_option linter.unusedSimpArgs false




end Go.Proofs.LV

namespace Go.Proofs.LV
open Go
set_option linter.unusedVariables false
set_option linter.unusedSimpArgs false

end Go.Proofs.LV

namespace Go.Proofs.LV
open Go
set_option linter.unusedVariables false
set_option linter.unusedSimpArgs false

/-- the median -/
def medM (xs : List Nat) : Nat := if xs.length % 2 = 1 then (sortM KS xs).getD (xs.length / 2) 0 else fmul .f32 1056964608 (fadd .f32 ((sortM KS xs).getD (xs.length / 2 - 1) 0) ((sortM KS xs).getD (xs.length / 2) 0))
-- FN impl_sorted
/-- impl.sorted: slots 9, results [.t 2]; calls [5:gq0, 7:gq1]; names [(list, 0), (list, 1), (out, 3)] -/
def ps_impl_sorted : List Nat := [0, 2, 3]
def b_impl_sorted (gq0 gq1 gq2 : FuncId) : VCode :=
 (.seq
 (.region false [
 ⟨some 2, (.nilsl (.f .f32 [])), [], none⟩])
 (.seq
 (.region false [
 ⟨some 4, .mv, [.t 0], none⟩,
 ⟨some 5, (.call gq0), [.t 4], none⟩,
 ⟨some 3, .mv, [.t 5], none⟩])
 (.seq
 (.region false [
 ⟨some 6, .mv, [.t 3], none⟩,
 ⟨some 7, (.call gq1), [.t 6, .k (.fn gq2 [])], none⟩])
 (.seq
 (.region false [
 ⟨some 8, .mv, [.t 3], none⟩,
 ⟨some 2, .mv, [.t 8], none⟩])
 .ret))))

abbrev Is_impl_sorted (P : Program) (g_f : FuncId) (gq0 gq1 gq2 : FuncId) : Prop := FnIs P g_f 9 [.t 2] (b_impl_sorted gq0 gq1 gq2)

abbrev C_impl_sorted (P : Program) (g_f : FuncId) : Prop := ∀ (list : List Nat) (hn : 1 ≤ list.length) (hN : okM list) (hx : list.length ≤ 5000), VCall P g_f [PS [0] .f32 list] (OS 0 .f32 (sortM KS list))
def oc1_impl_sorted (as : List AV) : T AV := match as with | [.sl _ _ (.f .f32 list)] => .leaf (OS 0 .f32 (sortM KS list)) | _ => .fail
def oc_impl_sorted (list : List Nat) (d : Nat) (as : List AV) : T AV := match d with | 5 => oc1_slices_Clone___float32_float32_ as | 7 => oc1_slices_SortStableFunc___float32_float32_ as | _ => .fail



theorem q_impl_sorted {P : Program} {g_f : FuncId} {gq0 gq1 gq2 : FuncId} (h_ : Is_impl_sorted P g_f gq0 gq1 gq2) (list : List Nat) (ht : T.ok (fun x_ => x_ = OS 0 .f32 (sortM KS list)) (
 T.ob ((VCall P) gq0 [AV.sl (Tag.par [0]) 0 (Cont.f FloatKind.f32 list)] (AV.sl (Tag.own 0) 0 (Cont.f FloatKind.f32 list)))
 (T.ob
 ((VCall P) gq1 [AV.sl (Tag.own 800000) 0 (Cont.f FloatKind.f32 list), AV.fn gq2 []]
 (AV.bx Tag.nil [AV.tup [], AV.tup [AV.sl (Tag.own 800000) 0 (Cont.f FloatKind.f32 (sortM KS list)), AV.fn gq2 []]]) ∧
 List.length list = List.length (sortM KS list) ∧ List.length list = List.length (sortM KS list) ∧ True)
 (T.leaf (AV.sl (Tag.own 0) 0 (Cont.f FloatKind.f32 (sortM KS list))))))) :
 VCall P g_f [PS [0] .f32 list] (OS 0 .f32 (sortM KS list)) := h_.call_of ps_impl_sorted ⟨oc_impl_sorted list, fun _ _ => none⟩ (by kernel_rfl) ht

-- END impl_sorted
-- FN impl_median
/-- impl.median: slots 30, results [.t 2]; calls [6:gq0]; names [(list, 0), (list, 1), (order, 3), (n, 4)] -/
def ps_impl_median : List Nat := [0, 2, 3, 4, 11]
def b_impl_median (gq0 : FuncId) : VCode :=
 (.seq
 (.region false [
 ⟨some 2, .mv, [.k (.f .f32 0)], none⟩])
 (.seq
 (.region false [
 ⟨some 5, .mv, [.t 0], none⟩,
 ⟨some 6, (.call gq0), [.t 5], none⟩,
 ⟨some 3, .mv, [.t 6], none⟩])
 (.seq
 (.region false [
 ⟨some 7, .mv, [.t 3], none⟩,
 ⟨some 8, .len, [.t 7], none⟩,
 ⟨some 4, .mv, [.t 8], none⟩])
 (.seq
 (.seq
 (.region false [
 ⟨some 9, .mv, [.t 4], none⟩,
 ⟨some 10, (.bin .rem), [.t 9, .k (.i .i64 2)], none⟩,
 ⟨some 11, (.bin .eql), [.t 10, .k (.i .i64 1)], none⟩])
 (.cond (.t 11)
 (.seq
 (.region false [
 ⟨some 12, .mv, [.t 3], none⟩,
 ⟨some 13, .mv, [.t 4], none⟩,
 ⟨some 14, (.bin .quo), [.t 13, .k (.i .i64 2)], none⟩,
 ⟨some 15, .iaddr, [.t 12, .t 14], none⟩,
 ⟨some 16, .load, [.t 15], none⟩,
 ⟨some 2, .mv, [.t 16], none⟩])
 .ret)
 .skip))
 (.seq
 (.region true [
 ⟨some 17, .mv, [.t 3], none⟩,
 ⟨some 18, .mv, [.t 4], none⟩,
 ⟨some 19, (.bin .quo), [.t 18, .k (.i .i64 2)], none⟩,
 ⟨some 20, (.bin .sub), [.t 19, .k (.i .i64 1)], none⟩,
 ⟨some 21, .iaddr, [.t 17, .t 20], none⟩,
 ⟨some 22, .load, [.t 21], none⟩,
 ⟨some 23, .mv, [.t 3], none⟩,
 ⟨some 24, .mv, [.t 4], none⟩,
 ⟨some 25, (.bin .quo), [.t 24, .k (.i .i64 2)], none⟩,
 ⟨some 26, .iaddr, [.t 23, .t 25], none⟩,
 ⟨some 27, .load, [.t 26], none⟩,
 ⟨some 28, (.bin .add), [.t 22, .t 27], none⟩,
 ⟨some 29, (.bin .quo), [.t 28, .k (.f .f32 1073741824)], none⟩,
 ⟨some 2, .mv, [.t 29], none⟩])
 .ret)))))

abbrev Is_impl_median (P : Program) (g_f : FuncId) (gq0 : FuncId) : Prop := FnIs P g_f 30 [.t 2] (b_impl_median gq0)

abbrev C_impl_median (P : Program) (g_f : FuncId) : Prop := ∀ (list : List Nat) (hn : 1 ≤ list.length) (hN : okM list) (hx : list.length ≤ 5000), VCall P g_f [PS [0] .f32 list] (.f .f32 (medM list))
def oc_impl_median (list : List Nat) (d : Nat) (as : List AV) : T AV := match d with | 6 => oc1_impl_sorted as | _ => .fail



theorem q_impl_median {P : Program} {g_f : FuncId} {gq0 : FuncId} (h_ : Is_impl_median P g_f gq0) (list : List Nat) (ht : T.ok (fun x_ => x_ = .f .f32 (medM list)) (
 T.ob ((VCall P) gq0 [AV.sl (Tag.par [0]) 0 (Cont.f FloatKind.f32 list)] (AV.sl (Tag.own 0) 0 (Cont.f FloatKind.f32 (sortM KS list))))
 (T.ob ((2 : Int) ≠ 0)
 (T.ite (Int.tmod (↑(List.length (sortM KS list)) : Int) 2 == 1)
 (T.ob ((2 : Int) ≠ 0)
 (T.ob (0 ≤ IntKind.wrap IntKind.i64 (Int.tdiv (↑(List.length (sortM KS list)) : Int) 2) ∧ IntKind.wrap IntKind.i64 (Int.tdiv (↑(List.length (sortM KS list)) : Int) 2) < (↑(List.length (sortM KS list)) : Int))
 (T.leaf (AV.f FloatKind.f32 (List.getD (sortM KS list) (Int.toNat (IntKind.wrap IntKind.i64 (Int.tdiv (↑(List.length (sortM KS list)) : Int) 2))) 0)))))
 (T.ob ((2 : Int) ≠ 0)
 (T.ob
 (0 ≤ IntKind.wrap IntKind.i64 (IntKind.wrap IntKind.i64 (Int.tdiv (↑(List.length (sortM KS list)) : Int) 2) - 1) ∧
 IntKind.wrap IntKind.i64 (IntKind.wrap IntKind.i64 (Int.tdiv (↑(List.length (sortM KS list)) : Int) 2) - 1) < (↑(List.length (sortM KS list)) : Int))
 (T.ob ((2 : Int) ≠ 0)
 (T.ob (0 ≤ IntKind.wrap IntKind.i64 (Int.tdiv (↑(List.length (sortM KS list)) : Int) 2) ∧ IntKind.wrap IntKind.i64 (Int.tdiv (↑(List.length (sortM KS list)) : Int) 2) < (↑(List.length (sortM KS list)) : Int))
 (T.ob True
 (T.leaf
 (AV.f FloatKind.f32
 (fdiv FloatKind.f32
 (fadd FloatKind.f32 (List.getD (sortM KS list) (Int.toNat (IntKind.wrap IntKind.i64 (IntKind.wrap IntKind.i64 (Int.tdiv (↑(List.length (sortM KS list)) : Int) 2) - 1))) 0)
 (List.getD (sortM KS list) (Int.toNat (IntKind.wrap IntKind.i64 (Int.tdiv (↑(List.length (sortM KS list)) : Int) 2))) 0))
 1073741824)))))))))))) :
 VCall P g_f [PS [0] .f32 list] (.f .f32 (medM list)) := h_.call_of ps_impl_median ⟨oc_impl_median list, fun _ _ => none⟩ (by kernel_rfl) ht

-- END impl_median

theorem tmod_one (n : Nat) : (Int.tmod (n : Int) 2 == 1) = decide (n % 2 = 1) := by
  rw [Int.tmod_eq_emod_of_nonneg (by omega)]
  by_cases h : n % 2 = 1
  · rw [decide_eq_true h, show ((n : Int) % 2) = 1 by omega]; rfl
  · rw [decide_eq_false h, show ((n : Int) % 2) = 0 by omega]; rfl
theorem k_impl_sorted {P : Program} {f g_slices_Clone___float32_float32_ g_slices_SortStableFunc___float32_float32_ g_impl_sorted_1 : FuncId} (h : Is_impl_sorted P f g_slices_Clone___float32_float32_ g_slices_SortStableFunc___float32_float32_ g_impl_sorted_1) (c1 : C_slices_Clone___float32_float32_ P g_slices_Clone___float32_float32_) (c2 : C_slices_SortStableFunc___float32_float32_ P g_slices_SortStableFunc___float32_float32_) (c3 : C_impl_sorted_1 P g_impl_sorted_1) : C_impl_sorted P f := by
  intro list hn hN hx
  refine q_impl_sorted h list ?_
  repeat' (first | with_reducible refine T.ok_ob ?_ (fun _ => ?_) | with_reducible refine T.ok_ite (fun _ => ?_) (fun _ => ?_) | with_reducible refine T.ok_leaf ?_)
  all_goals first | with_reducible rfl | with_reducible assumption | ((with_reducible refine c1 _ ?_ ?_) <;> (first | assumption | omega | with_reducible rfl | (simp [maxLen_eq]; done) | (simp [maxLen_eq]; omega))) | ((with_reducible refine ⟨c2 _ _ ?_ ?_ ?_, ?_⟩) <;> first | assumption | omega | (simp [marks_len, sort_len]; done) | (simp [marks_len, sort_len]; omega)) | with_reducible exact c3 _ _ | contradiction | exact fconvOk_32_64 _ | assumption | exact rfl | (simp_all [sort_len]; done) | (simp_all [T.ok, sort_len]; omega)

theorem k_impl_median {P : Program} {f g1 : FuncId} (h : Is_impl_median P f g1) (c1 : C_impl_sorted P g1) : C_impl_median P f := by
  intro list hn hN hx
  refine q_impl_median h list ?_
  have c1 := c1 list hn hN hx
  rw [half_eq]
  rw [sort_len, tmod_one]
  have e1 : IntKind.wrap .i64 (Int.tdiv (list.length : Int) 2) = (list.length / 2 : Nat) := by rw [Int.tdiv_eq_ediv_of_nonneg (by omega), wrap64_id (by omega) (by omega)]; omega
  rw [e1]
  by_cases hc : list.length % 2 = 1
  · have em : medM list = (sortM KS list).getD (list.length / 2) 0 := by unfold medM; rw [if_pos hc]
    rw [decide_eq_true hc, em]
    simp only [Int.toNat_natCast]
    repeat' (first | with_reducible refine T.ok_ob ?_ (fun _ => ?_) | with_reducible refine T.ok_ite (fun _ => ?_) (fun _ => ?_) | with_reducible refine T.ok_leaf ?_)
    all_goals first | exact c1 | omega | rfl | (exfalso; contradiction) | trivial
  · have em : medM list = fmul .f32 1056964608 (fadd .f32 ((sortM KS list).getD (list.length / 2 - 1) 0) ((sortM KS list).getD (list.length / 2) 0)) := by unfold medM; rw [if_neg hc]
    have e2 : IntKind.wrap .i64 (((list.length / 2 : Nat) : Int) - 1) = (list.length / 2 - 1 : Nat) := by rw [wrap64_id (by omega) (by omega)]; omega
    rw [decide_eq_false hc, em, e2]
    simp only [Int.toNat_natCast]
    repeat' (first | with_reducible refine T.ok_ob ?_ (fun _ => ?_) | with_reducible refine T.ok_ite (fun _ => ?_) (fun _ => ?_) | with_reducible refine T.ok_leaf ?_)
    all_goals first | exact c1 | omega | rfl | (exfalso; contradiction) | trivial
end Go.Proofs.LV

namespace Go.Proofs.LV
open Go
set_option linter.unusedVariables false
set_option linter.unusedSimpArgs false

theorem sort_mem : ∀ {l : List Nat} {z : Nat}, z ∈ sortM KS l → z ∈ l
  | [], z, h => h
  | x :: l, z, h => by
    rcases insFirst_mem (K := KS) (show z ∈ sortM.insFirst KS x (sortM KS l) from h) with h | h
    · exact h ▸ List.mem_cons_self
    · exact List.mem_cons_of_mem _ (sort_mem h)
end Go.Proofs.LV

namespace Go.Proofs.LV
open Go Ieee
set_option linter.unusedVariables false
set_option linter.unusedSimpArgs false

/-! ### gaps in 64 bits -/
def r8G (a b : Nat) : Nat := fmax .f64 (fsub .f64 (fconv .f32 .f64 a) (fconv .f32 .f64 b)) (fsub .f64 (fconv .f32 .f64 b) (fconv .f32 .f64 a))
theorem fmax_mem {k : FloatKind} {x y : Nat} (hx : nanB k x = false) (hy : nanB k y = false) : (fmax k x y = x ∧ srung k y ≤ srung k x) ∨ (fmax k x y = y ∧ srung k x ≤ srung k y) := by
  have ho := order_rung hx hy
  have ec : ∀ a b : Int, compare a b = if a < b then .lt else if a = b then .eq else .gt := fun a b => rfl
  rw [ec] at ho
  unfold fmax
  rw [ho]
  rcases Int.lt_trichotomy (srung k x) (srung k y) with h | h | h
  · rw [if_pos h]; exact .inr ⟨rfl, by omega⟩
  · rw [if_neg (by omega), if_pos h]
    simp only
    split
    · exact .inr ⟨rfl, by omega⟩
    · exact .inl ⟨rfl, by omega⟩
  · rw [if_neg (by omega), if_neg (by omega)]; exact .inl ⟨rfl, by omega⟩
theorem fmin_mem {k : FloatKind} {x y : Nat} (hx : nanB k x = false) (hy : nanB k y = false) : (fmin k x y = x ∧ srung k x ≤ srung k y) ∨ (fmin k x y = y ∧ srung k y ≤ srung k x) := by
  have ho := order_rung hx hy
  have ec : ∀ a b : Int, compare a b = if a < b then .lt else if a = b then .eq else .gt := fun a b => rfl
  rw [ec] at ho
  unfold fmin
  rw [ho]
  rcases Int.lt_trichotomy (srung k x) (srung k y) with h | h | h
  · rw [if_pos h]; exact .inl ⟨rfl, by omega⟩
  · rw [if_neg (by omega), if_pos h]
    simp only
    split
    · exact .inl ⟨rfl, by omega⟩
    · exact .inr ⟨rfl, by omega⟩
  · rw [if_neg (by omega), if_neg (by omega)]; exact .inr ⟨rfl, by omega⟩
/-- numbers that are the same have no gap to speak of -/
theorem r8G_same {a b : Nat} (ha : sf a) (hb : sf b) (h : sv a = sv b) : fgt .f64 (r8G a b) 4562254508917369340 = false := by
  obtain ⟨a1, a2⟩ := conv_up ha
  obtain ⟨b1, b2⟩ := conv_up hb
  obtain ⟨x1, x2, x3⟩ := d_sub (B := 0) a1 b1 (by rw [a2, b2, h]; grind) (by rw [a2, b2, h]; grind) (by decide +kernel)
  obtain ⟨y1, y2, y3⟩ := d_sub (B := 0) b1 a1 (by rw [a2, b2, h]; grind) (by rw [a2, b2, h]; grind) (by decide +kernel)
  obtain ⟨c1, c2, _⟩ := c001
  have he : eta < 9 / 10000 := by decide +kernel
  have key : ∀ z, df z → dv z ≤ eta → fgt .f64 z 4562254508917369340 = false := by
    intro z hz hz2
    rw [fgt_rv (k := .f64) hz c1, decide_eq_false]
    have c2 : 9 / 10000 ≤ rv double 4562254508917369340 := c2
    have hz2 : rv double z ≤ eta := hz2
    show ¬ (rv double 4562254508917369340 < rv double z)
    grind
  unfold r8G
  rcases fmax_mem (fnt_nan (k := .f64) x1) (fnt_nan (k := .f64) y1) with ⟨e, _⟩ | ⟨e, _⟩
  · rw [e]; exact key _ x1 (by grind)
  · rw [e]; exact key _ y1 (by grind)
theorem r8G_self {a : Nat} (ha : sf a) : fgt .f64 (r8G a a) 4562254508917369340 = false := r8G_same ha ha rfl
/-- the greatest and the least of numbers from the left -/
theorem lo_le {xs : List Nat} {b : Nat} (h : HL b xs) (o : Nat) (x0 : Nat) (hx0 : sf x0) : ∀ m, o + m ≤ xs.length → sf (accN (fun j a => fmin .f32 a (xs.getD (o + j) 0)) m x0) ∧ sv (accN (fun j a => fmin .f32 a (xs.getD (o + j) 0)) m x0) ≤ sv x0 ∧
    ∀ j, j < m → sv (accN (fun j a => fmin .f32 a (xs.getD (o + j) 0)) m x0) ≤ sv (xs.getD (o + j) 0)
  | 0, _ => ⟨hx0, by show sv x0 ≤ sv x0; grind, fun j hj => by omega⟩
  | m + 1, hm => by
    obtain ⟨h1, h2, h3⟩ := lo_le h o x0 hx0 m (by omega)
    have hy := (h (o + m) (by omega)).1
    have e : accN (fun j a => fmin .f32 a (xs.getD (o + j) 0)) (m + 1) x0 = fmin .f32 (accN (fun j a => fmin .f32 a (xs.getD (o + j) 0)) m x0) (xs.getD (o + m) 0) := rfl
    rw [e]
    generalize accN (fun j a => fmin .f32 a (xs.getD (o + j) 0)) m x0 = z at *
    have hr := srung_rv .f32 (xs.getD (o + m) 0) z
    have hr2 := srung_rv .f32 z (xs.getD (o + m) 0)
    rcases fmin_mem (fnt_nan (k := .f32) h1) (fnt_nan (k := .f32) hy) with ⟨e, hs⟩ | ⟨e, hs⟩
    · rw [e]
      have hle : sv z ≤ sv (xs.getD (o + m) 0) := Rat.not_lt.1 fun hlt => by have := hr.1.2 hlt; omega
      exact ⟨h1, h2, fun j hj => by
        by_cases hjm : j = m
        · subst hjm; exact hle
        · exact h3 j (by omega)⟩
    · rw [e]
      have hle : sv (xs.getD (o + m) 0) ≤ sv z := Rat.not_lt.1 fun hlt => by have := hr2.1.2 hlt; omega
      exact ⟨hy, Rat.le_trans hle h2, fun j hj => by
        by_cases hjm : j = m
        · subst hjm; exact Rat.le_refl
        · exact Rat.le_trans hle (h3 j (by omega))⟩
theorem hi_ge {xs : List Nat} {b : Nat} (h : HL b xs) (o : Nat) (x0 : Nat) (hx0 : sf x0) : ∀ m, o + m ≤ xs.length → sf (accN (fun j a => fmax .f32 a (xs.getD (o + j) 0)) m x0) ∧ sv x0 ≤ sv (accN (fun j a => fmax .f32 a (xs.getD (o + j) 0)) m x0) ∧
    ∀ j, j < m → sv (xs.getD (o + j) 0) ≤ sv (accN (fun j a => fmax .f32 a (xs.getD (o + j) 0)) m x0)
  | 0, _ => ⟨hx0, by show sv x0 ≤ sv x0; grind, fun j hj => by omega⟩
  | m + 1, hm => by
    obtain ⟨h1, h2, h3⟩ := hi_ge h o x0 hx0 m (by omega)
    have hy := (h (o + m) (by omega)).1
    have e : accN (fun j a => fmax .f32 a (xs.getD (o + j) 0)) (m + 1) x0 = fmax .f32 (accN (fun j a => fmax .f32 a (xs.getD (o + j) 0)) m x0) (xs.getD (o + m) 0) := rfl
    rw [e]
    generalize accN (fun j a => fmax .f32 a (xs.getD (o + j) 0)) m x0 = z at *
    have hr := srung_rv .f32 (xs.getD (o + m) 0) z
    have hr2 := srung_rv .f32 z (xs.getD (o + m) 0)
    rcases fmax_mem (fnt_nan (k := .f32) h1) (fnt_nan (k := .f32) hy) with ⟨e, hs⟩ | ⟨e, hs⟩
    · rw [e]
      have hle : sv (xs.getD (o + m) 0) ≤ sv z := Rat.not_lt.1 fun hlt => by have := hr2.1.2 hlt; omega
      exact ⟨h1, h2, fun j hj => by
        by_cases hjm : j = m
        · subst hjm; exact hle
        · exact h3 j (by omega)⟩
    · rw [e]
      have hle : sv z ≤ sv (xs.getD (o + m) 0) := Rat.not_lt.1 fun hlt => by have := hr.1.2 hlt; omega
      exact ⟨hy, Rat.le_trans h2 hle, fun j hj => by
        by_cases hjm : j = m
        · subst hjm; exact Rat.le_refl
        · exact Rat.le_trans (h3 j (by omega)) hle⟩
end Go.Proofs.LV
