/- Texts that belong together. -/
import Derived.Test.YtjfgmnfkkehgfaaLvExtX
import Derived.Test.YtjfgmnfkkehgfaaLvFnS
import Derived.Test.YtjfgmnfkkehgfaaLvFnGX
import Derived.Test.YtjfgmnfkkehgfaaLvFnMX
import Derived.Test.YtjfgmnfkkehgfaaLvSqrtX
import Derived.Test.YtjfgmnfkkehgfaaLvFnU
import GoSem.Extern.MathFloor
namespace Go.Proofs.LV
open Go Ieee
set_option linter.unusedVariables false
set_option linter.unusedSimpArgs false

theorem log2_mul_pow {n : Nat} (hn : n ≠ 0) (a : Nat) : (n * 2 ^ a).log2 = n.log2 + a := by
  have h1 : 2 ^ n.log2 ≤ n := Nat.log2_self_le hn
  have h2 : n < 2 ^ (n.log2 + 1) := Nat.lt_log2_self
  have h0 : n * 2 ^ a ≠ 0 := Nat.mul_ne_zero hn (by have := Nat.two_pow_pos a; omega)
  have u : n.log2 + a ≤ (n * 2 ^ a).log2 := (Nat.le_log2 h0).2 (by rw [Nat.pow_add]; exact Nat.mul_le_mul_right _ h1)
  have l : (n * 2 ^ a).log2 < n.log2 + a + 1 := (Nat.log2_lt h0).2 (by
    rw [show n.log2 + a + 1 = n.log2 + 1 + a by omega, Nat.pow_add]; exact Nat.mul_lt_mul_of_pos_right h2 (Nat.two_pow_pos a))
  omega
theorem cut_shift (neg : Bool) {n : Nat} (hn : n ≠ 0) (d a : Nat) : Toward.even.cut neg (n * 2 ^ a) (d + a) = Toward.even.cut neg n d := by
  unfold Toward.cut
  rw [log2_mul_pow hn]
  have e : min (d + a) (n.log2 + a + 2) = min d (n.log2 + 2) + a := by omega
  rw [e]
  simp only [Nat.one_shiftLeft]
  generalize min d (n.log2 + 2) = g
  have p := Nat.two_pow_pos a
  rw [Nat.pow_add, Nat.mul_div_mul_right _ _ p, Nat.mul_mod_mul_right]
  have e1 : (2 ^ g * 2 ^ a < 2 * (n % 2 ^ g * 2 ^ a)) = (2 ^ g < 2 * (n % 2 ^ g)) := by
    rw [← Nat.mul_assoc]; exact propext ⟨fun h => Nat.lt_of_mul_lt_mul_right h, fun h => Nat.mul_lt_mul_of_pos_right h p⟩
  have e2 : (2 ^ g * 2 ^ a == 2 * (n % 2 ^ g * 2 ^ a)) = (2 ^ g == 2 * (n % 2 ^ g)) := by
    rw [← Nat.mul_assoc, Bool.eq_iff_iff]
    simp only [beq_iff_eq]
    exact ⟨fun h => Nat.eq_of_mul_eq_mul_right p h, fun h => congrArg (· * 2 ^ a) h⟩
  simp only [e1, e2]
theorem nearest_shift (f : Format) (neg : Bool) (mag : Nat) (place : Int) (a : Nat) : f.nearest neg (mag * 2 ^ a) (place - a) = f.nearest neg mag place := by
  unfold Format.nearest
  by_cases h0 : mag = 0
  · simp [h0]
  have h1 : mag * 2 ^ a ≠ 0 := Nat.mul_ne_zero h0 (by have := Nat.two_pow_pos a; omega)
  rw [if_neg h0, if_neg h1, log2_mul_pow h0]
  have e : place - (a : Int) + ((mag.log2 + a : Nat) : Int) - f.fractionBits = place + mag.log2 - f.fractionBits := by omega
  simp only [e]
  generalize max (place + (mag.log2 : Int) - f.fractionBits) f.leastPlace = last
  have key : Toward.even.cut neg ((mag * 2 ^ a) <<< (place - a - last).toNat) (last - (place - a)).toNat = Toward.even.cut neg (mag <<< (place - last).toNat) (last - place).toNat := by
    by_cases c1 : place ≤ last
    · rw [show (place - a - last).toNat = 0 by omega, show (place - last).toNat = 0 by omega, show (last - (place - a)).toNat = (last - place).toNat + a by omega]
      simp only [Nat.shiftLeft_zero]
      exact cut_shift neg h0 _ _
    · by_cases c2 : (a : Int) ≤ place - last
      · rw [show (last - (place - a)).toNat = 0 by omega, show (last - place).toNat = 0 by omega, Nat.shiftLeft_eq, Nat.shiftLeft_eq, Nat.mul_assoc, ← Nat.pow_add]
        congr 3
        omega
      · rw [show (place - a - last).toNat = 0 by omega, Nat.shiftLeft_zero, show (last - place).toNat = 0 by omega, Nat.shiftLeft_eq]
        have e3 : mag * 2 ^ a = mag * 2 ^ (place - last).toNat * 2 ^ (last - (place - a)).toNat := by
          rw [Nat.mul_assoc, ← Nat.pow_add]; congr 2; omega
        rw [e3]
        have h2 : mag * 2 ^ (place - last).toNat ≠ 0 := Nat.mul_ne_zero h0 (by have := Nat.two_pow_pos (place - last).toNat; omega)
        have := cut_shift neg h2 0 (last - (place - a)).toNat
        rw [Nat.zero_add] at this
        exact this
  rw [key]
theorem read_two : single.read 1073741824 = .number false (2 ^ 23) (-22) := by decide +kernel
theorem read_half : single.read 1056964608 = .number false (2 ^ 23) (-24) := by decide +kernel
theorem read_mag {x : Nat} {s : Bool} {m : Nat} {e : Int} (h : single.read x = .number s m e) : m < 2 ^ 24 := (read32_bounds h).1
theorem half_eq (x : Nat) : fdiv .f32 x 1073741824 = fmul .f32 1056964608 x := by
  unfold fdiv fmul
  show (Format.div single x 1073741824).getD _ = (Format.mul single 1056964608 x).getD _
  unfold Format.div Format.mul
  rw [read_two, read_half]
  cases h : single.read x with
  | nan s t => rfl
  | infinity s => simp [Datum.quotient, Datum.product, Bool.xor_comm]
  | number s m e =>
    have hm := read_mag h
    simp only [Datum.quotient, Datum.product]
    rw [if_neg (by decide)]
    simp only [Option.map_some, Option.getD_some, Format.write]
    have hl : m.log2 ≤ 23 := by
      by_cases h0 : m = 0
      · subst h0; decide
      · have := (Nat.log2_lt h0).2 hm; omega
    have l23 : (2 ^ 23 : Nat).log2 = 23 := by decide
    have hsf : single.fractionBits = 23 := rfl
    rw [l23, hsf]
    generalize hmore : 23 + 2 + 23 - m.log2 = more
    have h25 : 25 ≤ more := by omega
    have e1 : m <<< more = m * 2 ^ (more - 23) * 2 ^ 23 := by
      rw [Nat.shiftLeft_eq, Nat.mul_assoc, ← Nat.pow_add]; congr 2; omega
    rw [e1, Nat.mul_div_cancel _ (by decide), Nat.mul_mod_left]
    simp only [bne_self_eq_false, Bool.toNat_false, Nat.add_zero, Bool.xor_false, Bool.false_xor]
    have a1 := nearest_shift single s m (e - 1) 23
    have a2 := nearest_shift single s m (e - 1) (more - 22)
    rw [show e - 1 - ((23 : Nat) : Int) = -24 + e by omega, Nat.mul_comm m (2 ^ 23)] at a1
    rw [a1]
    rw [show e - 1 - ((more - 22 : Nat) : Int) = e - -22 - (more : Int) - 1 by omega] at a2
    rw [← a2]
    congr 1
    rw [Nat.mul_comm 2, Nat.mul_assoc]
    congr 1
    rw [← Nat.pow_succ]
    congr 1
    omega
end Go.Proofs.LV

namespace Go.Proofs.LV
open Go
set_option linter.unusedVariables false
set_option linter.unusedSimpArgs false




end Go.Proofs.LV

namespace Go.Proofs.LV
open Go
set_option linter.unusedVariables false
set_option linter.unusedSimpArgs false

end Go.Proofs.LV

namespace Go.Proofs.LV
open Go
set_option linter.unusedVariables false
set_option linter.unusedSimpArgs false

end Go.Proofs.LV

namespace Go.Proofs.LV
open Go
set_option linter.unusedVariables false
set_option linter.unusedSimpArgs false

/-- the median -/
def medM (xs : List Nat) : Nat := if xs.length % 2 = 1 then (sortM KS xs).getD (xs.length / 2) 0 else fmul .f32 1056964608 (fadd .f32 ((sortM KS xs).getD (xs.length / 2 - 1) 0) ((sortM KS xs).getD (xs.length / 2) 0))
open Go.IntKind (wrap)
-- FN impl_sorted
def ps_impl_sorted : List Nat := [0, 2, 3]
def b_impl_sorted (gq0 gq1 gq2 : FuncId) : VCode :=
 (.seq
 (.region false [
 ⟨some 2, (.nilsl (.f .f32 [])), [], none⟩])
 (.seq
 (.region false [
 ⟨some 4, .mv, [.t 0], none⟩,
 ⟨some 5, (.call gq0), [.t 4], none⟩,
 ⟨some 3, .mv, [.t 5], none⟩])
 (.seq
 (.region false [
 ⟨some 6, .mv, [.t 3], none⟩,
 ⟨some 7, (.call gq1), [.t 6, .k (.fn gq2 [])], none⟩])
 (.seq
 (.region false [
 ⟨some 8, .mv, [.t 3], none⟩,
 ⟨some 2, .mv, [.t 8], none⟩])
 .ret))))

abbrev Is_impl_sorted (P : Program) (g_f : FuncId) (gq0 gq1 gq2 : FuncId) : Prop := FnIs P g_f 9 [.t 2] (b_impl_sorted gq0 gq1 gq2)

abbrev C_impl_sorted (P : Program) (g_f : FuncId) : Prop := ∀ (list : List Nat) (hn : 1 ≤ list.length) (hN : okM list) (hx : list.length ≤ 5000), VCall P g_f [PS [0] .f32 list] (OS 0 .f32 (sortM KS list))
def oc1_impl_sorted (as : List AV) : T AV := match as with | [.sl _ _ (.f .f32 list)] => .leaf (OS 0 .f32 (sortM KS list)) | _ => .fail
def oc_impl_sorted (list : List Nat) (d : Nat) (as : List AV) : T AV := match d with | 5 => oc1_slices_Clone___float32_float32_ as | 7 => oc1_slices_SortStableFunc___float32_float32_ as | _ => .fail



theorem q_impl_sorted {P : Program} {g_f : FuncId} {gq0 gq1 gq2 : FuncId} (h_ : Is_impl_sorted P g_f gq0 gq1 gq2) (list : List Nat) (ht : T.ok (fun x_ => x_ = OS 0 .f32 (sortM KS list)) (
 T.ob ((VCall P) gq0 [AV.sl (Tag.par [0]) 0 (Cont.f .f32 list)] (AV.sl (Tag.own 0) 0 (Cont.f .f32 list)))
 (T.ob
 ((VCall P) gq1 [AV.sl (Tag.own 800000) 0 (Cont.f .f32 list), AV.fn gq2 []]
 (AV.bx Tag.nil [AV.tup [], AV.tup [AV.sl (Tag.own 800000) 0 (Cont.f .f32 (sortM KS list)), AV.fn gq2 []]]) ∧
 List.length list = List.length (sortM KS list) ∧ List.length list = List.length (sortM KS list) ∧ True)
 (T.leaf (AV.sl (Tag.own 0) 0 (Cont.f .f32 (sortM KS list))))))) :
 VCall P g_f [PS [0] .f32 list] (OS 0 .f32 (sortM KS list)) := h_.call_of ps_impl_sorted ⟨oc_impl_sorted list, fun _ _ => none⟩ (by kernel_rfl) ht

-- END impl_sorted
-- FN impl_median
def ps_impl_median : List Nat := [0, 2, 3, 4, 11]
def b_impl_median (gq0 : FuncId) : VCode :=
 (.seq
 (.region false [
 ⟨some 2, .mv, [.k (.f .f32 0)], none⟩])
 (.seq
 (.region false [
 ⟨some 5, .mv, [.t 0], none⟩,
 ⟨some 6, (.call gq0), [.t 5], none⟩,
 ⟨some 3, .mv, [.t 6], none⟩])
 (.seq
 (.region false [
 ⟨some 7, .mv, [.t 3], none⟩,
 ⟨some 8, .len, [.t 7], none⟩,
 ⟨some 4, .mv, [.t 8], none⟩])
 (.seq
 (.seq
 (.region false [
 ⟨some 9, .mv, [.t 4], none⟩,
 ⟨some 10, (.bin .rem), [.t 9, .k (.i .i64 2)], none⟩,
 ⟨some 11, (.bin .eql), [.t 10, .k (.i .i64 1)], none⟩])
 (.cond (.t 11)
 (.seq
 (.region false [
 ⟨some 12, .mv, [.t 3], none⟩,
 ⟨some 13, .mv, [.t 4], none⟩,
 ⟨some 14, (.bin .quo), [.t 13, .k (.i .i64 2)], none⟩,
 ⟨some 15, .iaddr, [.t 12, .t 14], none⟩,
 ⟨some 16, .load, [.t 15], none⟩,
 ⟨some 2, .mv, [.t 16], none⟩])
 .ret)
 .skip))
 (.seq
 (.region true [
 ⟨some 17, .mv, [.t 3], none⟩,
 ⟨some 18, .mv, [.t 4], none⟩,
 ⟨some 19, (.bin .quo), [.t 18, .k (.i .i64 2)], none⟩,
 ⟨some 20, (.bin .sub), [.t 19, .k (.i .i64 1)], none⟩,
 ⟨some 21, .iaddr, [.t 17, .t 20], none⟩,
 ⟨some 22, .load, [.t 21], none⟩,
 ⟨some 23, .mv, [.t 3], none⟩,
 ⟨some 24, .mv, [.t 4], none⟩,
 ⟨some 25, (.bin .quo), [.t 24, .k (.i .i64 2)], none⟩,
 ⟨some 26, .iaddr, [.t 23, .t 25], none⟩,
 ⟨some 27, .load, [.t 26], none⟩,
 ⟨some 28, (.bin .add), [.t 22, .t 27], none⟩,
 ⟨some 29, (.bin .quo), [.t 28, .k (.f .f32 1073741824)], none⟩,
 ⟨some 2, .mv, [.t 29], none⟩])
 .ret)))))

abbrev Is_impl_median (P : Program) (g_f : FuncId) (gq0 : FuncId) : Prop := FnIs P g_f 30 [.t 2] (b_impl_median gq0)

abbrev C_impl_median (P : Program) (g_f : FuncId) : Prop := ∀ (list : List Nat) (hn : 1 ≤ list.length) (hN : okM list) (hx : list.length ≤ 5000), VCall P g_f [PS [0] .f32 list] (.f .f32 (medM list))
def oc1_impl_median (as : List AV) : T AV := match as with | [.sl _ _ (.f .f32 list)] => .leaf (.f .f32 (medM list)) | _ => .fail
def oc_impl_median (list : List Nat) (d : Nat) (as : List AV) : T AV := match d with | 6 => oc1_impl_sorted as | _ => .fail



theorem q_impl_median {P : Program} {g_f : FuncId} {gq0 : FuncId} (h_ : Is_impl_median P g_f gq0) (list : List Nat) (ht : T.ok (fun x_ => x_ = .f .f32 (medM list)) (
 T.ob ((VCall P) gq0 [AV.sl (Tag.par [0]) 0 (Cont.f .f32 list)] (AV.sl (Tag.own 0) 0 (Cont.f .f32 (sortM KS list))))
 (T.ob ((2 : Int) ≠ 0)
 (T.ite (Int.tmod (↑(List.length (sortM KS list)) : Int) 2 == 1)
 (T.ob ((2 : Int) ≠ 0)
 (T.ob (0 ≤ wrap .i64 (Int.tdiv (↑(List.length (sortM KS list)) : Int) 2) ∧ wrap .i64 (Int.tdiv (↑(List.length (sortM KS list)) : Int) 2) < (↑(List.length (sortM KS list)) : Int))
 (T.leaf (AV.f .f32 (List.getD (sortM KS list) (Int.toNat (wrap .i64 (Int.tdiv (↑(List.length (sortM KS list)) : Int) 2))) 0)))))
 (T.ob ((2 : Int) ≠ 0)
 (T.ob
 (0 ≤ wrap .i64 (wrap .i64 (Int.tdiv (↑(List.length (sortM KS list)) : Int) 2) - 1) ∧
 wrap .i64 (wrap .i64 (Int.tdiv (↑(List.length (sortM KS list)) : Int) 2) - 1) < (↑(List.length (sortM KS list)) : Int))
 (T.ob ((2 : Int) ≠ 0)
 (T.ob (0 ≤ wrap .i64 (Int.tdiv (↑(List.length (sortM KS list)) : Int) 2) ∧ wrap .i64 (Int.tdiv (↑(List.length (sortM KS list)) : Int) 2) < (↑(List.length (sortM KS list)) : Int))
 (T.ob True
 (T.leaf
 (AV.f .f32
 (fdiv .f32
 (fadd .f32 (List.getD (sortM KS list) (Int.toNat (wrap .i64 (wrap .i64 (Int.tdiv (↑(List.length (sortM KS list)) : Int) 2) - 1))) 0)
 (List.getD (sortM KS list) (Int.toNat (wrap .i64 (Int.tdiv (↑(List.length (sortM KS list)) : Int) 2))) 0))
 1073741824)))))))))))) :
 VCall P g_f [PS [0] .f32 list] (.f .f32 (medM list)) := h_.call_of ps_impl_median ⟨oc_impl_median list, fun _ _ => none⟩ (by kernel_rfl) ht

-- END impl_median
-- FN impl_MedianOf
def ps_impl_MedianOf : List Nat := [0, 2, 3, 6]
def b_impl_MedianOf (gq0 gq1 gq2 : FuncId) : VCode :=
 (.seq
 (.region false [
 ⟨some 2, .mv, [.k (.f .f32 0)], none⟩,
 ⟨some 3, .mv, [.k (.b false)], none⟩])
 (.seq
 (.seq
 (.region false [
 ⟨some 4, .mv, [.t 0], none⟩,
 ⟨some 5, (.call gq0), [.t 4], none⟩,
 ⟨some 6, .not, [.t 5], none⟩])
 (.cond (.t 6)
 (.seq
 (.region false [
 ⟨some 2, .mv, [.k (.f .f32 0)], none⟩,
 ⟨some 3, .mv, [.k (.b false)], none⟩])
 .ret)
 .skip))
 (.seq
 (.region false [
 ⟨some 7, .mv, [.t 0], none⟩,
 ⟨some 8, (.call gq1), [.t 7], none⟩,
 ⟨some 9, (.call gq2), [.t 8], none⟩,
 ⟨some 10, (.extract 0), [.t 9], none⟩,
 ⟨some 11, (.extract 1), [.t 9], none⟩,
 ⟨some 2, .mv, [.t 10], none⟩,
 ⟨some 3, .mv, [.t 11], none⟩])
 .ret)))

abbrev Is_impl_MedianOf (P : Program) (g_f : FuncId) (gq0 gq1 gq2 : FuncId) : Prop := FnIs P g_f 12 [.t 2, .t 3] (b_impl_MedianOf gq0 gq1 gq2)

abbrev C_impl_MedianOf (P : Program) (g_f : FuncId) : Prop := ∀ (list : List Nat) (hx : list.length ≤ maxLen), VCall P g_f [PS [0] .f32 list] (.tup [.f .f32 (if (seriesM list && finM (medM list)) = true then medM list else 0), .b (seriesM list && finM (medM list))])
def oc_impl_MedianOf (list : List Nat) (d : Nat) (as : List AV) : T AV := match d with | 5 => oc1_impl_IsSeries as | 8 => oc1_impl_median as | 9 => oc1_impl_ifFinite as | _ => .fail



theorem q_impl_MedianOf {P : Program} {g_f : FuncId} {gq0 gq1 gq2 : FuncId} (h_ : Is_impl_MedianOf P g_f gq0 gq1 gq2) (list : List Nat) (ht : T.ok (fun x_ => x_ = .tup [.f .f32 (if (seriesM list && finM (medM list)) = true then medM list else 0), .b (seriesM list && finM (medM list))]) (
 T.ob ((VCall P) gq0 [AV.sl (Tag.par [0]) 0 (Cont.f .f32 list)] (AV.b (seriesM list)))
 (T.ite (!seriesM list) (T.leaf (AV.tup [AV.f .f32 0, AV.b false]))
 (T.ob ((VCall P) gq1 [AV.sl (Tag.par [0]) 0 (Cont.f .f32 list)] (AV.f .f32 (medM list)))
 (T.ob ((VCall P) gq2 [AV.f .f32 (medM list)] (AV.tup [AV.f .f32 (numM (medM list)), AV.b (finM (medM list))]))
 (T.leaf (AV.tup [AV.f .f32 (numM (medM list)), AV.b (finM (medM list))]))))))) :
 VCall P g_f [PS [0] .f32 list] (.tup [.f .f32 (if (seriesM list && finM (medM list)) = true then medM list else 0), .b (seriesM list && finM (medM list))]) := h_.call_of ps_impl_MedianOf ⟨oc_impl_MedianOf list, fun _ _ => none⟩ (by kernel_rfl) ht

-- END impl_MedianOf

theorem tmod_one (n : Nat) : (Int.tmod (n : Int) 2 == 1) = decide (n % 2 = 1) := by
  rw [Int.tmod_eq_emod_of_nonneg (by omega)]
  by_cases h : n % 2 = 1
  · rw [decide_eq_true h, show ((n : Int) % 2) = 1 by omega]; rfl
  · rw [decide_eq_false h, show ((n : Int) % 2) = 0 by omega]; rfl
theorem fin_nan {x : Nat} (h : finM x = true) : nanB .f32 x = false := by
  rw [finM_iff] at h
  have := of_decide_eq_true h
  rw [nanB_iff]
  refine decide_eq_false ?_
  show ¬ Ieee.single.infRung < rung Ieee.single x
  omega
theorem fin_ok {xs : List Nat} (h : finAllM xs = true) : okM xs := by
  intro i
  by_cases hi : i < xs.length
  · refine fin_nan ?_
    have := List.all_eq_true.1 h xs[i] (List.getElem_mem hi)
    simpa [List.getD, List.getElem?_eq_getElem hi] using this
  · rw [show xs.getD i 0 = 0 by simp [List.getD, List.getElem?_eq_none (Nat.le_of_not_lt hi)]]
    exact nan0S
theorem series_ok {xs : List Nat} (h : seriesM xs = true) : okM xs := by
  refine fin_ok ?_
  simp [seriesM] at h
  simp [h]
theorem k_impl_sorted {P : Program} {f g_slices_Clone___float32_float32_ g_slices_SortStableFunc___float32_float32_ g_impl_sorted_1 : FuncId} (h : Is_impl_sorted P f g_slices_Clone___float32_float32_ g_slices_SortStableFunc___float32_float32_ g_impl_sorted_1) (c1 : C_slices_Clone___float32_float32_ P g_slices_Clone___float32_float32_) (c2 : C_slices_SortStableFunc___float32_float32_ P g_slices_SortStableFunc___float32_float32_) (c3 : C_impl_sorted_1 P g_impl_sorted_1) : C_impl_sorted P f := by
  intro list hn hN hx
  refine q_impl_sorted h list ?_
  repeat' (first | with_reducible refine T.ok_ob ?_ (fun _ => ?_) | with_reducible refine T.ok_ite (fun _ => ?_) (fun _ => ?_) | with_reducible refine T.ok_leaf ?_)
  all_goals first | with_reducible rfl | with_reducible assumption | ((with_reducible refine c1 _ ?_ ?_) <;> (first | assumption | omega | with_reducible rfl | (simp [maxLen_eq]; done) | (simp [maxLen_eq]; omega))) | ((with_reducible refine ⟨c2 _ _ ?_ ?_ ?_, ?_⟩) <;> first | assumption | omega | (simp [marks_len, sort_len]; done) | (simp [marks_len, sort_len]; omega)) | with_reducible exact c3 _ _ | contradiction | exact fconvOk_32_64 _ | assumption | exact rfl | (simp_all [sort_len]; done) | (simp_all [T.ok, sort_len]; omega)

theorem k_impl_median {P : Program} {f g1 : FuncId} (h : Is_impl_median P f g1) (c1 : C_impl_sorted P g1) : C_impl_median P f := by
  intro list hn hN hx
  refine q_impl_median h list ?_
  have c1 := c1 list hn hN hx
  rw [half_eq]
  rw [sort_len, tmod_one]
  have e1 : IntKind.wrap .i64 (Int.tdiv (list.length : Int) 2) = (list.length / 2 : Nat) := by rw [Int.tdiv_eq_ediv_of_nonneg (by omega), wrap64_id (by omega) (by omega)]; omega
  rw [e1]
  by_cases hc : list.length % 2 = 1
  · have em : medM list = (sortM KS list).getD (list.length / 2) 0 := by unfold medM; rw [if_pos hc]
    rw [decide_eq_true hc, em]
    simp only [Int.toNat_natCast]
    repeat' (first | with_reducible refine T.ok_ob ?_ (fun _ => ?_) | with_reducible refine T.ok_ite (fun _ => ?_) (fun _ => ?_) | with_reducible refine T.ok_leaf ?_)
    all_goals first | exact c1 | omega | rfl | (exfalso; contradiction) | trivial
  · have em : medM list = fmul .f32 1056964608 (fadd .f32 ((sortM KS list).getD (list.length / 2 - 1) 0) ((sortM KS list).getD (list.length / 2) 0)) := by unfold medM; rw [if_neg hc]
    have e2 : IntKind.wrap .i64 (((list.length / 2 : Nat) : Int) - 1) = (list.length / 2 - 1 : Nat) := by rw [wrap64_id (by omega) (by omega)]; omega
    rw [decide_eq_false hc, em, e2]
    simp only [Int.toNat_natCast]
    repeat' (first | with_reducible refine T.ok_ob ?_ (fun _ => ?_) | with_reducible refine T.ok_ite (fun _ => ?_) (fun _ => ?_) | with_reducible refine T.ok_leaf ?_)
    all_goals first | exact c1 | omega | rfl | (exfalso; contradiction) | trivial
theorem k_impl_MedianOf {P : Program} {f g1 g2 g3 : FuncId} (h : Is_impl_MedianOf P f g1 g2 g3) (c1 : C_impl_IsSeries P g1) (c2 : C_impl_median P g2) (c3 : C_impl_ifFinite P g3) : C_impl_MedianOf P f := by
  intro list hx
  refine q_impl_MedianOf h list ?_
  cases hs : seriesM list
  · repeat' (first | with_reducible refine T.ok_ob ?_ (fun _ => ?_) | with_reducible refine T.ok_ite (fun _ => ?_) (fun _ => ?_) | with_reducible refine T.ok_leaf ?_)
    all_goals first | exact hs ▸ c1 _ hx | contradiction | (simp; done)
  · have hl := series_len hs
    have c2 := c2 list hl.1 (series_ok hs) (by omega)
    repeat' (first | with_reducible refine T.ok_ob ?_ (fun _ => ?_) | with_reducible refine T.ok_ite (fun _ => ?_) (fun _ => ?_) | with_reducible refine T.ok_leaf ?_)
    all_goals first | exact hs ▸ c1 _ hx | exact c2 | exact c3 _ | contradiction | (simp [numM]; done)
end Go.Proofs.LV

namespace Go.Proofs.LV
open Go Ieee
set_option linter.unusedVariables false
set_option linter.unusedSimpArgs false

def ffloor (x : Nat) : Nat := double.write ((double.read x).integral .down)
theorem floor_ok {P : Program} {f : FuncId} (h : ExtIs P f (Extern.MathFloor.toIntegral "math.archFloor" .down)) (x : Nat) (hx : nanB .f64 x = false) : VCall P f [.f .f64 x] (.f .f64 (ffloor x)) := by
  refine ext_call h (hr := fun G w vs hv => ?_)
  obtain ⟨u, hu, b, rfl, hb, hbx⟩ := vl1 hv
  obtain ⟨vs⟩ := vs
  simp only at hu
  subst hu
  have ebx : b = x := by
    unfold canon at hbx
    split at hbx
    · rw [← hbx, nanB_fnan] at hx; cases hx
    · exact hbx
  subst ebx
  have e0 : ∃ X : Bool → Nat → Sem Value, Extern.MathFloor.toIntegral "math.archFloor" .down #[.float .f64 b] = (match FloatKind.f64.format.read b with | .nan s t => X s t | d => pure (.float .f64 (double.write (d.integral .down)))) := ⟨_, rfl⟩
  have e : Extern.MathFloor.toIntegral "math.archFloor" .down #[.float .f64 b] = pure (.float .f64 (ffloor b)) := by
    obtain ⟨X, e0⟩ := e0
    rw [e0]
    unfold ffloor
    cases hr : FloatKind.f64.format.read b with
    | nan s t => unfold nanB at hx; rw [hr] at hx; cases hx
    | infinity s =>
      have hr' : double.read b = .infinity s := hr
      rw [hr']
    | number s m e =>
      have hr' : double.read b = .number s m e := hr
      rw [hr']
  have hn : ((double.read b).integral .down).isNaN = false := by
    cases hr : double.read b with
    | nan s t => have : (double.read b).isNaN = false := hx; rw [hr] at this; cases this
    | infinity s => rfl
    | number s m e => rfl
  have hc := map_write_canon (k := .f64) (D := some ((double.read b).integral .down)) (r := ffloor b) (fun d hd => by cases hd; exact hn) rfl
  exact ⟨.float .f64 (ffloor b), w.drawn, by simp [e], fun G' w' => ⟨_, rfl, hc.2, hc.1⟩⟩

theorem mul_pow_div (a K : Nat) : a * 2 ^ K / 2 ^ K = a := Nat.mul_div_cancel _ (Nat.two_pow_pos _)
theorem div_pow_add (a K L : Nat) : a * 2 ^ L / 2 ^ (K + L) = a / 2 ^ K := by rw [Nat.pow_add, Nat.mul_div_mul_right _ _ (Nat.two_pow_pos _)]
theorem div_small {n d : Nat} (h : n.log2 + 2 ≤ d) : n / 2 ^ d = 0 ∧ n / 2 ^ (n.log2 + 2) = 0 := by
  have h1 : n < 2 ^ (n.log2 + 1) := Nat.lt_log2_self
  have h2 : 2 ^ (n.log2 + 1) ≤ 2 ^ (n.log2 + 2) := Nat.pow_le_pow_right (by omega) (by omega)
  have h3 : 2 ^ (n.log2 + 2) ≤ 2 ^ d := Nat.pow_le_pow_right (by omega) h
  exact ⟨Nat.div_eq_of_lt (by omega), Nat.div_eq_of_lt (by omega)⟩
theorem low_eq (n d : Nat) : n / (1 <<< min d (n.log2 + 2)) = n / 2 ^ d := by
  rw [Nat.one_shiftLeft]
  by_cases h : d ≤ n.log2 + 2
  · rw [Nat.min_eq_left h]
  · rw [Nat.min_eq_right (by omega)]
    obtain ⟨h1, h2⟩ := div_small (n := n) (d := d) (by omega)
    rw [h1, h2]
theorem cut_zway (s : Bool) (n d : Nat) : Toward.zero.cut s n d = n / 2 ^ d := by
  unfold Toward.cut
  simp only [Bool.toNat_false, Nat.add_zero]
  exact low_eq n d
theorem cut_down {s : Bool} {n : Nat} (d : Nat) (h : s = false ∨ n = 0) : Toward.down.cut s n d = n / 2 ^ d := by
  unfold Toward.cut
  have e : (s && n % (1 <<< min d (n.log2 + 2)) != 0) = false := by
    rcases h with h | h
    · rw [h]; rfl
    · rw [h, Nat.zero_mod]; cases s <;> rfl
  simp only [e, Bool.toNat_false, Nat.add_zero]
  exact low_eq n d
/-- mag * 2 ^ (least + p), cut -/
theorem shift_div (m K p : Nat) : (m <<< (-(K : Int) + p).toNat) / 2 ^ (-(-(K : Int) + p)).toNat = m * 2 ^ p / 2 ^ K := by
  rw [Nat.shiftLeft_eq]
  by_cases h : K ≤ p
  · rw [show (-(K : Int) + p).toNat = p - K by omega, show (-(-(K : Int) + p)).toNat = 0 by omega, Nat.pow_zero, Nat.div_one]
    have : 2 ^ p = 2 ^ (p - K) * 2 ^ K := by rw [← Nat.pow_add]; congr 1; omega
    rw [this, ← Nat.mul_assoc, Nat.mul_div_cancel _ (Nat.two_pow_pos _)]
  · rw [show (-(K : Int) + p).toNat = 0 by omega, show (-(-(K : Int) + p)).toNat = K - p by omega, Nat.pow_zero, Nat.mul_one]
    have : 2 ^ K = 2 ^ (K - p) * 2 ^ p := by rw [← Nat.pow_add]; congr 1; omega
    rw [this, Nat.mul_div_mul_right _ _ (Nat.two_pow_pos _)]
theorem toInt_num (s : Bool) (m K p : Nat) : (Datum.number s m (-(K : Int) + p)).toInt .zero = some (sg s (m * 2 ^ p / 2 ^ K)) := by
  unfold Datum.toInt Datum.integral
  simp only
  rw [cut_zway, shift_div, signed_eq, Nat.pow_zero, Nat.mul_one]
theorem floor_num {s : Bool} {m : Nat} (K p : Nat) (h : s = false ∨ m = 0) : (Datum.number s m (-(K : Int) + p)).integral .down = .number s (m * 2 ^ p / 2 ^ K) 0 := by
  unfold Datum.integral
  simp only
  rw [cut_down _ (by rcases h with h | h; exact .inl h; exact .inr (by rw [h, Nat.zero_shiftLeft])), shift_div]
/-- the word of an integer, read again -/
theorem whole_read (s : Bool) {k : Nat} (hk : k < 2 ^ 53) : (double.read (double.nearest s k 0)).toInt .zero = some (sg s k) := by
  by_cases h0 : k = 0
  · subst h0; cases s <;> decide +kernel
  · obtain ⟨r, e1, hr, hu⟩ := nearest_exact double s k 0 h0 (by rw [dbl.2.2]; omega) (by rw [dbl.1]; omega) (by decide)
    have hrw := rung_word double s r (Nat.le_of_lt hr)
    have hsw : sign double (double.word s r) = s := (read_word_rung double s r (Nat.lt_of_le_of_lt (Nat.le_of_lt hr) double.infRung_lt)).2
    obtain ⟨m', p', e2, hu2⟩ := read_num (f := double) (x := double.word s r) (by rw [hrw]; exact hr)
    rw [hsw] at e2
    rw [hrw, hu, dbl.1] at hu2
    rw [e1, e2, dbl.1, show (-1074 : Int) = -((1074 : Nat) : Int) by rfl, toInt_num, hu2]
    rw [show (0 - (-1074 : Int)).toNat = 1074 by rfl]
    generalize (1074 : Nat) = K
    rw [mul_pow_div]
theorem ftoi_floor {x : Nat} {s : Bool} {m : Nat} {e : Int} (hr : single.read x = .number s m e) (hs : s = false ∨ m = 0) (he : e ≤ 0) :
    ∃ k : Nat, k < 2 ^ 24 ∧ ftoi .f32 .i64 x = some (k : Int) ∧ ftoi .f64 .i64 (ffloor (fconv .f32 .f64 x)) = some (k : Int) ∧ nanB .f64 (fconv .f32 .f64 x) = false := by
  have hb := read32_bounds hr
  obtain ⟨p, rfl⟩ : ∃ p : Nat, e = -((149 : Nat) : Int) + p := ⟨(e + 149).toNat, by omega⟩
  have hk : m * 2 ^ p / 2 ^ 149 < 2 ^ 24 := by
    have h1 : 2 ^ p ≤ 2 ^ 149 := Nat.pow_le_pow_right (by omega) (by omega)
    have h2 : m * 2 ^ p ≤ m * 2 ^ 149 := Nat.mul_le_mul_left _ h1
    have h3 : m * 2 ^ p / 2 ^ 149 ≤ m := by
      have := Nat.div_le_div_right (c := 2 ^ 149) h2
      rwa [Nat.mul_div_cancel _ (Nat.two_pow_pos _)] at this
    omega
  have hsg : sg s (m * 2 ^ p / 2 ^ 149) = ((m * 2 ^ p / 2 ^ 149 : Nat) : Int) := by
    rcases hs with h | h
    · rw [h]; rfl
    · rw [h, Nat.zero_mul, Nat.zero_div]; cases s <;> rfl
  have rng : ∀ n : Nat, n < 2 ^ 24 → IntKind.min .i64 ≤ (n : Int) ∧ (n : Int) ≤ IntKind.max .i64 := by
    intro n hn
    have h1 : IntKind.min .i64 = -9223372036854775808 := by decide
    have h2 : IntKind.max .i64 = 9223372036854775807 := by decide
    rw [h1, h2]; omega
  have h32 : ftoi .f32 .i64 x = some ((m * 2 ^ p / 2 ^ 149 : Nat) : Int) := by
    unfold ftoi
    simp only [FloatKind.decode, FloatKind.format, hr]
    rw [toInt_num, hsg]
    simp only [rng _ hk, and_self, if_true]
  have ey : fconv .f32 .f64 x = double.nearest s m (-((149 : Nat) : Int) + p) := by
    unfold fconv
    simp only [reduceCtorEq, if_false, FloatKind.decode, FloatKind.format, hr, FloatKind.encode, Format.write]
  have key : ∃ m' p' : Nat, double.read (fconv .f32 .f64 x) = .number s m' (-((1074 : Nat) : Int) + p') ∧ m' * 2 ^ p' / 2 ^ 1074 = m * 2 ^ p / 2 ^ 149 ∧ (s = false ∨ m' = 0) := by
    by_cases h0 : m = 0
    · subst h0
      refine ⟨0, 0, ?_, by simp only [Nat.zero_mul, Nat.zero_div], .inr rfl⟩
      rw [ey]
      have : double.nearest s 0 (-((149 : Nat) : Int) + p) = double.word s 0 := by unfold Format.nearest; rw [if_pos rfl]
      rw [this]
      cases s <;> decide +kernel
    · obtain ⟨r, e1, hr2, hu⟩ := nearest_exact double s m (-((149 : Nat) : Int) + p) h0 (by rw [dbl.2.2]; omega) (by rw [dbl.1]; omega) (over_ok hb.2.1 (by omega))
      have hrw := rung_word double s r (Nat.le_of_lt hr2)
      have hsw : sign double (double.word s r) = s := (read_word_rung double s r (Nat.lt_of_le_of_lt (Nat.le_of_lt hr2) double.infRung_lt)).2
      obtain ⟨m', p', e2, hu2⟩ := read_num (f := double) (x := double.word s r) (by rw [hrw]; exact hr2)
      rw [hsw] at e2
      rw [hrw, hu, dbl.1, show (-((149 : Nat) : Int) + p - (-1074 : Int)).toNat = p + 925 by omega] at hu2
      refine ⟨m', p', by rw [ey, e1, e2, dbl.1]; rfl, ?_, .inl (hs.resolve_right h0)⟩
      rw [hu2, Nat.pow_add, ← Nat.mul_assoc]
      rw [show (1074 : Nat) = 149 + 925 from rfl]
      exact div_pow_add _ 149 925
  obtain ⟨m', p', e2, ev, hs'⟩ := key
  refine ⟨m * 2 ^ p / 2 ^ 149, hk, h32, ?_, ?_⟩
  · unfold ffloor
    rw [e2, floor_num _ _ hs', ev]
    unfold ftoi
    simp only [FloatKind.decode, FloatKind.format, Format.write]
    rw [whole_read s (by omega), hsg]
    simp only [rng _ hk, and_self, if_true]
  · show (double.read (fconv .f32 .f64 x)).isNaN = false
    rw [e2]; rfl

/-- a share -/
theorem share_read {x : Nat} (h : isShareM x = true) : ∃ s m e, single.read x = .number s m e ∧ (s = false ∨ m = 0) ∧ e ≤ -23 ∧ m < 2 ^ 24 := by
  unfold isShareM at h
  simp only [Bool.and_eq_true] at h
  obtain ⟨h1, h2⟩ := h
  have n1 : nanB .f32 1065353216 = false := by decide
  have hx : nanB .f32 x = false := by
    rw [fge_eq, fgt_eq, feq_eq] at h1
    cases hn : nanB .f32 x
    · rfl
    · rw [hn] at h1; simp at h1
  have s1 : srung .f32 1065353216 = 127 * 2 ^ 23 := by decide
  rw [fge_not _ hx zero_nan, flt_eq, hx, zero_nan, zero_srung] at h1
  rw [fle_not _ hx n1, fgt_eq, hx, n1, s1] at h2
  simp at h1 h2
  have hsr : srung .f32 x = sg (sign single x) (rung single x) := rfl
  rw [hsr] at h1 h2
  have hrung : rung single x ≤ 127 * 2 ^ 23 ∧ (sign single x = true → rung single x = 0) := by
    cases hs : sign single x
    · rw [hs] at h1 h2; simp only [sg, Bool.false_eq_true, if_false] at h1 h2; exact ⟨by omega, fun h => by cases h⟩
    · rw [hs] at h1 h2; simp only [sg, if_true] at h1 h2; exact ⟨by omega, fun _ => by omega⟩
  obtain ⟨m, p, e, hu⟩ := read_num (f := single) (x := x) (by rw [sgl.2.2.2]; omega)
  have hsm := read_small (f := single) (q := 127) (by omega) e (by rw [sgl.2.2.1]; exact hrung.1)
  rw [sgl.2.2.1, sgl.1] at hsm
  refine ⟨_, m, _, e, ?_, by have := sgl.1; omega, by omega⟩
  cases hs : sign single x
  · exact .inl rfl
  · refine .inr ?_
    rw [hrung.2 hs, units_zero (by rw [sgl.2.2.1]; omega)] at hu
    rcases Nat.mul_eq_zero.mp hu with h | h
    · exact h
    · exact absurd h (Nat.ne_of_gt (Nat.two_pow_pos _))
def cntOk (n : Nat) : Bool := match single.read (fofi .f32 (n : Int)) with
  | .number s m e => !s && (decide (m < 2 ^ 24) && decide (e + m.log2 ≤ 6))
  | _ => false
theorem cnt_all : ∀ n : Fin 97, cntOk n.val = true := by decide +kernel
theorem cnt_read {n : Nat} (h : n ≤ 96) : ∃ m e, single.read (fofi .f32 (n : Int)) = .number false m e ∧ e + (m.log2 : Int) ≤ 6 := by
  have := cnt_all ⟨n, by omega⟩
  unfold cntOk at this
  cases hr : single.read (fofi .f32 (n : Int)) with
  | nan s t => rw [hr] at this; cases this
  | infinity s => rw [hr] at this; cases this
  | number s m e =>
    rw [hr] at this
    simp only [Bool.and_eq_true, Bool.not_eq_true', decide_eq_true_eq] at this
    exact ⟨m, e, by rw [this.1], this.2.2⟩
/-- a share of a count -/
theorem part_read {x n : Nat} (h : isShareM x = true) (hn : n ≤ 96) : ∃ s m e, single.read (fmul .f32 x (fofi .f32 (n : Int))) = .number s m e ∧ (s = false ∨ m = 0) ∧ e ≤ 0 := by
  obtain ⟨s, m, e, hr, hs, he, hm⟩ := share_read h
  obtain ⟨m2, e2, hr2, he2⟩ := cnt_read hn
  have ep : fmul .f32 x (fofi .f32 (n : Int)) = single.nearest s (m * m2) (e + e2) := by
    unfold fmul Format.mul
    show (Option.map single.write ((single.read x).product (single.read (fofi .f32 (n : Int))))).getD _ = _
    rw [hr, hr2]
    simp only [Datum.product, Bool.xor_false, Option.map_some, Option.getD_some, Format.write]
  rw [ep]
  by_cases h0 : m * m2 = 0
  · rw [h0]
    have : single.nearest s 0 (e + e2) = single.word s 0 := by unfold Format.nearest; rw [if_pos rfl]
    rw [this]
    refine ⟨s, 0, -149, ?_, .inr rfl, by omega⟩
    cases s <;> decide +kernel
  · have hm0 : m ≠ 0 := fun h => h0 (by rw [h, Nat.zero_mul])
    have hm20 : m2 ≠ 0 := fun h => h0 (by rw [h, Nat.mul_zero])
    have hs' : s = false := hs.resolve_right hm0
    subst hs'
    have hlog : (m * m2).log2 ≤ m.log2 + m2.log2 + 1 := by
      have a1 : m < 2 ^ (m.log2 + 1) := Nat.lt_log2_self
      have a2 : m2 < 2 ^ (m2.log2 + 1) := Nat.lt_log2_self
      have a3 : m * m2 < 2 ^ (m.log2 + m2.log2 + 2) := by
        have := Nat.mul_lt_mul'' a1 a2
        rwa [← Nat.pow_add, show m.log2 + 1 + (m2.log2 + 1) = m.log2 + m2.log2 + 2 by omega] at this
      have := (Nat.log2_lt h0).2 a3
      omega
    have hml : m.log2 < 24 := log2_lt' hm hm0
    obtain ⟨r, e1, hr1, hr2⟩ := nearest_rung single false (m * m2) (e + e2) 8 h0 (by omega) (by rw [sgl.1, sgl.2.1]; omega)
    rw [sgl.1, sgl.2.1, sgl.2.2.1] at hr1
    rw [e1]
    have hrw := rung_word single false r hr2
    have hsw : sign single (single.word false r) = false := (read_word_rung single false r (Nat.lt_of_le_of_lt hr2 single.infRung_lt)).2
    have hrr : r ≤ 136 * 2 ^ 23 := by
      have : ((8 : Int) - (23 : Nat) - (-149)).toNat + 2 = 136 := by decide
      rw [this] at hr1; exact hr1
    obtain ⟨m', p', e3, _⟩ := read_num (f := single) (x := single.word false r) (by rw [hrw, sgl.2.2.2]; omega)
    have hsm := read_small (f := single) (q := 136) (by omega) e3 (by rw [hrw, sgl.2.2.1]; exact hrr)
    rw [sgl.2.2.1, sgl.1] at hsm
    rw [hsw] at e3
    exact ⟨false, m', _, e3, .inl rfl, by have := sgl.1; omega⟩
end Go.Proofs.LV
