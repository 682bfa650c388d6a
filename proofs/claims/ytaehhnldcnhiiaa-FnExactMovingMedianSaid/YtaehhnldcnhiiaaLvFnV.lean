/- Medians. -/
import Derived.Test.YtaehhnldcnhiiaaLvFnU
import Derived.Test.YtaehhnldcnhiiaaLvFnX
import Derived.Test.YtaehhnldcnhiiaaLvFnY
namespace Go.Proofs.LV
open Go
set_option linter.unusedVariables false
set_option linter.unusedSimpArgs false

/-- the median -/
def medM (xs : List Nat) : Nat := if xs.length % 2 = 1 then (sortM KS xs).getD (xs.length / 2) 0 else fmul .f32 1056964608 (fadd .f32 ((sortM KS xs).getD (xs.length / 2 - 1) 0) ((sortM KS xs).getD (xs.length / 2) 0))
def msRow (a : List Nat) (i m : Nat) : List Nat := tab m fun j => fdiv .f32 (fsub .f32 (a.getD (i + 1 + j) 0) (a.getD i 0)) (fofi .f32 ((j + 1 : Nat) : Int))
def msList (a : List Nat) : Nat → List Nat
  | 0 => []
  | n + 1 => msList a n ++ msRow a n (a.length - (n + 1))
def slpOk (a : List Nat) : Bool := (seriesM a && decide (2 ≤ a.length)) && finAllM (msList a a.length)
def msV (a : List Nat) : Nat := (sortM KS (msList a a.length)).getD (((msList a a.length).length - 1) / 2) 0

-- FN impl_sorted
/-- impl.sorted: slots 9, results [.t 2]; calls [5:g_slices_Clone___float32_float32_, 7:g_slices_SortStableFunc___float32_float32_]; names [(list, 0), (list, 1), (out, 3)] -/
def ps_impl_sorted : List Nat := [0, 2, 3]
def b_impl_sorted (g_slices_Clone___float32_float32_ g_slices_SortStableFunc___float32_float32_ g_impl_sorted_1 : FuncId) : VCode :=
  (.seq
   (.region false [
    ⟨some 2, (.nilsl (.f .f32 [])), [], none⟩])
   (.seq
    (.region false [
     ⟨some 4, .mv, [.t 0], none⟩,
     ⟨some 5, (.call g_slices_Clone___float32_float32_), [.t 4], none⟩,
     ⟨some 3, .mv, [.t 5], none⟩])
    (.seq
     (.region false [
      ⟨some 6, .mv, [.t 3], none⟩,
      ⟨some 7, (.call g_slices_SortStableFunc___float32_float32_), [.t 6, .k (.fn g_impl_sorted_1 [])], none⟩])
     (.seq
      (.region false [
       ⟨some 8, .mv, [.t 3], none⟩,
       ⟨some 2, .mv, [.t 8], none⟩])
      .ret))))

abbrev Is_impl_sorted (P : Program) (g_f : FuncId) (g_slices_Clone___float32_float32_ g_slices_SortStableFunc___float32_float32_ g_impl_sorted_1 : FuncId) : Prop := FnIs P g_f 9 [.t 2] (b_impl_sorted g_slices_Clone___float32_float32_ g_slices_SortStableFunc___float32_float32_ g_impl_sorted_1)

abbrev C_impl_sorted (P : Program) (g_f : FuncId) : Prop := ∀ (list : List Nat) (hn : 1 ≤ list.length) (hN : okM list) (hx : list.length ≤ 5000), VCall P g_f [PS [0] .f32 list] (OS 0 .f32 (sortM KS list))
def oc1_impl_sorted (as : List AV) : T AV := match as with | [.sl _ _ (.f .f32 list)] => .leaf (OS 0 .f32 (sortM KS list)) | _ => .fail
def oc_impl_sorted (list : List Nat) (d : Nat) (as : List AV) : T AV := match d with | 5 => oc1_slices_Clone___float32_float32_ as | 7 => oc1_slices_SortStableFunc___float32_float32_ as | _ => .fail



theorem q_impl_sorted {P : Program} {g_f : FuncId} {g_slices_Clone___float32_float32_ g_slices_SortStableFunc___float32_float32_ g_impl_sorted_1 : FuncId} (h_ : Is_impl_sorted P g_f g_slices_Clone___float32_float32_ g_slices_SortStableFunc___float32_float32_ g_impl_sorted_1) (list : List Nat) (ht : T.ok (fun x_ => x_ = OS 0 .f32 (sortM KS list)) (
      T.ob ((VCall P) g_slices_Clone___float32_float32_ [AV.sl (Tag.par [0]) 0 (Cont.f FloatKind.f32 list)] (AV.sl (Tag.own 0) 0 (Cont.f FloatKind.f32 list)))
        (T.ob
          ((VCall P) g_slices_SortStableFunc___float32_float32_ [AV.sl (Tag.own 800000) 0 (Cont.f FloatKind.f32 list), AV.fn g_impl_sorted_1 []]
              (AV.bx Tag.nil [AV.tup [], AV.tup [AV.sl (Tag.own 800000) 0 (Cont.f FloatKind.f32 (sortM KS list)), AV.fn g_impl_sorted_1 []]]) ∧
            List.length list = List.length (sortM KS list) ∧ List.length list = List.length (sortM KS list) ∧ True)
          (T.leaf (AV.sl (Tag.own 0) 0 (Cont.f FloatKind.f32 (sortM KS list))))))) :
    VCall P g_f [PS [0] .f32 list] (OS 0 .f32 (sortM KS list)) := h_.call_of ps_impl_sorted ⟨oc_impl_sorted list, fun _ _ => none⟩ (by kernel_rfl) ht

-- END impl_sorted
-- FN impl_median
/-- impl.median: slots 30, results [.t 2]; calls [6:g_impl_sorted]; names [(list, 0), (list, 1), (order, 3), (n, 4)] -/
def ps_impl_median : List Nat := [0, 2, 3, 4, 11]
def b_impl_median (g_impl_sorted : FuncId) : VCode :=
  (.seq
   (.region false [
    ⟨some 2, .mv, [.k (.f .f32 0)], none⟩])
   (.seq
    (.region false [
     ⟨some 5, .mv, [.t 0], none⟩,
     ⟨some 6, (.call g_impl_sorted), [.t 5], none⟩,
     ⟨some 3, .mv, [.t 6], none⟩])
    (.seq
     (.region false [
      ⟨some 7, .mv, [.t 3], none⟩,
      ⟨some 8, .len, [.t 7], none⟩,
      ⟨some 4, .mv, [.t 8], none⟩])
     (.seq
      (.seq
       (.region false [
        ⟨some 9, .mv, [.t 4], none⟩,
        ⟨some 10, (.bin .rem), [.t 9, .k (.i .i64 2)], none⟩,
        ⟨some 11, (.bin .eql), [.t 10, .k (.i .i64 1)], none⟩])
       (.cond (.t 11)
        (.seq
         (.region false [
          ⟨some 12, .mv, [.t 3], none⟩,
          ⟨some 13, .mv, [.t 4], none⟩,
          ⟨some 14, (.bin .quo), [.t 13, .k (.i .i64 2)], none⟩,
          ⟨some 15, .iaddr, [.t 12, .t 14], none⟩,
          ⟨some 16, .load, [.t 15], none⟩,
          ⟨some 2, .mv, [.t 16], none⟩])
         .ret)
        .skip))
      (.seq
       (.region true [
        ⟨some 17, .mv, [.t 3], none⟩,
        ⟨some 18, .mv, [.t 4], none⟩,
        ⟨some 19, (.bin .quo), [.t 18, .k (.i .i64 2)], none⟩,
        ⟨some 20, (.bin .sub), [.t 19, .k (.i .i64 1)], none⟩,
        ⟨some 21, .iaddr, [.t 17, .t 20], none⟩,
        ⟨some 22, .load, [.t 21], none⟩,
        ⟨some 23, .mv, [.t 3], none⟩,
        ⟨some 24, .mv, [.t 4], none⟩,
        ⟨some 25, (.bin .quo), [.t 24, .k (.i .i64 2)], none⟩,
        ⟨some 26, .iaddr, [.t 23, .t 25], none⟩,
        ⟨some 27, .load, [.t 26], none⟩,
        ⟨some 28, (.bin .add), [.t 22, .t 27], none⟩,
        ⟨some 29, (.bin .quo), [.t 28, .k (.f .f32 1073741824)], none⟩,
        ⟨some 2, .mv, [.t 29], none⟩])
       .ret)))))

abbrev Is_impl_median (P : Program) (g_f : FuncId) (g_impl_sorted : FuncId) : Prop := FnIs P g_f 30 [.t 2] (b_impl_median g_impl_sorted)

abbrev C_impl_median (P : Program) (g_f : FuncId) : Prop := ∀ (list : List Nat) (hn : 1 ≤ list.length) (hN : okM list) (hx : list.length ≤ 5000), VCall P g_f [PS [0] .f32 list] (.f .f32 (medM list))
def oc1_impl_median (as : List AV) : T AV := match as with | [.sl _ _ (.f .f32 list)] => .leaf (.f .f32 (medM list)) | _ => .fail
def oc_impl_median (list : List Nat) (d : Nat) (as : List AV) : T AV := match d with | 6 => oc1_impl_sorted as | _ => .fail



theorem q_impl_median {P : Program} {g_f : FuncId} {g_impl_sorted : FuncId} (h_ : Is_impl_median P g_f g_impl_sorted) (list : List Nat) (ht : T.ok (fun x_ => x_ = .f .f32 (medM list)) (
      T.ob ((VCall P) g_impl_sorted [AV.sl (Tag.par [0]) 0 (Cont.f FloatKind.f32 list)] (AV.sl (Tag.own 0) 0 (Cont.f FloatKind.f32 (sortM KS list))))
        (T.ob ((2 : Int) ≠ 0)
          (T.ite (Int.tmod (↑(List.length (sortM KS list)) : Int) 2 == 1)
            (T.ob ((2 : Int) ≠ 0)
              (T.ob (0 ≤ IntKind.wrap IntKind.i64 (Int.tdiv (↑(List.length (sortM KS list)) : Int) 2) ∧ IntKind.wrap IntKind.i64 (Int.tdiv (↑(List.length (sortM KS list)) : Int) 2) < (↑(List.length (sortM KS list)) : Int))
                (T.leaf (AV.f FloatKind.f32 (List.getD (sortM KS list) (Int.toNat (IntKind.wrap IntKind.i64 (Int.tdiv (↑(List.length (sortM KS list)) : Int) 2))) 0)))))
            (T.ob ((2 : Int) ≠ 0)
              (T.ob
                (0 ≤ IntKind.wrap IntKind.i64 (IntKind.wrap IntKind.i64 (Int.tdiv (↑(List.length (sortM KS list)) : Int) 2) - 1) ∧
                  IntKind.wrap IntKind.i64 (IntKind.wrap IntKind.i64 (Int.tdiv (↑(List.length (sortM KS list)) : Int) 2) - 1) < (↑(List.length (sortM KS list)) : Int))
                (T.ob ((2 : Int) ≠ 0)
                  (T.ob (0 ≤ IntKind.wrap IntKind.i64 (Int.tdiv (↑(List.length (sortM KS list)) : Int) 2) ∧ IntKind.wrap IntKind.i64 (Int.tdiv (↑(List.length (sortM KS list)) : Int) 2) < (↑(List.length (sortM KS list)) : Int))
                    (T.ob True
                      (T.leaf
                        (AV.f FloatKind.f32
                          (fdiv FloatKind.f32
                            (fadd FloatKind.f32 (List.getD (sortM KS list) (Int.toNat (IntKind.wrap IntKind.i64 (IntKind.wrap IntKind.i64 (Int.tdiv (↑(List.length (sortM KS list)) : Int) 2) - 1))) 0)
                              (List.getD (sortM KS list) (Int.toNat (IntKind.wrap IntKind.i64 (Int.tdiv (↑(List.length (sortM KS list)) : Int) 2))) 0))
                            1073741824)))))))))))) :
    VCall P g_f [PS [0] .f32 list] (.f .f32 (medM list)) := h_.call_of ps_impl_median ⟨oc_impl_median list, fun _ _ => none⟩ (by kernel_rfl) ht

-- END impl_median
-- FN spec_l02Median
/-- spec.l02Median: slots 30, results [.t 2]; calls [6:g_spec_l02Sorted]; names [(list, 0), (list, 1), (s, 3), (n, 4)] -/
def ps_spec_l02Median : List Nat := [0, 2, 3, 4, 11]
def b_spec_l02Median (g_spec_l02Sorted : FuncId) : VCode :=
  (.seq
   (.region false [
    ⟨some 2, .mv, [.k (.f .f32 0)], none⟩])
   (.seq
    (.region false [
     ⟨some 5, .mv, [.t 0], none⟩,
     ⟨some 6, (.call g_spec_l02Sorted), [.t 5], none⟩,
     ⟨some 3, .mv, [.t 6], none⟩])
    (.seq
     (.region false [
      ⟨some 7, .mv, [.t 3], none⟩,
      ⟨some 8, .len, [.t 7], none⟩,
      ⟨some 4, .mv, [.t 8], none⟩])
     (.seq
      (.seq
       (.region false [
        ⟨some 9, .mv, [.t 4], none⟩,
        ⟨some 10, (.bin .rem), [.t 9, .k (.i .i64 2)], none⟩,
        ⟨some 11, (.bin .eql), [.t 10, .k (.i .i64 1)], none⟩])
       (.cond (.t 11)
        (.seq
         (.region false [
          ⟨some 12, .mv, [.t 3], none⟩,
          ⟨some 13, .mv, [.t 4], none⟩,
          ⟨some 14, (.bin .quo), [.t 13, .k (.i .i64 2)], none⟩,
          ⟨some 15, .iaddr, [.t 12, .t 14], none⟩,
          ⟨some 16, .load, [.t 15], none⟩,
          ⟨some 2, .mv, [.t 16], none⟩])
         .ret)
        .skip))
      (.seq
       (.region true [
        ⟨some 17, .mv, [.t 3], none⟩,
        ⟨some 18, .mv, [.t 4], none⟩,
        ⟨some 19, (.bin .quo), [.t 18, .k (.i .i64 2)], none⟩,
        ⟨some 20, (.bin .sub), [.t 19, .k (.i .i64 1)], none⟩,
        ⟨some 21, .iaddr, [.t 17, .t 20], none⟩,
        ⟨some 22, .load, [.t 21], none⟩,
        ⟨some 23, .mv, [.t 3], none⟩,
        ⟨some 24, .mv, [.t 4], none⟩,
        ⟨some 25, (.bin .quo), [.t 24, .k (.i .i64 2)], none⟩,
        ⟨some 26, .iaddr, [.t 23, .t 25], none⟩,
        ⟨some 27, .load, [.t 26], none⟩,
        ⟨some 28, (.bin .add), [.t 22, .t 27], none⟩,
        ⟨some 29, (.bin .mul), [.k (.f .f32 1056964608), .t 28], none⟩,
        ⟨some 2, .mv, [.t 29], none⟩])
       .ret)))))

abbrev Is_spec_l02Median (P : Program) (g_f : FuncId) (g_spec_l02Sorted : FuncId) : Prop := FnIs P g_f 30 [.t 2] (b_spec_l02Median g_spec_l02Sorted)

abbrev C_spec_l02Median (P : Program) (g_f : FuncId) : Prop := ∀ (list : List Nat) (hn : 1 ≤ list.length) (hN : okM list) (hx : list.length ≤ 5000), VCall P g_f [PS [0] .f32 list] (.f .f32 (medM list))
def oc1_spec_l02Median (as : List AV) : T AV := match as with | [.sl _ _ (.f .f32 list)] => .leaf (.f .f32 (medM list)) | _ => .fail
def oc_spec_l02Median (list : List Nat) (d : Nat) (as : List AV) : T AV := match d with | 6 => oc1_spec_l02Sorted as | _ => .fail



theorem q_spec_l02Median {P : Program} {g_f : FuncId} {g_spec_l02Sorted : FuncId} (h_ : Is_spec_l02Median P g_f g_spec_l02Sorted) (list : List Nat) (ht : T.ok (fun x_ => x_ = .f .f32 (medM list)) (
      T.ob ((VCall P) g_spec_l02Sorted [AV.sl (Tag.par [0]) 0 (Cont.f FloatKind.f32 list)] (AV.sl (Tag.own 0) 0 (Cont.f FloatKind.f32 (sortM KS list))))
        (T.ob ((2 : Int) ≠ 0)
          (T.ite (Int.tmod (↑(List.length (sortM KS list)) : Int) 2 == 1)
            (T.ob ((2 : Int) ≠ 0)
              (T.ob (0 ≤ IntKind.wrap IntKind.i64 (Int.tdiv (↑(List.length (sortM KS list)) : Int) 2) ∧ IntKind.wrap IntKind.i64 (Int.tdiv (↑(List.length (sortM KS list)) : Int) 2) < (↑(List.length (sortM KS list)) : Int))
                (T.leaf (AV.f FloatKind.f32 (List.getD (sortM KS list) (Int.toNat (IntKind.wrap IntKind.i64 (Int.tdiv (↑(List.length (sortM KS list)) : Int) 2))) 0)))))
            (T.ob ((2 : Int) ≠ 0)
              (T.ob
                (0 ≤ IntKind.wrap IntKind.i64 (IntKind.wrap IntKind.i64 (Int.tdiv (↑(List.length (sortM KS list)) : Int) 2) - 1) ∧
                  IntKind.wrap IntKind.i64 (IntKind.wrap IntKind.i64 (Int.tdiv (↑(List.length (sortM KS list)) : Int) 2) - 1) < (↑(List.length (sortM KS list)) : Int))
                (T.ob ((2 : Int) ≠ 0)
                  (T.ob (0 ≤ IntKind.wrap IntKind.i64 (Int.tdiv (↑(List.length (sortM KS list)) : Int) 2) ∧ IntKind.wrap IntKind.i64 (Int.tdiv (↑(List.length (sortM KS list)) : Int) 2) < (↑(List.length (sortM KS list)) : Int))
                    (T.leaf
                      (AV.f FloatKind.f32
                        (fmul FloatKind.f32 1056964608
                          (fadd FloatKind.f32 (List.getD (sortM KS list) (Int.toNat (IntKind.wrap IntKind.i64 (IntKind.wrap IntKind.i64 (Int.tdiv (↑(List.length (sortM KS list)) : Int) 2) - 1))) 0)
                            (List.getD (sortM KS list) (Int.toNat (IntKind.wrap IntKind.i64 (Int.tdiv (↑(List.length (sortM KS list)) : Int) 2))) 0))))))))))))) :
    VCall P g_f [PS [0] .f32 list] (.f .f32 (medM list)) := h_.call_of ps_spec_l02Median ⟨oc_spec_l02Median list, fun _ _ => none⟩ (by kernel_rfl) ht

-- END spec_l02Median

theorem tmod_one (n : Nat) : (Int.tmod (n : Int) 2 == 1) = decide (n % 2 = 1) := by
  rw [Int.tmod_eq_emod_of_nonneg (by omega)]
  by_cases h : n % 2 = 1
  · rw [decide_eq_true h, show ((n : Int) % 2) = 1 by omega]; rfl
  · rw [decide_eq_false h, show ((n : Int) % 2) = 0 by omega]; rfl
theorem fin_nan {x : Nat} (h : finM x = true) : nanB .f32 x = false := by
  rw [finM_iff] at h
  have := of_decide_eq_true h
  rw [nanB_iff]
  refine decide_eq_false ?_
  show ¬ Ieee.single.infRung < rung Ieee.single x
  omega
theorem fin_ok {xs : List Nat} (h : finAllM xs = true) : okM xs := by
  intro i
  by_cases hi : i < xs.length
  · refine fin_nan ?_
    have := List.all_eq_true.1 h xs[i] (List.getElem_mem hi)
    simpa [List.getD, List.getElem?_eq_getElem hi] using this
  · rw [show xs.getD i 0 = 0 by simp [List.getD, List.getElem?_eq_none (Nat.le_of_not_lt hi)]]
    exact nan0S
theorem series_ok {xs : List Nat} (h : seriesM xs = true) : okM xs := by
  refine fin_ok ?_
  simp [seriesM] at h
  simp [h]
theorem ms_len (a : List Nat) : ∀ n, n ≤ a.length → (msList a n).length ≤ n * a.length
  | 0, _ => by simp [msList]
  | n + 1, h => by
    have := ms_len a n (by omega)
    have h2 : (msRow a n (a.length - (n + 1))).length = a.length - (n + 1) := tab_len _ _
    rw [msList, List.length_append, Nat.succ_mul]; omega
theorem ms_exact (a : List Nat) : ∀ n, n ≤ a.length → 2 * (msList a n).length + n * n + n = 2 * n * a.length
  | 0, _ => by simp [msList]
  | n + 1, h => by
    have := ms_exact a n (by omega)
    have h2 : (msRow a n (a.length - (n + 1))).length = a.length - (n + 1) := tab_len _ _
    rw [msList, List.length_append, h2]
    have e1 : (n + 1) * (n + 1) = n * n + 2 * n + 1 := by rw [Nat.add_mul, Nat.mul_add]; omega
    have e2 : 2 * (n + 1) * a.length = 2 * n * a.length + 2 * a.length := by rw [Nat.mul_add, Nat.add_mul]
    omega
theorem ms_bound {a : List Nat} (h : a.length ≤ 96) : (msList a a.length).length ≤ 5000 := by
  have := ms_exact a a.length (Nat.le_refl _)
  have h2 : a.length * a.length ≤ 96 * 96 := Nat.mul_le_mul h h
  have e : 2 * a.length * a.length = 2 * (a.length * a.length) := Nat.mul_assoc _ _ _
  omega
theorem ms_pos {a : List Nat} (h : 2 ≤ a.length) : 1 ≤ (msList a a.length).length := by
  have := ms_exact a a.length (Nat.le_refl _)
  have h2 : 2 * a.length ≤ a.length * a.length := Nat.mul_le_mul_right _ h
  have e : 2 * a.length * a.length = 2 * (a.length * a.length) := Nat.mul_assoc _ _ _
  omega
theorem k_impl_sorted {P : Program} {f g_slices_Clone___float32_float32_ g_slices_SortStableFunc___float32_float32_ g_impl_sorted_1 : FuncId} (h : Is_impl_sorted P f g_slices_Clone___float32_float32_ g_slices_SortStableFunc___float32_float32_ g_impl_sorted_1) (c1 : C_slices_Clone___float32_float32_ P g_slices_Clone___float32_float32_) (c2 : C_slices_SortStableFunc___float32_float32_ P g_slices_SortStableFunc___float32_float32_) (c3 : C_impl_sorted_1 P g_impl_sorted_1) : C_impl_sorted P f := by
  intro list hn hN hx
  refine q_impl_sorted h list ?_
  repeat' (first | with_reducible refine T.ok_ob ?_ (fun _ => ?_) | with_reducible refine T.ok_ite (fun _ => ?_) (fun _ => ?_) | with_reducible refine T.ok_leaf ?_)
  all_goals first | with_reducible rfl | with_reducible assumption | ((with_reducible refine c1 _ ?_ ?_) <;> (first | assumption | omega | with_reducible rfl | (simp [maxLen_eq]; done) | (simp [maxLen_eq]; omega))) | ((with_reducible refine ⟨c2 _ _ ?_ ?_ ?_, ?_⟩) <;> first | assumption | omega | (simp [marks_len, sort_len]; done) | (simp [marks_len, sort_len]; omega)) | with_reducible exact c3 _ _ | contradiction | exact fconvOk_32_64 _ | assumption | exact rfl | (simp_all [sort_len]; done) | (simp_all [T.ok, sort_len]; omega)

theorem k_impl_median {P : Program} {f g1 : FuncId} (h : Is_impl_median P f g1) (c1 : C_impl_sorted P g1) : C_impl_median P f := by
  intro list hn hN hx
  refine q_impl_median h list ?_
  have c1 := c1 list hn hN hx
  rw [half_eq]
  rw [sort_len, tmod_one]
  have e1 : IntKind.wrap .i64 (Int.tdiv (list.length : Int) 2) = (list.length / 2 : Nat) := by rw [Int.tdiv_eq_ediv_of_nonneg (by omega), wrap64_id (by omega) (by omega)]; omega
  rw [e1]
  by_cases hc : list.length % 2 = 1
  · have em : medM list = (sortM KS list).getD (list.length / 2) 0 := by unfold medM; rw [if_pos hc]
    rw [decide_eq_true hc, em]
    simp only [Int.toNat_natCast]
    repeat' (first | with_reducible refine T.ok_ob ?_ (fun _ => ?_) | with_reducible refine T.ok_ite (fun _ => ?_) (fun _ => ?_) | with_reducible refine T.ok_leaf ?_)
    all_goals first | exact c1 | omega | rfl | (exfalso; contradiction) | trivial
  · have em : medM list = fmul .f32 1056964608 (fadd .f32 ((sortM KS list).getD (list.length / 2 - 1) 0) ((sortM KS list).getD (list.length / 2) 0)) := by unfold medM; rw [if_neg hc]
    have e2 : IntKind.wrap .i64 (((list.length / 2 : Nat) : Int) - 1) = (list.length / 2 - 1 : Nat) := by rw [wrap64_id (by omega) (by omega)]; omega
    rw [decide_eq_false hc, em, e2]
    simp only [Int.toNat_natCast]
    repeat' (first | with_reducible refine T.ok_ob ?_ (fun _ => ?_) | with_reducible refine T.ok_ite (fun _ => ?_) (fun _ => ?_) | with_reducible refine T.ok_leaf ?_)
    all_goals first | exact c1 | omega | rfl | (exfalso; contradiction) | trivial
theorem k_spec_l02Median {P : Program} {f g1 : FuncId} (h : Is_spec_l02Median P f g1) (c1 : C_spec_l02Sorted P g1) : C_spec_l02Median P f := by
  intro list hn hN hx
  refine q_spec_l02Median h list ?_
  have c1 := c1 list hN hx
  rw [sort_len, tmod_one]
  have e1 : IntKind.wrap .i64 (Int.tdiv (list.length : Int) 2) = (list.length / 2 : Nat) := by rw [Int.tdiv_eq_ediv_of_nonneg (by omega), wrap64_id (by omega) (by omega)]; omega
  rw [e1]
  by_cases hc : list.length % 2 = 1
  · have em : medM list = (sortM KS list).getD (list.length / 2) 0 := by unfold medM; rw [if_pos hc]
    rw [decide_eq_true hc, em]
    simp only [Int.toNat_natCast]
    repeat' (first | with_reducible refine T.ok_ob ?_ (fun _ => ?_) | with_reducible refine T.ok_ite (fun _ => ?_) (fun _ => ?_) | with_reducible refine T.ok_leaf ?_)
    all_goals first | exact c1 | omega | rfl | (exfalso; contradiction) | trivial
  · have em : medM list = fmul .f32 1056964608 (fadd .f32 ((sortM KS list).getD (list.length / 2 - 1) 0) ((sortM KS list).getD (list.length / 2) 0)) := by unfold medM; rw [if_neg hc]
    have e2 : IntKind.wrap .i64 (((list.length / 2 : Nat) : Int) - 1) = (list.length / 2 - 1 : Nat) := by rw [wrap64_id (by omega) (by omega)]; omega
    rw [decide_eq_false hc, em, e2]
    simp only [Int.toNat_natCast]
    repeat' (first | with_reducible refine T.ok_ob ?_ (fun _ => ?_) | with_reducible refine T.ok_ite (fun _ => ?_) (fun _ => ?_) | with_reducible refine T.ok_leaf ?_)
    all_goals first | exact c1 | omega | rfl | (exfalso; contradiction) | trivial
end Go.Proofs.LV
