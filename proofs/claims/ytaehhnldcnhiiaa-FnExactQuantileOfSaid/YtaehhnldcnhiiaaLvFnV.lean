/- Medians. -/
import Derived.Test.YtaehhnldcnhiiaaLvFnU
import Derived.Test.YtaehhnldcnhiiaaLvFnX
import Derived.Test.YtaehhnldcnhiiaaLvFnY
namespace Go.Proofs.LV
open Go
set_option linter.unusedVariables false
set_option linter.unusedSimpArgs false

/-- the median -/
def medM (xs : List Nat) : Nat := if xs.length % 2 = 1 then (sortM KS xs).getD (xs.length / 2) 0 else fmul .f32 1056964608 (fadd .f32 ((sortM KS xs).getD (xs.length / 2 - 1) 0) ((sortM KS xs).getD (xs.length / 2) 0))
def msRow (a : List Nat) (i m : Nat) : List Nat := tab m fun j => fdiv .f32 (fsub .f32 (a.getD (i + 1 + j) 0) (a.getD i 0)) (fofi .f32 ((j + 1 : Nat) : Int))
def msList (a : List Nat) : Nat → List Nat
  | 0 => []
  | n + 1 => msList a n ++ msRow a n (a.length - (n + 1))
def slpOk (a : List Nat) : Bool := (seriesM a && decide (2 ≤ a.length)) && finAllM (msList a a.length)
def msV (a : List Nat) : Nat := (sortM KS (msList a a.length)).getD (((msList a a.length).length - 1) / 2) 0

-- FN impl_sorted
/-- impl.sorted: slots 9, results [.t 2]; calls [5:g_slices_Clone___float32_float32_, 7:g_slices_SortStableFunc___float32_float32_]; names [(list, 0), (list, 1), (out, 3)] -/
def ps_impl_sorted : List Nat := [0, 2, 3]
def b_impl_sorted (g_slices_Clone___float32_float32_ g_slices_SortStableFunc___float32_float32_ g_impl_sorted_1 : FuncId) : VCode :=
  (.seq
   (.region false [
    ⟨some 2, (.nilsl (.f .f32 [])), [], none⟩])
   (.seq
    (.region false [
     ⟨some 4, .mv, [.t 0], none⟩,
     ⟨some 5, (.call g_slices_Clone___float32_float32_), [.t 4], none⟩,
     ⟨some 3, .mv, [.t 5], none⟩])
    (.seq
     (.region false [
      ⟨some 6, .mv, [.t 3], none⟩,
      ⟨some 7, (.call g_slices_SortStableFunc___float32_float32_), [.t 6, .k (.fn g_impl_sorted_1 [])], none⟩])
     (.seq
      (.region false [
       ⟨some 8, .mv, [.t 3], none⟩,
       ⟨some 2, .mv, [.t 8], none⟩])
      .ret))))

abbrev Is_impl_sorted (P : Program) (g_f : FuncId) (g_slices_Clone___float32_float32_ g_slices_SortStableFunc___float32_float32_ g_impl_sorted_1 : FuncId) : Prop := FnIs P g_f 9 [.t 2] (b_impl_sorted g_slices_Clone___float32_float32_ g_slices_SortStableFunc___float32_float32_ g_impl_sorted_1)

abbrev C_impl_sorted (P : Program) (g_f : FuncId) : Prop := ∀ (list : List Nat) (hn : 1 ≤ list.length) (hN : okM list) (hx : list.length ≤ 5000), VCall P g_f [PS [0] .f32 list] (OS 0 .f32 (sortM KS list))
def oc1_impl_sorted (as : List AV) : T AV := match as with | [.sl _ _ (.f .f32 list)] => .leaf (OS 0 .f32 (sortM KS list)) | _ => .fail
def oc_impl_sorted (list : List Nat) (d : Nat) (as : List AV) : T AV := match d with | 5 => oc1_slices_Clone___float32_float32_ as | 7 => oc1_slices_SortStableFunc___float32_float32_ as | _ => .fail



theorem q_impl_sorted {P : Program} {g_f : FuncId} {g_slices_Clone___float32_float32_ g_slices_SortStableFunc___float32_float32_ g_impl_sorted_1 : FuncId} (h_ : Is_impl_sorted P g_f g_slices_Clone___float32_float32_ g_slices_SortStableFunc___float32_float32_ g_impl_sorted_1) (list : List Nat) (ht : T.ok (fun x_ => x_ = OS 0 .f32 (sortM KS list)) (
      T.ob ((VCall P) g_slices_Clone___float32_float32_ [AV.sl (Tag.par [0]) 0 (Cont.f FloatKind.f32 list)] (AV.sl (Tag.own 0) 0 (Cont.f FloatKind.f32 list)))
        (T.ob
          ((VCall P) g_slices_SortStableFunc___float32_float32_ [AV.sl (Tag.own 800000) 0 (Cont.f FloatKind.f32 list), AV.fn g_impl_sorted_1 []]
              (AV.bx Tag.nil [AV.tup [], AV.tup [AV.sl (Tag.own 800000) 0 (Cont.f FloatKind.f32 (sortM KS list)), AV.fn g_impl_sorted_1 []]]) ∧
            List.length list = List.length (sortM KS list) ∧ List.length list = List.length (sortM KS list) ∧ True)
          (T.leaf (AV.sl (Tag.own 0) 0 (Cont.f FloatKind.f32 (sortM KS list))))))) :
    VCall P g_f [PS [0] .f32 list] (OS 0 .f32 (sortM KS list)) := h_.call_of ps_impl_sorted ⟨oc_impl_sorted list, fun _ _ => none⟩ (by kernel_rfl) ht

-- END impl_sorted

theorem tmod_one (n : Nat) : (Int.tmod (n : Int) 2 == 1) = decide (n % 2 = 1) := by
  rw [Int.tmod_eq_emod_of_nonneg (by omega)]
  by_cases h : n % 2 = 1
  · rw [decide_eq_true h, show ((n : Int) % 2) = 1 by omega]; rfl
  · rw [decide_eq_false h, show ((n : Int) % 2) = 0 by omega]; rfl
theorem fin_nan {x : Nat} (h : finM x = true) : nanB .f32 x = false := by
  rw [finM_iff] at h
  have := of_decide_eq_true h
  rw [nanB_iff]
  refine decide_eq_false ?_
  show ¬ Ieee.single.infRung < rung Ieee.single x
  omega
theorem fin_ok {xs : List Nat} (h : finAllM xs = true) : okM xs := by
  intro i
  by_cases hi : i < xs.length
  · refine fin_nan ?_
    have := List.all_eq_true.1 h xs[i] (List.getElem_mem hi)
    simpa [List.getD, List.getElem?_eq_getElem hi] using this
  · rw [show xs.getD i 0 = 0 by simp [List.getD, List.getElem?_eq_none (Nat.le_of_not_lt hi)]]
    exact nan0S
theorem series_ok {xs : List Nat} (h : seriesM xs = true) : okM xs := by
  refine fin_ok ?_
  simp [seriesM] at h
  simp [h]
theorem ms_len (a : List Nat) : ∀ n, n ≤ a.length → (msList a n).length ≤ n * a.length
  | 0, _ => by simp [msList]
  | n + 1, h => by
    have := ms_len a n (by omega)
    have h2 : (msRow a n (a.length - (n + 1))).length = a.length - (n + 1) := tab_len _ _
    rw [msList, List.length_append, Nat.succ_mul]; omega
theorem ms_exact (a : List Nat) : ∀ n, n ≤ a.length → 2 * (msList a n).length + n * n + n = 2 * n * a.length
  | 0, _ => by simp [msList]
  | n + 1, h => by
    have := ms_exact a n (by omega)
    have h2 : (msRow a n (a.length - (n + 1))).length = a.length - (n + 1) := tab_len _ _
    rw [msList, List.length_append, h2]
    have e1 : (n + 1) * (n + 1) = n * n + 2 * n + 1 := by rw [Nat.add_mul, Nat.mul_add]; omega
    have e2 : 2 * (n + 1) * a.length = 2 * n * a.length + 2 * a.length := by rw [Nat.mul_add, Nat.add_mul]
    omega
theorem ms_bound {a : List Nat} (h : a.length ≤ 96) : (msList a a.length).length ≤ 5000 := by
  have := ms_exact a a.length (Nat.le_refl _)
  have h2 : a.length * a.length ≤ 96 * 96 := Nat.mul_le_mul h h
  have e : 2 * a.length * a.length = 2 * (a.length * a.length) := Nat.mul_assoc _ _ _
  omega
theorem ms_pos {a : List Nat} (h : 2 ≤ a.length) : 1 ≤ (msList a a.length).length := by
  have := ms_exact a a.length (Nat.le_refl _)
  have h2 : 2 * a.length ≤ a.length * a.length := Nat.mul_le_mul_right _ h
  have e : 2 * a.length * a.length = 2 * (a.length * a.length) := Nat.mul_assoc _ _ _
  omega
theorem k_impl_sorted {P : Program} {f g_slices_Clone___float32_float32_ g_slices_SortStableFunc___float32_float32_ g_impl_sorted_1 : FuncId} (h : Is_impl_sorted P f g_slices_Clone___float32_float32_ g_slices_SortStableFunc___float32_float32_ g_impl_sorted_1) (c1 : C_slices_Clone___float32_float32_ P g_slices_Clone___float32_float32_) (c2 : C_slices_SortStableFunc___float32_float32_ P g_slices_SortStableFunc___float32_float32_) (c3 : C_impl_sorted_1 P g_impl_sorted_1) : C_impl_sorted P f := by
  intro list hn hN hx
  refine q_impl_sorted h list ?_
  repeat' (first | with_reducible refine T.ok_ob ?_ (fun _ => ?_) | with_reducible refine T.ok_ite (fun _ => ?_) (fun _ => ?_) | with_reducible refine T.ok_leaf ?_)
  all_goals first | with_reducible rfl | with_reducible assumption | ((with_reducible refine c1 _ ?_ ?_) <;> (first | assumption | omega | with_reducible rfl | (simp [maxLen_eq]; done) | (simp [maxLen_eq]; omega))) | ((with_reducible refine ⟨c2 _ _ ?_ ?_ ?_, ?_⟩) <;> first | assumption | omega | (simp [marks_len, sort_len]; done) | (simp [marks_len, sort_len]; omega)) | with_reducible exact c3 _ _ | contradiction | exact fconvOk_32_64 _ | assumption | exact rfl | (simp_all [sort_len]; done) | (simp_all [T.ok, sort_len]; omega)

end Go.Proofs.LV
