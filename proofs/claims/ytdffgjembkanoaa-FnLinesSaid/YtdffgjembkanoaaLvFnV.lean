/- Medians. -/
import Derived.Test.YtdffgjembkanoaaLvFnU
import Derived.Test.YtdffgjembkanoaaLvHalfX
namespace Go.Proofs.LV
open Go
set_option linter.unusedVariables false
set_option linter.unusedSimpArgs false

/-- the median -/
def medM (xs : List Nat) : Nat := if xs.length % 2 = 1 then (sortM KS xs).getD (xs.length / 2) 0 else fmul .f32 1056964608 (fadd .f32 ((sortM KS xs).getD (xs.length / 2 - 1) 0) ((sortM KS xs).getD (xs.length / 2) 0))
def msRow (a : List Nat) (i m : Nat) : List Nat := tab m fun j => fdiv .f32 (fsub .f32 (a.getD (i + 1 + j) 0) (a.getD i 0)) (fofi .f32 ((j + 1 : Nat) : Int))
def msList (a : List Nat) : Nat → List Nat
  | 0 => []
  | n + 1 => msList a n ++ msRow a n (a.length - (n + 1))
def slpOk (a : List Nat) : Bool := (seriesM a && decide (2 ≤ a.length)) && finAllM (msList a a.length)
def msV (a : List Nat) : Nat := (sortM KS (msList a a.length)).getD (((msList a a.length).length - 1) / 2) 0

-- FN impl_sorted
/-- impl.sorted: slots 9, results [.t 2]; calls [5:g_slices_Clone___float32_float32_, 7:g_slices_SortStableFunc___float32_float32_]; names [(list, 0), (list, 1), (out, 3)] -/
def ps_impl_sorted : List Nat := [0, 2, 3]
def b_impl_sorted (g_slices_Clone___float32_float32_ g_slices_SortStableFunc___float32_float32_ g_impl_sorted_1 : FuncId) : VCode :=
  (.seq
   (.region false [
    ⟨some 2, (.nilsl (.f .f32 [])), [], none⟩])
   (.seq
    (.region false [
     ⟨some 4, .mv, [.t 0], none⟩,
     ⟨some 5, (.call g_slices_Clone___float32_float32_), [.t 4], none⟩,
     ⟨some 3, .mv, [.t 5], none⟩])
    (.seq
     (.region false [
      ⟨some 6, .mv, [.t 3], none⟩,
      ⟨some 7, (.call g_slices_SortStableFunc___float32_float32_), [.t 6, .k (.fn g_impl_sorted_1 [])], none⟩])
     (.seq
      (.region false [
       ⟨some 8, .mv, [.t 3], none⟩,
       ⟨some 2, .mv, [.t 8], none⟩])
      .ret))))

abbrev Is_impl_sorted (P : Program) (g_f : FuncId) (g_slices_Clone___float32_float32_ g_slices_SortStableFunc___float32_float32_ g_impl_sorted_1 : FuncId) : Prop := FnIs P g_f 9 [.t 2] (b_impl_sorted g_slices_Clone___float32_float32_ g_slices_SortStableFunc___float32_float32_ g_impl_sorted_1)

abbrev C_impl_sorted (P : Program) (g_f : FuncId) : Prop := ∀ (list : List Nat) (hn : 1 ≤ list.length) (hN : okM list) (hx : list.length ≤ 5000), VCall P g_f [PS [0] .f32 list] (OS 0 .f32 (sortM KS list))
def oc1_impl_sorted (as : List AV) : T AV := match as with | [.sl _ _ (.f .f32 list)] => .leaf (OS 0 .f32 (sortM KS list)) | _ => .fail
def oc_impl_sorted (list : List Nat) (d : Nat) (as : List AV) : T AV := match d with | 5 => oc1_slices_Clone___float32_float32_ as | 7 => oc1_slices_SortStableFunc___float32_float32_ as | _ => .fail



theorem q_impl_sorted {P : Program} {g_f : FuncId} {g_slices_Clone___float32_float32_ g_slices_SortStableFunc___float32_float32_ g_impl_sorted_1 : FuncId} (h_ : Is_impl_sorted P g_f g_slices_Clone___float32_float32_ g_slices_SortStableFunc___float32_float32_ g_impl_sorted_1) (list : List Nat) (ht : T.ok (fun x_ => x_ = OS 0 .f32 (sortM KS list)) (
      T.ob ((VCall P) g_slices_Clone___float32_float32_ [AV.sl (Tag.par [0]) 0 (Cont.f FloatKind.f32 list)] (AV.sl (Tag.own 0) 0 (Cont.f FloatKind.f32 list)))
        (T.ob
          ((VCall P) g_slices_SortStableFunc___float32_float32_ [AV.sl (Tag.own 800000) 0 (Cont.f FloatKind.f32 list), AV.fn g_impl_sorted_1 []]
              (AV.bx Tag.nil [AV.tup [], AV.tup [AV.sl (Tag.own 800000) 0 (Cont.f FloatKind.f32 (sortM KS list)), AV.fn g_impl_sorted_1 []]]) ∧
            List.length list = List.length (sortM KS list) ∧ List.length list = List.length (sortM KS list) ∧ True)
          (T.leaf (AV.sl (Tag.own 0) 0 (Cont.f FloatKind.f32 (sortM KS list))))))) :
    VCall P g_f [PS [0] .f32 list] (OS 0 .f32 (sortM KS list)) := h_.call_of ps_impl_sorted ⟨oc_impl_sorted list, fun _ _ => none⟩ (by kernel_rfl) ht

-- END impl_sorted
-- FN impl_MiddleSlope
/-- impl.MiddleSlope: slots 58, results [.t 2, .t 3]; calls [8:g_impl_IsSeries, 48:g_impl_areFinite, 51:g_impl_sorted]; names [(a, 0), (a, 1), (slopes, 4), (i, 5), (k, 6)] -/
def ps_impl_MiddleSlope : List Nat := [0, 2, 3, 4, 5, 6, 14, 17, 18, 19, 26, 49]
def lv_impl_MiddleSlope_L0 : List Nat := [0, 4, 17, 18]
def lv_impl_MiddleSlope_L2 : List Nat := [0, 4, 5, 6, 17, 18]
def b_impl_MiddleSlope_L2 (g_impl_IsSeries g_impl_areFinite g_impl_sorted : FuncId) : VCode :=
  (.seq
   (.seq
    (.region false [
     ⟨some 23, .mv, [.t 6], none⟩,
     ⟨some 24, .mv, [.t 0], none⟩,
     ⟨some 25, .len, [.t 24], none⟩,
     ⟨some 26, (.bin .lss), [.t 23, .t 25], none⟩])
    (.cond (.t 26)
     .skip
     (.exit 2)))
   (.seq
    (.block 3
     (.region true [
      ⟨some 29, .mv, [.t 4], none⟩,
      ⟨some 30, .mv, [.t 0], none⟩,
      ⟨some 31, .mv, [.t 6], none⟩,
      ⟨some 32, .iaddr, [.t 30, .t 31], none⟩,
      ⟨some 33, .load, [.t 32], none⟩,
      ⟨some 34, .mv, [.t 0], none⟩,
      ⟨some 35, .mv, [.t 5], none⟩,
      ⟨some 36, .iaddr, [.t 34, .t 35], none⟩,
      ⟨some 37, .load, [.t 36], none⟩,
      ⟨some 38, (.bin .sub), [.t 33, .t 37], none⟩,
      ⟨some 39, .mv, [.t 6], none⟩,
      ⟨some 40, .mv, [.t 5], none⟩,
      ⟨some 41, (.bin .sub), [.t 39, .t 40], none⟩,
      ⟨some 42, (.convF .f32), [.t 41], none⟩,
      ⟨some 43, (.bin .quo), [.t 38, .t 42], none⟩,
      ⟨some 44, (.lit true (.f .f32 [])), [.t 43], none⟩,
      ⟨some 45, .app, [.t 29, .t 44], none⟩,
      ⟨some 4, .mv, [.t 45], none⟩]))
    (.region false [
     ⟨some 27, .mv, [.t 6], none⟩,
     ⟨some 28, (.bin .add), [.t 27, .k (.i .i64 1)], none⟩,
     ⟨some 6, .mv, [.t 28], none⟩])))

def b_impl_MiddleSlope_L0 (g_impl_IsSeries g_impl_areFinite g_impl_sorted : FuncId) : VCode :=
  (.seq
   (.region false [
    ⟨some 19, (.bin .lss), [.t 18, .t 17], none⟩])
   (.seq
    (.cond (.t 19)
     .skip
     (.exit 0))
    (.seq
     (.block 1
      (.seq
       (.region false [
        ⟨some 20, .mv, [.t 18], none⟩,
        ⟨some 5, .mv, [.t 20], none⟩])
       (.seq
        (.region false [
         ⟨some 21, .mv, [.t 5], none⟩,
         ⟨some 22, (.bin .add), [.t 21, .k (.i .i64 1)], none⟩,
         ⟨some 6, .mv, [.t 22], none⟩])
        (.block 2 (.loop (b_impl_MiddleSlope_L2 g_impl_IsSeries g_impl_areFinite g_impl_sorted))))))
     (.region false [
      ⟨some 46, (.bin .add), [.t 18, .k (.i .i64 1)], none⟩,
      ⟨some 18, .mv, [.t 46], none⟩]))))

def b_impl_MiddleSlope (g_impl_IsSeries g_impl_areFinite g_impl_sorted : FuncId) : VCode :=
  (.seq
   (.region false [
    ⟨some 2, .mv, [.k (.f .f32 0)], none⟩,
    ⟨some 3, .mv, [.k (.b false)], none⟩])
   (.seq
    (.seq
     (.region false [
      ⟨some 7, .mv, [.t 0], none⟩,
      ⟨some 8, (.call g_impl_IsSeries), [.t 7], none⟩,
      ⟨some 9, .not, [.t 8], none⟩,
      ⟨some 10, .mv, [.t 9], none⟩,
      ⟨some 11, .mv, [.t 0], some (10, false)⟩,
      ⟨some 12, .len, [.t 11], some (10, false)⟩,
      ⟨some 13, (.bin .lss), [.t 12, .k (.i .i64 2)], some (10, false)⟩,
      ⟨some 14, .pick, [.t 10, .k (.b true), .t 13], none⟩])
     (.cond (.t 14)
      (.seq
       (.region false [
        ⟨some 2, .mv, [.k (.f .f32 0)], none⟩,
        ⟨some 3, .mv, [.k (.b false)], none⟩])
       .ret)
      .skip))
    (.seq
     (.region false [
      ⟨some 15, (.lit true (.f .f32 [])), [], none⟩,
      ⟨some 4, .mv, [.t 15], none⟩])
     (.seq
      (.seq
       (.region false [
        ⟨some 16, .mv, [.t 0], none⟩,
        ⟨some 17, .len, [.t 16], none⟩,
        ⟨some 18, .mv, [.k (.i .i64 0)], none⟩])
       (.block 0 (.loop (b_impl_MiddleSlope_L0 g_impl_IsSeries g_impl_areFinite g_impl_sorted))))
      (.seq
       (.seq
        (.region false [
         ⟨some 47, .mv, [.t 4], none⟩,
         ⟨some 48, (.call g_impl_areFinite), [.t 47], none⟩,
         ⟨some 49, .not, [.t 48], none⟩])
        (.cond (.t 49)
         (.seq
          (.region false [
           ⟨some 2, .mv, [.k (.f .f32 0)], none⟩,
           ⟨some 3, .mv, [.k (.b false)], none⟩])
          .ret)
         .skip))
       (.seq
        (.region false [
         ⟨some 50, .mv, [.t 4], none⟩,
         ⟨some 51, (.call g_impl_sorted), [.t 50], none⟩,
         ⟨some 52, .mv, [.t 4], none⟩,
         ⟨some 53, .len, [.t 52], none⟩,
         ⟨some 54, (.bin .sub), [.t 53, .k (.i .i64 1)], none⟩,
         ⟨some 55, (.bin .quo), [.t 54, .k (.i .i64 2)], none⟩,
         ⟨some 56, .iaddr, [.t 51, .t 55], none⟩,
         ⟨some 57, .load, [.t 56], none⟩,
         ⟨some 2, .mv, [.t 57], none⟩,
         ⟨some 3, .mv, [.k (.b true)], none⟩])
        .ret))))))

abbrev Is_impl_MiddleSlope (P : Program) (g_f : FuncId) (g_impl_IsSeries g_impl_areFinite g_impl_sorted : FuncId) : Prop := FnIs P g_f 58 [.t 2, .t 3] (b_impl_MiddleSlope g_impl_IsSeries g_impl_areFinite g_impl_sorted)

abbrev C_impl_MiddleSlope (P : Program) (g_f : FuncId) : Prop := ∀ (a : List Nat) (hx : a.length ≤ maxLen), VCall P g_f [PS [0] .f32 a] (.tup [.f .f32 (if slpOk a = true then msV a else 0), .b (slpOk a)])
def oc1_impl_MiddleSlope (as : List AV) : T AV := match as with | [.sl _ _ (.f .f32 a)] => .leaf (.tup [.f .f32 (if slpOk a = true then msV a else 0), .b (slpOk a)]) | _ => .fail
def oc_impl_MiddleSlope (a : List Nat) (d : Nat) (as : List AV) : T AV := match d with | 8 => oc1_impl_IsSeries as | 48 => oc1_impl_areFinite as | 51 => oc1_impl_sorted as | _ => .fail
def h_impl_MiddleSlope_L0 (a : List Nat) (slopes : List Nat) (v18 : Int) : Env := [AV.sl (Tag.par [0]) 0 (Cont.f FloatKind.f32 a), .any, .any, .any, .sl (Tag.own 120) 0 (.f FloatKind.f32 slopes)] ++ anys 12 ++ [AV.i IntKind.i64 (↑(List.length a) : Int), .i IntKind.i64 v18] ++ anys 39
def h_impl_MiddleSlope_L2 (a : List Nat) (slopes : List Nat) (v18 : Int) (slopes2 : List Nat) (k : Int) : Env := [AV.sl (Tag.par [0]) 0 (Cont.f FloatKind.f32 a), .any, .any, .any, .sl (Tag.own 120) 0 (.f FloatKind.f32 slopes2), AV.i IntKind.i64 v18, .i IntKind.i64 k] ++ anys 10 ++ [AV.i IntKind.i64 (↑(List.length a) : Int), AV.i IntKind.i64 v18] ++ anys 39

theorem q_impl_MiddleSlope_L0 {VC : FuncId → List AV → AV → Prop} {g_impl_IsSeries g_impl_areFinite g_impl_sorted : FuncId} (a : List Nat) (slopes : List Nat) (v18 : Int) {e_ : Ex} {σ_ : Env} (ht : T.ok (fun x_ => x_ = (e_, σ_)) (
      T.ite (decide (v18 < (↑(List.length a) : Int)))
        (T.ob
          (Exec VC ps_impl_MiddleSlope (VCode.block 2 (VCode.loop (b_impl_MiddleSlope_L2 g_impl_IsSeries g_impl_areFinite g_impl_sorted))) (h_impl_MiddleSlope_L2 a slopes v18 slopes (IntKind.wrap IntKind.i64 (v18 + 1)))
            Ex.normal (h_impl_MiddleSlope_L2 a slopes v18 (slopes ++ msRow a (Int.toNat v18) (List.length a - (Int.toNat v18 + 1))) (↑(List.length a) : Int)))
          (T.leaf (Ex.normal, h_impl_MiddleSlope_L0 a (slopes ++ msRow a (Int.toNat v18) (List.length a - (Int.toNat v18 + 1))) (IntKind.wrap IntKind.i64 (v18 + 1)))))
        (T.leaf (Ex.exit 0, h_impl_MiddleSlope_L0 a slopes v18)))) :
    Exec VC ps_impl_MiddleSlope (b_impl_MiddleSlope_L0 g_impl_IsSeries g_impl_areFinite g_impl_sorted) (h_impl_MiddleSlope_L0 a slopes v18) e_ σ_ := evL_of (lv := lv_impl_MiddleSlope_L0) (rs := [2, 3]) (O := ⟨oc_impl_MiddleSlope a, fun id σ => match id with | 2 => some (lv_impl_MiddleSlope_L2, .leaf (.normal, h_impl_MiddleSlope_L2 a slopes v18 (slopes ++ msRow a v18.toNat (a.length - (v18.toNat + 1))) a.length)) | _ => none⟩) (by kernel_rfl) ht

theorem q_impl_MiddleSlope_L2 {VC : FuncId → List AV → AV → Prop} {g_impl_IsSeries g_impl_areFinite g_impl_sorted : FuncId} (a : List Nat) (slopes : List Nat) (v18 : Int) (slopes2 : List Nat) (k : Int) {e_ : Ex} {σ_ : Env} (ht : T.ok (fun x_ => x_ = (e_, σ_)) (
      T.ite (decide (k < (↑(List.length a) : Int)))
        (T.ob (0 ≤ k ∧ k < (↑(List.length a) : Int))
          (T.ob (0 ≤ v18 ∧ v18 < (↑(List.length a) : Int))
            (T.ob True
              (T.ob True
                (T.ob
                  (List.length slopes2 + List.length [fdiv FloatKind.f32 (fsub FloatKind.f32 (List.getD a (Int.toNat k) 0) (List.getD a (Int.toNat v18) 0)) (fofi FloatKind.f32 (IntKind.wrap IntKind.i64 (k - v18)))] ≤
                    4294967296)
                  (T.leaf
                    (Ex.normal,
                      h_impl_MiddleSlope_L2 a slopes v18
                        (slopes2 ++ [fdiv FloatKind.f32 (fsub FloatKind.f32 (List.getD a (Int.toNat k) 0) (List.getD a (Int.toNat v18) 0)) (fofi FloatKind.f32 (IntKind.wrap IntKind.i64 (k - v18)))])
                        (IntKind.wrap IntKind.i64 (k + 1)))))))))
        (T.leaf (Ex.exit 2, h_impl_MiddleSlope_L2 a slopes v18 slopes2 k)))) :
    Exec VC ps_impl_MiddleSlope (b_impl_MiddleSlope_L2 g_impl_IsSeries g_impl_areFinite g_impl_sorted) (h_impl_MiddleSlope_L2 a slopes v18 slopes2 k) e_ σ_ := evL_of (lv := lv_impl_MiddleSlope_L2) (rs := [2, 3]) (O := ⟨oc_impl_MiddleSlope a, fun _ _ => none⟩) (by kernel_rfl) ht

theorem q_impl_MiddleSlope {P : Program} {g_f : FuncId} {g_impl_IsSeries g_impl_areFinite g_impl_sorted : FuncId} (h_ : Is_impl_MiddleSlope P g_f g_impl_IsSeries g_impl_areFinite g_impl_sorted) (a : List Nat) (ht : T.ok (fun x_ => x_ = .tup [.f .f32 (if slpOk a = true then msV a else 0), .b (slpOk a)]) (
      T.ob ((VCall P) g_impl_IsSeries [AV.sl (Tag.par [0]) 0 (Cont.f FloatKind.f32 a)] (AV.b (seriesM a)))
        (T.ite (!seriesM a) (T.leaf (AV.tup [AV.f FloatKind.f32 0, AV.b false]))
          (T.ite (decide ((↑(List.length a) : Int) < 2)) (T.leaf (AV.tup [AV.f FloatKind.f32 0, AV.b false]))
            (T.ob
              (Exec (VCall P) ps_impl_MiddleSlope (VCode.block 0 (VCode.loop (b_impl_MiddleSlope_L0 g_impl_IsSeries g_impl_areFinite g_impl_sorted))) (h_impl_MiddleSlope_L0 a [] 0) Ex.normal
                (h_impl_MiddleSlope_L0 a (msList a (List.length a)) (↑(List.length a) : Int)))
              (T.ob ((VCall P) g_impl_areFinite [AV.sl (Tag.par [0]) 0 (Cont.f FloatKind.f32 (msList a (List.length a)))] (AV.b (finAllM (msList a (List.length a)))))
                (T.ite (!finAllM (msList a (List.length a))) (T.leaf (AV.tup [AV.f FloatKind.f32 0, AV.b false]))
                  (T.ob ((VCall P) g_impl_sorted [AV.sl (Tag.par [0]) 0 (Cont.f FloatKind.f32 (msList a (List.length a)))] (AV.sl (Tag.own 0) 0 (Cont.f FloatKind.f32 (sortM KS (msList a (List.length a))))))
                    (T.ob ((2 : Int) ≠ 0)
                      (T.ob
                        (0 ≤ IntKind.wrap IntKind.i64 (Int.tdiv (IntKind.wrap IntKind.i64 ((↑(List.length (msList a (List.length a))) : Int) - 1)) 2) ∧
                          IntKind.wrap IntKind.i64 (Int.tdiv (IntKind.wrap IntKind.i64 ((↑(List.length (msList a (List.length a))) : Int) - 1)) 2) < (↑(List.length (sortM KS (msList a (List.length a)))) : Int))
                        (T.leaf
                          (AV.tup
                            [AV.f FloatKind.f32
                                (List.getD (sortM KS (msList a (List.length a))) (Int.toNat (IntKind.wrap IntKind.i64 (Int.tdiv (IntKind.wrap IntKind.i64 ((↑(List.length (msList a (List.length a))) : Int) - 1)) 2))) 0),
                              AV.b true])))))))))))) :
    VCall P g_f [PS [0] .f32 a] (.tup [.f .f32 (if slpOk a = true then msV a else 0), .b (slpOk a)]) := h_.call_of ps_impl_MiddleSlope ⟨oc_impl_MiddleSlope a, fun id σ => match id with | 0 => some (lv_impl_MiddleSlope_L0, .leaf (.normal, h_impl_MiddleSlope_L0 a (msList a a.length) a.length)) | _ => none⟩ (by kernel_rfl) ht

-- END impl_MiddleSlope

theorem tmod_one (n : Nat) : (Int.tmod (n : Int) 2 == 1) = decide (n % 2 = 1) := by
  rw [Int.tmod_eq_emod_of_nonneg (by omega)]
  by_cases h : n % 2 = 1
  · rw [decide_eq_true h, show ((n : Int) % 2) = 1 by omega]; rfl
  · rw [decide_eq_false h, show ((n : Int) % 2) = 0 by omega]; rfl
theorem fin_nan {x : Nat} (h : finM x = true) : nanB .f32 x = false := by
  rw [finM_iff] at h
  have := of_decide_eq_true h
  rw [nanB_iff]
  refine decide_eq_false ?_
  show ¬ Ieee.single.infRung < rung Ieee.single x
  omega
theorem fin_ok {xs : List Nat} (h : finAllM xs = true) : okM xs := by
  intro i
  by_cases hi : i < xs.length
  · refine fin_nan ?_
    have := List.all_eq_true.1 h xs[i] (List.getElem_mem hi)
    simpa [List.getD, List.getElem?_eq_getElem hi] using this
  · rw [show xs.getD i 0 = 0 by simp [List.getD, List.getElem?_eq_none (Nat.le_of_not_lt hi)]]
    exact nan0S
theorem series_ok {xs : List Nat} (h : seriesM xs = true) : okM xs := by
  refine fin_ok ?_
  simp [seriesM] at h
  simp [h]
theorem ms_len (a : List Nat) : ∀ n, n ≤ a.length → (msList a n).length ≤ n * a.length
  | 0, _ => by simp [msList]
  | n + 1, h => by
    have := ms_len a n (by omega)
    have h2 : (msRow a n (a.length - (n + 1))).length = a.length - (n + 1) := tab_len _ _
    rw [msList, List.length_append, Nat.succ_mul]; omega
theorem ms_exact (a : List Nat) : ∀ n, n ≤ a.length → 2 * (msList a n).length + n * n + n = 2 * n * a.length
  | 0, _ => by simp [msList]
  | n + 1, h => by
    have := ms_exact a n (by omega)
    have h2 : (msRow a n (a.length - (n + 1))).length = a.length - (n + 1) := tab_len _ _
    rw [msList, List.length_append, h2]
    have e1 : (n + 1) * (n + 1) = n * n + 2 * n + 1 := by rw [Nat.add_mul, Nat.mul_add]; omega
    have e2 : 2 * (n + 1) * a.length = 2 * n * a.length + 2 * a.length := by rw [Nat.mul_add, Nat.add_mul]
    omega
theorem ms_bound {a : List Nat} (h : a.length ≤ 96) : (msList a a.length).length ≤ 5000 := by
  have := ms_exact a a.length (Nat.le_refl _)
  have h2 : a.length * a.length ≤ 96 * 96 := Nat.mul_le_mul h h
  have e : 2 * a.length * a.length = 2 * (a.length * a.length) := Nat.mul_assoc _ _ _
  omega
theorem ms_pos {a : List Nat} (h : 2 ≤ a.length) : 1 ≤ (msList a a.length).length := by
  have := ms_exact a a.length (Nat.le_refl _)
  have h2 : 2 * a.length ≤ a.length * a.length := Nat.mul_le_mul_right _ h
  have e : 2 * a.length * a.length = 2 * (a.length * a.length) := Nat.mul_assoc _ _ _
  omega
theorem k_impl_sorted {P : Program} {f g_slices_Clone___float32_float32_ g_slices_SortStableFunc___float32_float32_ g_impl_sorted_1 : FuncId} (h : Is_impl_sorted P f g_slices_Clone___float32_float32_ g_slices_SortStableFunc___float32_float32_ g_impl_sorted_1) (c1 : C_slices_Clone___float32_float32_ P g_slices_Clone___float32_float32_) (c2 : C_slices_SortStableFunc___float32_float32_ P g_slices_SortStableFunc___float32_float32_) (c3 : C_impl_sorted_1 P g_impl_sorted_1) : C_impl_sorted P f := by
  intro list hn hN hx
  refine q_impl_sorted h list ?_
  repeat' (first | with_reducible refine T.ok_ob ?_ (fun _ => ?_) | with_reducible refine T.ok_ite (fun _ => ?_) (fun _ => ?_) | with_reducible refine T.ok_leaf ?_)
  all_goals first | with_reducible rfl | with_reducible assumption | ((with_reducible refine c1 _ ?_ ?_) <;> (first | assumption | omega | with_reducible rfl | (simp [maxLen_eq]; done) | (simp [maxLen_eq]; omega))) | ((with_reducible refine ⟨c2 _ _ ?_ ?_ ?_, ?_⟩) <;> first | assumption | omega | (simp [marks_len, sort_len]; done) | (simp [marks_len, sort_len]; omega)) | with_reducible exact c3 _ _ | contradiction | exact fconvOk_32_64 _ | assumption | exact rfl | (simp_all [sort_len]; done) | (simp_all [T.ok, sort_len]; omega)

theorem k_impl_MiddleSlope {P : Program} {f g1 g2 g3 : FuncId} (h : Is_impl_MiddleSlope P f g1 g2 g3) (c1 : C_impl_IsSeries P g1) (c2 : C_impl_areFinite P g2) (c3 : C_impl_sorted P g3) : C_impl_MiddleSlope P f := by
  intro a hx
  refine q_impl_MiddleSlope h a ?_
  cases hs : seriesM a
  · repeat' (first | with_reducible refine T.ok_ob ?_ (fun _ => ?_) | with_reducible refine T.ok_ite (fun _ => ?_) (fun _ => ?_) | with_reducible refine T.ok_leaf ?_)
    all_goals first | exact hs ▸ c1 _ hx | contradiction | (simp [slpOk, hs]; done)
  have hl := series_len hs
  by_cases h2 : a.length < 2
  · repeat' (first | with_reducible refine T.ok_ob ?_ (fun _ => ?_) | with_reducible refine T.ok_ite (fun _ => ?_) (fun _ => ?_) | with_reducible refine T.ok_leaf ?_)
    all_goals first | exact hs ▸ c1 _ hx | contradiction | (simp only [decide_eq_true_eq, decide_eq_false_iff_not] at *; first | omega | (have hz : slpOk a = false := (by (simp [slpOk, hs]; intro h3; omega)); rw [hz]; rfl))
  have hm := ms_len a
  have main : Exec (VCall P) ps_impl_MiddleSlope (.block 0 (.loop (b_impl_MiddleSlope_L0 g1 g2 g3))) (h_impl_MiddleSlope_L0 a [] 0) .normal (h_impl_MiddleSlope_L0 a (msList a a.length) a.length) := by
    refine for_up (e := .exit 0) a.length (fun i => h_impl_MiddleSlope_L0 a (msList a i) (i : Nat)) rfl (fun i hi => ?_) ?_
    · refine q_impl_MiddleSlope_L0 _ _ _ ?_
      have e1 : IntKind.wrap .i64 ((i : Int) + 1) = (i + 1 : Nat) := by rw [wrap64_id (by omega) (by omega)]; omega
      have inner : Exec (VCall P) ps_impl_MiddleSlope (.block 2 (.loop (b_impl_MiddleSlope_L2 g1 g2 g3))) (h_impl_MiddleSlope_L2 a (msList a i) (i : Nat) (msList a i) (i + 1 : Nat)) .normal
          (h_impl_MiddleSlope_L2 a (msList a i) (i : Nat) (msList a (i + 1)) a.length) := by
        refine for_up (e := .exit 2) (a.length - (i + 1)) (fun j => h_impl_MiddleSlope_L2 a (msList a i) (i : Nat) (msList a i ++ msRow a i j) (i + 1 + j : Nat)) ?_ (fun j hj => ?_) ?_
        · show _ = _
          simp [msRow, tab]
        · refine q_impl_MiddleSlope_L2 _ _ _ _ _ ?_
          have e2 : IntKind.wrap .i64 (((i + 1 + j : Nat) : Int) - (i : Nat)) = (j + 1 : Nat) := by rw [wrap64_id (by omega) (by omega)]; omega
          have e3 : IntKind.wrap .i64 (((i + 1 + j : Nat) : Int) + 1) = (i + 1 + (j + 1) : Nat) := by rw [wrap64_id (by omega) (by omega)]; omega
          have e4 : msList a i ++ msRow a i (j + 1) = (msList a i ++ msRow a i j) ++ [fdiv .f32 (fsub .f32 (a.getD (i + 1 + j) 0) (a.getD i 0)) (fofi .f32 ((j + 1 : Nat) : Int))] := by
            unfold msRow; rw [tab_succ, List.append_assoc]
          have hl3 : (msList a i ++ msRow a i j).length ≤ 96 * 96 + 96 := by
            have := hm i (by omega)
            have h5 : (msRow a i j).length = j := tab_len _ _
            have h6 : i * 96 ≤ 96 * 96 := Nat.mul_le_mul_right _ (by omega)
            have h7 : i * a.length ≤ i * 96 := Nat.mul_le_mul_left _ hl.2
            rw [List.length_append]; omega
          rw [e2, e3, e4]
          simp only [Int.toNat_natCast]
          generalize msList a i ++ msRow a i j = L at *
          repeat' (first | with_reducible refine T.ok_ob ?_ (fun _ => ?_) | with_reducible refine T.ok_ite (fun _ => ?_) (fun _ => ?_) | with_reducible refine T.ok_leaf ?_)
          all_goals (try simp only [decide_eq_true_eq, decide_eq_false_iff_not, Bool.not_eq_true', Bool.not_eq_false', Bool.not_eq_eq_eq_not, Bool.not_true, Bool.not_false, Int.toNat_natCast, tab_len, List.length_append, List.length_singleton, List.length_cons, List.length_nil, List.length_drop, List.length_take, getD_drop', getD_nat, reduceCtorEq] at *)
          all_goals (try simp (disch := omega) only [wrap64_id] at *)
          all_goals first | omega | (exfalso; omega) | exact True.intro | skip
          all_goals first | rfl | (simp; omega)
        · refine q_impl_MiddleSlope_L2 _ _ _ _ _ ?_
          rw [show i + 1 + (a.length - (i + 1)) = a.length by omega]
          repeat' (first | with_reducible refine T.ok_ob ?_ (fun _ => ?_) | with_reducible refine T.ok_ite (fun _ => ?_) (fun _ => ?_) | with_reducible refine T.ok_leaf ?_)
          all_goals (try simp only [decide_eq_true_eq, decide_eq_false_iff_not, Bool.not_eq_true', Bool.not_eq_false', Bool.not_eq_eq_eq_not, Bool.not_true, Bool.not_false, Int.toNat_natCast, tab_len, List.length_append, List.length_singleton, List.length_cons, List.length_nil, List.length_drop, List.length_take, getD_drop', getD_nat, reduceCtorEq] at *)
          all_goals (try simp (disch := omega) only [wrap64_id] at *)
          all_goals first | omega | (exfalso; omega) | exact True.intro | skip
          all_goals rfl
      rw [e1]
      simp only [Int.toNat_natCast]
      have er : msList a i ++ msRow a i (a.length - (i + 1)) = msList a (i + 1) := rfl
      rw [er]
      repeat' (first | with_reducible refine T.ok_ob ?_ (fun _ => ?_) | with_reducible refine T.ok_ite (fun _ => ?_) (fun _ => ?_) | with_reducible refine T.ok_leaf ?_)
      all_goals (try simp only [decide_eq_true_eq, decide_eq_false_iff_not, Bool.not_eq_true', Bool.not_eq_false', Bool.not_eq_eq_eq_not, Bool.not_true, Bool.not_false, Int.toNat_natCast, tab_len, List.length_append, List.length_singleton, List.length_cons, List.length_nil, List.length_drop, List.length_take, getD_drop', getD_nat, reduceCtorEq] at *)
      all_goals (try simp (disch := omega) only [wrap64_id] at *)
      all_goals first | omega | (exfalso; omega) | exact True.intro | skip
      all_goals first | exact inner | rfl
    · refine q_impl_MiddleSlope_L0 _ _ _ ?_
      repeat' (first | with_reducible refine T.ok_ob ?_ (fun _ => ?_) | with_reducible refine T.ok_ite (fun _ => ?_) (fun _ => ?_) | with_reducible refine T.ok_leaf ?_)
      all_goals (try simp only [decide_eq_true_eq, decide_eq_false_iff_not, Bool.not_eq_true', Bool.not_eq_false', Bool.not_eq_eq_eq_not, Bool.not_true, Bool.not_false, Int.toNat_natCast, tab_len, List.length_append, List.length_singleton, List.length_cons, List.length_nil, List.length_drop, List.length_take, getD_drop', getD_nat, reduceCtorEq] at *)
      all_goals (try simp (disch := omega) only [wrap64_id] at *)
      all_goals first | omega | (exfalso; omega) | exact True.intro | skip
      all_goals rfl
  have hL := ms_bound hl.2
  have hL2 := ms_pos (a := a) (by omega)
  generalize hM : msList a a.length = M at *
  have e5 : IntKind.wrap .i64 ((M.length : Int) - 1) = (M.length - 1 : Nat) := by rw [wrap64_id (by omega) (by omega)]; omega
  have e6 : IntKind.wrap .i64 (Int.tdiv ((M.length - 1 : Nat) : Int) 2) = ((M.length - 1) / 2 : Nat) := by rw [Int.tdiv_eq_ediv_of_nonneg (by omega), wrap64_id (by omega) (by omega)]; omega
  have ok : slpOk a = finAllM M := by unfold slpOk; rw [hs, hM, decide_eq_true (by omega : 2 ≤ a.length)]; rfl
  have ev : msV a = (sortM KS M).getD ((M.length - 1) / 2) 0 := by unfold msV; rw [hM]
  rw [e5, e6, sort_len, ok, ev]
  simp only [Int.toNat_natCast]
  cases hf : finAllM M
  · repeat' (first | with_reducible refine T.ok_ob ?_ (fun _ => ?_) | with_reducible refine T.ok_ite (fun _ => ?_) (fun _ => ?_) | with_reducible refine T.ok_leaf ?_)
    all_goals first | exact hs ▸ c1 _ hx | exact main | exact hf ▸ c2 _ (by rw [maxLen_eq]; omega) | contradiction | (simp only [decide_eq_true_eq, decide_eq_false_iff_not] at *; omega) | rfl
  · have c3 := c3 M (by omega) (fin_ok hf) hL
    repeat' (first | with_reducible refine T.ok_ob ?_ (fun _ => ?_) | with_reducible refine T.ok_ite (fun _ => ?_) (fun _ => ?_) | with_reducible refine T.ok_leaf ?_)
    all_goals first | exact hs ▸ c1 _ hx | exact main | exact hf ▸ c2 _ (by rw [maxLen_eq]; omega) | exact c3 | contradiction | (simp only [decide_eq_true_eq, decide_eq_false_iff_not] at *; omega) | (simp; omega) | rfl
end Go.Proofs.LV
