/- The law FnExactFillGaps. -/
import Derived.Test.YtjpihhdjmoldjaaLvFnK
import Derived.Test.YtjpihhdjmoldjaaLvLawB
namespace Go.Proofs.LV
open Go
set_option linter.unusedVariables false
set_option linter.unusedSimpArgs false

/-- the marks of a list of truths -/
def bmarksM : Nat → Int → List Bool
  | 0, _ => []
  | n + 1, k => (Int.tmod k 3 == 0) :: bmarksM n (k + 1)
theorem bmarks_len : ∀ (n : Nat) (k : Int), (bmarksM n k).length = n
  | 0, _ => rfl
  | n + 1, k => by simp [bmarksM, bmarks_len n]
theorem bmarks_get : ∀ (n i : Nat) (k : Int), i < n → (bmarksM n k).getD i false = (Int.tmod (k + i) 3 == 0)
  | 0, i, k, h => by omega
  | n + 1, 0, k, h => by simp [bmarksM]
  | n + 1, i + 1, k, h => by
    have := bmarks_get n i (k + 1) (by omega)
    simp only [bmarksM, List.getD_cons_succ, this]
    rw [show k + 1 + (i : Int) = k + (i + 1 : Nat) by omega]
theorem bmarks_set (xs : List Bool) (n i : Nat) (k : Int) (h : i < n) (hx : xs.length = n) : ((bmarksM n k).take i ++ xs.drop i).set i (Int.tmod (k + i) 3 == 0) = (bmarksM n k).take (i + 1) ++ xs.drop (i + 1) := by
  have hl := bmarks_len n k
  rw [List.drop_eq_getElem_cons (by omega), ← bmarks_get n i k h]
  exact take_set_next _ _ _ (by omega) _ _

-- FN laws_markBoolS
/-- laws.markBoolS: slots 21, results [.t 4]; calls []; names [(a, 0), (k, 1), (a, 2), (k, 3), (i, 5)] -/
def ps_laws_markBoolS : List Nat := [0, 1, 4, 5, 9]
def lv_laws_markBoolS_L0 : List Nat := [0, 1, 5]
def b_laws_markBoolS_L0 : VCode :=
  (.seq
   (.seq
    (.region false [
     ⟨some 6, .mv, [.t 5], none⟩,
     ⟨some 7, .mv, [.t 0], none⟩,
     ⟨some 8, .len, [.t 7], none⟩,
     ⟨some 9, (.bin .lss), [.t 6, .t 8], none⟩])
    (.cond (.t 9)
     .skip
     (.exit 0)))
   (.seq
    (.block 1
     (.seq
      (.region false [
       ⟨some 12, .mv, [.t 0], none⟩,
       ⟨some 13, .mv, [.t 5], none⟩,
       ⟨some 14, .mv, [.t 1], none⟩,
       ⟨some 15, (.bin .rem), [.t 14, .k (.i .i64 3)], none⟩,
       ⟨some 16, (.bin .eql), [.t 15, .k (.i .i64 0)], none⟩,
       ⟨some 17, .iaddr, [.t 12, .t 13], none⟩,
       ⟨none, .store, [.t 17, .t 16], none⟩])
      (.region false [
       ⟨some 18, .mv, [.t 1], none⟩,
       ⟨some 19, (.bin .add), [.t 18, .k (.i .i64 1)], none⟩,
       ⟨some 1, .mv, [.t 19], none⟩])))
    (.region false [
     ⟨some 10, .mv, [.t 5], none⟩,
     ⟨some 11, (.bin .add), [.t 10, .k (.i .i64 1)], none⟩,
     ⟨some 5, .mv, [.t 11], none⟩])))

def b_laws_markBoolS : VCode :=
  (.seq
   (.region false [
    ⟨some 4, .mv, [.k (.i .i64 0)], none⟩])
   (.seq
    (.seq
     (.region false [
      ⟨some 5, .mv, [.k (.i .i64 0)], none⟩])
     (.block 0 (.loop b_laws_markBoolS_L0)))
    (.seq
     (.region false [
      ⟨some 20, .mv, [.t 1], none⟩,
      ⟨some 4, .mv, [.t 20], none⟩])
     .ret)))

abbrev Is_laws_markBoolS (P : Program) (g_f : FuncId) : Prop := FnIs P g_f 21 [.t 4] (b_laws_markBoolS)

abbrev C_laws_markBoolS (P : Program) (g_f : FuncId) : Prop := ∀ (xs : List Bool) (k : Int) (hk : 0 ≤ k ∧ k ≤ 4294967296) (hx : xs.length ≤ 4294967296), VCall P g_f [OB HI xs, .i .i64 k] ((AV.M (.i .i64 (k + xs.length)) [OB HI (bmarksM xs.length k), .i .i64 k]))
def oc1_laws_markBoolS (as : List AV) : T AV := match as with | [.sl _ _ (.b xs), .i .i64 k] => .leaf ((AV.M (.i .i64 (k + xs.length)) [OB HI (bmarksM xs.length k), .i .i64 k])) | _ => .fail
def h_laws_markBoolS_L0 (xs : List Bool) (k : Int) (a : List Bool) (k2 : Int) (i : Int) : Env := [.sl (Tag.own 800000) 0 (.b a), .i IntKind.i64 k2, .any, .any, .any, .i IntKind.i64 i] ++ anys 15

theorem q_laws_markBoolS_L0 {VC : FuncId → List AV → AV → Prop} (xs : List Bool) (k : Int) (a : List Bool) (k2 : Int) (i : Int) {e_ : Ex} {σ_ : Env} (ht : T.ok (fun x_ => x_ = (e_, σ_)) (
      T.ite (decide (i < (↑(List.length a) : Int)))
        (T.ob ((3 : Int) ≠ 0)
          (T.ob (0 ≤ i ∧ i < (↑(List.length a) : Int))
            (T.ob (false = false) (T.leaf (Ex.normal, h_laws_markBoolS_L0 xs k (List.set a (0 + Int.toNat i - 0) (Int.tmod k2 3 == 0)) (IntKind.wrap IntKind.i64 (k2 + 1)) (IntKind.wrap IntKind.i64 (i + 1)))))))
        (T.leaf (Ex.exit 0, h_laws_markBoolS_L0 xs k a k2 i)))) :
    Exec VC ps_laws_markBoolS (b_laws_markBoolS_L0) (h_laws_markBoolS_L0 xs k a k2 i) e_ σ_ := evL_of (lv := lv_laws_markBoolS_L0) (rs := [4]) (O := ⟨fun _ _ => .fail, fun _ _ => none⟩) (by kernel_rfl) ht

theorem q_laws_markBoolS {P : Program} {g_f : FuncId} (h_ : Is_laws_markBoolS P g_f) (xs : List Bool) (k : Int) (ht : T.ok (fun x_ => x_ = (.i .i64 (k + xs.length), [OB HI (bmarksM xs.length k), .i .i64 k])) (
      T.ob
        (Exec (VCall P) ps_laws_markBoolS (VCode.block 0 (VCode.loop b_laws_markBoolS_L0)) (h_laws_markBoolS_L0 xs k xs k 0) Ex.normal
          (h_laws_markBoolS_L0 xs k (bmarksM (List.length xs) k) (k + (↑(List.length xs) : Int)) (↑(List.length xs) : Int)))
        (T.ob (List.length xs = List.length (bmarksM (List.length xs) k) ∧ True)
          (T.leaf (AV.i IntKind.i64 (k + (↑(List.length xs) : Int)), [AV.sl (Tag.own 800000) 0 (Cont.b (bmarksM (List.length xs) k)), AV.i IntKind.i64 k]))))) :
    VCall P g_f [OB HI xs, .i .i64 k] (AV.M (.i .i64 (k + xs.length)) [OB HI (bmarksM xs.length k), .i .i64 k]) := h_.callM_of ps_laws_markBoolS [0] ⟨fun _ _ => .fail, fun id σ => match id with | 0 => some (lv_laws_markBoolS_L0, .leaf (.normal, h_laws_markBoolS_L0 xs k (bmarksM xs.length k) (k + xs.length) xs.length)) | _ => none⟩ (by kernel_rfl) ht

-- END laws_markBoolS

theorem k_laws_markBoolS {P : Program} {f : FuncId} (h : Is_laws_markBoolS P f) : C_laws_markBoolS P f := by
  intro xs k hk hx
  refine q_laws_markBoolS h xs k ⟨?_, fun _ => ⟨⟨(bmarks_len _ _).symm, trivial⟩, fun _ => rfl⟩⟩
  refine for_up (e := .exit 0) xs.length (fun i => h_laws_markBoolS_L0 xs k ((bmarksM xs.length k).take i ++ xs.drop i) (k + i) i) (by simp) (fun i hi => ?_) ?_
  · refine q_laws_markBoolS_L0 _ _ _ _ _ ?_
    have el : ((bmarksM xs.length k).take i ++ xs.drop i).length = xs.length := by simp [bmarks_len]; omega
    simp only [Int.toNat_natCast, Nat.zero_add, Nat.sub_zero]
    rw [el, bmarks_set xs xs.length i k hi rfl]
    repeat' (first | with_reducible refine T.ok_ob ?_ (fun _ => ?_) | with_reducible refine T.ok_ite (fun _ => ?_) (fun _ => ?_) | with_reducible refine T.ok_leaf ?_)
    all_goals (try simp only [decide_eq_true_eq, decide_eq_false_iff_not, Bool.not_eq_true', Bool.not_eq_false', Bool.not_eq_eq_eq_not, Bool.not_true, Bool.not_false, Int.toNat_natCast, tab_len, List.length_append, List.length_singleton, List.length_cons, List.length_nil, List.length_drop, List.length_take, getD_drop', getD_nat, reduceCtorEq] at *)
    all_goals (try simp (disch := omega) only [wrap64_id] at *)
    all_goals first | omega | (exfalso; omega) | exact True.intro | skip
    all_goals first | rfl | (rw [Int.add_assoc]; rfl)
  · refine q_laws_markBoolS_L0 _ _ _ _ _ ?_
    have e : (bmarksM xs.length k).take xs.length ++ xs.drop xs.length = bmarksM xs.length k := by rw [List.take_of_length_le (by rw [bmarks_len]; exact Nat.le_refl _)]; simp
    have el := bmarks_len xs.length k
    rw [e]
    repeat' (first | with_reducible refine T.ok_ob ?_ (fun _ => ?_) | with_reducible refine T.ok_ite (fun _ => ?_) (fun _ => ?_) | with_reducible refine T.ok_leaf ?_)
    all_goals (try simp only [decide_eq_true_eq, decide_eq_false_iff_not, Bool.not_eq_true', Bool.not_eq_false', Bool.not_eq_eq_eq_not, Bool.not_true, Bool.not_false, Int.toNat_natCast, tab_len, List.length_append, List.length_singleton, List.length_cons, List.length_nil, List.length_drop, List.length_take, getD_drop', getD_nat, reduceCtorEq] at *)
    all_goals (try simp (disch := omega) only [wrap64_id] at *)
    all_goals first | omega | (exfalso; omega) | exact True.intro | skip
    all_goals rfl

-- FN laws_FnExactFillGaps
/-- laws.FnExactFillGaps: slots 114, results [.t 4]; calls [24:g_laws_toFloat32S, 26:g_laws_toBoolS, 27:g_spec_FillGaps, 31:g_laws_toFloat32S, 33:g_laws_toBoolS, 37:g_impl_FillGaps, 42:g_laws_eqFloat32S, 51:g_laws_toFloat32S, 52:g_laws_eqFloat32S, 56:g_laws_toBoolS, 57:g_laws_eqBoolS, 61:g_laws_markFloat32S, 64:g_laws_markBoolS, 70:g_laws_eqFloat32S, 80:g_laws_markFloat32S, 83:g_laws_heldFloat32S, 91:g_laws_toFloat32S, 93:g_laws_toBoolS, 94:g_impl_FillGaps, 99:g_laws_eqFloat32S, 108:g_laws_heldFloat32S]; names [(aList, 0), (aKnown, 1), (aList, 2), (aKnown, 3), (w0, 5), (w1, 6), (x0, 7), (x1, 8), (g0, 9), (g1, 10), (k, 11), (m, 12), (q, 13), (h0, 14), (h1, 15)] -/
def ps_laws_FnExactFillGaps : List Nat := [0, 1, 4, 5, 6, 7, 8, 9, 10, 11, 12, 13, 14, 15, 18, 21, 48, 53, 58, 77, 85, 88, 105, 110, 113]
def b_laws_FnExactFillGaps (g_laws_toFloat32S g_laws_toBoolS g_spec_FillGaps g_impl_FillGaps g_laws_eqFloat32S g_laws_eqBoolS g_laws_markFloat32S g_laws_markBoolS g_laws_heldFloat32S : FuncId) : VCode :=
  (.seq
   (.region false [
    ⟨some 4, .mv, [.k (.b false)], none⟩])
   (.seq
    (.seq
     (.region false [
      ⟨some 16, .mv, [.t 0], none⟩,
      ⟨some 17, .len, [.t 16], none⟩,
      ⟨some 18, (.bin .gtr), [.t 17, .k (.i .i64 1048576)], none⟩])
     (.cond (.t 18)
      (.seq
       (.region false [
        ⟨some 4, .mv, [.k (.b true)], none⟩])
       .ret)
      .skip))
    (.seq
     (.seq
      (.region false [
       ⟨some 19, .mv, [.t 1], none⟩,
       ⟨some 20, .len, [.t 19], none⟩,
       ⟨some 21, (.bin .gtr), [.t 20, .k (.i .i64 1048576)], none⟩])
      (.cond (.t 21)
       (.seq
        (.region false [
         ⟨some 4, .mv, [.k (.b true)], none⟩])
        .ret)
       .skip))
     (.seq
      (.region false [
       ⟨some 23, .mv, [.t 0], none⟩,
       ⟨some 24, (.call g_laws_toFloat32S), [.t 23], none⟩,
       ⟨some 25, .mv, [.t 1], none⟩,
       ⟨some 26, (.call g_laws_toBoolS), [.t 25], none⟩,
       ⟨some 27, (.call g_spec_FillGaps), [.t 24, .t 26], none⟩,
       ⟨some 22, .mv, [.t 27], none⟩,
       ⟨some 28, (.extract 0), [.t 22], none⟩,
       ⟨some 29, (.extract 1), [.t 22], none⟩,
       ⟨some 5, .mv, [.t 28], none⟩,
       ⟨some 6, .mv, [.t 29], none⟩])
      (.seq
       (.region false [
        ⟨some 30, .mv, [.t 0], none⟩,
        ⟨some 31, (.call g_laws_toFloat32S), [.t 30], none⟩,
        ⟨some 7, .mv, [.t 31], none⟩])
       (.seq
        (.region false [
         ⟨some 32, .mv, [.t 1], none⟩,
         ⟨some 33, (.call g_laws_toBoolS), [.t 32], none⟩,
         ⟨some 8, .mv, [.t 33], none⟩])
        (.seq
         (.region false [
          ⟨some 35, .mv, [.t 7], none⟩,
          ⟨some 36, .mv, [.t 8], none⟩,
          ⟨some 37, (.call g_impl_FillGaps), [.t 35, .t 36], none⟩,
          ⟨some 34, .mv, [.t 37], none⟩,
          ⟨some 38, (.extract 0), [.t 34], none⟩,
          ⟨some 39, (.extract 1), [.t 34], none⟩,
          ⟨some 9, .mv, [.t 38], none⟩,
          ⟨some 10, .mv, [.t 39], none⟩])
         (.seq
          (.seq
           (.region false [
            ⟨some 40, .mv, [.t 9], none⟩,
            ⟨some 41, .mv, [.t 5], none⟩,
            ⟨some 42, (.call g_laws_eqFloat32S), [.t 40, .t 41], none⟩,
            ⟨some 43, .not, [.t 42], none⟩,
            ⟨some 44, .mv, [.t 43], none⟩,
            ⟨some 45, .mv, [.t 10], some (44, false)⟩,
            ⟨some 46, .mv, [.t 6], some (44, false)⟩,
            ⟨some 47, (.binb .neq), [.t 45, .t 46], some (44, false)⟩,
            ⟨some 48, .pick, [.t 44, .k (.b true), .t 47], none⟩])
           (.cond (.t 48)
            (.seq
             (.region false [
              ⟨some 4, .mv, [.k (.b false)], none⟩])
             .ret)
            .skip))
          (.seq
           (.seq
            (.region false [
             ⟨some 49, .mv, [.t 7], none⟩,
             ⟨some 50, .mv, [.t 0], none⟩,
             ⟨some 51, (.call g_laws_toFloat32S), [.t 50], none⟩,
             ⟨some 52, (.call g_laws_eqFloat32S), [.t 49, .t 51], none⟩,
             ⟨some 53, .not, [.t 52], none⟩])
            (.cond (.t 53)
             (.seq
              (.region false [
               ⟨some 4, .mv, [.k (.b false)], none⟩])
              .ret)
             .skip))
           (.seq
            (.seq
             (.region false [
              ⟨some 54, .mv, [.t 8], none⟩,
              ⟨some 55, .mv, [.t 1], none⟩,
              ⟨some 56, (.call g_laws_toBoolS), [.t 55], none⟩,
              ⟨some 57, (.call g_laws_eqBoolS), [.t 54, .t 56], none⟩,
              ⟨some 58, .not, [.t 57], none⟩])
             (.cond (.t 58)
              (.seq
               (.region false [
                ⟨some 4, .mv, [.k (.b false)], none⟩])
               .ret)
              .skip))
            (.seq
             (.region false [
              ⟨some 11, .mv, [.k (.i .i64 1)], none⟩])
             (.seq
              (.region false [
               ⟨some 59, .mv, [.t 7], none⟩,
               ⟨some 60, .mv, [.t 11], none⟩,
               ⟨some 61, (.call g_laws_markFloat32S), [.t 59, .t 60], none⟩,
               ⟨some 11, .mv, [.t 61], none⟩])
              (.seq
               (.region false [
                ⟨some 62, .mv, [.t 8], none⟩,
                ⟨some 63, .mv, [.t 11], none⟩,
                ⟨some 64, (.call g_laws_markBoolS), [.t 62, .t 63], none⟩,
                ⟨some 11, .mv, [.t 64], none⟩])
               (.seq
                (.seq
                 (.region false [
                  ⟨some 65, .mv, [.t 11], none⟩,
                  ⟨some 66, (.bin .lss), [.t 65, .k (.i .i64 0)], none⟩,
                  ⟨some 67, .mv, [.t 66], none⟩,
                  ⟨some 68, .mv, [.t 9], some (67, false)⟩,
                  ⟨some 69, .mv, [.t 5], some (67, false)⟩,
                  ⟨some 70, (.call g_laws_eqFloat32S), [.t 68, .t 69], some (67, false)⟩,
                  ⟨some 71, .not, [.t 70], some (67, false)⟩,
                  ⟨some 72, .pick, [.t 67, .k (.b true), .t 71], none⟩,
                  ⟨some 73, .mv, [.t 72], none⟩,
                  ⟨some 74, .mv, [.t 10], some (73, false)⟩,
                  ⟨some 75, .mv, [.t 6], some (73, false)⟩,
                  ⟨some 76, (.binb .neq), [.t 74, .t 75], some (73, false)⟩,
                  ⟨some 77, .pick, [.t 73, .k (.b true), .t 76], none⟩])
                 (.cond (.t 77)
                  (.seq
                   (.region false [
                    ⟨some 4, .mv, [.k (.b false)], none⟩])
                   .ret)
                  .skip))
                (.seq
                 (.region false [
                  ⟨some 12, .mv, [.k (.i .i64 1)], none⟩])
                 (.seq
                  (.region false [
                   ⟨some 78, .mv, [.t 9], none⟩,
                   ⟨some 79, .mv, [.t 12], none⟩,
                   ⟨some 80, (.call g_laws_markFloat32S), [.t 78, .t 79], none⟩,
                   ⟨some 12, .mv, [.t 80], none⟩])
                  (.seq
                   (.region false [
                    ⟨some 13, .mv, [.k (.i .i64 1)], none⟩])
                   (.seq
                    (.region false [
                     ⟨some 81, .mv, [.t 9], none⟩,
                     ⟨some 82, .mv, [.t 13], none⟩,
                     ⟨some 83, (.call g_laws_heldFloat32S), [.t 81, .t 82], none⟩,
                     ⟨some 13, .mv, [.t 83], none⟩])
                    (.seq
                     (.seq
                      (.region false [
                       ⟨some 84, .mv, [.t 13], none⟩,
                       ⟨some 85, (.bin .lss), [.t 84, .k (.i .i64 0)], none⟩])
                      (.cond (.t 85)
                       (.seq
                        (.region false [
                         ⟨some 4, .mv, [.k (.b false)], none⟩])
                        .ret)
                       .skip))
                     (.seq
                      (.seq
                       (.region false [
                        ⟨some 86, .mv, [.t 13], none⟩,
                        ⟨some 87, .mv, [.t 12], none⟩,
                        ⟨some 88, (.bin .neq), [.t 86, .t 87], none⟩])
                       (.cond (.t 88)
                        (.seq
                         (.region false [
                          ⟨some 4, .mv, [.k (.b false)], none⟩])
                         .ret)
                        .skip))
                      (.seq
                       (.region false [
                        ⟨some 90, .mv, [.t 0], none⟩,
                        ⟨some 91, (.call g_laws_toFloat32S), [.t 90], none⟩,
                        ⟨some 92, .mv, [.t 1], none⟩,
                        ⟨some 93, (.call g_laws_toBoolS), [.t 92], none⟩,
                        ⟨some 94, (.call g_impl_FillGaps), [.t 91, .t 93], none⟩,
                        ⟨some 89, .mv, [.t 94], none⟩,
                        ⟨some 95, (.extract 0), [.t 89], none⟩,
                        ⟨some 96, (.extract 1), [.t 89], none⟩,
                        ⟨some 14, .mv, [.t 95], none⟩,
                        ⟨some 15, .mv, [.t 96], none⟩])
                       (.seq
                        (.seq
                         (.region false [
                          ⟨some 97, .mv, [.t 14], none⟩,
                          ⟨some 98, .mv, [.t 5], none⟩,
                          ⟨some 99, (.call g_laws_eqFloat32S), [.t 97, .t 98], none⟩,
                          ⟨some 100, .not, [.t 99], none⟩,
                          ⟨some 101, .mv, [.t 100], none⟩,
                          ⟨some 102, .mv, [.t 15], some (101, false)⟩,
                          ⟨some 103, .mv, [.t 6], some (101, false)⟩,
                          ⟨some 104, (.binb .neq), [.t 102, .t 103], some (101, false)⟩,
                          ⟨some 105, .pick, [.t 101, .k (.b true), .t 104], none⟩])
                         (.cond (.t 105)
                          (.seq
                           (.region false [
                            ⟨some 4, .mv, [.k (.b false)], none⟩])
                           .ret)
                          .skip))
                        (.seq
                         (.region false [
                          ⟨some 13, .mv, [.k (.i .i64 1)], none⟩])
                         (.seq
                          (.region false [
                           ⟨some 106, .mv, [.t 9], none⟩,
                           ⟨some 107, .mv, [.t 13], none⟩,
                           ⟨some 108, (.call g_laws_heldFloat32S), [.t 106, .t 107], none⟩,
                           ⟨some 13, .mv, [.t 108], none⟩])
                          (.seq
                           (.seq
                            (.region false [
                             ⟨some 109, .mv, [.t 13], none⟩,
                             ⟨some 110, (.bin .lss), [.t 109, .k (.i .i64 0)], none⟩])
                            (.cond (.t 110)
                             (.seq
                              (.region false [
                               ⟨some 4, .mv, [.k (.b false)], none⟩])
                              .ret)
                             .skip))
                           (.seq
                            (.seq
                             (.region false [
                              ⟨some 111, .mv, [.t 13], none⟩,
                              ⟨some 112, .mv, [.t 12], none⟩,
                              ⟨some 113, (.bin .neq), [.t 111, .t 112], none⟩])
                             (.cond (.t 113)
                              (.seq
                               (.region false [
                                ⟨some 4, .mv, [.k (.b false)], none⟩])
                               .ret)
                              .skip))
                            (.seq
                             (.region false [
                              ⟨some 4, .mv, [.k (.b true)], none⟩])
                             .ret)))))))))))))))))))))))))))

abbrev Is_laws_FnExactFillGaps (P : Program) (g_f : FuncId) (g_laws_toFloat32S g_laws_toBoolS g_spec_FillGaps g_impl_FillGaps g_laws_eqFloat32S g_laws_eqBoolS g_laws_markFloat32S g_laws_markBoolS g_laws_heldFloat32S : FuncId) : Prop := FnIs P g_f 114 [.t 4] (b_laws_FnExactFillGaps g_laws_toFloat32S g_laws_toBoolS g_spec_FillGaps g_impl_FillGaps g_laws_eqFloat32S g_laws_eqBoolS g_laws_markFloat32S g_laws_markBoolS g_laws_heldFloat32S)

abbrev C_laws_FnExactFillGaps (P : Program) (g_f : FuncId) : Prop := ∀ (xs : List Nat) (ks : List Bool) (hx : xs.length ≤ maxLen) (hy : ks.length ≤ maxLen), VCall P g_f [PS [0] .f32 xs, PB [1] ks] (.b true)
def oc1_laws_FnExactFillGaps (as : List AV) : T AV := match as with | [.sl _ _ (.f .f32 xs), .sl _ _ (.b ks)] => .leaf (.b true) | _ => .fail
def oc_laws_FnExactFillGaps (xs : List Nat) (ks : List Bool) (d : Nat) (as : List AV) : T AV := match d with | 24 => oc1_laws_toFloat32S as | 26 => oc1_laws_toBoolS as | 27 => oc1_spec_FillGaps as | 31 => oc1_laws_toFloat32S as | 33 => oc1_laws_toBoolS as | 37 => oc1_impl_FillGaps as | 42 => oc1_laws_eqFloat32S as | 51 => oc1_laws_toFloat32S as | 52 => oc1_laws_eqFloat32S as | 56 => oc1_laws_toBoolS as | 57 => oc1_laws_eqBoolS as | 61 => oc1_laws_markFloat32S as | 64 => oc1_laws_markBoolS as | 70 => oc1_laws_eqFloat32S as | 80 => oc1_laws_markFloat32S as | 83 => oc1_laws_heldFloat32S as | 91 => oc1_laws_toFloat32S as | 93 => oc1_laws_toBoolS as | 94 => oc1_impl_FillGaps as | 99 => oc1_laws_eqFloat32S as | 108 => oc1_laws_heldFloat32S as | _ => .fail



theorem q_laws_FnExactFillGaps {P : Program} {g_f : FuncId} {g_laws_toFloat32S g_laws_toBoolS g_spec_FillGaps g_impl_FillGaps g_laws_eqFloat32S g_laws_eqBoolS g_laws_markFloat32S g_laws_markBoolS g_laws_heldFloat32S : FuncId} (h_ : Is_laws_FnExactFillGaps P g_f g_laws_toFloat32S g_laws_toBoolS g_spec_FillGaps g_impl_FillGaps g_laws_eqFloat32S g_laws_eqBoolS g_laws_markFloat32S g_laws_markBoolS g_laws_heldFloat32S) (xs : List Nat) (ks : List Bool) (ht : T.ok (fun x_ => x_ = .b true) (
      T.ite (decide ((↑(List.length xs) : Int) > 1048576)) (T.leaf (AV.b true))
        (T.ite (decide ((↑(List.length ks) : Int) > 1048576)) (T.leaf (AV.b true))
          (T.ob ((VCall P) g_laws_toFloat32S [AV.sl (Tag.par [0]) 0 (Cont.f FloatKind.f32 xs)] (AV.sl (Tag.own 0) 0 (Cont.f FloatKind.f32 xs)))
            (T.ob ((VCall P) g_laws_toBoolS [AV.sl (Tag.par [0]) 0 (Cont.b ks)] (AV.sl (Tag.own 0) 0 (Cont.b ks)))
              (T.ob
                ((VCall P) g_spec_FillGaps [AV.sl (Tag.par [0]) 0 (Cont.f FloatKind.f32 xs), AV.sl (Tag.par [1]) 0 (Cont.b ks)]
                  (AV.tup [AV.sl (Tag.own 0) 0 (Cont.f FloatKind.f32 (if fgOk xs ks = true then gapsM xs ks else [])), AV.b (fgOk xs ks)]))
                (T.ob ((VCall P) g_laws_toFloat32S [AV.sl (Tag.par [0]) 0 (Cont.f FloatKind.f32 xs)] (AV.sl (Tag.own 0) 0 (Cont.f FloatKind.f32 xs)))
                  (T.ob ((VCall P) g_laws_toBoolS [AV.sl (Tag.par [0]) 0 (Cont.b ks)] (AV.sl (Tag.own 0) 0 (Cont.b ks)))
                    (T.ob
                      ((VCall P) g_impl_FillGaps [AV.sl (Tag.par [0]) 0 (Cont.f FloatKind.f32 xs), AV.sl (Tag.par [1]) 0 (Cont.b ks)]
                        (AV.tup [AV.sl (Tag.own 0) 0 (Cont.f FloatKind.f32 (if fgOk xs ks = true then gapsM xs ks else [])), AV.b (fgOk xs ks)]))
                      (T.ob
                        ((VCall P) g_laws_eqFloat32S
                          [AV.sl (Tag.par [0]) 0 (Cont.f FloatKind.f32 (if fgOk xs ks = true then gapsM xs ks else [])), AV.sl (Tag.par [1]) 0 (Cont.f FloatKind.f32 (if fgOk xs ks = true then gapsM xs ks else []))]
                          (AV.b true))
                        (T.ite false (T.leaf (AV.b false))
                          (T.ite (!fgOk xs ks == fgOk xs ks) (T.leaf (AV.b false))
                            (T.ob ((VCall P) g_laws_toFloat32S [AV.sl (Tag.par [0]) 0 (Cont.f FloatKind.f32 xs)] (AV.sl (Tag.own 0) 0 (Cont.f FloatKind.f32 xs)))
                              (T.ob ((VCall P) g_laws_eqFloat32S [AV.sl (Tag.par [0]) 0 (Cont.f FloatKind.f32 xs), AV.sl (Tag.par [1]) 0 (Cont.f FloatKind.f32 xs)] (AV.b true))
                                (T.ite false (T.leaf (AV.b false))
                                  (T.ob ((VCall P) g_laws_toBoolS [AV.sl (Tag.par [0]) 0 (Cont.b ks)] (AV.sl (Tag.own 0) 0 (Cont.b ks)))
                                    (T.ob ((VCall P) g_laws_eqBoolS [AV.sl (Tag.par [0]) 0 (Cont.b ks), AV.sl (Tag.par [1]) 0 (Cont.b ks)] (AV.b true))
                                      (T.ite false (T.leaf (AV.b false))
                                        (T.ob
                                          ((VCall P) g_laws_markFloat32S [AV.sl (Tag.own 800000) 0 (Cont.f FloatKind.f32 xs), AV.i IntKind.i64 1]
                                              (AV.bx Tag.nil [AV.i IntKind.i64 (1 + (↑(List.length xs) : Int)), AV.tup [AV.sl (Tag.own 800000) 0 (Cont.f FloatKind.f32 (marksM (List.length xs) 1)), AV.i IntKind.i64 1]]) ∧
                                            List.length xs = List.length (marksM (List.length xs) 1) ∧ List.length xs = List.length (marksM (List.length xs) 1) ∧ True)
                                          (T.ob
                                            ((VCall P) g_laws_markBoolS [AV.sl (Tag.own 800000) 0 (Cont.b ks), AV.i IntKind.i64 (1 + (↑(List.length xs) : Int))]
                                                (AV.bx Tag.nil
                                                  [AV.i IntKind.i64 (1 + (↑(List.length xs) : Int) + (↑(List.length ks) : Int)),
                                                    AV.tup [AV.sl (Tag.own 800000) 0 (Cont.b (bmarksM (List.length ks) (1 + (↑(List.length xs) : Int)))), AV.i IntKind.i64 (1 + (↑(List.length xs) : Int))]]) ∧
                                              List.length ks = List.length (bmarksM (List.length ks) (1 + (↑(List.length xs) : Int))) ∧
                                                List.length ks = List.length (bmarksM (List.length ks) (1 + (↑(List.length xs) : Int))) ∧ True)
                                            (T.ite false (T.leaf (AV.b false))
                                              (T.ob
                                                ((VCall P) g_laws_eqFloat32S
                                                  [AV.sl (Tag.par [0]) 0 (Cont.f FloatKind.f32 (if fgOk xs ks = true then gapsM xs ks else [])),
                                                    AV.sl (Tag.par [1]) 0 (Cont.f FloatKind.f32 (if fgOk xs ks = true then gapsM xs ks else []))]
                                                  (AV.b true))
                                                (T.ite false (T.leaf (AV.b false))
                                                  (T.ite (!fgOk xs ks == fgOk xs ks) (T.leaf (AV.b false))
                                                    (T.ob
                                                      ((VCall P) g_laws_markFloat32S [AV.sl (Tag.own 800000) 0 (Cont.f FloatKind.f32 (if fgOk xs ks = true then gapsM xs ks else [])), AV.i IntKind.i64 1]
                                                          (AV.bx Tag.nil
                                                            [AV.i IntKind.i64 (1 + (↑(List.length (if fgOk xs ks = true then gapsM xs ks else [])) : Int)),
                                                              AV.tup [AV.sl (Tag.own 800000) 0 (Cont.f FloatKind.f32 (marksM (List.length (if fgOk xs ks = true then gapsM xs ks else [])) 1)), AV.i IntKind.i64 1]]) ∧
                                                        List.length (if fgOk xs ks = true then gapsM xs ks else []) = List.length (marksM (List.length (if fgOk xs ks = true then gapsM xs ks else [])) 1) ∧
                                                          List.length (if fgOk xs ks = true then gapsM xs ks else []) = List.length (marksM (List.length (if fgOk xs ks = true then gapsM xs ks else [])) 1) ∧ True)
                                                      (T.ob
                                                        ((VCall P) g_laws_heldFloat32S [AV.sl (Tag.par [0]) 0 (Cont.f FloatKind.f32 (marksM (List.length (if fgOk xs ks = true then gapsM xs ks else [])) 1)), AV.i IntKind.i64 1]
                                                          (AV.i IntKind.i64 (1 + (↑(List.length (marksM (List.length (if fgOk xs ks = true then gapsM xs ks else [])) 1)) : Int))))
                                                        (T.ite false (T.leaf (AV.b false))
                                                          (T.ite
                                                            (1 + (↑(List.length (marksM (List.length (if fgOk xs ks = true then gapsM xs ks else [])) 1)) : Int) !=
                                                              1 + (↑(List.length (if fgOk xs ks = true then gapsM xs ks else [])) : Int))
                                                            (T.leaf (AV.b false))
                                                            (T.ob ((VCall P) g_laws_toFloat32S [AV.sl (Tag.par [0]) 0 (Cont.f FloatKind.f32 xs)] (AV.sl (Tag.own 0) 0 (Cont.f FloatKind.f32 xs)))
                                                              (T.ob ((VCall P) g_laws_toBoolS [AV.sl (Tag.par [0]) 0 (Cont.b ks)] (AV.sl (Tag.own 0) 0 (Cont.b ks)))
                                                                (T.ob
                                                                  ((VCall P) g_impl_FillGaps [AV.sl (Tag.par [0]) 0 (Cont.f FloatKind.f32 xs), AV.sl (Tag.par [1]) 0 (Cont.b ks)]
                                                                    (AV.tup [AV.sl (Tag.own 0) 0 (Cont.f FloatKind.f32 (if fgOk xs ks = true then gapsM xs ks else [])), AV.b (fgOk xs ks)]))
                                                                  (T.ob
                                                                    ((VCall P) g_laws_eqFloat32S
                                                                      [AV.sl (Tag.par [0]) 0 (Cont.f FloatKind.f32 (if fgOk xs ks = true then gapsM xs ks else [])),
                                                                        AV.sl (Tag.par [1]) 0 (Cont.f FloatKind.f32 (if fgOk xs ks = true then gapsM xs ks else []))]
                                                                      (AV.b true))
                                                                    (T.ite false (T.leaf (AV.b false))
                                                                      (T.ite (!fgOk xs ks == fgOk xs ks) (T.leaf (AV.b false))
                                                                        (T.ob
                                                                          ((VCall P) g_laws_heldFloat32S
                                                                            [AV.sl (Tag.par [0]) 0 (Cont.f FloatKind.f32 (marksM (List.length (if fgOk xs ks = true then gapsM xs ks else [])) 1)), AV.i IntKind.i64 1]
                                                                            (AV.i IntKind.i64 (1 + (↑(List.length (marksM (List.length (if fgOk xs ks = true then gapsM xs ks else [])) 1)) : Int))))
                                                                          (T.ite false (T.leaf (AV.b false))
                                                                            (T.ite
                                                                              (1 + (↑(List.length (marksM (List.length (if fgOk xs ks = true then gapsM xs ks else [])) 1)) : Int) !=
                                                                                1 + (↑(List.length (if fgOk xs ks = true then gapsM xs ks else [])) : Int))
                                                                              (T.leaf (AV.b false)) (T.leaf (AV.b true))))))))))))))))))))))))))))))))))))))) :
    VCall P g_f [PS [0] .f32 xs, PB [1] ks] (.b true) := h_.call_of ps_laws_FnExactFillGaps ⟨oc_laws_FnExactFillGaps xs ks, fun _ _ => none⟩ (by kernel_rfl) ht

-- END laws_FnExactFillGaps

theorem k_laws_FnExactFillGaps {P : Program} {f g_laws_toFloat32S g_laws_toBoolS g_spec_FillGaps g_impl_FillGaps g_laws_eqFloat32S g_laws_eqBoolS g_laws_markFloat32S g_laws_markBoolS g_laws_heldFloat32S : FuncId} (h : Is_laws_FnExactFillGaps P f g_laws_toFloat32S g_laws_toBoolS g_spec_FillGaps g_impl_FillGaps g_laws_eqFloat32S g_laws_eqBoolS g_laws_markFloat32S g_laws_markBoolS g_laws_heldFloat32S) (c1 : C_laws_toFloat32S P g_laws_toFloat32S) (c2 : C_laws_toBoolS P g_laws_toBoolS) (c3 : C_spec_FillGaps P g_spec_FillGaps) (c4 : C_impl_FillGaps P g_impl_FillGaps) (c5 : C_laws_eqFloat32S P g_laws_eqFloat32S) (c6 : C_laws_eqBoolS P g_laws_eqBoolS) (c7 : C_laws_markFloat32S P g_laws_markFloat32S) (c8 : C_laws_markBoolS P g_laws_markBoolS) (c9 : C_laws_heldFloat32S P g_laws_heldFloat32S) : C_laws_FnExactFillGaps P f := by
  intro xs ks hx hy
  refine q_laws_FnExactFillGaps h xs ks ?_
  have hR : (if fgOk xs ks = true then gapsM xs ks else []).length ≤ xs.length := by
    split
    · rw [gaps_len]; exact Nat.le_refl _
    · simp
  have b3 := c3 xs ks hx hy
  have b4 := c4 xs ks hx hy
  generalize (if fgOk xs ks = true then gapsM xs ks else []) = R at *
  repeat' (first | with_reducible refine T.ok_ob ?_ (fun _ => ?_) | with_reducible refine T.ok_ite (fun _ => ?_) (fun _ => ?_) | with_reducible refine T.ok_leaf ?_)
  all_goals (try simp only [decide_eq_true_eq, decide_eq_false_iff_not, sz_lt, gt_iff_lt, Int.not_lt, Bool.not_beq_self, bne_self_eq_false, beq_self_eq_true] at *)
  all_goals (try simp (disch := omega) only [sz_val] at *)
  all_goals first | with_reducible rfl | with_reducible assumption | ((with_reducible refine c1 _ ?_) <;> (first | assumption | omega | with_reducible rfl | (simp [maxLen_eq]; done) | (simp [maxLen_eq]; omega))) | ((with_reducible refine c2 _ ?_) <;> (first | assumption | omega | with_reducible rfl | (simp [maxLen_eq]; done) | (simp [maxLen_eq]; omega))) | ((with_reducible refine c3 _ _ ?_ ?_) <;> (first | assumption | omega | with_reducible rfl | (simp [maxLen_eq]; done) | (simp [maxLen_eq]; omega))) | ((with_reducible refine c4 _ _ ?_ ?_) <;> (first | assumption | omega | with_reducible rfl | (simp [maxLen_eq]; done) | (simp [maxLen_eq]; omega))) | ((with_reducible refine c5 _ _ rfl ?_) <;> (first | assumption | omega | with_reducible rfl | (simp [maxLen_eq]; done) | (simp [maxLen_eq]; omega))) | ((with_reducible refine c6 _ _ rfl ?_) <;> (first | assumption | omega | with_reducible rfl | (simp [maxLen_eq]; done) | (simp [maxLen_eq]; omega))) | ((with_reducible refine ⟨c7 _ _ ?_ ?_, ?_⟩) <;> first | assumption | omega | (simp [marks_len, bmarks_len]; done) | (simp [marks_len, bmarks_len]; omega)) | ((with_reducible refine ⟨c8 _ _ ?_ ?_, ?_⟩) <;> first | assumption | omega | (simp [marks_len, bmarks_len]; done) | (simp [marks_len, bmarks_len]; omega)) | ((with_reducible refine c9 _ _ _ rfl ?_ ?_) <;> (first | assumption | omega | with_reducible rfl | (simp [maxLen_eq]; done) | (simp [maxLen_eq]; omega))) | contradiction | exact fconvOk_32_64 _ | assumption | exact rfl | (simp only [marks_len, bne_self_eq_false, Bool.false_eq_true] at *; done) | (simp_all [bmarks_len, marks_len]; done) | (simp_all [T.ok, bmarks_len, marks_len]; omega)


end Go.Proofs.LV
