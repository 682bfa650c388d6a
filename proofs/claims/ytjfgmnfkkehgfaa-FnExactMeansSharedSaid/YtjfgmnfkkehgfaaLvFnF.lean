/- Sums, means, products, places, moving means, lines, folded periods. -/
import Derived.Test.YtjfgmnfkkehgfaaLvFnE
namespace Go.Proofs.LV
open Go
set_option linter.unusedVariables false
set_option linter.unusedSimpArgs false

def sumM (xs : List Nat) : Nat := accN (fun i s => fadd .f32 s (xs.getD i 0)) xs.length 0
def meanM (xs : List Nat) : Nat := fdiv .f32 (sumM xs) (fofi .f32 xs.length)
def dotM (xs ys : List Nat) : Nat := accN (fun i s => fadd .f32 s (fmul .f32 (xs.getD i 0) (ys.getD i 0))) xs.length 0
def lessM (xs ys : List Nat) : List Nat := tab xs.length fun i => fsub .f32 (xs.getD i 0) (ys.getD i 0)
def lessOneM (xs : List Nat) (m : Nat) : List Nat := tab xs.length fun i => fsub .f32 (xs.getD i 0) m
def placesM (n : Nat) : List Nat := tab n fun i => fofi .f32 i
def winM (xs : List Nat) (side i : Nat) : List Nat := (xs.drop (i - side)).take (min xs.length (i + side + 1) - (i - side))
def movM (g : List Nat → Nat) (xs : List Nat) (side : Nat) : List Nat := tab xs.length fun i => g (winM xs side i)

-- FN impl_addUp
/-- impl.addUp: slots 17, results [.t 2]; calls []; names [(list, 0), (list, 1), (sum, 3), (_, 4), (x, 5)] -/
def ps_impl_addUp : List Nat := [0, 2, 3, 5, 6, 7, 8, 9]
def lv_impl_addUp_L0 : List Nat := [3, 6, 7, 8]
def b_impl_addUp_L0 : VCode :=
  (.seq
   (.region false [
    ⟨some 9, (.bin .lss), [.t 8, .t 7], none⟩])
   (.seq
    (.cond (.t 9)
     .skip
     (.exit 0))
    (.seq
     (.block 1
      (.seq
       (.region false [
        ⟨some 10, .iaddr, [.t 6, .t 8], none⟩,
        ⟨some 11, .load, [.t 10], none⟩,
        ⟨some 5, .mv, [.t 11], none⟩])
       (.region false [
        ⟨some 12, .mv, [.t 3], none⟩,
        ⟨some 13, .mv, [.t 5], none⟩,
        ⟨some 14, (.bin .add), [.t 12, .t 13], none⟩,
        ⟨some 3, .mv, [.t 14], none⟩])))
     (.region false [
      ⟨some 15, (.bin .add), [.t 8, .k (.i .i64 1)], none⟩,
      ⟨some 8, .mv, [.t 15], none⟩]))))

def b_impl_addUp : VCode :=
  (.seq
   (.region false [
    ⟨some 2, .mv, [.k (.f .f32 0)], none⟩])
   (.seq
    (.region false [
     ⟨some 3, .mv, [.k (.f .f32 0)], none⟩])
    (.seq
     (.seq
      (.region false [
       ⟨some 6, .mv, [.t 0], none⟩,
       ⟨some 7, .len, [.t 6], none⟩,
       ⟨some 8, .mv, [.k (.i .i64 0)], none⟩])
      (.block 0 (.loop b_impl_addUp_L0)))
     (.seq
      (.region false [
       ⟨some 16, .mv, [.t 3], none⟩,
       ⟨some 2, .mv, [.t 16], none⟩])
      .ret))))

abbrev Is_impl_addUp (P : Program) (g_f : FuncId) : Prop := FnIs P g_f 17 [.t 2] (b_impl_addUp)

abbrev C_impl_addUp (P : Program) (g_f : FuncId) : Prop := ∀ (xs : List Nat) (hx : xs.length ≤ maxLen), VCall P g_f [PS [0] .f32 xs] (.f .f32 (sumM xs))
def oc1_impl_addUp (as : List AV) : T AV := match as with | [.sl _ _ (.f .f32 xs)] => .leaf (.f .f32 (sumM xs)) | _ => .fail
def h_impl_addUp_L0 (xs : List Nat) (sum : Nat) (v8 : Int) : Env := [.any, .any, .any, .f FloatKind.f32 sum, .any, .any, AV.sl (Tag.par [0]) 0 (Cont.f FloatKind.f32 xs), AV.i IntKind.i64 (↑(List.length xs) : Int), .i IntKind.i64 v8] ++ anys 8

theorem q_impl_addUp_L0 {VC : FuncId → List AV → AV → Prop} (xs : List Nat) (sum : Nat) (v8 : Int) {e_ : Ex} {σ_ : Env} (ht : T.ok (fun x_ => x_ = (e_, σ_)) (
      T.ite (decide (v8 < (↑(List.length xs) : Int)))
        (T.ob (0 ≤ v8 ∧ v8 < (↑(List.length xs) : Int)) (T.leaf (Ex.normal, h_impl_addUp_L0 xs (fadd FloatKind.f32 sum (List.getD xs (Int.toNat v8) 0)) (IntKind.wrap IntKind.i64 (v8 + 1)))))
        (T.leaf (Ex.exit 0, h_impl_addUp_L0 xs sum v8)))) :
    Exec VC ps_impl_addUp (b_impl_addUp_L0) (h_impl_addUp_L0 xs sum v8) e_ σ_ := evL_of (lv := lv_impl_addUp_L0) (rs := [2]) (O := ⟨fun _ _ => .fail, fun _ _ => none⟩) (by kernel_rfl) ht

theorem q_impl_addUp {P : Program} {g_f : FuncId} (h_ : Is_impl_addUp P g_f) (xs : List Nat) (ht : T.ok (fun x_ => x_ = .f .f32 (sumM xs)) (
      T.ob (Exec (VCall P) ps_impl_addUp (VCode.block 0 (VCode.loop b_impl_addUp_L0)) (h_impl_addUp_L0 xs 0 0) Ex.normal (h_impl_addUp_L0 xs (sumM xs) (↑(List.length xs) : Int))) (T.leaf (AV.f FloatKind.f32 (sumM xs))))) :
    VCall P g_f [PS [0] .f32 xs] (.f .f32 (sumM xs)) := h_.call_of ps_impl_addUp ⟨fun _ _ => .fail, fun id σ => match id with | 0 => some (lv_impl_addUp_L0, .leaf (.normal, h_impl_addUp_L0 xs (sumM xs) xs.length)) | _ => none⟩ (by kernel_rfl) ht

-- END impl_addUp

-- FN spec_l02Sum
/-- spec.l02Sum: slots 18, results [.t 2]; calls []; names [(list, 0), (list, 1), (sum, 3), (i, 4)] -/
def ps_spec_l02Sum : List Nat := [0, 2, 3, 4, 8]
def lv_spec_l02Sum_L0 : List Nat := [0, 3, 4]
def b_spec_l02Sum_L0 : VCode :=
  (.seq
   (.seq
    (.region false [
     ⟨some 5, .mv, [.t 4], none⟩,
     ⟨some 6, .mv, [.t 0], none⟩,
     ⟨some 7, .len, [.t 6], none⟩,
     ⟨some 8, (.bin .lss), [.t 5, .t 7], none⟩])
    (.cond (.t 8)
     .skip
     (.exit 0)))
   (.seq
    (.block 1
     (.region false [
      ⟨some 11, .mv, [.t 3], none⟩,
      ⟨some 12, .mv, [.t 0], none⟩,
      ⟨some 13, .mv, [.t 4], none⟩,
      ⟨some 14, .iaddr, [.t 12, .t 13], none⟩,
      ⟨some 15, .load, [.t 14], none⟩,
      ⟨some 16, (.bin .add), [.t 11, .t 15], none⟩,
      ⟨some 3, .mv, [.t 16], none⟩]))
    (.region false [
     ⟨some 9, .mv, [.t 4], none⟩,
     ⟨some 10, (.bin .add), [.t 9, .k (.i .i64 1)], none⟩,
     ⟨some 4, .mv, [.t 10], none⟩])))

def b_spec_l02Sum : VCode :=
  (.seq
   (.region false [
    ⟨some 2, .mv, [.k (.f .f32 0)], none⟩])
   (.seq
    (.region false [
     ⟨some 3, .mv, [.k (.f .f32 0)], none⟩])
    (.seq
     (.seq
      (.region false [
       ⟨some 4, .mv, [.k (.i .i64 0)], none⟩])
      (.block 0 (.loop b_spec_l02Sum_L0)))
     (.seq
      (.region false [
       ⟨some 17, .mv, [.t 3], none⟩,
       ⟨some 2, .mv, [.t 17], none⟩])
      .ret))))

abbrev Is_spec_l02Sum (P : Program) (g_f : FuncId) : Prop := FnIs P g_f 18 [.t 2] (b_spec_l02Sum)

abbrev C_spec_l02Sum (P : Program) (g_f : FuncId) : Prop := ∀ (xs : List Nat) (hx : xs.length ≤ maxLen), VCall P g_f [PS [0] .f32 xs] (.f .f32 (sumM xs))
def oc1_spec_l02Sum (as : List AV) : T AV := match as with | [.sl _ _ (.f .f32 xs)] => .leaf (.f .f32 (sumM xs)) | _ => .fail
def h_spec_l02Sum_L0 (xs : List Nat) (sum : Nat) (i : Int) : Env := [AV.sl (Tag.par [0]) 0 (Cont.f FloatKind.f32 xs), .any, .any, .f FloatKind.f32 sum, .i IntKind.i64 i] ++ anys 13

theorem q_spec_l02Sum_L0 {VC : FuncId → List AV → AV → Prop} (xs : List Nat) (sum : Nat) (i : Int) {e_ : Ex} {σ_ : Env} (ht : T.ok (fun x_ => x_ = (e_, σ_)) (
      T.ite (decide (i < (↑(List.length xs) : Int)))
        (T.ob (0 ≤ i ∧ i < (↑(List.length xs) : Int)) (T.leaf (Ex.normal, h_spec_l02Sum_L0 xs (fadd FloatKind.f32 sum (List.getD xs (Int.toNat i) 0)) (IntKind.wrap IntKind.i64 (i + 1)))))
        (T.leaf (Ex.exit 0, h_spec_l02Sum_L0 xs sum i)))) :
    Exec VC ps_spec_l02Sum (b_spec_l02Sum_L0) (h_spec_l02Sum_L0 xs sum i) e_ σ_ := evL_of (lv := lv_spec_l02Sum_L0) (rs := [2]) (O := ⟨fun _ _ => .fail, fun _ _ => none⟩) (by kernel_rfl) ht

theorem q_spec_l02Sum {P : Program} {g_f : FuncId} (h_ : Is_spec_l02Sum P g_f) (xs : List Nat) (ht : T.ok (fun x_ => x_ = .f .f32 (sumM xs)) (
      T.ob (Exec (VCall P) ps_spec_l02Sum (VCode.block 0 (VCode.loop b_spec_l02Sum_L0)) (h_spec_l02Sum_L0 xs 0 0) Ex.normal (h_spec_l02Sum_L0 xs (sumM xs) (↑(List.length xs) : Int))) (T.leaf (AV.f FloatKind.f32 (sumM xs))))) :
    VCall P g_f [PS [0] .f32 xs] (.f .f32 (sumM xs)) := h_.call_of ps_spec_l02Sum ⟨fun _ _ => .fail, fun id σ => match id with | 0 => some (lv_spec_l02Sum_L0, .leaf (.normal, h_spec_l02Sum_L0 xs (sumM xs) xs.length)) | _ => none⟩ (by kernel_rfl) ht

-- END spec_l02Sum

-- FN impl_mean
/-- impl.mean: slots 9, results [.t 2]; calls [4:g_impl_addUp]; names [(list, 0), (list, 1)] -/
def ps_impl_mean : List Nat := [0, 2]
def b_impl_mean (g_impl_addUp : FuncId) : VCode :=
  (.seq
   (.region false [
    ⟨some 2, .mv, [.k (.f .f32 0)], none⟩])
   (.seq
    (.region false [
     ⟨some 3, .mv, [.t 0], none⟩,
     ⟨some 4, (.call g_impl_addUp), [.t 3], none⟩,
     ⟨some 5, .mv, [.t 0], none⟩,
     ⟨some 6, .len, [.t 5], none⟩,
     ⟨some 7, (.convF .f32), [.t 6], none⟩,
     ⟨some 8, (.bin .quo), [.t 4, .t 7], none⟩,
     ⟨some 2, .mv, [.t 8], none⟩])
    .ret))

abbrev Is_impl_mean (P : Program) (g_f : FuncId) (g_impl_addUp : FuncId) : Prop := FnIs P g_f 9 [.t 2] (b_impl_mean g_impl_addUp)

abbrev C_impl_mean (P : Program) (g_f : FuncId) : Prop := ∀ (xs : List Nat) (hx : xs.length ≤ maxLen), VCall P g_f [PS [0] .f32 xs] (.f .f32 (meanM xs))
def oc1_impl_mean (as : List AV) : T AV := match as with | [.sl _ _ (.f .f32 xs)] => .leaf (.f .f32 (meanM xs)) | _ => .fail
def oc_impl_mean (xs : List Nat) (d : Nat) (as : List AV) : T AV := match d with | 4 => oc1_impl_addUp as | _ => .fail



theorem q_impl_mean {P : Program} {g_f : FuncId} {g_impl_addUp : FuncId} (h_ : Is_impl_mean P g_f g_impl_addUp) (xs : List Nat) (ht : T.ok (fun x_ => x_ = .f .f32 (meanM xs)) (
      T.ob ((VCall P) g_impl_addUp [AV.sl (Tag.par [0]) 0 (Cont.f FloatKind.f32 xs)] (AV.f FloatKind.f32 (sumM xs)))
        (T.ob True (T.ob True (T.leaf (AV.f FloatKind.f32 (fdiv FloatKind.f32 (sumM xs) (fofi FloatKind.f32 (↑(List.length xs) : Int))))))))) :
    VCall P g_f [PS [0] .f32 xs] (.f .f32 (meanM xs)) := h_.call_of ps_impl_mean ⟨oc_impl_mean xs, fun _ _ => none⟩ (by kernel_rfl) ht

-- END impl_mean

-- FN spec_l02Mean
/-- spec.l02Mean: slots 9, results [.t 2]; calls [4:g_spec_l02Sum]; names [(list, 0), (list, 1)] -/
def ps_spec_l02Mean : List Nat := [0, 2]
def b_spec_l02Mean (g_spec_l02Sum : FuncId) : VCode :=
  (.seq
   (.region false [
    ⟨some 2, .mv, [.k (.f .f32 0)], none⟩])
   (.seq
    (.region false [
     ⟨some 3, .mv, [.t 0], none⟩,
     ⟨some 4, (.call g_spec_l02Sum), [.t 3], none⟩,
     ⟨some 5, .mv, [.t 0], none⟩,
     ⟨some 6, .len, [.t 5], none⟩,
     ⟨some 7, (.convF .f32), [.t 6], none⟩,
     ⟨some 8, (.bin .quo), [.t 4, .t 7], none⟩,
     ⟨some 2, .mv, [.t 8], none⟩])
    .ret))

abbrev Is_spec_l02Mean (P : Program) (g_f : FuncId) (g_spec_l02Sum : FuncId) : Prop := FnIs P g_f 9 [.t 2] (b_spec_l02Mean g_spec_l02Sum)

abbrev C_spec_l02Mean (P : Program) (g_f : FuncId) : Prop := ∀ (xs : List Nat) (hx : xs.length ≤ maxLen), VCall P g_f [PS [0] .f32 xs] (.f .f32 (meanM xs))
def oc1_spec_l02Mean (as : List AV) : T AV := match as with | [.sl _ _ (.f .f32 xs)] => .leaf (.f .f32 (meanM xs)) | _ => .fail
def oc_spec_l02Mean (xs : List Nat) (d : Nat) (as : List AV) : T AV := match d with | 4 => oc1_spec_l02Sum as | _ => .fail



theorem q_spec_l02Mean {P : Program} {g_f : FuncId} {g_spec_l02Sum : FuncId} (h_ : Is_spec_l02Mean P g_f g_spec_l02Sum) (xs : List Nat) (ht : T.ok (fun x_ => x_ = .f .f32 (meanM xs)) (
      T.ob ((VCall P) g_spec_l02Sum [AV.sl (Tag.par [0]) 0 (Cont.f FloatKind.f32 xs)] (AV.f FloatKind.f32 (sumM xs)))
        (T.ob True (T.ob True (T.leaf (AV.f FloatKind.f32 (fdiv FloatKind.f32 (sumM xs) (fofi FloatKind.f32 (↑(List.length xs) : Int))))))))) :
    VCall P g_f [PS [0] .f32 xs] (.f .f32 (meanM xs)) := h_.call_of ps_spec_l02Mean ⟨oc_spec_l02Mean xs, fun _ _ => none⟩ (by kernel_rfl) ht

-- END spec_l02Mean









def mmOk (g : List Nat → Nat) (xs : List Nat) (side : Int) : Bool := seriesM xs && (inM side 0 96 && finAllM (movM g xs side.toNat))




def lfMid (xs : List Nat) : Nat := meanM (placesM xs.length)
def lfU (xs : List Nat) : List Nat := lessOneM (placesM xs.length) (lfMid xs)
def lfSlope (xs : List Nat) : Nat := fdiv .f32 (dotM (lfU xs) (lessOneM xs (meanM xs))) (dotM (lfU xs) (lfU xs))
def lfBase (xs : List Nat) : Nat := fsub .f32 (meanM xs) (fmul .f32 (lfSlope xs) (lfMid xs))
def lfOk (xs : List Nat) : Bool := seriesM xs && (decide (2 ≤ xs.length) && (finM (lfBase xs) && finM (lfSlope xs)))

def two1 (x y : Nat) : Nat := if (finM x && finM y) = true then x else 0
def two2 (x y : Nat) : Nat := if (finM x && finM y) = true then y else 0


theorem k_impl_addUp {P : Program} {f : FuncId} (h : Is_impl_addUp P f) : C_impl_addUp P f := by
  intro xs hx
  refine q_impl_addUp h xs ?_
  have hm := ml64 hx
  refine ⟨?_, fun _ => rfl⟩
  refine for_up (e := .exit 0) (xs.length) (fun i => h_impl_addUp_L0 xs (accN (fun i s => fadd .f32 s (xs.getD i 0)) i 0) i) (by first | rfl | simp) (fun i hi => ?_) ?_
  · refine q_impl_addUp_L0 _ _ _ ?_
    repeat' (first | with_reducible refine T.ok_ob ?_ (fun _ => ?_) | with_reducible refine T.ok_ite (fun _ => ?_) (fun _ => ?_) | with_reducible refine T.ok_leaf ?_)
    all_goals (try simp only [decide_eq_true_eq, decide_eq_false_iff_not, Bool.not_eq_true', Bool.not_eq_false', Bool.not_eq_eq_eq_not, Bool.not_true, Bool.not_false, Int.toNat_natCast, tab_len, List.length_append, List.length_singleton, List.length_cons, List.length_nil, List.length_drop, List.length_take, getD_drop', getD_nat, reduceCtorEq] at *)
    all_goals (try simp (disch := omega) only [wrap64_id] at *)
    all_goals first | omega | (exfalso; omega) | trivial | contradiction | (exfalso; simp_all; done) | skip
    all_goals first | rfl | (rw [tab_succ]; rfl)
  · refine q_impl_addUp_L0 _ _ _ ?_
    repeat' (first | with_reducible refine T.ok_ob ?_ (fun _ => ?_) | with_reducible refine T.ok_ite (fun _ => ?_) (fun _ => ?_) | with_reducible refine T.ok_leaf ?_)
    all_goals (try simp only [decide_eq_true_eq, decide_eq_false_iff_not, Bool.not_eq_true', Bool.not_eq_false', Bool.not_eq_eq_eq_not, Bool.not_true, Bool.not_false, Int.toNat_natCast, tab_len, List.length_append, List.length_singleton, List.length_cons, List.length_nil, List.length_drop, List.length_take, getD_drop', getD_nat, reduceCtorEq] at *)
    all_goals (try simp (disch := omega) only [wrap64_id] at *)
    all_goals first | omega | (exfalso; omega) | trivial | contradiction | (exfalso; simp_all; done) | skip
    all_goals rfl
  repeat' (first | with_reducible refine T.ok_ob ?_ (fun _ => ?_) | with_reducible refine T.ok_ite (fun _ => ?_) (fun _ => ?_) | with_reducible refine T.ok_leaf ?_)
  all_goals first | with_reducible rfl | with_reducible assumption | contradiction | exact fconvOk_32_64 _ | assumption | exact rfl | (simp_all []; done) | (simp_all [T.ok]; omega)

theorem k_spec_l02Sum {P : Program} {f : FuncId} (h : Is_spec_l02Sum P f) : C_spec_l02Sum P f := by
  intro xs hx
  refine q_spec_l02Sum h xs ?_
  have hm := ml64 hx
  refine ⟨?_, fun _ => rfl⟩
  refine for_up (e := .exit 0) (xs.length) (fun i => h_spec_l02Sum_L0 xs (accN (fun i s => fadd .f32 s (xs.getD i 0)) i 0) i) (by first | rfl | simp) (fun i hi => ?_) ?_
  · refine q_spec_l02Sum_L0 _ _ _ ?_
    repeat' (first | with_reducible refine T.ok_ob ?_ (fun _ => ?_) | with_reducible refine T.ok_ite (fun _ => ?_) (fun _ => ?_) | with_reducible refine T.ok_leaf ?_)
    all_goals (try simp only [decide_eq_true_eq, decide_eq_false_iff_not, Bool.not_eq_true', Bool.not_eq_false', Bool.not_eq_eq_eq_not, Bool.not_true, Bool.not_false, Int.toNat_natCast, tab_len, List.length_append, List.length_singleton, List.length_cons, List.length_nil, List.length_drop, List.length_take, getD_drop', getD_nat, reduceCtorEq] at *)
    all_goals (try simp (disch := omega) only [wrap64_id] at *)
    all_goals first | omega | (exfalso; omega) | trivial | contradiction | (exfalso; simp_all; done) | skip
    all_goals first | rfl | (rw [tab_succ]; rfl)
  · refine q_spec_l02Sum_L0 _ _ _ ?_
    repeat' (first | with_reducible refine T.ok_ob ?_ (fun _ => ?_) | with_reducible refine T.ok_ite (fun _ => ?_) (fun _ => ?_) | with_reducible refine T.ok_leaf ?_)
    all_goals (try simp only [decide_eq_true_eq, decide_eq_false_iff_not, Bool.not_eq_true', Bool.not_eq_false', Bool.not_eq_eq_eq_not, Bool.not_true, Bool.not_false, Int.toNat_natCast, tab_len, List.length_append, List.length_singleton, List.length_cons, List.length_nil, List.length_drop, List.length_take, getD_drop', getD_nat, reduceCtorEq] at *)
    all_goals (try simp (disch := omega) only [wrap64_id] at *)
    all_goals first | omega | (exfalso; omega) | trivial | contradiction | (exfalso; simp_all; done) | skip
    all_goals rfl
  repeat' (first | with_reducible refine T.ok_ob ?_ (fun _ => ?_) | with_reducible refine T.ok_ite (fun _ => ?_) (fun _ => ?_) | with_reducible refine T.ok_leaf ?_)
  all_goals first | with_reducible rfl | with_reducible assumption | contradiction | exact fconvOk_32_64 _ | assumption | exact rfl | (simp_all []; done) | (simp_all [T.ok]; omega)

theorem k_impl_mean {P : Program} {f g_impl_addUp : FuncId} (h : Is_impl_mean P f g_impl_addUp) (c1 : C_impl_addUp P g_impl_addUp) : C_impl_mean P f := by
  intro xs hx
  refine q_impl_mean h xs ?_
  repeat' (first | with_reducible refine T.ok_ob ?_ (fun _ => ?_) | with_reducible refine T.ok_ite (fun _ => ?_) (fun _ => ?_) | with_reducible refine T.ok_leaf ?_)
  all_goals first | with_reducible rfl | with_reducible assumption | ((with_reducible refine c1 _ ?_) <;> (first | assumption | omega | with_reducible rfl | (simp [maxLen_eq]; done) | (simp [maxLen_eq]; omega))) | contradiction | exact fconvOk_32_64 _ | assumption | exact rfl | (simp_all []; done) | (simp_all [T.ok]; omega)

theorem k_spec_l02Mean {P : Program} {f g_spec_l02Sum : FuncId} (h : Is_spec_l02Mean P f g_spec_l02Sum) (c1 : C_spec_l02Sum P g_spec_l02Sum) : C_spec_l02Mean P f := by
  intro xs hx
  refine q_spec_l02Mean h xs ?_
  repeat' (first | with_reducible refine T.ok_ob ?_ (fun _ => ?_) | with_reducible refine T.ok_ite (fun _ => ?_) (fun _ => ?_) | with_reducible refine T.ok_leaf ?_)
  all_goals first | with_reducible rfl | with_reducible assumption | ((with_reducible refine c1 _ ?_) <;> (first | assumption | omega | with_reducible rfl | (simp [maxLen_eq]; done) | (simp [maxLen_eq]; omega))) | contradiction | exact fconvOk_32_64 _ | assumption | exact rfl | (simp_all []; done) | (simp_all [T.ok]; omega)

theorem win_low (i s : Nat) (hi : i ≤ 96) (hs : s ≤ 96) : (bif decide (IntKind.wrap .i64 ((i : Int) - s) > 0) then IntKind.wrap .i64 ((i : Int) - s) else 0) = ((i - s : Nat) : Int) := by
  rw [wrap64_id (by omega) (by omega)]
  by_cases h : (i : Int) - s > 0
  · simp only [h, decide_true, cond_true]; omega
  · simp only [h, decide_false, cond_false]; omega
theorem win_high (n i s : Nat) (hn : n ≤ 96) (hi : i ≤ 96) (hs : s ≤ 96) : (bif decide (IntKind.wrap .i64 (IntKind.wrap .i64 ((i : Int) + s) + 1) < (n : Int)) then IntKind.wrap .i64 (IntKind.wrap .i64 ((i : Int) + s) + 1) else (n : Int)) = ((min n (i + s + 1) : Nat) : Int) := by
  rw [wrap64_id (n := (i : Int) + s) (by omega) (by omega), wrap64_id (by omega) (by omega)]
  by_cases h : (i : Int) + s + 1 < n
  · simp only [h, decide_true, cond_true]; omega
  · simp only [h, decide_false, cond_false]; omega
theorem win_high2 (n i s : Nat) (h1 : 1 ≤ n) (hn : n ≤ 96) (hi : i ≤ 96) (hs : s ≤ 96) : IntKind.wrap .i64 ((bif decide (IntKind.wrap .i64 ((i : Int) + s) < IntKind.wrap .i64 ((n : Int) - 1)) then IntKind.wrap .i64 ((i : Int) + s) else IntKind.wrap .i64 ((n : Int) - 1)) + 1) = ((min n (i + s + 1) : Nat) : Int) := by
  rw [wrap64_id (n := (i : Int) + s) (by omega) (by omega), wrap64_id (n := (n : Int) - 1) (by omega) (by omega)]
  by_cases h : (i : Int) + s < n - 1
  · simp only [h, decide_true, cond_true]; rw [wrap64_id (by omega) (by omega)]; omega
  · simp only [h, decide_false, cond_false]; rw [wrap64_id (by omega) (by omega)]; omega
theorem win_len (xs : List Nat) (s i : Nat) (h : i < xs.length) : 1 ≤ (winM xs s i).length ∧ (winM xs s i).length ≤ xs.length := by
  unfold winM; rw [List.length_take, List.length_drop]; omega
theorem nan_zero : nanB .f32 0 = false := by decide
theorem win_all {Q : Nat → Prop} {xs : List Nat} (hN : ∀ i, Q (xs.getD i 0)) (s i j : Nat) : Q ((winM xs s i).getD j 0) := by
  unfold winM
  by_cases h : j < min xs.length (i + s + 1) - (i - s)
  · rw [getD_sub _ _ _ _ _ h]; exact hN _
  · rw [show (List.take (min xs.length (i + s + 1) - (i - s)) (List.drop (i - s) xs)).getD j 0 = 0 by
      simp only [List.getD]
      rw [List.getElem?_eq_none (by rw [List.length_take]; omega)]; rfl]
    have h0 := hN xs.length
    rw [List.getD_eq_getElem?_getD, List.getElem?_eq_none (Nat.le_refl _)] at h0
    exact h0
theorem win_nan {xs : List Nat} (hN : ∀ i, nanB .f32 (xs.getD i 0) = false) (s i j : Nat) : nanB .f32 ((winM xs s i).getD j 0) = false := win_all (Q := fun x => nanB .f32 x = false) hN s i j
theorem fin_nan0 {x : Nat} (h : finM x = true) : nanB .f32 x = false := by
  cases hr : Ieee.single.read x with
  | nan s t =>
    exfalso
    have e : fsub .f32 x x = fnan .f32 := by
      unfold fsub Ieee.Format.sub
      show (Option.map _ ((Ieee.single.read x).sum (Ieee.single.read x).opposite)).getD _ = _
      rw [hr]; rfl
    unfold finM at h
    rw [e] at h
    revert h; decide
  | infinity s => show (Ieee.single.read x).isNaN = false; rw [hr]; rfl
  | number s m e => show (Ieee.single.read x).isNaN = false; rw [hr]; rfl
theorem series_nan {xs : List Nat} (h : seriesM xs = true) (i : Nat) : nanB .f32 (xs.getD i 0) = false := by
  simp [seriesM, finAllM] at h
  by_cases hi : i < xs.length
  · refine fin_nan0 ?_
    have := h.2.2 xs[i] (List.getElem_mem hi)
    simpa [List.getD, List.getElem?_eq_getElem hi] using this
  · rw [show xs.getD i 0 = 0 by simp [List.getD, List.getElem?_eq_none (Nat.le_of_not_lt hi)]]
    exact nan_zero
theorem mov_len (g : List Nat → Nat) (xs : List Nat) (s : Nat) : (movM g xs s).length = xs.length := tab_len _ _
theorem places_len (n : Nat) : (placesM n).length = n := tab_len _ _
theorem lessOne_len (xs : List Nat) (m : Nat) : (lessOneM xs m).length = xs.length := tab_len _ _
theorem less_len (xs ys : List Nat) : (lessM xs ys).length = xs.length := tab_len _ _
theorem lessOne_get (xs : List Nat) (m i : Nat) (h : i < xs.length) : (lessOneM xs m).getD i 0 = fsub .f32 (xs.getD i 0) m := tab_get _ _ _ _ h
theorem less_get (xs ys : List Nat) (i : Nat) (h : i < xs.length) : (lessM xs ys).getD i 0 = fsub .f32 (xs.getD i 0) (ys.getD i 0) := tab_get _ _ _ _ h
end Go.Proofs.LV
