/- Sizes of numbers; differences of lists. -/
import Derived.Test.YtjfgmnfkkehgfaaLvFnF
import Derived.Test.YtjfgmnfkkehgfaaLvFnCX
namespace Go.Proofs.LV
open Go
set_option linter.unusedVariables false
set_option linter.unusedSimpArgs false

-- FN impl_less
/-- impl.less: slots 27, results [.t 4]; calls []; names [(a, 0), (b, 1), (a, 2), (b, 3), (out, 5), (i, 6), (x, 7)] -/
def ps_impl_less : List Nat := [0, 1, 4, 5, 6, 7, 9, 10, 11, 12]
def lv_impl_less_L0 : List Nat := [1, 5, 9, 10, 11]
def b_impl_less_L0 : VCode :=
  (.seq
   (.region false [
    ⟨some 12, (.bin .lss), [.t 11, .t 10], none⟩])
   (.seq
    (.cond (.t 12)
     .skip
     (.exit 0))
    (.seq
     (.block 1
      (.seq
       (.region false [
        ⟨some 13, .mv, [.t 11], none⟩,
        ⟨some 14, .iaddr, [.t 9, .t 11], none⟩,
        ⟨some 15, .load, [.t 14], none⟩,
        ⟨some 6, .mv, [.t 13], none⟩,
        ⟨some 7, .mv, [.t 15], none⟩])
       (.region false [
        ⟨some 16, .mv, [.t 5], none⟩,
        ⟨some 17, .mv, [.t 7], none⟩,
        ⟨some 18, .mv, [.t 1], none⟩,
        ⟨some 19, .mv, [.t 6], none⟩,
        ⟨some 20, .iaddr, [.t 18, .t 19], none⟩,
        ⟨some 21, .load, [.t 20], none⟩,
        ⟨some 22, (.bin .sub), [.t 17, .t 21], none⟩,
        ⟨some 23, (.lit true (.f .f32 [])), [.t 22], none⟩,
        ⟨some 24, .app, [.t 16, .t 23], none⟩,
        ⟨some 5, .mv, [.t 24], none⟩])))
     (.region false [
      ⟨some 25, (.bin .add), [.t 11, .k (.i .i64 1)], none⟩,
      ⟨some 11, .mv, [.t 25], none⟩]))))

def b_impl_less : VCode :=
  (.seq
   (.region false [
    ⟨some 4, (.nilsl (.f .f32 [])), [], none⟩])
   (.seq
    (.region false [
     ⟨some 8, (.lit true (.f .f32 [])), [], none⟩,
     ⟨some 5, .mv, [.t 8], none⟩])
    (.seq
     (.seq
      (.region false [
       ⟨some 9, .mv, [.t 0], none⟩,
       ⟨some 10, .len, [.t 9], none⟩,
       ⟨some 11, .mv, [.k (.i .i64 0)], none⟩])
      (.block 0 (.loop b_impl_less_L0)))
     (.seq
      (.region false [
       ⟨some 26, .mv, [.t 5], none⟩,
       ⟨some 4, .mv, [.t 26], none⟩])
      .ret))))

abbrev Is_impl_less (P : Program) (g_f : FuncId) : Prop := FnIs P g_f 27 [.t 4] (b_impl_less)

abbrev C_impl_less (P : Program) (g_f : FuncId) : Prop := ∀ (xs : List Nat) (ys : List Nat) (hy : xs.length ≤ ys.length) (hx : xs.length ≤ 4294967295), VCall P g_f [PS [0] .f32 xs, PS [1] .f32 ys] (OS 0 .f32 (lessM xs ys))
def oc1_impl_less (as : List AV) : T AV := match as with | [.sl _ _ (.f .f32 xs), .sl _ _ (.f .f32 ys)] => .leaf (OS 0 .f32 (lessM xs ys)) | _ => .fail
def h_impl_less_L0 (xs : List Nat) (ys : List Nat) (out : List Nat) (v11 : Int) : Env := [.any, AV.sl (Tag.par [1]) 0 (Cont.f FloatKind.f32 ys), .any, .any, .any, .sl (Tag.own 64) 0 (.f FloatKind.f32 out), .any, .any, .any, AV.sl (Tag.par [0]) 0 (Cont.f FloatKind.f32 xs), AV.i IntKind.i64 (↑(List.length xs) : Int), .i IntKind.i64 v11] ++ anys 15

theorem q_impl_less_L0 {VC : FuncId → List AV → AV → Prop} (xs : List Nat) (ys : List Nat) (out : List Nat) (v11 : Int) {e_ : Ex} {σ_ : Env} (ht : T.ok (fun x_ => x_ = (e_, σ_)) (
      T.ite (decide (v11 < (↑(List.length xs) : Int)))
        (T.ob (0 ≤ v11 ∧ v11 < (↑(List.length xs) : Int))
          (T.ob (0 ≤ v11 ∧ v11 < (↑(List.length ys) : Int))
            (T.ob (List.length out + List.length [fsub FloatKind.f32 (List.getD xs (Int.toNat v11) 0) (List.getD ys (Int.toNat v11) 0)] ≤ 4294967296)
              (T.leaf (Ex.normal, h_impl_less_L0 xs ys (out ++ [fsub FloatKind.f32 (List.getD xs (Int.toNat v11) 0) (List.getD ys (Int.toNat v11) 0)]) (IntKind.wrap IntKind.i64 (v11 + 1)))))))
        (T.leaf (Ex.exit 0, h_impl_less_L0 xs ys out v11)))) :
    Exec VC ps_impl_less (b_impl_less_L0) (h_impl_less_L0 xs ys out v11) e_ σ_ := evL_of (lv := lv_impl_less_L0) (rs := [4]) (O := ⟨fun _ _ => .fail, fun _ _ => none⟩) (by kernel_rfl) ht

theorem q_impl_less {P : Program} {g_f : FuncId} (h_ : Is_impl_less P g_f) (xs : List Nat) (ys : List Nat) (ht : T.ok (fun x_ => x_ = OS 0 .f32 (lessM xs ys)) (
      T.ob (Exec (VCall P) ps_impl_less (VCode.block 0 (VCode.loop b_impl_less_L0)) (h_impl_less_L0 xs ys [] 0) Ex.normal (h_impl_less_L0 xs ys (lessM xs ys) (↑(List.length xs) : Int)))
        (T.leaf (AV.sl (Tag.own 0) 0 (Cont.f FloatKind.f32 (lessM xs ys)))))) :
    VCall P g_f [PS [0] .f32 xs, PS [1] .f32 ys] (OS 0 .f32 (lessM xs ys)) := h_.call_of ps_impl_less ⟨fun _ _ => .fail, fun id σ => match id with | 0 => some (lv_impl_less_L0, .leaf (.normal, h_impl_less_L0 xs ys (lessM xs ys) xs.length)) | _ => none⟩ (by kernel_rfl) ht

-- END impl_less

theorem k_impl_less {P : Program} {f : FuncId} (h : Is_impl_less P f) : C_impl_less P f := by
  intro xs ys hy hx
  refine q_impl_less h xs ys ⟨?_, fun _ => rfl⟩
  refine for_up (e := .exit 0) (xs.length) (fun i => h_impl_less_L0 xs ys (tab i fun i => fsub .f32 (xs.getD i 0) (ys.getD i 0)) i) (by first | rfl | simp) (fun i hi => ?_) ?_
  · refine q_impl_less_L0 _ _ _ _ ?_
    repeat' (first | with_reducible refine T.ok_ob ?_ (fun _ => ?_) | with_reducible refine T.ok_ite (fun _ => ?_) (fun _ => ?_) | with_reducible refine T.ok_leaf ?_)
    all_goals (try simp only [decide_eq_true_eq, decide_eq_false_iff_not, Bool.not_eq_true', Bool.not_eq_false', Bool.not_eq_eq_eq_not, Bool.not_true, Bool.not_false, Int.toNat_natCast, tab_len, List.length_append, List.length_singleton, List.length_cons, List.length_nil, List.length_drop, List.length_take, getD_drop', getD_nat, reduceCtorEq] at *)
    all_goals (try simp (disch := omega) only [wrap64_id] at *)
    all_goals first | omega | (exfalso; omega) | trivial | contradiction | (exfalso; simp_all; done) | skip
    all_goals first | rfl | (rw [tab_succ]; rfl)
  · refine q_impl_less_L0 _ _ _ _ ?_
    repeat' (first | with_reducible refine T.ok_ob ?_ (fun _ => ?_) | with_reducible refine T.ok_ite (fun _ => ?_) (fun _ => ?_) | with_reducible refine T.ok_leaf ?_)
    all_goals (try simp only [decide_eq_true_eq, decide_eq_false_iff_not, Bool.not_eq_true', Bool.not_eq_false', Bool.not_eq_eq_eq_not, Bool.not_true, Bool.not_false, Int.toNat_natCast, tab_len, List.length_append, List.length_singleton, List.length_cons, List.length_nil, List.length_drop, List.length_take, getD_drop', getD_nat, reduceCtorEq] at *)
    all_goals (try simp (disch := omega) only [wrap64_id] at *)
    all_goals first | omega | (exfalso; omega) | trivial | contradiction | (exfalso; simp_all; done) | skip
    all_goals rfl

end Go.Proofs.LV
