/- Sums, means, products, places, moving means, lines, folded periods. -/
import Derived.Test.YtjfgmnfkkehgfaaLvFnCX
namespace Go.Proofs.LV
open Go
set_option linter.unusedVariables false
set_option linter.unusedSimpArgs false

def sumM (xs : List Nat) : Nat := accN (fun i s => fadd .f32 s (xs.getD i 0)) xs.length 0
def meanM (xs : List Nat) : Nat := fdiv .f32 (sumM xs) (fofi .f32 xs.length)
def dotM (xs ys : List Nat) : Nat := accN (fun i s => fadd .f32 s (fmul .f32 (xs.getD i 0) (ys.getD i 0))) xs.length 0
def lessOneM (xs : List Nat) (m : Nat) : List Nat := tab xs.length fun i => fsub .f32 (xs.getD i 0) m
open Go.IntKind (wrap)
-- FN impl_addUp
def ps_impl_addUp : List Nat := [0, 2, 3, 5, 6, 7, 8, 9]
def lv_impl_addUp_L0 : List Nat := [3, 6, 7, 8]
def b_impl_addUp_L0 : VCode :=
 (.seq
 (.region false [
 ⟨some 9, (.bin .lss), [.t 8, .t 7], none⟩])
 (.seq
 (.cond (.t 9)
 .skip
 (.exit 0))
 (.seq
 (.block 1
 (.seq
 (.region false [
 ⟨some 10, .iaddr, [.t 6, .t 8], none⟩,
 ⟨some 11, .load, [.t 10], none⟩,
 ⟨some 5, .mv, [.t 11], none⟩])
 (.region false [
 ⟨some 12, .mv, [.t 3], none⟩,
 ⟨some 13, .mv, [.t 5], none⟩,
 ⟨some 14, (.bin .add), [.t 12, .t 13], none⟩,
 ⟨some 3, .mv, [.t 14], none⟩])))
 (.region false [
 ⟨some 15, (.bin .add), [.t 8, .k (.i .i64 1)], none⟩,
 ⟨some 8, .mv, [.t 15], none⟩]))))

def b_impl_addUp : VCode :=
 (.seq
 (.region false [
 ⟨some 2, .mv, [.k (.f .f32 0)], none⟩])
 (.seq
 (.region false [
 ⟨some 3, .mv, [.k (.f .f32 0)], none⟩])
 (.seq
 (.seq
 (.region false [
 ⟨some 6, .mv, [.t 0], none⟩,
 ⟨some 7, .len, [.t 6], none⟩,
 ⟨some 8, .mv, [.k (.i .i64 0)], none⟩])
 (.block 0 (.loop b_impl_addUp_L0)))
 (.seq
 (.region false [
 ⟨some 16, .mv, [.t 3], none⟩,
 ⟨some 2, .mv, [.t 16], none⟩])
 .ret))))

abbrev Is_impl_addUp (P : Program) (g_f : FuncId) : Prop := FnIs P g_f 17 [.t 2] (b_impl_addUp)

abbrev C_impl_addUp (P : Program) (g_f : FuncId) : Prop := ∀ (xs : List Nat) (hx : xs.length ≤ maxLen), VCall P g_f [PS [0] .f32 xs] (.f .f32 (sumM xs))
def oc1_impl_addUp (as : List AV) : T AV := match as with | [.sl _ _ (.f .f32 xs)] => .leaf (.f .f32 (sumM xs)) | _ => .fail
def h_impl_addUp_L0 (xs : List Nat) (sum : Nat) (v8 : Int) : Env := [.any, .any, .any, .f .f32 sum, .any, .any, AV.sl (Tag.par [0]) 0 (Cont.f .f32 xs), AV.i .i64 (↑(List.length xs) : Int), .i .i64 v8] ++ anys 8

theorem q_impl_addUp_L0 {VC : FuncId → List AV → AV → Prop} (xs : List Nat) (sum : Nat) (v8 : Int) {e_ : Ex} {σ_ : Env} (ht : T.ok (fun x_ => x_ = (e_, σ_)) (
 T.ite (decide (v8 < (↑(List.length xs) : Int)))
 (T.ob (0 ≤ v8 ∧ v8 < (↑(List.length xs) : Int)) (T.leaf (Ex.normal, h_impl_addUp_L0 xs (fadd .f32 sum (List.getD xs (Int.toNat v8) 0)) (wrap .i64 (v8 + 1)))))
 (T.leaf (Ex.exit 0, h_impl_addUp_L0 xs sum v8)))) :
 Exec VC ps_impl_addUp (b_impl_addUp_L0) (h_impl_addUp_L0 xs sum v8) e_ σ_ := evL_of (lv := lv_impl_addUp_L0) (rs := [2]) (O := ⟨fun _ _ => .fail, fun _ _ => none⟩) (by kernel_rfl) ht

theorem q_impl_addUp {P : Program} {g_f : FuncId} (h_ : Is_impl_addUp P g_f) (xs : List Nat) (ht : T.ok (fun x_ => x_ = .f .f32 (sumM xs)) (
 T.ob (Exec (VCall P) ps_impl_addUp (VCode.block 0 (VCode.loop b_impl_addUp_L0)) (h_impl_addUp_L0 xs 0 0) Ex.normal (h_impl_addUp_L0 xs (sumM xs) (↑(List.length xs) : Int))) (T.leaf (AV.f .f32 (sumM xs))))) :
 VCall P g_f [PS [0] .f32 xs] (.f .f32 (sumM xs)) := h_.call_of ps_impl_addUp ⟨fun _ _ => .fail, fun id σ => match id with | 0 => some (lv_impl_addUp_L0, .leaf (.normal, h_impl_addUp_L0 xs (sumM xs) xs.length)) | _ => none⟩ (by kernel_rfl) ht

-- END impl_addUp


-- FN impl_mean
def ps_impl_mean : List Nat := [0, 2]
def b_impl_mean (gq0 : FuncId) : VCode :=
 (.seq
 (.region false [
 ⟨some 2, .mv, [.k (.f .f32 0)], none⟩])
 (.seq
 (.region false [
 ⟨some 3, .mv, [.t 0], none⟩,
 ⟨some 4, (.call gq0), [.t 3], none⟩,
 ⟨some 5, .mv, [.t 0], none⟩,
 ⟨some 6, .len, [.t 5], none⟩,
 ⟨some 7, (.convF .f32), [.t 6], none⟩,
 ⟨some 8, (.bin .quo), [.t 4, .t 7], none⟩,
 ⟨some 2, .mv, [.t 8], none⟩])
 .ret))

abbrev Is_impl_mean (P : Program) (g_f : FuncId) (gq0 : FuncId) : Prop := FnIs P g_f 9 [.t 2] (b_impl_mean gq0)

abbrev C_impl_mean (P : Program) (g_f : FuncId) : Prop := ∀ (xs : List Nat) (hx : xs.length ≤ maxLen), VCall P g_f [PS [0] .f32 xs] (.f .f32 (meanM xs))
def oc1_impl_mean (as : List AV) : T AV := match as with | [.sl _ _ (.f .f32 xs)] => .leaf (.f .f32 (meanM xs)) | _ => .fail
def oc_impl_mean (xs : List Nat) (d : Nat) (as : List AV) : T AV := match d with | 4 => oc1_impl_addUp as | _ => .fail



theorem q_impl_mean {P : Program} {g_f : FuncId} {gq0 : FuncId} (h_ : Is_impl_mean P g_f gq0) (xs : List Nat) (ht : T.ok (fun x_ => x_ = .f .f32 (meanM xs)) (
 T.ob ((VCall P) gq0 [AV.sl (Tag.par [0]) 0 (Cont.f .f32 xs)] (AV.f .f32 (sumM xs)))
 (T.ob True (T.ob True (T.leaf (AV.f .f32 (fdiv .f32 (sumM xs) (fofi .f32 (↑(List.length xs) : Int))))))))) :
 VCall P g_f [PS [0] .f32 xs] (.f .f32 (meanM xs)) := h_.call_of ps_impl_mean ⟨oc_impl_mean xs, fun _ _ => none⟩ (by kernel_rfl) ht

-- END impl_mean



-- FN impl_dot
def ps_impl_dot : List Nat := [0, 1, 4, 5, 6, 7, 8, 9, 10, 11]
def lv_impl_dot_L0 : List Nat := [1, 5, 8, 9, 10]
def b_impl_dot_L0 : VCode :=
 (.seq
 (.region false [
 ⟨some 11, (.bin .lss), [.t 10, .t 9], none⟩])
 (.seq
 (.cond (.t 11)
 .skip
 (.exit 0))
 (.seq
 (.block 1
 (.seq
 (.region false [
 ⟨some 12, .mv, [.t 10], none⟩,
 ⟨some 13, .iaddr, [.t 8, .t 10], none⟩,
 ⟨some 14, .load, [.t 13], none⟩,
 ⟨some 6, .mv, [.t 12], none⟩,
 ⟨some 7, .mv, [.t 14], none⟩])
 (.region false [
 ⟨some 15, .mv, [.t 5], none⟩,
 ⟨some 16, .mv, [.t 7], none⟩,
 ⟨some 17, .mv, [.t 1], none⟩,
 ⟨some 18, .mv, [.t 6], none⟩,
 ⟨some 19, .iaddr, [.t 17, .t 18], none⟩,
 ⟨some 20, .load, [.t 19], none⟩,
 ⟨some 21, (.bin .mul), [.t 16, .t 20], none⟩,
 ⟨some 22, (.bin .add), [.t 15, .t 21], none⟩,
 ⟨some 5, .mv, [.t 22], none⟩])))
 (.region false [
 ⟨some 23, (.bin .add), [.t 10, .k (.i .i64 1)], none⟩,
 ⟨some 10, .mv, [.t 23], none⟩]))))

def b_impl_dot : VCode :=
 (.seq
 (.region false [
 ⟨some 4, .mv, [.k (.f .f32 0)], none⟩])
 (.seq
 (.region false [
 ⟨some 5, .mv, [.k (.f .f32 0)], none⟩])
 (.seq
 (.seq
 (.region false [
 ⟨some 8, .mv, [.t 0], none⟩,
 ⟨some 9, .len, [.t 8], none⟩,
 ⟨some 10, .mv, [.k (.i .i64 0)], none⟩])
 (.block 0 (.loop b_impl_dot_L0)))
 (.seq
 (.region false [
 ⟨some 24, .mv, [.t 5], none⟩,
 ⟨some 4, .mv, [.t 24], none⟩])
 .ret))))

abbrev Is_impl_dot (P : Program) (g_f : FuncId) : Prop := FnIs P g_f 25 [.t 4] (b_impl_dot)

abbrev C_impl_dot (P : Program) (g_f : FuncId) : Prop := ∀ (xs : List Nat) (ys : List Nat) (hy : xs.length ≤ ys.length) (hx : xs.length ≤ maxLen), VCall P g_f [PS [0] .f32 xs, PS [1] .f32 ys] (.f .f32 (dotM xs ys))
def oc1_impl_dot (as : List AV) : T AV := match as with | [.sl _ _ (.f .f32 xs), .sl _ _ (.f .f32 ys)] => .leaf (.f .f32 (dotM xs ys)) | _ => .fail
def h_impl_dot_L0 (xs : List Nat) (ys : List Nat) (sum : Nat) (v10 : Int) : Env := [.any, AV.sl (Tag.par [1]) 0 (Cont.f .f32 ys), .any, .any, .any, .f .f32 sum, .any, .any, AV.sl (Tag.par [0]) 0 (Cont.f .f32 xs), AV.i .i64 (↑(List.length xs) : Int), .i .i64 v10] ++ anys 14

theorem q_impl_dot_L0 {VC : FuncId → List AV → AV → Prop} (xs : List Nat) (ys : List Nat) (sum : Nat) (v10 : Int) {e_ : Ex} {σ_ : Env} (ht : T.ok (fun x_ => x_ = (e_, σ_)) (
 T.ite (decide (v10 < (↑(List.length xs) : Int)))
 (T.ob (0 ≤ v10 ∧ v10 < (↑(List.length xs) : Int))
 (T.ob (0 ≤ v10 ∧ v10 < (↑(List.length ys) : Int))
 (T.leaf (Ex.normal, h_impl_dot_L0 xs ys (fadd .f32 sum (fmul .f32 (List.getD xs (Int.toNat v10) 0) (List.getD ys (Int.toNat v10) 0))) (wrap .i64 (v10 + 1))))))
 (T.leaf (Ex.exit 0, h_impl_dot_L0 xs ys sum v10)))) :
 Exec VC ps_impl_dot (b_impl_dot_L0) (h_impl_dot_L0 xs ys sum v10) e_ σ_ := evL_of (lv := lv_impl_dot_L0) (rs := [4]) (O := ⟨fun _ _ => .fail, fun _ _ => none⟩) (by kernel_rfl) ht

theorem q_impl_dot {P : Program} {g_f : FuncId} (h_ : Is_impl_dot P g_f) (xs : List Nat) (ys : List Nat) (ht : T.ok (fun x_ => x_ = .f .f32 (dotM xs ys)) (
 T.ob (Exec (VCall P) ps_impl_dot (VCode.block 0 (VCode.loop b_impl_dot_L0)) (h_impl_dot_L0 xs ys 0 0) Ex.normal (h_impl_dot_L0 xs ys (dotM xs ys) (↑(List.length xs) : Int))) (T.leaf (AV.f .f32 (dotM xs ys))))) :
 VCall P g_f [PS [0] .f32 xs, PS [1] .f32 ys] (.f .f32 (dotM xs ys)) := h_.call_of ps_impl_dot ⟨fun _ _ => .fail, fun id σ => match id with | 0 => some (lv_impl_dot_L0, .leaf (.normal, h_impl_dot_L0 xs ys (dotM xs ys) xs.length)) | _ => none⟩ (by kernel_rfl) ht

-- END impl_dot

-- FN impl_lessOne
def ps_impl_lessOne : List Nat := [0, 1, 4, 5, 7, 9, 10, 11, 12]
def lv_impl_lessOne_L0 : List Nat := [1, 5, 9, 10, 11]
def b_impl_lessOne_L0 : VCode :=
 (.seq
 (.region false [
 ⟨some 12, (.bin .lss), [.t 11, .t 10], none⟩])
 (.seq
 (.cond (.t 12)
 .skip
 (.exit 0))
 (.seq
 (.block 1
 (.seq
 (.region false [
 ⟨some 13, .iaddr, [.t 9, .t 11], none⟩,
 ⟨some 14, .load, [.t 13], none⟩,
 ⟨some 7, .mv, [.t 14], none⟩])
 (.region false [
 ⟨some 15, .mv, [.t 5], none⟩,
 ⟨some 16, .mv, [.t 7], none⟩,
 ⟨some 17, .mv, [.t 1], none⟩,
 ⟨some 18, (.bin .sub), [.t 16, .t 17], none⟩,
 ⟨some 19, (.lit true (.f .f32 [])), [.t 18], none⟩,
 ⟨some 20, .app, [.t 15, .t 19], none⟩,
 ⟨some 5, .mv, [.t 20], none⟩])))
 (.region false [
 ⟨some 21, (.bin .add), [.t 11, .k (.i .i64 1)], none⟩,
 ⟨some 11, .mv, [.t 21], none⟩]))))

def b_impl_lessOne : VCode :=
 (.seq
 (.region false [
 ⟨some 4, (.nilsl (.f .f32 [])), [], none⟩])
 (.seq
 (.region false [
 ⟨some 8, (.lit true (.f .f32 [])), [], none⟩,
 ⟨some 5, .mv, [.t 8], none⟩])
 (.seq
 (.seq
 (.region false [
 ⟨some 9, .mv, [.t 0], none⟩,
 ⟨some 10, .len, [.t 9], none⟩,
 ⟨some 11, .mv, [.k (.i .i64 0)], none⟩])
 (.block 0 (.loop b_impl_lessOne_L0)))
 (.seq
 (.region false [
 ⟨some 22, .mv, [.t 5], none⟩,
 ⟨some 4, .mv, [.t 22], none⟩])
 .ret))))

abbrev Is_impl_lessOne (P : Program) (g_f : FuncId) : Prop := FnIs P g_f 23 [.t 4] (b_impl_lessOne)

abbrev C_impl_lessOne (P : Program) (g_f : FuncId) : Prop := ∀ (xs : List Nat) (m : Nat) (hx : xs.length ≤ 4294967295), VCall P g_f [PS [0] .f32 xs, .f .f32 m] (OS 0 .f32 (lessOneM xs m))
def oc1_impl_lessOne (as : List AV) : T AV := match as with | [.sl _ _ (.f .f32 xs), .f .f32 m] => .leaf (OS 0 .f32 (lessOneM xs m)) | _ => .fail
def h_impl_lessOne_L0 (xs : List Nat) (m : Nat) (out : List Nat) (v11 : Int) : Env := [.any, AV.f .f32 m, .any, .any, .any, .sl (Tag.own 64) 0 (.f .f32 out), .any, .any, .any, AV.sl (Tag.par [0]) 0 (Cont.f .f32 xs), AV.i .i64 (↑(List.length xs) : Int), .i .i64 v11] ++ anys 11

theorem q_impl_lessOne_L0 {VC : FuncId → List AV → AV → Prop} (xs : List Nat) (m : Nat) (out : List Nat) (v11 : Int) {e_ : Ex} {σ_ : Env} (ht : T.ok (fun x_ => x_ = (e_, σ_)) (
 T.ite (decide (v11 < (↑(List.length xs) : Int)))
 (T.ob (0 ≤ v11 ∧ v11 < (↑(List.length xs) : Int))
 (T.ob (List.length out + List.length [fsub .f32 (List.getD xs (Int.toNat v11) 0) m] ≤ 4294967296)
 (T.leaf (Ex.normal, h_impl_lessOne_L0 xs m (out ++ [fsub .f32 (List.getD xs (Int.toNat v11) 0) m]) (wrap .i64 (v11 + 1))))))
 (T.leaf (Ex.exit 0, h_impl_lessOne_L0 xs m out v11)))) :
 Exec VC ps_impl_lessOne (b_impl_lessOne_L0) (h_impl_lessOne_L0 xs m out v11) e_ σ_ := evL_of (lv := lv_impl_lessOne_L0) (rs := [4]) (O := ⟨fun _ _ => .fail, fun _ _ => none⟩) (by kernel_rfl) ht

theorem q_impl_lessOne {P : Program} {g_f : FuncId} (h_ : Is_impl_lessOne P g_f) (xs : List Nat) (m : Nat) (ht : T.ok (fun x_ => x_ = OS 0 .f32 (lessOneM xs m)) (
 T.ob (Exec (VCall P) ps_impl_lessOne (VCode.block 0 (VCode.loop b_impl_lessOne_L0)) (h_impl_lessOne_L0 xs m [] 0) Ex.normal (h_impl_lessOne_L0 xs m (lessOneM xs m) (↑(List.length xs) : Int)))
 (T.leaf (AV.sl (Tag.own 0) 0 (Cont.f .f32 (lessOneM xs m)))))) :
 VCall P g_f [PS [0] .f32 xs, .f .f32 m] (OS 0 .f32 (lessOneM xs m)) := h_.call_of ps_impl_lessOne ⟨fun _ _ => .fail, fun id σ => match id with | 0 => some (lv_impl_lessOne_L0, .leaf (.normal, h_impl_lessOne_L0 xs m (lessOneM xs m) xs.length)) | _ => none⟩ (by kernel_rfl) ht

-- END impl_lessOne



-- FN impl_moving
-- END impl_moving



-- FN impl_isSide
-- END impl_isSide



theorem k_impl_addUp {P : Program} {f : FuncId} (h : Is_impl_addUp P f) : C_impl_addUp P f := by
  intro xs hx
  refine q_impl_addUp h xs ?_
  have hm := ml64 hx
  refine ⟨?_, fun _ => rfl⟩
  refine for_up (e := .exit 0) (xs.length) (fun i => h_impl_addUp_L0 xs (accN (fun i s => fadd .f32 s (xs.getD i 0)) i 0) i) (by first | rfl | simp) (fun i hi => ?_) ?_
  · refine q_impl_addUp_L0 _ _ _ ?_
    repeat' (first | with_reducible refine T.ok_ob ?_ (fun _ => ?_) | with_reducible refine T.ok_ite (fun _ => ?_) (fun _ => ?_) | with_reducible refine T.ok_leaf ?_)
    all_goals (try simp only [decide_eq_true_eq, decide_eq_false_iff_not, Bool.not_eq_true', Bool.not_eq_false', Bool.not_eq_eq_eq_not, Bool.not_true, Bool.not_false, Int.toNat_natCast, tab_len, List.length_append, List.length_singleton, List.length_cons, List.length_nil, List.length_drop, List.length_take, getD_drop', getD_nat, reduceCtorEq] at *)
    all_goals (try simp (disch := omega) only [wrap64_id] at *)
    all_goals first | omega | (exfalso; omega) | trivial | contradiction | (exfalso; simp_all; done) | skip
    all_goals first | rfl | (rw [tab_succ]; rfl)
  · refine q_impl_addUp_L0 _ _ _ ?_
    repeat' (first | with_reducible refine T.ok_ob ?_ (fun _ => ?_) | with_reducible refine T.ok_ite (fun _ => ?_) (fun _ => ?_) | with_reducible refine T.ok_leaf ?_)
    all_goals (try simp only [decide_eq_true_eq, decide_eq_false_iff_not, Bool.not_eq_true', Bool.not_eq_false', Bool.not_eq_eq_eq_not, Bool.not_true, Bool.not_false, Int.toNat_natCast, tab_len, List.length_append, List.length_singleton, List.length_cons, List.length_nil, List.length_drop, List.length_take, getD_drop', getD_nat, reduceCtorEq] at *)
    all_goals (try simp (disch := omega) only [wrap64_id] at *)
    all_goals first | omega | (exfalso; omega) | trivial | contradiction | (exfalso; simp_all; done) | skip
    all_goals rfl
  repeat' (first | with_reducible refine T.ok_ob ?_ (fun _ => ?_) | with_reducible refine T.ok_ite (fun _ => ?_) (fun _ => ?_) | with_reducible refine T.ok_leaf ?_)
  all_goals first | with_reducible rfl | with_reducible assumption | contradiction | exact fconvOk_32_64 _ | assumption | exact rfl | (simp_all []; done) | (simp_all [T.ok]; omega)

theorem k_impl_mean {P : Program} {f g_impl_addUp : FuncId} (h : Is_impl_mean P f g_impl_addUp) (c1 : C_impl_addUp P g_impl_addUp) : C_impl_mean P f := by
  intro xs hx
  refine q_impl_mean h xs ?_
  repeat' (first | with_reducible refine T.ok_ob ?_ (fun _ => ?_) | with_reducible refine T.ok_ite (fun _ => ?_) (fun _ => ?_) | with_reducible refine T.ok_leaf ?_)
  all_goals first | with_reducible rfl | with_reducible assumption | ((with_reducible refine c1 _ ?_) <;> (first | assumption | omega | with_reducible rfl | (simp [maxLen_eq]; done) | (simp [maxLen_eq]; omega))) | contradiction | exact fconvOk_32_64 _ | assumption | exact rfl | (simp_all []; done) | (simp_all [T.ok]; omega)

theorem k_impl_dot {P : Program} {f : FuncId} (h : Is_impl_dot P f) : C_impl_dot P f := by
  intro xs ys hy hx
  refine q_impl_dot h xs ys ?_
  have hm := ml64 hx
  refine ⟨?_, fun _ => rfl⟩
  refine for_up (e := .exit 0) (xs.length) (fun i => h_impl_dot_L0 xs ys (accN (fun i s => fadd .f32 s (fmul .f32 (xs.getD i 0) (ys.getD i 0))) i 0) i) (by first | rfl | simp) (fun i hi => ?_) ?_
  · refine q_impl_dot_L0 _ _ _ _ ?_
    repeat' (first | with_reducible refine T.ok_ob ?_ (fun _ => ?_) | with_reducible refine T.ok_ite (fun _ => ?_) (fun _ => ?_) | with_reducible refine T.ok_leaf ?_)
    all_goals (try simp only [decide_eq_true_eq, decide_eq_false_iff_not, Bool.not_eq_true', Bool.not_eq_false', Bool.not_eq_eq_eq_not, Bool.not_true, Bool.not_false, Int.toNat_natCast, tab_len, List.length_append, List.length_singleton, List.length_cons, List.length_nil, List.length_drop, List.length_take, getD_drop', getD_nat, reduceCtorEq] at *)
    all_goals (try simp (disch := omega) only [wrap64_id] at *)
    all_goals first | omega | (exfalso; omega) | trivial | contradiction | (exfalso; simp_all; done) | skip
    all_goals first | rfl | (rw [tab_succ]; rfl)
  · refine q_impl_dot_L0 _ _ _ _ ?_
    repeat' (first | with_reducible refine T.ok_ob ?_ (fun _ => ?_) | with_reducible refine T.ok_ite (fun _ => ?_) (fun _ => ?_) | with_reducible refine T.ok_leaf ?_)
    all_goals (try simp only [decide_eq_true_eq, decide_eq_false_iff_not, Bool.not_eq_true', Bool.not_eq_false', Bool.not_eq_eq_eq_not, Bool.not_true, Bool.not_false, Int.toNat_natCast, tab_len, List.length_append, List.length_singleton, List.length_cons, List.length_nil, List.length_drop, List.length_take, getD_drop', getD_nat, reduceCtorEq] at *)
    all_goals (try simp (disch := omega) only [wrap64_id] at *)
    all_goals first | omega | (exfalso; omega) | trivial | contradiction | (exfalso; simp_all; done) | skip
    all_goals rfl
  repeat' (first | with_reducible refine T.ok_ob ?_ (fun _ => ?_) | with_reducible refine T.ok_ite (fun _ => ?_) (fun _ => ?_) | with_reducible refine T.ok_leaf ?_)
  all_goals first | with_reducible rfl | with_reducible assumption | contradiction | exact fconvOk_32_64 _ | assumption | exact rfl | (simp_all []; done) | (simp_all [T.ok]; omega)

theorem k_impl_lessOne {P : Program} {f : FuncId} (h : Is_impl_lessOne P f) : C_impl_lessOne P f := by
  intro xs m hx
  refine q_impl_lessOne h xs m ?_
  refine ⟨?_, fun _ => rfl⟩
  refine for_up (e := .exit 0) (xs.length) (fun i => h_impl_lessOne_L0 xs m (tab i fun i => fsub .f32 (xs.getD i 0) m) i) (by first | rfl | simp) (fun i hi => ?_) ?_
  · refine q_impl_lessOne_L0 _ _ _ _ ?_
    repeat' (first | with_reducible refine T.ok_ob ?_ (fun _ => ?_) | with_reducible refine T.ok_ite (fun _ => ?_) (fun _ => ?_) | with_reducible refine T.ok_leaf ?_)
    all_goals (try simp only [decide_eq_true_eq, decide_eq_false_iff_not, Bool.not_eq_true', Bool.not_eq_false', Bool.not_eq_eq_eq_not, Bool.not_true, Bool.not_false, Int.toNat_natCast, tab_len, List.length_append, List.length_singleton, List.length_cons, List.length_nil, List.length_drop, List.length_take, getD_drop', getD_nat, reduceCtorEq] at *)
    all_goals (try simp (disch := omega) only [wrap64_id] at *)
    all_goals first | omega | (exfalso; omega) | trivial | contradiction | (exfalso; simp_all; done) | skip
    all_goals first | rfl | (rw [tab_succ]; rfl)
  · refine q_impl_lessOne_L0 _ _ _ _ ?_
    repeat' (first | with_reducible refine T.ok_ob ?_ (fun _ => ?_) | with_reducible refine T.ok_ite (fun _ => ?_) (fun _ => ?_) | with_reducible refine T.ok_leaf ?_)
    all_goals (try simp only [decide_eq_true_eq, decide_eq_false_iff_not, Bool.not_eq_true', Bool.not_eq_false', Bool.not_eq_eq_eq_not, Bool.not_true, Bool.not_false, Int.toNat_natCast, tab_len, List.length_append, List.length_singleton, List.length_cons, List.length_nil, List.length_drop, List.length_take, getD_drop', getD_nat, reduceCtorEq] at *)
    all_goals (try simp (disch := omega) only [wrap64_id] at *)
    all_goals first | omega | (exfalso; omega) | trivial | contradiction | (exfalso; simp_all; done) | skip
    all_goals rfl
  repeat' (first | with_reducible refine T.ok_ob ?_ (fun _ => ?_) | with_reducible refine T.ok_ite (fun _ => ?_) (fun _ => ?_) | with_reducible refine T.ok_leaf ?_)
  all_goals first | with_reducible rfl | with_reducible assumption | contradiction | exact fconvOk_32_64 _ | assumption | exact rfl | (simp_all []; done) | (simp_all [T.ok]; omega)

theorem lessOne_len (xs : List Nat) (m : Nat) : (lessOneM xs m).length = xs.length := tab_len _ _
theorem lessOne_get (xs : List Nat) (m i : Nat) (h : i < xs.length) : (lessOneM xs m).getD i 0 = fsub .f32 (xs.getD i 0) m := tab_get _ _ _ _ h
end Go.Proofs.LV
