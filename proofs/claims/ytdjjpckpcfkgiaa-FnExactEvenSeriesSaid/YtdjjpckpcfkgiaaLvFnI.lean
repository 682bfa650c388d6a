/- Fits by weights, steps, seasons, the best period, likenesses of a series with itself, guesses ahead. -/
import Derived.Test.YtdjjpckpcfkgiaaLvFnG
namespace Go.Proofs.LV
open Go
set_option linter.unusedVariables false
set_option linter.unusedSimpArgs false

def weighedM (ws a b : List Nat) : Nat := accN (fun i s => fadd .f32 s (fmul .f32 (fmul .f32 (ws.getD i 0) (a.getD i 0)) (b.getD i 0))) ws.length 0
def wfX (x ws : List Nat) : Nat := fdiv .f32 (dotM ws x) (sumM ws)
def wfU (x ws : List Nat) : List Nat := lessOneM x (wfX x ws)
def wfDown (x ws : List Nat) : Nat := weighedM ws (wfU x ws) (wfU x ws)
def wfSlope (x y ws : List Nat) : Nat := fdiv .f32 (weighedM ws (wfU x ws) (wfU y ws)) (wfDown x ws)
def wfBase (x y ws : List Nat) : Nat := fsub .f32 (wfX y ws) (fmul .f32 (wfSlope x y ws) (wfX x ws))
def wfOk (x y ws : List Nat) : Bool := twoM x y && (twoM x ws && (notLessM ws && (fgt .f32 (sumM ws) 0 && (!feq .f32 (wfDown x ws) 0 && (finM (wfBase x y ws) && finM (wfSlope x y ws))))))




/-! ### steps -/
def squaresM (xs : List Nat) : Nat := dotM (lessOneM xs (meanM xs)) (lessOneM xs (meanM xs))
def stepSum (xs : List Nat) (i : Nat) : Nat := fadd .f32 (squaresM (xs.take i)) (squaresM (xs.drop i))
def stepAt (xs : List Nat) : Nat → Nat × Nat
  | 0 => (0, 0)
  | j + 1 => if ((stepAt xs j).1 == 0 || flt .f32 (stepSum xs (j + 1)) (stepAt xs j).2) = true then (j + 1, stepSum xs (j + 1)) else stepAt xs j
def stepBest (xs : List Nat) : Nat := (stepAt xs (xs.length - 1)).1
def stepBy (xs : List Nat) : Nat := fsub .f32 (meanM (xs.drop (stepBest xs))) (meanM (xs.take (stepBest xs)))
def stepFin (xs : List Nat) : Bool := allN (xs.length - 1) fun i => finM (stepSum xs (i + 1))
def stepOk (xs : List Nat) : Bool := seriesM xs && (decide (2 ≤ xs.length) && (stepFin xs && finM (stepBy xs)))

-- FN impl_squares
/-- impl.squares: slots 11, results [.t 2]; calls [6:g_impl_mean, 7:g_impl_lessOne, 10:g_impl_dot]; names [(list, 0), (list, 1), (rest, 3)] -/
def ps_impl_squares : List Nat := [0, 2, 3]
def b_impl_squares (g_impl_mean g_impl_lessOne g_impl_dot : FuncId) : VCode :=
  (.seq
   (.region false [
    ⟨some 2, .mv, [.k (.f .f32 0)], none⟩])
   (.seq
    (.region false [
     ⟨some 4, .mv, [.t 0], none⟩,
     ⟨some 5, .mv, [.t 0], none⟩,
     ⟨some 6, (.call g_impl_mean), [.t 5], none⟩,
     ⟨some 7, (.call g_impl_lessOne), [.t 4, .t 6], none⟩,
     ⟨some 3, .mv, [.t 7], none⟩])
    (.seq
     (.region false [
      ⟨some 8, .mv, [.t 3], none⟩,
      ⟨some 9, .mv, [.t 3], none⟩,
      ⟨some 10, (.call g_impl_dot), [.t 8, .t 9], none⟩,
      ⟨some 2, .mv, [.t 10], none⟩])
     .ret)))

abbrev Is_impl_squares (P : Program) (g_f : FuncId) (g_impl_mean g_impl_lessOne g_impl_dot : FuncId) : Prop := FnIs P g_f 11 [.t 2] (b_impl_squares g_impl_mean g_impl_lessOne g_impl_dot)

abbrev C_impl_squares (P : Program) (g_f : FuncId) : Prop := ∀ (xs : List Nat) (hx : xs.length ≤ 96), VCall P g_f [PS [0] .f32 xs] (.f .f32 (squaresM xs))
def oc1_impl_squares (as : List AV) : T AV := match as with | [.sl _ _ (.f .f32 xs)] => .leaf (.f .f32 (squaresM xs)) | _ => .fail
def oc_impl_squares (xs : List Nat) (d : Nat) (as : List AV) : T AV := match d with | 6 => oc1_impl_mean as | 7 => oc1_impl_lessOne as | 10 => oc1_impl_dot as | _ => .fail



theorem q_impl_squares {P : Program} {g_f : FuncId} {g_impl_mean g_impl_lessOne g_impl_dot : FuncId} (h_ : Is_impl_squares P g_f g_impl_mean g_impl_lessOne g_impl_dot) (xs : List Nat) (ht : T.ok (fun x_ => x_ = .f .f32 (squaresM xs)) (
      T.ob ((VCall P) g_impl_mean [AV.sl (Tag.par [0]) 0 (Cont.f FloatKind.f32 xs)] (AV.f FloatKind.f32 (meanM xs)))
        (T.ob ((VCall P) g_impl_lessOne [AV.sl (Tag.par [0]) 0 (Cont.f FloatKind.f32 xs), AV.f FloatKind.f32 (meanM xs)] (AV.sl (Tag.own 0) 0 (Cont.f FloatKind.f32 (lessOneM xs (meanM xs)))))
          (T.ob
            ((VCall P) g_impl_dot [AV.sl (Tag.par [0]) 0 (Cont.f FloatKind.f32 (lessOneM xs (meanM xs))), AV.sl (Tag.par [1]) 0 (Cont.f FloatKind.f32 (lessOneM xs (meanM xs)))]
              (AV.f FloatKind.f32 (dotM (lessOneM xs (meanM xs)) (lessOneM xs (meanM xs)))))
            (T.leaf (AV.f FloatKind.f32 (dotM (lessOneM xs (meanM xs)) (lessOneM xs (meanM xs))))))))) :
    VCall P g_f [PS [0] .f32 xs] (.f .f32 (squaresM xs)) := h_.call_of ps_impl_squares ⟨oc_impl_squares xs, fun _ _ => none⟩ (by kernel_rfl) ht

-- END impl_squares

-- FN spec_l02Less
/-- spec.l02Less: slots 24, results [.t 4]; calls []; names [(list, 0), (x, 1), (list, 2), (x, 3), (out, 5), (i, 6)] -/
def ps_spec_l02Less : List Nat := [0, 1, 4, 5, 6, 11]
def lv_spec_l02Less_L0 : List Nat := [0, 1, 5, 6]
def b_spec_l02Less_L0 : VCode :=
  (.seq
   (.seq
    (.region false [
     ⟨some 8, .mv, [.t 6], none⟩,
     ⟨some 9, .mv, [.t 0], none⟩,
     ⟨some 10, .len, [.t 9], none⟩,
     ⟨some 11, (.bin .lss), [.t 8, .t 10], none⟩])
    (.cond (.t 11)
     .skip
     (.exit 0)))
   (.seq
    (.block 1
     (.region false [
      ⟨some 14, .mv, [.t 5], none⟩,
      ⟨some 15, .mv, [.t 0], none⟩,
      ⟨some 16, .mv, [.t 6], none⟩,
      ⟨some 17, .iaddr, [.t 15, .t 16], none⟩,
      ⟨some 18, .load, [.t 17], none⟩,
      ⟨some 19, .mv, [.t 1], none⟩,
      ⟨some 20, (.bin .sub), [.t 18, .t 19], none⟩,
      ⟨some 21, (.lit true (.f .f32 [])), [.t 20], none⟩,
      ⟨some 22, .app, [.t 14, .t 21], none⟩,
      ⟨some 5, .mv, [.t 22], none⟩]))
    (.region false [
     ⟨some 12, .mv, [.t 6], none⟩,
     ⟨some 13, (.bin .add), [.t 12, .k (.i .i64 1)], none⟩,
     ⟨some 6, .mv, [.t 13], none⟩])))

def b_spec_l02Less : VCode :=
  (.seq
   (.region false [
    ⟨some 4, (.nilsl (.f .f32 [])), [], none⟩])
   (.seq
    (.region false [
     ⟨some 7, (.lit true (.f .f32 [])), [], none⟩,
     ⟨some 5, .mv, [.t 7], none⟩])
    (.seq
     (.seq
      (.region false [
       ⟨some 6, .mv, [.k (.i .i64 0)], none⟩])
      (.block 0 (.loop b_spec_l02Less_L0)))
     (.seq
      (.region false [
       ⟨some 23, .mv, [.t 5], none⟩,
       ⟨some 4, .mv, [.t 23], none⟩])
      .ret))))

abbrev Is_spec_l02Less (P : Program) (g_f : FuncId) : Prop := FnIs P g_f 24 [.t 4] (b_spec_l02Less)

abbrev C_spec_l02Less (P : Program) (g_f : FuncId) : Prop := ∀ (xs : List Nat) (m : Nat) (hx : xs.length ≤ 4294967295), VCall P g_f [PS [0] .f32 xs, .f .f32 m] (OS 0 .f32 (lessOneM xs m))
def oc1_spec_l02Less (as : List AV) : T AV := match as with | [.sl _ _ (.f .f32 xs), .f .f32 m] => .leaf (OS 0 .f32 (lessOneM xs m)) | _ => .fail
def h_spec_l02Less_L0 (xs : List Nat) (m : Nat) (out : List Nat) (i : Int) : Env := [AV.sl (Tag.par [0]) 0 (Cont.f FloatKind.f32 xs), AV.f FloatKind.f32 m, .any, .any, .any, .sl (Tag.own 56) 0 (.f FloatKind.f32 out), .i IntKind.i64 i] ++ anys 17

theorem q_spec_l02Less_L0 {VC : FuncId → List AV → AV → Prop} (xs : List Nat) (m : Nat) (out : List Nat) (i : Int) {e_ : Ex} {σ_ : Env} (ht : T.ok (fun x_ => x_ = (e_, σ_)) (
      T.ite (decide (i < (↑(List.length xs) : Int)))
        (T.ob (0 ≤ i ∧ i < (↑(List.length xs) : Int))
          (T.ob (List.length out + List.length [fsub FloatKind.f32 (List.getD xs (Int.toNat i) 0) m] ≤ 4294967296)
            (T.leaf (Ex.normal, h_spec_l02Less_L0 xs m (out ++ [fsub FloatKind.f32 (List.getD xs (Int.toNat i) 0) m]) (IntKind.wrap IntKind.i64 (i + 1))))))
        (T.leaf (Ex.exit 0, h_spec_l02Less_L0 xs m out i)))) :
    Exec VC ps_spec_l02Less (b_spec_l02Less_L0) (h_spec_l02Less_L0 xs m out i) e_ σ_ := evL_of (lv := lv_spec_l02Less_L0) (rs := [4]) (O := ⟨fun _ _ => .fail, fun _ _ => none⟩) (by kernel_rfl) ht

theorem q_spec_l02Less {P : Program} {g_f : FuncId} (h_ : Is_spec_l02Less P g_f) (xs : List Nat) (m : Nat) (ht : T.ok (fun x_ => x_ = OS 0 .f32 (lessOneM xs m)) (
      T.ob (Exec (VCall P) ps_spec_l02Less (VCode.block 0 (VCode.loop b_spec_l02Less_L0)) (h_spec_l02Less_L0 xs m [] 0) Ex.normal (h_spec_l02Less_L0 xs m (lessOneM xs m) (↑(List.length xs) : Int)))
        (T.leaf (AV.sl (Tag.own 0) 0 (Cont.f FloatKind.f32 (lessOneM xs m)))))) :
    VCall P g_f [PS [0] .f32 xs, .f .f32 m] (OS 0 .f32 (lessOneM xs m)) := h_.call_of ps_spec_l02Less ⟨fun _ _ => .fail, fun id σ => match id with | 0 => some (lv_spec_l02Less_L0, .leaf (.normal, h_spec_l02Less_L0 xs m (lessOneM xs m) xs.length)) | _ => none⟩ (by kernel_rfl) ht

-- END spec_l02Less

-- FN spec_l02Dot
/-- spec.l02Dot: slots 25, results [.t 4]; calls []; names [(a, 0), (b, 1), (a, 2), (b, 3), (sum, 5), (i, 6)] -/
def ps_spec_l02Dot : List Nat := [0, 1, 4, 5, 6, 10]
def lv_spec_l02Dot_L0 : List Nat := [0, 1, 5, 6]
def b_spec_l02Dot_L0 : VCode :=
  (.seq
   (.seq
    (.region false [
     ⟨some 7, .mv, [.t 6], none⟩,
     ⟨some 8, .mv, [.t 0], none⟩,
     ⟨some 9, .len, [.t 8], none⟩,
     ⟨some 10, (.bin .lss), [.t 7, .t 9], none⟩])
    (.cond (.t 10)
     .skip
     (.exit 0)))
   (.seq
    (.block 1
     (.region true [
      ⟨some 13, .mv, [.t 5], none⟩,
      ⟨some 14, .mv, [.t 0], none⟩,
      ⟨some 15, .mv, [.t 6], none⟩,
      ⟨some 16, .iaddr, [.t 14, .t 15], none⟩,
      ⟨some 17, .load, [.t 16], none⟩,
      ⟨some 18, .mv, [.t 1], none⟩,
      ⟨some 19, .mv, [.t 6], none⟩,
      ⟨some 20, .iaddr, [.t 18, .t 19], none⟩,
      ⟨some 21, .load, [.t 20], none⟩,
      ⟨some 22, (.bin .mul), [.t 17, .t 21], none⟩,
      ⟨some 23, (.bin .add), [.t 13, .t 22], none⟩,
      ⟨some 5, .mv, [.t 23], none⟩]))
    (.region false [
     ⟨some 11, .mv, [.t 6], none⟩,
     ⟨some 12, (.bin .add), [.t 11, .k (.i .i64 1)], none⟩,
     ⟨some 6, .mv, [.t 12], none⟩])))

def b_spec_l02Dot : VCode :=
  (.seq
   (.region false [
    ⟨some 4, .mv, [.k (.f .f32 0)], none⟩])
   (.seq
    (.region false [
     ⟨some 5, .mv, [.k (.f .f32 0)], none⟩])
    (.seq
     (.seq
      (.region false [
       ⟨some 6, .mv, [.k (.i .i64 0)], none⟩])
      (.block 0 (.loop b_spec_l02Dot_L0)))
     (.seq
      (.region false [
       ⟨some 24, .mv, [.t 5], none⟩,
       ⟨some 4, .mv, [.t 24], none⟩])
      .ret))))

abbrev Is_spec_l02Dot (P : Program) (g_f : FuncId) : Prop := FnIs P g_f 25 [.t 4] (b_spec_l02Dot)

abbrev C_spec_l02Dot (P : Program) (g_f : FuncId) : Prop := ∀ (xs : List Nat) (ys : List Nat) (hy : xs.length ≤ ys.length) (hx : xs.length ≤ maxLen), VCall P g_f [PS [0] .f32 xs, PS [1] .f32 ys] (.f .f32 (dotM xs ys))
def oc1_spec_l02Dot (as : List AV) : T AV := match as with | [.sl _ _ (.f .f32 xs), .sl _ _ (.f .f32 ys)] => .leaf (.f .f32 (dotM xs ys)) | _ => .fail
def h_spec_l02Dot_L0 (xs : List Nat) (ys : List Nat) (sum : Nat) (i : Int) : Env := [AV.sl (Tag.par [0]) 0 (Cont.f FloatKind.f32 xs), AV.sl (Tag.par [1]) 0 (Cont.f FloatKind.f32 ys), .any, .any, .any, .f FloatKind.f32 sum, .i IntKind.i64 i] ++ anys 18

theorem q_spec_l02Dot_L0 {VC : FuncId → List AV → AV → Prop} (xs : List Nat) (ys : List Nat) (sum : Nat) (i : Int) {e_ : Ex} {σ_ : Env} (ht : T.ok (fun x_ => x_ = (e_, σ_)) (
      T.ite (decide (i < (↑(List.length xs) : Int)))
        (T.ob (0 ≤ i ∧ i < (↑(List.length xs) : Int))
          (T.ob (0 ≤ i ∧ i < (↑(List.length ys) : Int))
            (T.leaf (Ex.normal, h_spec_l02Dot_L0 xs ys (fadd FloatKind.f32 sum (fmul FloatKind.f32 (List.getD xs (Int.toNat i) 0) (List.getD ys (Int.toNat i) 0))) (IntKind.wrap IntKind.i64 (i + 1))))))
        (T.leaf (Ex.exit 0, h_spec_l02Dot_L0 xs ys sum i)))) :
    Exec VC ps_spec_l02Dot (b_spec_l02Dot_L0) (h_spec_l02Dot_L0 xs ys sum i) e_ σ_ := evL_of (lv := lv_spec_l02Dot_L0) (rs := [4]) (O := ⟨fun _ _ => .fail, fun _ _ => none⟩) (by kernel_rfl) ht

theorem q_spec_l02Dot {P : Program} {g_f : FuncId} (h_ : Is_spec_l02Dot P g_f) (xs : List Nat) (ys : List Nat) (ht : T.ok (fun x_ => x_ = .f .f32 (dotM xs ys)) (
      T.ob (Exec (VCall P) ps_spec_l02Dot (VCode.block 0 (VCode.loop b_spec_l02Dot_L0)) (h_spec_l02Dot_L0 xs ys 0 0) Ex.normal (h_spec_l02Dot_L0 xs ys (dotM xs ys) (↑(List.length xs) : Int)))
        (T.leaf (AV.f FloatKind.f32 (dotM xs ys))))) :
    VCall P g_f [PS [0] .f32 xs, PS [1] .f32 ys] (.f .f32 (dotM xs ys)) := h_.call_of ps_spec_l02Dot ⟨fun _ _ => .fail, fun id σ => match id with | 0 => some (lv_spec_l02Dot_L0, .leaf (.normal, h_spec_l02Dot_L0 xs ys (dotM xs ys) xs.length)) | _ => none⟩ (by kernel_rfl) ht

-- END spec_l02Dot




/-! ### seasons -/
def seasonM (xs : List Nat) (per : Nat) : List Nat := lessOneM (foldM xs per) (meanM (foldM xs per))
def seasonOk (xs : List Nat) (per : Int) : Bool := seriesM xs && (inM per 1 xs.length && finAllM (seasonM xs per.toNat))





/-! ### the best period -/
def bpSum (xs : List Nat) (per : Int) : Nat := leftM xs (foldM xs per.toNat)
def bpAt (xs : List Nat) (low : Int) : Nat → Int × Nat
  | 0 => (0, 0)
  | j + 1 => if ((bpAt xs low j).1 == 0 || flt .f32 (bpSum xs (low + j)) (bpAt xs low j).2) = true then (low + j, bpSum xs (low + j)) else bpAt xs low j
def bpN (low top : Int) : Nat := (top + 1 - low).toNat
def bpFin (xs : List Nat) (low top : Int) : Bool := allN (bpN low top) fun j => foldOk xs (low + j)
def bpOk (xs : List Nat) (low top w : Int) : Bool := seriesM xs && (inM low 2 top && (decide (top ≤ (xs.length / 2 : Nat)) && (inM w 1 8 && bpFin xs low top)))




theorem wf_eq {x y ws : List Nat} (h1 : twoM x y = true) (h2 : twoM x ws = true) (h3 : notLessM ws = true) (h4 : fgt .f32 (sumM ws) 0 = true) (h5 : feq .f32 (wfDown x ws) 0 = false) : wfOk x y ws = (finM (wfBase x y ws) && finM (wfSlope x y ws)) := by
  simp [wfOk, h1, h2, h3, h4, h5]
theorem two_eq {x y : List Nat} : twoM x y = (seriesM x && (seriesM y && decide (x.length = y.length))) := by
  unfold twoM
  have : ((x.length : Int) == (y.length : Int)) = decide (x.length = y.length) := by
    rw [Bool.eq_iff_iff, beq_iff_eq, decide_eq_true_eq]; omega
  rw [this, Bool.and_assoc]
theorem k_spec_l02Less {P : Program} {f : FuncId} (h : Is_spec_l02Less P f) : C_spec_l02Less P f := by
  intro xs m hx
  refine q_spec_l02Less h xs m ?_
  refine ⟨?_, fun _ => rfl⟩
  refine for_up (e := .exit 0) (xs.length) (fun i => h_spec_l02Less_L0 xs m (tab i fun i => fsub .f32 (xs.getD i 0) m) i) (by first | rfl | simp) (fun i hi => ?_) ?_
  · refine q_spec_l02Less_L0 _ _ _ _ ?_
    repeat' (first | with_reducible refine T.ok_ob ?_ (fun _ => ?_) | with_reducible refine T.ok_ite (fun _ => ?_) (fun _ => ?_) | with_reducible refine T.ok_leaf ?_)
    all_goals (try simp only [decide_eq_true_eq, decide_eq_false_iff_not, Bool.not_eq_true', Bool.not_eq_false', Bool.not_eq_eq_eq_not, Bool.not_true, Bool.not_false, Int.toNat_natCast, tab_len, List.length_append, List.length_singleton, List.length_cons, List.length_nil, List.length_drop, List.length_take, getD_drop', getD_nat, reduceCtorEq] at *)
    all_goals (try simp (disch := omega) only [wrap64_id] at *)
    all_goals first | omega | (exfalso; omega) | trivial | contradiction | (exfalso; simp_all; done) | skip
    all_goals first | rfl | (rw [tab_succ]; rfl)
  · refine q_spec_l02Less_L0 _ _ _ _ ?_
    repeat' (first | with_reducible refine T.ok_ob ?_ (fun _ => ?_) | with_reducible refine T.ok_ite (fun _ => ?_) (fun _ => ?_) | with_reducible refine T.ok_leaf ?_)
    all_goals (try simp only [decide_eq_true_eq, decide_eq_false_iff_not, Bool.not_eq_true', Bool.not_eq_false', Bool.not_eq_eq_eq_not, Bool.not_true, Bool.not_false, Int.toNat_natCast, tab_len, List.length_append, List.length_singleton, List.length_cons, List.length_nil, List.length_drop, List.length_take, getD_drop', getD_nat, reduceCtorEq] at *)
    all_goals (try simp (disch := omega) only [wrap64_id] at *)
    all_goals first | omega | (exfalso; omega) | trivial | contradiction | (exfalso; simp_all; done) | skip
    all_goals rfl
  repeat' (first | with_reducible refine T.ok_ob ?_ (fun _ => ?_) | with_reducible refine T.ok_ite (fun _ => ?_) (fun _ => ?_) | with_reducible refine T.ok_leaf ?_)
  all_goals first | with_reducible rfl | with_reducible assumption | contradiction | exact fconvOk_32_64 _ | assumption | exact rfl | (simp_all []; done) | (simp_all [T.ok]; omega)

theorem k_spec_l02Dot {P : Program} {f : FuncId} (h : Is_spec_l02Dot P f) : C_spec_l02Dot P f := by
  intro xs ys hy hx
  refine q_spec_l02Dot h xs ys ?_
  have hm := ml64 hx
  refine ⟨?_, fun _ => rfl⟩
  refine for_up (e := .exit 0) (xs.length) (fun i => h_spec_l02Dot_L0 xs ys (accN (fun i s => fadd .f32 s (fmul .f32 (xs.getD i 0) (ys.getD i 0))) i 0) i) (by first | rfl | simp) (fun i hi => ?_) ?_
  · refine q_spec_l02Dot_L0 _ _ _ _ ?_
    repeat' (first | with_reducible refine T.ok_ob ?_ (fun _ => ?_) | with_reducible refine T.ok_ite (fun _ => ?_) (fun _ => ?_) | with_reducible refine T.ok_leaf ?_)
    all_goals (try simp only [decide_eq_true_eq, decide_eq_false_iff_not, Bool.not_eq_true', Bool.not_eq_false', Bool.not_eq_eq_eq_not, Bool.not_true, Bool.not_false, Int.toNat_natCast, tab_len, List.length_append, List.length_singleton, List.length_cons, List.length_nil, List.length_drop, List.length_take, getD_drop', getD_nat, reduceCtorEq] at *)
    all_goals (try simp (disch := omega) only [wrap64_id] at *)
    all_goals first | omega | (exfalso; omega) | trivial | contradiction | (exfalso; simp_all; done) | skip
    all_goals first | rfl | (rw [tab_succ]; rfl)
  · refine q_spec_l02Dot_L0 _ _ _ _ ?_
    repeat' (first | with_reducible refine T.ok_ob ?_ (fun _ => ?_) | with_reducible refine T.ok_ite (fun _ => ?_) (fun _ => ?_) | with_reducible refine T.ok_leaf ?_)
    all_goals (try simp only [decide_eq_true_eq, decide_eq_false_iff_not, Bool.not_eq_true', Bool.not_eq_false', Bool.not_eq_eq_eq_not, Bool.not_true, Bool.not_false, Int.toNat_natCast, tab_len, List.length_append, List.length_singleton, List.length_cons, List.length_nil, List.length_drop, List.length_take, getD_drop', getD_nat, reduceCtorEq] at *)
    all_goals (try simp (disch := omega) only [wrap64_id] at *)
    all_goals first | omega | (exfalso; omega) | trivial | contradiction | (exfalso; simp_all; done) | skip
    all_goals rfl
  repeat' (first | with_reducible refine T.ok_ob ?_ (fun _ => ?_) | with_reducible refine T.ok_ite (fun _ => ?_) (fun _ => ?_) | with_reducible refine T.ok_leaf ?_)
  all_goals first | with_reducible rfl | with_reducible assumption | contradiction | exact fconvOk_32_64 _ | assumption | exact rfl | (simp_all []; done) | (simp_all [T.ok]; omega)

theorem k_impl_squares {P : Program} {f g_impl_mean g_impl_lessOne g_impl_dot : FuncId} (h : Is_impl_squares P f g_impl_mean g_impl_lessOne g_impl_dot) (c1 : C_impl_mean P g_impl_mean) (c2 : C_impl_lessOne P g_impl_lessOne) (c3 : C_impl_dot P g_impl_dot) : C_impl_squares P f := by
  intro xs hx
  refine q_impl_squares h xs ?_
  have l1 := lessOne_len xs (meanM xs)
  repeat' (first | with_reducible refine T.ok_ob ?_ (fun _ => ?_) | with_reducible refine T.ok_ite (fun _ => ?_) (fun _ => ?_) | with_reducible refine T.ok_leaf ?_)
  all_goals first | with_reducible rfl | with_reducible assumption | ((with_reducible refine c1 _ ?_) <;> (first | assumption | omega | with_reducible rfl | (simp [maxLen_eq]; done) | (simp [maxLen_eq]; omega))) | ((with_reducible refine c2 _ _ ?_) <;> (first | assumption | omega | with_reducible rfl | (simp [maxLen_eq]; done) | (simp [maxLen_eq]; omega))) | ((with_reducible refine c3 _ _ ?_ ?_) <;> (first | assumption | omega | with_reducible rfl | (simp [maxLen_eq]; done) | (simp [maxLen_eq]; omega))) | contradiction | exact fconvOk_32_64 _ | assumption | exact rfl | (simp_all []; done) | (simp_all [T.ok]; omega)

theorem step_le (xs : List Nat) : ∀ j, (stepAt xs j).1 ≤ j
  | 0 => Nat.le_refl _
  | j + 1 => by
    have := step_le xs j
    simp only [stepAt]
    split
    · exact Nat.le_refl _
    · omega
theorem step_pos (xs : List Nat) : ∀ j, 1 ≤ j → 1 ≤ (stepAt xs j).1
  | 0, h => by omega
  | j + 1, _ => by
    simp only [stepAt]
    split
    · simp
    · rename_i h
      simp at h; omega
theorem season_len (xs : List Nat) (per : Nat) : (seasonM xs per).length = per := by unfold seasonM; rw [lessOne_len, fold_len]
end Go.Proofs.LV
