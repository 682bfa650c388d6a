/- The laws FnExactWorkDays, WorkDayBehind. -/
import Derived.Test.YtkcgiakliiadoaaLvFnH
import Derived.Test.YtkcgiakliiadoaaLvLawB
namespace Go.Proofs.LV
open Go
set_option linter.unusedVariables false
set_option linter.unusedSimpArgs false

/-- laws.FnExactWorkDays: slots 45, results [.t 6]; calls [19:g_laws_toInt64S, 20:g_spec_WorkDays, 24:g_laws_toInt64S, 29:g_impl_WorkDays, 42:g_laws_toInt64S, 43:g_laws_eqInt64S]; names [(aFrom, 0), (aTo, 1), (aFeasts, 2), (aFrom, 3), (aTo, 4), (aFeasts, 5), (w0, 7), (w1, 8), (x2, 9), (g0, 10), (g1, 11)] -/
def ps_laws_FnExactWorkDays : List Nat := [0, 1, 2, 6, 7, 8, 9, 10, 11, 14, 39, 44]
def b_laws_FnExactWorkDays (g_laws_toInt64S g_spec_WorkDays g_impl_WorkDays g_laws_eqInt64S : FuncId) : VCode :=
  (.seq
   (.region false [
    ⟨some 6, .mv, [.k (.b false)], none⟩])
   (.seq
    (.seq
     (.region false [
      ⟨some 12, .mv, [.t 2], none⟩,
      ⟨some 13, .len, [.t 12], none⟩,
      ⟨some 14, (.bin .gtr), [.t 13, .k (.i .i64 1048576)], none⟩])
     (.cond (.t 14)
      (.seq
       (.region false [
        ⟨some 6, .mv, [.k (.b true)], none⟩])
       .ret)
      .skip))
    (.seq
     (.region false [
      ⟨some 16, .mv, [.t 0], none⟩,
      ⟨some 17, .mv, [.t 1], none⟩,
      ⟨some 18, .mv, [.t 2], none⟩,
      ⟨some 19, (.call g_laws_toInt64S), [.t 18], none⟩,
      ⟨some 20, (.call g_spec_WorkDays), [.t 16, .t 17, .t 19], none⟩,
      ⟨some 15, .mv, [.t 20], none⟩,
      ⟨some 21, (.extract 0), [.t 15], none⟩,
      ⟨some 22, (.extract 1), [.t 15], none⟩,
      ⟨some 7, .mv, [.t 21], none⟩,
      ⟨some 8, .mv, [.t 22], none⟩])
     (.seq
      (.region false [
       ⟨some 23, .mv, [.t 2], none⟩,
       ⟨some 24, (.call g_laws_toInt64S), [.t 23], none⟩,
       ⟨some 9, .mv, [.t 24], none⟩])
      (.seq
       (.region false [
        ⟨some 26, .mv, [.t 0], none⟩,
        ⟨some 27, .mv, [.t 1], none⟩,
        ⟨some 28, .mv, [.t 9], none⟩,
        ⟨some 29, (.call g_impl_WorkDays), [.t 26, .t 27, .t 28], none⟩,
        ⟨some 25, .mv, [.t 29], none⟩,
        ⟨some 30, (.extract 0), [.t 25], none⟩,
        ⟨some 31, (.extract 1), [.t 25], none⟩,
        ⟨some 10, .mv, [.t 30], none⟩,
        ⟨some 11, .mv, [.t 31], none⟩])
       (.seq
        (.seq
         (.region false [
          ⟨some 32, .mv, [.t 10], none⟩,
          ⟨some 33, .mv, [.t 7], none⟩,
          ⟨some 34, (.bin .neq), [.t 32, .t 33], none⟩,
          ⟨some 35, .mv, [.t 34], none⟩,
          ⟨some 36, .mv, [.t 11], some (35, false)⟩,
          ⟨some 37, .mv, [.t 8], some (35, false)⟩,
          ⟨some 38, (.binb .neq), [.t 36, .t 37], some (35, false)⟩,
          ⟨some 39, .pick, [.t 35, .k (.b true), .t 38], none⟩])
         (.cond (.t 39)
          (.seq
           (.region false [
            ⟨some 6, .mv, [.k (.b false)], none⟩])
           .ret)
          .skip))
        (.seq
         (.seq
          (.region false [
           ⟨some 40, .mv, [.t 9], none⟩,
           ⟨some 41, .mv, [.t 2], none⟩,
           ⟨some 42, (.call g_laws_toInt64S), [.t 41], none⟩,
           ⟨some 43, (.call g_laws_eqInt64S), [.t 40, .t 42], none⟩,
           ⟨some 44, .not, [.t 43], none⟩])
          (.cond (.t 44)
           (.seq
            (.region false [
             ⟨some 6, .mv, [.k (.b false)], none⟩])
            .ret)
           .skip))
         (.seq
          (.region false [
           ⟨some 6, .mv, [.k (.b true)], none⟩])
          .ret))))))))

abbrev Is_laws_FnExactWorkDays (P : Program) (g_f : FuncId) (g_laws_toInt64S g_spec_WorkDays g_impl_WorkDays g_laws_eqInt64S : FuncId) : Prop := FnIs P g_f 45 [.t 6] (b_laws_FnExactWorkDays g_laws_toInt64S g_spec_WorkDays g_impl_WorkDays g_laws_eqInt64S)

abbrev C_laws_FnExactWorkDays (P : Program) (g_f : FuncId) : Prop := ∀ (a : Int) (b : Int) (xs : List Int) (hx : xs.length ≤ maxLen), VCall P g_f [.i .i64 a, .i .i64 b, PI [2] xs] (.b true)
def oc1_laws_FnExactWorkDays (as : List AV) : T AV := match as with | [.i .i64 a, .i .i64 b, .sl _ _ (.i _ xs)] => .leaf (.b true) | _ => .fail
def oc_laws_FnExactWorkDays (a : Int) (b : Int) (xs : List Int) (d : Nat) (as : List AV) : T AV := match d with | 19 => oc1_laws_toInt64S as | 20 => oc1_spec_WorkDays as | 24 => oc1_laws_toInt64S as | 29 => oc1_impl_WorkDays as | 42 => oc1_laws_toInt64S as | 43 => oc1_laws_eqInt64S as | _ => .fail



theorem q_laws_FnExactWorkDays {P : Program} {g_f : FuncId} {g_laws_toInt64S g_spec_WorkDays g_impl_WorkDays g_laws_eqInt64S : FuncId} (h_ : Is_laws_FnExactWorkDays P g_f g_laws_toInt64S g_spec_WorkDays g_impl_WorkDays g_laws_eqInt64S) (a : Int) (b : Int) (xs : List Int) (ht : T.ok (fun x_ => x_ = .b true) (
      T.ite (decide ((↑(List.length xs) : Int) > 1048576)) (T.leaf (AV.b true))
        (T.ob ((VCall P) g_laws_toInt64S [AV.sl (Tag.par [0]) 0 (Cont.i IntKind.i64 xs)] (AV.sl (Tag.own 0) 0 (Cont.i IntKind.i64 xs)))
          (T.ob
            ((VCall P) g_spec_WorkDays [AV.i IntKind.i64 a, AV.i IntKind.i64 b, AV.sl (Tag.par [2]) 0 (Cont.i IntKind.i64 xs)] (AV.tup [AV.i IntKind.i64 (if wdOk xs a b = true then wdM xs a (wdLen a b) else 0), AV.b (wdOk xs a b)]))
            (T.ob ((VCall P) g_laws_toInt64S [AV.sl (Tag.par [0]) 0 (Cont.i IntKind.i64 xs)] (AV.sl (Tag.own 0) 0 (Cont.i IntKind.i64 xs)))
              (T.ob
                ((VCall P) g_impl_WorkDays [AV.i IntKind.i64 a, AV.i IntKind.i64 b, AV.sl (Tag.par [2]) 0 (Cont.i IntKind.i64 xs)]
                  (AV.tup [AV.i IntKind.i64 (if wdOk xs a b = true then wdM xs a (wdLen a b) else 0), AV.b (wdOk xs a b)]))
                (T.ite ((if wdOk xs a b = true then wdM xs a (wdLen a b) else 0) != if wdOk xs a b = true then wdM xs a (wdLen a b) else 0) (T.leaf (AV.b false))
                  (T.ite (!wdOk xs a b == wdOk xs a b) (T.leaf (AV.b false))
                    (T.ob ((VCall P) g_laws_toInt64S [AV.sl (Tag.par [0]) 0 (Cont.i IntKind.i64 xs)] (AV.sl (Tag.own 0) 0 (Cont.i IntKind.i64 xs)))
                      (T.ob ((VCall P) g_laws_eqInt64S [AV.sl (Tag.par [0]) 0 (Cont.i IntKind.i64 xs), AV.sl (Tag.par [1]) 0 (Cont.i IntKind.i64 xs)] (AV.b true)) (T.ite false (T.leaf (AV.b false)) (T.leaf (AV.b true))))))))))))) :
    VCall P g_f [.i .i64 a, .i .i64 b, PI [2] xs] (.b true) := h_.call_of ps_laws_FnExactWorkDays ⟨oc_laws_FnExactWorkDays a b xs, fun _ _ => none⟩ (by kernel_rfl) ht


/-- laws.FnExactWorkDayBehind: slots 45, results [.t 6]; calls [19:g_laws_toInt64S, 20:g_spec_WorkDayBehind, 24:g_laws_toInt64S, 29:g_impl_WorkDayBehind, 42:g_laws_toInt64S, 43:g_laws_eqInt64S]; names [(aN, 0), (aCount, 1), (aFeasts, 2), (aN, 3), (aCount, 4), (aFeasts, 5), (w0, 7), (w1, 8), (x2, 9), (g0, 10), (g1, 11)] -/
def ps_laws_FnExactWorkDayBehind : List Nat := [0, 1, 2, 6, 7, 8, 9, 10, 11, 14, 39, 44]
def b_laws_FnExactWorkDayBehind (g_laws_toInt64S g_spec_WorkDayBehind g_impl_WorkDayBehind g_laws_eqInt64S : FuncId) : VCode :=
  (.seq
   (.region false [
    ⟨some 6, .mv, [.k (.b false)], none⟩])
   (.seq
    (.seq
     (.region false [
      ⟨some 12, .mv, [.t 2], none⟩,
      ⟨some 13, .len, [.t 12], none⟩,
      ⟨some 14, (.bin .gtr), [.t 13, .k (.i .i64 1048576)], none⟩])
     (.cond (.t 14)
      (.seq
       (.region false [
        ⟨some 6, .mv, [.k (.b true)], none⟩])
       .ret)
      .skip))
    (.seq
     (.region false [
      ⟨some 16, .mv, [.t 0], none⟩,
      ⟨some 17, .mv, [.t 1], none⟩,
      ⟨some 18, .mv, [.t 2], none⟩,
      ⟨some 19, (.call g_laws_toInt64S), [.t 18], none⟩,
      ⟨some 20, (.call g_spec_WorkDayBehind), [.t 16, .t 17, .t 19], none⟩,
      ⟨some 15, .mv, [.t 20], none⟩,
      ⟨some 21, (.extract 0), [.t 15], none⟩,
      ⟨some 22, (.extract 1), [.t 15], none⟩,
      ⟨some 7, .mv, [.t 21], none⟩,
      ⟨some 8, .mv, [.t 22], none⟩])
     (.seq
      (.region false [
       ⟨some 23, .mv, [.t 2], none⟩,
       ⟨some 24, (.call g_laws_toInt64S), [.t 23], none⟩,
       ⟨some 9, .mv, [.t 24], none⟩])
      (.seq
       (.region false [
        ⟨some 26, .mv, [.t 0], none⟩,
        ⟨some 27, .mv, [.t 1], none⟩,
        ⟨some 28, .mv, [.t 9], none⟩,
        ⟨some 29, (.call g_impl_WorkDayBehind), [.t 26, .t 27, .t 28], none⟩,
        ⟨some 25, .mv, [.t 29], none⟩,
        ⟨some 30, (.extract 0), [.t 25], none⟩,
        ⟨some 31, (.extract 1), [.t 25], none⟩,
        ⟨some 10, .mv, [.t 30], none⟩,
        ⟨some 11, .mv, [.t 31], none⟩])
       (.seq
        (.seq
         (.region false [
          ⟨some 32, .mv, [.t 10], none⟩,
          ⟨some 33, .mv, [.t 7], none⟩,
          ⟨some 34, (.bin .neq), [.t 32, .t 33], none⟩,
          ⟨some 35, .mv, [.t 34], none⟩,
          ⟨some 36, .mv, [.t 11], some (35, false)⟩,
          ⟨some 37, .mv, [.t 8], some (35, false)⟩,
          ⟨some 38, (.binb .neq), [.t 36, .t 37], some (35, false)⟩,
          ⟨some 39, .pick, [.t 35, .k (.b true), .t 38], none⟩])
         (.cond (.t 39)
          (.seq
           (.region false [
            ⟨some 6, .mv, [.k (.b false)], none⟩])
           .ret)
          .skip))
        (.seq
         (.seq
          (.region false [
           ⟨some 40, .mv, [.t 9], none⟩,
           ⟨some 41, .mv, [.t 2], none⟩,
           ⟨some 42, (.call g_laws_toInt64S), [.t 41], none⟩,
           ⟨some 43, (.call g_laws_eqInt64S), [.t 40, .t 42], none⟩,
           ⟨some 44, .not, [.t 43], none⟩])
          (.cond (.t 44)
           (.seq
            (.region false [
             ⟨some 6, .mv, [.k (.b false)], none⟩])
            .ret)
           .skip))
         (.seq
          (.region false [
           ⟨some 6, .mv, [.k (.b true)], none⟩])
          .ret))))))))

abbrev Is_laws_FnExactWorkDayBehind (P : Program) (g_f : FuncId) (g_laws_toInt64S g_spec_WorkDayBehind g_impl_WorkDayBehind g_laws_eqInt64S : FuncId) : Prop := FnIs P g_f 45 [.t 6] (b_laws_FnExactWorkDayBehind g_laws_toInt64S g_spec_WorkDayBehind g_impl_WorkDayBehind g_laws_eqInt64S)

abbrev C_laws_FnExactWorkDayBehind (P : Program) (g_f : FuncId) : Prop := ∀ (n : Int) (c : Int) (xs : List Int) (hx : xs.length ≤ maxLen), VCall P g_f [.i .i64 n, .i .i64 c, PI [2] xs] (.b true)
def oc1_laws_FnExactWorkDayBehind (as : List AV) : T AV := match as with | [.i .i64 n, .i .i64 c, .sl _ _ (.i _ xs)] => .leaf (.b true) | _ => .fail
def oc_laws_FnExactWorkDayBehind (n : Int) (c : Int) (xs : List Int) (d : Nat) (as : List AV) : T AV := match d with | 19 => oc1_laws_toInt64S as | 20 => oc1_spec_WorkDayBehind as | 24 => oc1_laws_toInt64S as | 29 => oc1_impl_WorkDayBehind as | 42 => oc1_laws_toInt64S as | 43 => oc1_laws_eqInt64S as | _ => .fail



theorem q_laws_FnExactWorkDayBehind {P : Program} {g_f : FuncId} {g_laws_toInt64S g_spec_WorkDayBehind g_impl_WorkDayBehind g_laws_eqInt64S : FuncId} (h_ : Is_laws_FnExactWorkDayBehind P g_f g_laws_toInt64S g_spec_WorkDayBehind g_impl_WorkDayBehind g_laws_eqInt64S) (n : Int) (c : Int) (xs : List Int) (ht : T.ok (fun x_ => x_ = .b true) (
      T.ite (decide ((↑(List.length xs) : Int) > 1048576)) (T.leaf (AV.b true))
        (T.ob ((VCall P) g_laws_toInt64S [AV.sl (Tag.par [0]) 0 (Cont.i IntKind.i64 xs)] (AV.sl (Tag.own 0) 0 (Cont.i IntKind.i64 xs)))
          (T.ob
            ((VCall P) g_spec_WorkDayBehind [AV.i IntKind.i64 n, AV.i IntKind.i64 c, AV.sl (Tag.par [2]) 0 (Cont.i IntKind.i64 xs)]
              (AV.tup [AV.i IntKind.i64 (if wbOk xs n c = true then n + (↑(wbJ xs n c) : Int) else 0), AV.b (wbOk xs n c)]))
            (T.ob ((VCall P) g_laws_toInt64S [AV.sl (Tag.par [0]) 0 (Cont.i IntKind.i64 xs)] (AV.sl (Tag.own 0) 0 (Cont.i IntKind.i64 xs)))
              (T.ob
                ((VCall P) g_impl_WorkDayBehind [AV.i IntKind.i64 n, AV.i IntKind.i64 c, AV.sl (Tag.par [2]) 0 (Cont.i IntKind.i64 xs)]
                  (AV.tup [AV.i IntKind.i64 (if wbOk xs n c = true then n + (↑(wbJ xs n c) : Int) else 0), AV.b (wbOk xs n c)]))
                (T.ite ((if wbOk xs n c = true then n + (↑(wbJ xs n c) : Int) else 0) != if wbOk xs n c = true then n + (↑(wbJ xs n c) : Int) else 0) (T.leaf (AV.b false))
                  (T.ite (!wbOk xs n c == wbOk xs n c) (T.leaf (AV.b false))
                    (T.ob ((VCall P) g_laws_toInt64S [AV.sl (Tag.par [0]) 0 (Cont.i IntKind.i64 xs)] (AV.sl (Tag.own 0) 0 (Cont.i IntKind.i64 xs)))
                      (T.ob ((VCall P) g_laws_eqInt64S [AV.sl (Tag.par [0]) 0 (Cont.i IntKind.i64 xs), AV.sl (Tag.par [1]) 0 (Cont.i IntKind.i64 xs)] (AV.b true)) (T.ite false (T.leaf (AV.b false)) (T.leaf (AV.b true))))))))))))) :
    VCall P g_f [.i .i64 n, .i .i64 c, PI [2] xs] (.b true) := h_.call_of ps_laws_FnExactWorkDayBehind ⟨oc_laws_FnExactWorkDayBehind n c xs, fun _ _ => none⟩ (by kernel_rfl) ht


theorem k_laws_FnExactWorkDays {P : Program} {f g_laws_toInt64S g_spec_WorkDays g_impl_WorkDays g_laws_eqInt64S : FuncId} (h : Is_laws_FnExactWorkDays P f g_laws_toInt64S g_spec_WorkDays g_impl_WorkDays g_laws_eqInt64S) (c1 : C_laws_toInt64S P g_laws_toInt64S) (c2 : C_spec_WorkDays P g_spec_WorkDays) (c3 : C_impl_WorkDays P g_impl_WorkDays) (c4 : C_laws_eqInt64S P g_laws_eqInt64S) : C_laws_FnExactWorkDays P f := by
  intro a b xs hx
  refine q_laws_FnExactWorkDays h a b xs ?_
  repeat' (first | with_reducible refine T.ok_ob ?_ (fun _ => ?_) | with_reducible refine T.ok_ite (fun _ => ?_) (fun _ => ?_) | with_reducible refine T.ok_leaf ?_)
  all_goals (try simp only [decide_eq_true_eq, decide_eq_false_iff_not, sz_lt, gt_iff_lt, Int.not_lt, Bool.not_beq_self, bne_self_eq_false, beq_self_eq_true] at *)
  all_goals (try simp (disch := omega) only [sz_val] at *)
  all_goals first | with_reducible rfl | with_reducible assumption | ((with_reducible refine c1 _ ?_) <;> (first | assumption | omega | with_reducible rfl | (simp [maxLen_eq]; done) | (simp [maxLen_eq]; omega))) | ((with_reducible refine c2 _ _ _ ?_) <;> (first | assumption | omega | with_reducible rfl | (simp [maxLen_eq]; done) | (simp [maxLen_eq]; omega))) | ((with_reducible refine c3 _ _ _ ?_) <;> (first | assumption | omega | with_reducible rfl | (simp [maxLen_eq]; done) | (simp [maxLen_eq]; omega))) | ((with_reducible refine c4 _ _ rfl ?_) <;> (first | assumption | omega | with_reducible rfl | (simp [maxLen_eq]; done) | (simp [maxLen_eq]; omega))) | contradiction | exact fconvOk_32_64 _ | assumption | exact rfl | (simp only [marks_len, bne_self_eq_false, Bool.false_eq_true] at *; done) | (simp_all [marks_len]; done) | (simp_all [T.ok, marks_len]; omega)

theorem k_laws_FnExactWorkDayBehind {P : Program} {f g_laws_toInt64S g_spec_WorkDayBehind g_impl_WorkDayBehind g_laws_eqInt64S : FuncId} (h : Is_laws_FnExactWorkDayBehind P f g_laws_toInt64S g_spec_WorkDayBehind g_impl_WorkDayBehind g_laws_eqInt64S) (c1 : C_laws_toInt64S P g_laws_toInt64S) (c2 : C_spec_WorkDayBehind P g_spec_WorkDayBehind) (c3 : C_impl_WorkDayBehind P g_impl_WorkDayBehind) (c4 : C_laws_eqInt64S P g_laws_eqInt64S) : C_laws_FnExactWorkDayBehind P f := by
  intro n c xs hx
  refine q_laws_FnExactWorkDayBehind h n c xs ?_
  repeat' (first | with_reducible refine T.ok_ob ?_ (fun _ => ?_) | with_reducible refine T.ok_ite (fun _ => ?_) (fun _ => ?_) | with_reducible refine T.ok_leaf ?_)
  all_goals (try simp only [decide_eq_true_eq, decide_eq_false_iff_not, sz_lt, gt_iff_lt, Int.not_lt, Bool.not_beq_self, bne_self_eq_false, beq_self_eq_true] at *)
  all_goals (try simp (disch := omega) only [sz_val] at *)
  all_goals first | with_reducible rfl | with_reducible assumption | ((with_reducible refine c1 _ ?_) <;> (first | assumption | omega | with_reducible rfl | (simp [maxLen_eq]; done) | (simp [maxLen_eq]; omega))) | ((with_reducible refine c2 _ _ _ ?_) <;> (first | assumption | omega | with_reducible rfl | (simp [maxLen_eq]; done) | (simp [maxLen_eq]; omega))) | ((with_reducible refine c3 _ _ _ ?_) <;> (first | assumption | omega | with_reducible rfl | (simp [maxLen_eq]; done) | (simp [maxLen_eq]; omega))) | ((with_reducible refine c4 _ _ rfl ?_) <;> (first | assumption | omega | with_reducible rfl | (simp [maxLen_eq]; done) | (simp [maxLen_eq]; omega))) | contradiction | exact fconvOk_32_64 _ | assumption | exact rfl | (simp only [marks_len, bne_self_eq_false, Bool.false_eq_true] at *; done) | (simp_all [marks_len]; done) | (simp_all [T.ok, marks_len]; omega)


end Go.Proofs.LV
