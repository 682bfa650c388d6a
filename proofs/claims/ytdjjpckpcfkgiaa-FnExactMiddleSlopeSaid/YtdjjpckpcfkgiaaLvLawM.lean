/- The laws FnExactMedianOf, FnExactMiddleSlope, FnExactStepState. -/
import Derived.Test.YtdjjpckpcfkgiaaLvFnV
import Derived.Test.YtdjjpckpcfkgiaaLvLawG
namespace Go.Proofs.LV
open Go
set_option linter.unusedVariables false
set_option linter.unusedSimpArgs false

-- FN laws_FnExactMiddleSlope
/-- laws.FnExactMiddleSlope: slots 40, results [.t 2]; calls [13:g_laws_toFloat32S, 14:g_spec_MiddleSlope, 18:g_laws_toFloat32S, 21:g_impl_MiddleSlope, 28:g_laws_sameFloat, 37:g_laws_toFloat32S, 38:g_laws_eqFloat32S]; names [(aA, 0), (aA, 1), (w0, 3), (w1, 4), (x0, 5), (g0, 6), (g1, 7)] -/
def ps_laws_FnExactMiddleSlope : List Nat := [0, 2, 3, 4, 5, 6, 7, 10, 34, 39]
def b_laws_FnExactMiddleSlope (g_laws_toFloat32S g_spec_MiddleSlope g_impl_MiddleSlope g_laws_sameFloat g_laws_eqFloat32S : FuncId) : VCode :=
  (.seq
   (.region false [
    ⟨some 2, .mv, [.k (.b false)], none⟩])
   (.seq
    (.seq
     (.region false [
      ⟨some 8, .mv, [.t 0], none⟩,
      ⟨some 9, .len, [.t 8], none⟩,
      ⟨some 10, (.bin .gtr), [.t 9, .k (.i .i64 1048576)], none⟩])
     (.cond (.t 10)
      (.seq
       (.region false [
        ⟨some 2, .mv, [.k (.b true)], none⟩])
       .ret)
      .skip))
    (.seq
     (.region false [
      ⟨some 12, .mv, [.t 0], none⟩,
      ⟨some 13, (.call g_laws_toFloat32S), [.t 12], none⟩,
      ⟨some 14, (.call g_spec_MiddleSlope), [.t 13], none⟩,
      ⟨some 11, .mv, [.t 14], none⟩,
      ⟨some 15, (.extract 0), [.t 11], none⟩,
      ⟨some 16, (.extract 1), [.t 11], none⟩,
      ⟨some 3, .mv, [.t 15], none⟩,
      ⟨some 4, .mv, [.t 16], none⟩])
     (.seq
      (.region false [
       ⟨some 17, .mv, [.t 0], none⟩,
       ⟨some 18, (.call g_laws_toFloat32S), [.t 17], none⟩,
       ⟨some 5, .mv, [.t 18], none⟩])
      (.seq
       (.region false [
        ⟨some 20, .mv, [.t 5], none⟩,
        ⟨some 21, (.call g_impl_MiddleSlope), [.t 20], none⟩,
        ⟨some 19, .mv, [.t 21], none⟩,
        ⟨some 22, (.extract 0), [.t 19], none⟩,
        ⟨some 23, (.extract 1), [.t 19], none⟩,
        ⟨some 6, .mv, [.t 22], none⟩,
        ⟨some 7, .mv, [.t 23], none⟩])
       (.seq
        (.seq
         (.region false [
          ⟨some 24, .mv, [.t 6], none⟩,
          ⟨some 25, (.convF .f64), [.t 24], none⟩,
          ⟨some 26, .mv, [.t 3], none⟩,
          ⟨some 27, (.convF .f64), [.t 26], none⟩,
          ⟨some 28, (.call g_laws_sameFloat), [.t 25, .t 27], none⟩,
          ⟨some 29, .not, [.t 28], none⟩,
          ⟨some 30, .mv, [.t 29], none⟩,
          ⟨some 31, .mv, [.t 7], some (30, false)⟩,
          ⟨some 32, .mv, [.t 4], some (30, false)⟩,
          ⟨some 33, (.binb .neq), [.t 31, .t 32], some (30, false)⟩,
          ⟨some 34, .pick, [.t 30, .k (.b true), .t 33], none⟩])
         (.cond (.t 34)
          (.seq
           (.region false [
            ⟨some 2, .mv, [.k (.b false)], none⟩])
           .ret)
          .skip))
        (.seq
         (.seq
          (.region false [
           ⟨some 35, .mv, [.t 5], none⟩,
           ⟨some 36, .mv, [.t 0], none⟩,
           ⟨some 37, (.call g_laws_toFloat32S), [.t 36], none⟩,
           ⟨some 38, (.call g_laws_eqFloat32S), [.t 35, .t 37], none⟩,
           ⟨some 39, .not, [.t 38], none⟩])
          (.cond (.t 39)
           (.seq
            (.region false [
             ⟨some 2, .mv, [.k (.b false)], none⟩])
            .ret)
           .skip))
         (.seq
          (.region false [
           ⟨some 2, .mv, [.k (.b true)], none⟩])
          .ret))))))))

abbrev Is_laws_FnExactMiddleSlope (P : Program) (g_f : FuncId) (g_laws_toFloat32S g_spec_MiddleSlope g_impl_MiddleSlope g_laws_sameFloat g_laws_eqFloat32S : FuncId) : Prop := FnIs P g_f 40 [.t 2] (b_laws_FnExactMiddleSlope g_laws_toFloat32S g_spec_MiddleSlope g_impl_MiddleSlope g_laws_sameFloat g_laws_eqFloat32S)

abbrev C_laws_FnExactMiddleSlope (P : Program) (g_f : FuncId) : Prop := ∀ (list : List Nat) (hx : list.length ≤ maxLen), VCall P g_f [PS [0] .f32 list] (.b true)
def oc1_laws_FnExactMiddleSlope (as : List AV) : T AV := match as with | [.sl _ _ (.f .f32 list)] => .leaf (.b true) | _ => .fail
def oc_laws_FnExactMiddleSlope (list : List Nat) (d : Nat) (as : List AV) : T AV := match d with | 13 => oc1_laws_toFloat32S as | 14 => oc1_spec_MiddleSlope as | 18 => oc1_laws_toFloat32S as | 21 => oc1_impl_MiddleSlope as | 28 => oc1_laws_sameFloat as | 37 => oc1_laws_toFloat32S as | 38 => oc1_laws_eqFloat32S as | _ => .fail



theorem q_laws_FnExactMiddleSlope {P : Program} {g_f : FuncId} {g_laws_toFloat32S g_spec_MiddleSlope g_impl_MiddleSlope g_laws_sameFloat g_laws_eqFloat32S : FuncId} (h_ : Is_laws_FnExactMiddleSlope P g_f g_laws_toFloat32S g_spec_MiddleSlope g_impl_MiddleSlope g_laws_sameFloat g_laws_eqFloat32S) (list : List Nat) (ht : T.ok (fun x_ => x_ = .b true) (
      T.ite (decide ((↑(List.length list) : Int) > 1048576)) (T.leaf (AV.b true))
        (T.ob ((VCall P) g_laws_toFloat32S [AV.sl (Tag.par [0]) 0 (Cont.f FloatKind.f32 list)] (AV.sl (Tag.own 0) 0 (Cont.f FloatKind.f32 list)))
          (T.ob ((VCall P) g_spec_MiddleSlope [AV.sl (Tag.par [0]) 0 (Cont.f FloatKind.f32 list)] (AV.tup [AV.f FloatKind.f32 (if slpOk list = true then msV list else 0), AV.b (slpOk list)]))
            (T.ob ((VCall P) g_laws_toFloat32S [AV.sl (Tag.par [0]) 0 (Cont.f FloatKind.f32 list)] (AV.sl (Tag.own 0) 0 (Cont.f FloatKind.f32 list)))
              (T.ob ((VCall P) g_impl_MiddleSlope [AV.sl (Tag.par [0]) 0 (Cont.f FloatKind.f32 list)] (AV.tup [AV.f FloatKind.f32 (if slpOk list = true then msV list else 0), AV.b (slpOk list)]))
                (T.ob (fconvOk FloatKind.f32 FloatKind.f64 (if slpOk list = true then msV list else 0) = true)
                  (T.ob (fconvOk FloatKind.f32 FloatKind.f64 (if slpOk list = true then msV list else 0) = true)
                    (T.ob
                      ((VCall P) g_laws_sameFloat
                        [AV.f FloatKind.f64 (fconv FloatKind.f32 FloatKind.f64 (if slpOk list = true then msV list else 0)), AV.f FloatKind.f64 (fconv FloatKind.f32 FloatKind.f64 (if slpOk list = true then msV list else 0))]
                        (AV.b true))
                      (T.ite false (T.leaf (AV.b false))
                        (T.ite (!slpOk list == slpOk list) (T.leaf (AV.b false))
                          (T.ob ((VCall P) g_laws_toFloat32S [AV.sl (Tag.par [0]) 0 (Cont.f FloatKind.f32 list)] (AV.sl (Tag.own 0) 0 (Cont.f FloatKind.f32 list)))
                            (T.ob ((VCall P) g_laws_eqFloat32S [AV.sl (Tag.par [0]) 0 (Cont.f FloatKind.f32 list), AV.sl (Tag.par [1]) 0 (Cont.f FloatKind.f32 list)] (AV.b true))
                              (T.ite false (T.leaf (AV.b false)) (T.leaf (AV.b true)))))))))))))))) :
    VCall P g_f [PS [0] .f32 list] (.b true) := h_.call_of ps_laws_FnExactMiddleSlope ⟨oc_laws_FnExactMiddleSlope list, fun _ _ => none⟩ (by kernel_rfl) ht

-- END laws_FnExactMiddleSlope

theorem k_laws_FnExactMiddleSlope {P : Program} {f g_laws_toFloat32S g_spec_MiddleSlope g_impl_MiddleSlope g_laws_sameFloat g_laws_eqFloat32S : FuncId} (h : Is_laws_FnExactMiddleSlope P f g_laws_toFloat32S g_spec_MiddleSlope g_impl_MiddleSlope g_laws_sameFloat g_laws_eqFloat32S) (c1 : C_laws_toFloat32S P g_laws_toFloat32S) (c2 : C_spec_MiddleSlope P g_spec_MiddleSlope) (c3 : C_impl_MiddleSlope P g_impl_MiddleSlope) (c4 : C_laws_sameFloat P g_laws_sameFloat) (c5 : C_laws_eqFloat32S P g_laws_eqFloat32S) : C_laws_FnExactMiddleSlope P f := by
  intro list hx
  refine q_laws_FnExactMiddleSlope h list ?_
  repeat' (first | with_reducible refine T.ok_ob ?_ (fun _ => ?_) | with_reducible refine T.ok_ite (fun _ => ?_) (fun _ => ?_) | with_reducible refine T.ok_leaf ?_)
  all_goals (try simp only [decide_eq_true_eq, decide_eq_false_iff_not, sz_lt, gt_iff_lt, Int.not_lt, Bool.not_beq_self, bne_self_eq_false, beq_self_eq_true] at *)
  all_goals (try simp (disch := omega) only [sz_val] at *)
  all_goals first | with_reducible rfl | with_reducible assumption | ((with_reducible refine c1 _ ?_) <;> (first | assumption | omega | with_reducible rfl | (simp [maxLen_eq]; done) | (simp [maxLen_eq]; omega))) | ((with_reducible refine c2 _ ?_) <;> (first | assumption | omega | with_reducible rfl | (simp [maxLen_eq]; done) | (simp [maxLen_eq]; omega))) | ((with_reducible refine c3 _ ?_) <;> (first | assumption | omega | with_reducible rfl | (simp [maxLen_eq]; done) | (simp [maxLen_eq]; omega))) | ((with_reducible refine c4 _ _ ?_) <;> (first | assumption | omega | with_reducible rfl | (simp [maxLen_eq]; done) | (simp [maxLen_eq]; omega))) | ((with_reducible refine c5 _ _ rfl ?_) <;> (first | assumption | omega | with_reducible rfl | (simp [maxLen_eq]; done) | (simp [maxLen_eq]; omega))) | contradiction | exact fconvOk_32_64 _ | assumption | exact rfl | (simp only [marks_len, bne_self_eq_false, Bool.false_eq_true] at *; done) | (simp_all [marks_len]; done) | (simp_all [T.ok, marks_len]; omega)

end Go.Proofs.LV
