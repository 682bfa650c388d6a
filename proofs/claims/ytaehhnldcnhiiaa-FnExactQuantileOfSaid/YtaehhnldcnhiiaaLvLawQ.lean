/- The law FnExactQuantileOf. -/
import Derived.Test.YtaehhnldcnhiiaaLvFnR
import Derived.Test.YtaehhnldcnhiiaaLvLawG
namespace Go.Proofs.LV
open Go
set_option linter.unusedVariables false
set_option linter.unusedSimpArgs false

-- FN laws_FnExactQuantileOf
/-- laws.FnExactQuantileOf: slots 44, results [.t 4]; calls [15:g_laws_toFloat32S, 17:g_spec_QuantileOf, 21:g_laws_toFloat32S, 25:g_impl_QuantileOf, 32:g_laws_sameFloat, 41:g_laws_toFloat32S, 42:g_laws_eqFloat32S]; names [(aList, 0), (aShare, 1), (aList, 2), (aShare, 3), (w0, 5), (w1, 6), (x0, 7), (g0, 8), (g1, 9)] -/
def ps_laws_FnExactQuantileOf : List Nat := [0, 1, 4, 5, 6, 7, 8, 9, 12, 38, 43]
def b_laws_FnExactQuantileOf (g_laws_toFloat32S g_spec_QuantileOf g_impl_QuantileOf g_laws_sameFloat g_laws_eqFloat32S : FuncId) : VCode :=
  (.seq
   (.region false [
    ⟨some 4, .mv, [.k (.b false)], none⟩])
   (.seq
    (.seq
     (.region false [
      ⟨some 10, .mv, [.t 0], none⟩,
      ⟨some 11, .len, [.t 10], none⟩,
      ⟨some 12, (.bin .gtr), [.t 11, .k (.i .i64 1048576)], none⟩])
     (.cond (.t 12)
      (.seq
       (.region false [
        ⟨some 4, .mv, [.k (.b true)], none⟩])
       .ret)
      .skip))
    (.seq
     (.region false [
      ⟨some 14, .mv, [.t 0], none⟩,
      ⟨some 15, (.call g_laws_toFloat32S), [.t 14], none⟩,
      ⟨some 16, .mv, [.t 1], none⟩,
      ⟨some 17, (.call g_spec_QuantileOf), [.t 15, .t 16], none⟩,
      ⟨some 13, .mv, [.t 17], none⟩,
      ⟨some 18, (.extract 0), [.t 13], none⟩,
      ⟨some 19, (.extract 1), [.t 13], none⟩,
      ⟨some 5, .mv, [.t 18], none⟩,
      ⟨some 6, .mv, [.t 19], none⟩])
     (.seq
      (.region false [
       ⟨some 20, .mv, [.t 0], none⟩,
       ⟨some 21, (.call g_laws_toFloat32S), [.t 20], none⟩,
       ⟨some 7, .mv, [.t 21], none⟩])
      (.seq
       (.region false [
        ⟨some 23, .mv, [.t 7], none⟩,
        ⟨some 24, .mv, [.t 1], none⟩,
        ⟨some 25, (.call g_impl_QuantileOf), [.t 23, .t 24], none⟩,
        ⟨some 22, .mv, [.t 25], none⟩,
        ⟨some 26, (.extract 0), [.t 22], none⟩,
        ⟨some 27, (.extract 1), [.t 22], none⟩,
        ⟨some 8, .mv, [.t 26], none⟩,
        ⟨some 9, .mv, [.t 27], none⟩])
       (.seq
        (.seq
         (.region false [
          ⟨some 28, .mv, [.t 8], none⟩,
          ⟨some 29, (.convF .f64), [.t 28], none⟩,
          ⟨some 30, .mv, [.t 5], none⟩,
          ⟨some 31, (.convF .f64), [.t 30], none⟩,
          ⟨some 32, (.call g_laws_sameFloat), [.t 29, .t 31], none⟩,
          ⟨some 33, .not, [.t 32], none⟩,
          ⟨some 34, .mv, [.t 33], none⟩,
          ⟨some 35, .mv, [.t 9], some (34, false)⟩,
          ⟨some 36, .mv, [.t 6], some (34, false)⟩,
          ⟨some 37, (.binb .neq), [.t 35, .t 36], some (34, false)⟩,
          ⟨some 38, .pick, [.t 34, .k (.b true), .t 37], none⟩])
         (.cond (.t 38)
          (.seq
           (.region false [
            ⟨some 4, .mv, [.k (.b false)], none⟩])
           .ret)
          .skip))
        (.seq
         (.seq
          (.region false [
           ⟨some 39, .mv, [.t 7], none⟩,
           ⟨some 40, .mv, [.t 0], none⟩,
           ⟨some 41, (.call g_laws_toFloat32S), [.t 40], none⟩,
           ⟨some 42, (.call g_laws_eqFloat32S), [.t 39, .t 41], none⟩,
           ⟨some 43, .not, [.t 42], none⟩])
          (.cond (.t 43)
           (.seq
            (.region false [
             ⟨some 4, .mv, [.k (.b false)], none⟩])
            .ret)
           .skip))
         (.seq
          (.region false [
           ⟨some 4, .mv, [.k (.b true)], none⟩])
          .ret))))))))

abbrev Is_laws_FnExactQuantileOf (P : Program) (g_f : FuncId) (g_laws_toFloat32S g_spec_QuantileOf g_impl_QuantileOf g_laws_sameFloat g_laws_eqFloat32S : FuncId) : Prop := FnIs P g_f 44 [.t 4] (b_laws_FnExactQuantileOf g_laws_toFloat32S g_spec_QuantileOf g_impl_QuantileOf g_laws_sameFloat g_laws_eqFloat32S)

abbrev C_laws_FnExactQuantileOf (P : Program) (g_f : FuncId) : Prop := ∀ (list : List Nat) (share : Nat) (hx : list.length ≤ maxLen), VCall P g_f [PS [0] .f32 list, .f .f32 share] (.b true)
def oc1_laws_FnExactQuantileOf (as : List AV) : T AV := match as with | [.sl _ _ (.f .f32 list), .f .f32 share] => .leaf (.b true) | _ => .fail
def oc_laws_FnExactQuantileOf (list : List Nat) (share : Nat) (d : Nat) (as : List AV) : T AV := match d with | 15 => oc1_laws_toFloat32S as | 17 => oc1_spec_QuantileOf as | 21 => oc1_laws_toFloat32S as | 25 => oc1_impl_QuantileOf as | 32 => oc1_laws_sameFloat as | 41 => oc1_laws_toFloat32S as | 42 => oc1_laws_eqFloat32S as | _ => .fail



theorem q_laws_FnExactQuantileOf {P : Program} {g_f : FuncId} {g_laws_toFloat32S g_spec_QuantileOf g_impl_QuantileOf g_laws_sameFloat g_laws_eqFloat32S : FuncId} (h_ : Is_laws_FnExactQuantileOf P g_f g_laws_toFloat32S g_spec_QuantileOf g_impl_QuantileOf g_laws_sameFloat g_laws_eqFloat32S) (list : List Nat) (share : Nat) (ht : T.ok (fun x_ => x_ = .b true) (
      T.ite (decide ((↑(List.length list) : Int) > 1048576)) (T.leaf (AV.b true))
        (T.ob ((VCall P) g_laws_toFloat32S [AV.sl (Tag.par [0]) 0 (Cont.f FloatKind.f32 list)] (AV.sl (Tag.own 0) 0 (Cont.f FloatKind.f32 list)))
          (T.ob ((VCall P) g_spec_QuantileOf [AV.sl (Tag.par [0]) 0 (Cont.f FloatKind.f32 list), AV.f FloatKind.f32 share] (AV.tup [AV.f FloatKind.f32 (if qOk list share = true then qV list share else 0), AV.b (qOk list share)]))
            (T.ob ((VCall P) g_laws_toFloat32S [AV.sl (Tag.par [0]) 0 (Cont.f FloatKind.f32 list)] (AV.sl (Tag.own 0) 0 (Cont.f FloatKind.f32 list)))
              (T.ob ((VCall P) g_impl_QuantileOf [AV.sl (Tag.par [0]) 0 (Cont.f FloatKind.f32 list), AV.f FloatKind.f32 share] (AV.tup [AV.f FloatKind.f32 (if qOk list share = true then qV list share else 0), AV.b (qOk list share)]))
                (T.ob (fconvOk FloatKind.f32 FloatKind.f64 (if qOk list share = true then qV list share else 0) = true)
                  (T.ob (fconvOk FloatKind.f32 FloatKind.f64 (if qOk list share = true then qV list share else 0) = true)
                    (T.ob
                      ((VCall P) g_laws_sameFloat
                        [AV.f FloatKind.f64 (fconv FloatKind.f32 FloatKind.f64 (if qOk list share = true then qV list share else 0)),
                          AV.f FloatKind.f64 (fconv FloatKind.f32 FloatKind.f64 (if qOk list share = true then qV list share else 0))]
                        (AV.b true))
                      (T.ite false (T.leaf (AV.b false))
                        (T.ite (!qOk list share == qOk list share) (T.leaf (AV.b false))
                          (T.ob ((VCall P) g_laws_toFloat32S [AV.sl (Tag.par [0]) 0 (Cont.f FloatKind.f32 list)] (AV.sl (Tag.own 0) 0 (Cont.f FloatKind.f32 list)))
                            (T.ob ((VCall P) g_laws_eqFloat32S [AV.sl (Tag.par [0]) 0 (Cont.f FloatKind.f32 list), AV.sl (Tag.par [1]) 0 (Cont.f FloatKind.f32 list)] (AV.b true))
                              (T.ite false (T.leaf (AV.b false)) (T.leaf (AV.b true)))))))))))))))) :
    VCall P g_f [PS [0] .f32 list, .f .f32 share] (.b true) := h_.call_of ps_laws_FnExactQuantileOf ⟨oc_laws_FnExactQuantileOf list share, fun _ _ => none⟩ (by kernel_rfl) ht

-- END laws_FnExactQuantileOf

theorem k_laws_FnExactQuantileOf {P : Program} {f g_laws_toFloat32S g_spec_QuantileOf g_impl_QuantileOf g_laws_sameFloat g_laws_eqFloat32S : FuncId} (h : Is_laws_FnExactQuantileOf P f g_laws_toFloat32S g_spec_QuantileOf g_impl_QuantileOf g_laws_sameFloat g_laws_eqFloat32S) (c1 : C_laws_toFloat32S P g_laws_toFloat32S) (c2 : C_spec_QuantileOf P g_spec_QuantileOf) (c3 : C_impl_QuantileOf P g_impl_QuantileOf) (c4 : C_laws_sameFloat P g_laws_sameFloat) (c5 : C_laws_eqFloat32S P g_laws_eqFloat32S) : C_laws_FnExactQuantileOf P f := by
  intro list share hx
  refine q_laws_FnExactQuantileOf h list share ?_
  repeat' (first | with_reducible refine T.ok_ob ?_ (fun _ => ?_) | with_reducible refine T.ok_ite (fun _ => ?_) (fun _ => ?_) | with_reducible refine T.ok_leaf ?_)
  all_goals (try simp only [decide_eq_true_eq, decide_eq_false_iff_not, sz_lt, gt_iff_lt, Int.not_lt, Bool.not_beq_self, bne_self_eq_false, beq_self_eq_true] at *)
  all_goals (try simp (disch := omega) only [sz_val] at *)
  all_goals first | with_reducible rfl | with_reducible assumption | ((with_reducible refine c1 _ ?_) <;> (first | assumption | omega | with_reducible rfl | (simp [maxLen_eq]; done) | (simp [maxLen_eq]; omega))) | ((with_reducible refine c2 _ _ ?_) <;> (first | assumption | omega | with_reducible rfl | (simp [maxLen_eq]; done) | (simp [maxLen_eq]; omega))) | ((with_reducible refine c3 _ _ ?_) <;> (first | assumption | omega | with_reducible rfl | (simp [maxLen_eq]; done) | (simp [maxLen_eq]; omega))) | ((with_reducible refine c4 _ _ ?_) <;> (first | assumption | omega | with_reducible rfl | (simp [maxLen_eq]; done) | (simp [maxLen_eq]; omega))) | ((with_reducible refine c5 _ _ rfl ?_) <;> (first | assumption | omega | with_reducible rfl | (simp [maxLen_eq]; done) | (simp [maxLen_eq]; omega))) | contradiction | exact fconvOk_32_64 _ | assumption | exact rfl | (simp only [marks_len, bne_self_eq_false, Bool.false_eq_true] at *; done) | (simp_all [marks_len]; done) | (simp_all [T.ok, marks_len]; omega)


end Go.Proofs.LV
