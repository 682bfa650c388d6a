/- The laws FnExactHarmonicAt and FnExactTapered. -/
import Derived.Test.YtdjjpckpcfkgiaaLvFnBB
import Derived.Test.YtdjjpckpcfkgiaaLvLawG
namespace Go.Proofs.LV
open Go
set_option linter.unusedVariables false
set_option linter.unusedSimpArgs false

-- FN laws_FnExactHarmonicAt
/-- laws.FnExactHarmonicAt: slots 48, results [.t 6]; calls [17:g_laws_toFloat32S, 20:g_spec_HarmonicAt, 24:g_laws_toFloat32S, 29:g_impl_HarmonicAt, 36:g_laws_sameFloat, 45:g_laws_toFloat32S, 46:g_laws_eqFloat32S]; names [(aTerms, 0), (aPeriod, 1), (aAt, 2), (aTerms, 3), (aPeriod, 4), (aAt, 5), (w0, 7), (w1, 8), (x0, 9), (g0, 10), (g1, 11)] -/
def ps_laws_FnExactHarmonicAt : List Nat := [0, 1, 2, 6, 7, 8, 9, 10, 11, 14, 42, 47]
def b_laws_FnExactHarmonicAt (g_laws_toFloat32S g_spec_HarmonicAt g_impl_HarmonicAt g_laws_sameFloat g_laws_eqFloat32S : FuncId) : VCode :=
  (.seq
   (.region false [
    ⟨some 6, .mv, [.k (.b false)], none⟩])
   (.seq
    (.seq
     (.region false [
      ⟨some 12, .mv, [.t 0], none⟩,
      ⟨some 13, .len, [.t 12], none⟩,
      ⟨some 14, (.bin .gtr), [.t 13, .k (.i .i64 1048576)], none⟩])
     (.cond (.t 14)
      (.seq
       (.region false [
        ⟨some 6, .mv, [.k (.b true)], none⟩])
       .ret)
      .skip))
    (.seq
     (.region false [
      ⟨some 16, .mv, [.t 0], none⟩,
      ⟨some 17, (.call g_laws_toFloat32S), [.t 16], none⟩,
      ⟨some 18, .mv, [.t 1], none⟩,
      ⟨some 19, .mv, [.t 2], none⟩,
      ⟨some 20, (.call g_spec_HarmonicAt), [.t 17, .t 18, .t 19], none⟩,
      ⟨some 15, .mv, [.t 20], none⟩,
      ⟨some 21, (.extract 0), [.t 15], none⟩,
      ⟨some 22, (.extract 1), [.t 15], none⟩,
      ⟨some 7, .mv, [.t 21], none⟩,
      ⟨some 8, .mv, [.t 22], none⟩])
     (.seq
      (.region false [
       ⟨some 23, .mv, [.t 0], none⟩,
       ⟨some 24, (.call g_laws_toFloat32S), [.t 23], none⟩,
       ⟨some 9, .mv, [.t 24], none⟩])
      (.seq
       (.region false [
        ⟨some 26, .mv, [.t 9], none⟩,
        ⟨some 27, .mv, [.t 1], none⟩,
        ⟨some 28, .mv, [.t 2], none⟩,
        ⟨some 29, (.call g_impl_HarmonicAt), [.t 26, .t 27, .t 28], none⟩,
        ⟨some 25, .mv, [.t 29], none⟩,
        ⟨some 30, (.extract 0), [.t 25], none⟩,
        ⟨some 31, (.extract 1), [.t 25], none⟩,
        ⟨some 10, .mv, [.t 30], none⟩,
        ⟨some 11, .mv, [.t 31], none⟩])
       (.seq
        (.seq
         (.region false [
          ⟨some 32, .mv, [.t 10], none⟩,
          ⟨some 33, (.convF .f64), [.t 32], none⟩,
          ⟨some 34, .mv, [.t 7], none⟩,
          ⟨some 35, (.convF .f64), [.t 34], none⟩,
          ⟨some 36, (.call g_laws_sameFloat), [.t 33, .t 35], none⟩,
          ⟨some 37, .not, [.t 36], none⟩,
          ⟨some 38, .mv, [.t 37], none⟩,
          ⟨some 39, .mv, [.t 11], some (38, false)⟩,
          ⟨some 40, .mv, [.t 8], some (38, false)⟩,
          ⟨some 41, (.binb .neq), [.t 39, .t 40], some (38, false)⟩,
          ⟨some 42, .pick, [.t 38, .k (.b true), .t 41], none⟩])
         (.cond (.t 42)
          (.seq
           (.region false [
            ⟨some 6, .mv, [.k (.b false)], none⟩])
           .ret)
          .skip))
        (.seq
         (.seq
          (.region false [
           ⟨some 43, .mv, [.t 9], none⟩,
           ⟨some 44, .mv, [.t 0], none⟩,
           ⟨some 45, (.call g_laws_toFloat32S), [.t 44], none⟩,
           ⟨some 46, (.call g_laws_eqFloat32S), [.t 43, .t 45], none⟩,
           ⟨some 47, .not, [.t 46], none⟩])
          (.cond (.t 47)
           (.seq
            (.region false [
             ⟨some 6, .mv, [.k (.b false)], none⟩])
            .ret)
           .skip))
         (.seq
          (.region false [
           ⟨some 6, .mv, [.k (.b true)], none⟩])
          .ret))))))))

abbrev Is_laws_FnExactHarmonicAt (P : Program) (g_f : FuncId) (g_laws_toFloat32S g_spec_HarmonicAt g_impl_HarmonicAt g_laws_sameFloat g_laws_eqFloat32S : FuncId) : Prop := FnIs P g_f 48 [.t 6] (b_laws_FnExactHarmonicAt g_laws_toFloat32S g_spec_HarmonicAt g_impl_HarmonicAt g_laws_sameFloat g_laws_eqFloat32S)

abbrev C_laws_FnExactHarmonicAt (P : Program) (g_f : FuncId) : Prop := ∀ (ts : List Nat) (p : Nat) (at0 : Int) (hx : ts.length ≤ maxLen), VCall P g_f [PS [0] .f32 ts, .f .f32 p, .i .i64 at0] (.b true)
def oc1_laws_FnExactHarmonicAt (as : List AV) : T AV := match as with | [.sl _ _ (.f .f32 ts), .f .f32 p, .i .i64 at0] => .leaf (.b true) | _ => .fail
def oc_laws_FnExactHarmonicAt (ts : List Nat) (p : Nat) (at0 : Int) (d : Nat) (as : List AV) : T AV := match d with | 17 => oc1_laws_toFloat32S as | 20 => oc1_spec_HarmonicAt as | 24 => oc1_laws_toFloat32S as | 29 => oc1_impl_HarmonicAt as | 36 => oc1_laws_sameFloat as | 45 => oc1_laws_toFloat32S as | 46 => oc1_laws_eqFloat32S as | _ => .fail



theorem q_laws_FnExactHarmonicAt {P : Program} {g_f : FuncId} {g_laws_toFloat32S g_spec_HarmonicAt g_impl_HarmonicAt g_laws_sameFloat g_laws_eqFloat32S : FuncId} (h_ : Is_laws_FnExactHarmonicAt P g_f g_laws_toFloat32S g_spec_HarmonicAt g_impl_HarmonicAt g_laws_sameFloat g_laws_eqFloat32S) (ts : List Nat) (p : Nat) (at0 : Int) (ht : T.ok (fun x_ => x_ = .b true) (
      T.ite (decide ((↑(List.length ts) : Int) > 1048576)) (T.leaf (AV.b true))
        (T.ob ((VCall P) g_laws_toFloat32S [AV.sl (Tag.par [0]) 0 (Cont.f FloatKind.f32 ts)] (AV.sl (Tag.own 0) 0 (Cont.f FloatKind.f32 ts)))
          (T.ob
            ((VCall P) g_spec_HarmonicAt [AV.sl (Tag.par [0]) 0 (Cont.f FloatKind.f32 ts), AV.f FloatKind.f32 p, AV.i IntKind.i64 at0]
              (AV.tup [AV.f FloatKind.f32 (if haOk ts p at0 = true then haV ts p at0 else 0), AV.b (haOk ts p at0)]))
            (T.ob ((VCall P) g_laws_toFloat32S [AV.sl (Tag.par [0]) 0 (Cont.f FloatKind.f32 ts)] (AV.sl (Tag.own 0) 0 (Cont.f FloatKind.f32 ts)))
              (T.ob
                ((VCall P) g_impl_HarmonicAt [AV.sl (Tag.par [0]) 0 (Cont.f FloatKind.f32 ts), AV.f FloatKind.f32 p, AV.i IntKind.i64 at0]
                  (AV.tup [AV.f FloatKind.f32 (if haOk ts p at0 = true then haV ts p at0 else 0), AV.b (haOk ts p at0)]))
                (T.ob (fconvOk FloatKind.f32 FloatKind.f64 (if haOk ts p at0 = true then haV ts p at0 else 0) = true)
                  (T.ob (fconvOk FloatKind.f32 FloatKind.f64 (if haOk ts p at0 = true then haV ts p at0 else 0) = true)
                    (T.ob
                      ((VCall P) g_laws_sameFloat
                        [AV.f FloatKind.f64 (fconv FloatKind.f32 FloatKind.f64 (if haOk ts p at0 = true then haV ts p at0 else 0)),
                          AV.f FloatKind.f64 (fconv FloatKind.f32 FloatKind.f64 (if haOk ts p at0 = true then haV ts p at0 else 0))]
                        (AV.b true))
                      (T.ite false (T.leaf (AV.b false))
                        (T.ite (!haOk ts p at0 == haOk ts p at0) (T.leaf (AV.b false))
                          (T.ob ((VCall P) g_laws_toFloat32S [AV.sl (Tag.par [0]) 0 (Cont.f FloatKind.f32 ts)] (AV.sl (Tag.own 0) 0 (Cont.f FloatKind.f32 ts)))
                            (T.ob ((VCall P) g_laws_eqFloat32S [AV.sl (Tag.par [0]) 0 (Cont.f FloatKind.f32 ts), AV.sl (Tag.par [1]) 0 (Cont.f FloatKind.f32 ts)] (AV.b true))
                              (T.ite false (T.leaf (AV.b false)) (T.leaf (AV.b true)))))))))))))))) :
    VCall P g_f [PS [0] .f32 ts, .f .f32 p, .i .i64 at0] (.b true) := h_.call_of ps_laws_FnExactHarmonicAt ⟨oc_laws_FnExactHarmonicAt ts p at0, fun _ _ => none⟩ (by kernel_rfl) ht

-- END laws_FnExactHarmonicAt

theorem k_laws_FnExactHarmonicAt {P : Program} {f g_laws_toFloat32S g_spec_HarmonicAt g_impl_HarmonicAt g_laws_sameFloat g_laws_eqFloat32S : FuncId} (h : Is_laws_FnExactHarmonicAt P f g_laws_toFloat32S g_spec_HarmonicAt g_impl_HarmonicAt g_laws_sameFloat g_laws_eqFloat32S) (c1 : C_laws_toFloat32S P g_laws_toFloat32S) (c2 : C_spec_HarmonicAt P g_spec_HarmonicAt) (c3 : C_impl_HarmonicAt P g_impl_HarmonicAt) (c4 : C_laws_sameFloat P g_laws_sameFloat) (c5 : C_laws_eqFloat32S P g_laws_eqFloat32S) : C_laws_FnExactHarmonicAt P f := by
  intro ts p at0 hx
  refine q_laws_FnExactHarmonicAt h ts p at0 ?_
  repeat' (first | with_reducible refine T.ok_ob ?_ (fun _ => ?_) | with_reducible refine T.ok_ite (fun _ => ?_) (fun _ => ?_) | with_reducible refine T.ok_leaf ?_)
  all_goals (try simp only [decide_eq_true_eq, decide_eq_false_iff_not, sz_lt, gt_iff_lt, Int.not_lt, Bool.not_beq_self, bne_self_eq_false, beq_self_eq_true] at *)
  all_goals (try simp (disch := omega) only [sz_val] at *)
  all_goals first | with_reducible rfl | with_reducible assumption | ((with_reducible refine c1 _ ?_) <;> (first | assumption | omega | with_reducible rfl | (simp [maxLen_eq]; done) | (simp [maxLen_eq]; omega))) | ((with_reducible refine c2 _ _ _ ?_) <;> (first | assumption | omega | with_reducible rfl | (simp [maxLen_eq]; done) | (simp [maxLen_eq]; omega))) | ((with_reducible refine c3 _ _ _ ?_) <;> (first | assumption | omega | with_reducible rfl | (simp [maxLen_eq]; done) | (simp [maxLen_eq]; omega))) | ((with_reducible refine c4 _ _ ?_) <;> (first | assumption | omega | with_reducible rfl | (simp [maxLen_eq]; done) | (simp [maxLen_eq]; omega))) | ((with_reducible refine c5 _ _ rfl ?_) <;> (first | assumption | omega | with_reducible rfl | (simp [maxLen_eq]; done) | (simp [maxLen_eq]; omega))) | contradiction | exact fconvOk_32_64 _ | assumption | exact rfl | (simp only [marks_len, bne_self_eq_false, Bool.false_eq_true] at *; done) | (simp_all [marks_len]; done) | (simp_all [T.ok, marks_len]; omega)

end Go.Proofs.LV
