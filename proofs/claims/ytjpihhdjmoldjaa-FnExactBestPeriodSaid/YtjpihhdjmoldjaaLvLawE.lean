/- The laws FnExactWeightFit, StepOf, SeasonOf, BestPeriod. -/
import Derived.Test.YtjpihhdjmoldjaaLvFnI
import Derived.Test.YtjpihhdjmoldjaaLvLawB
namespace Go.Proofs.LV
open Go
set_option linter.unusedVariables false
set_option linter.unusedSimpArgs false

/-- laws.FnExactWeightFit: slots 84, results [.t 6]; calls [27:g_laws_toFloat32S, 29:g_laws_toFloat32S, 31:g_laws_toFloat32S, 32:g_spec_WeightFit, 37:g_laws_toFloat32S, 39:g_laws_toFloat32S, 41:g_laws_toFloat32S, 46:g_impl_WeightFit, 54:g_laws_sameFloat, 61:g_laws_sameFloat, 71:g_laws_toFloat32S, 72:g_laws_eqFloat32S, 76:g_laws_toFloat32S, 77:g_laws_eqFloat32S, 81:g_laws_toFloat32S, 82:g_laws_eqFloat32S]; names [(aX, 0), (aY, 1), (aWeights, 2), (aX, 3), (aY, 4), (aWeights, 5), (w0, 7), (w1, 8), (w2, 9), (x0, 10), (x1, 11), (x2, 12), (g0, 13), (g1, 14), (g2, 15)] -/
def ps_laws_FnExactWeightFit : List Nat := [0, 1, 2, 6, 7, 8, 9, 10, 11, 12, 13, 14, 15, 18, 21, 24, 68, 73, 78, 83]
def b_laws_FnExactWeightFit (g_laws_toFloat32S g_spec_WeightFit g_impl_WeightFit g_laws_sameFloat g_laws_eqFloat32S : FuncId) : VCode :=
  (.seq
   (.region false [
    ⟨some 6, .mv, [.k (.b false)], none⟩])
   (.seq
    (.seq
     (.region false [
      ⟨some 16, .mv, [.t 0], none⟩,
      ⟨some 17, .len, [.t 16], none⟩,
      ⟨some 18, (.bin .gtr), [.t 17, .k (.i .i64 1048576)], none⟩])
     (.cond (.t 18)
      (.seq
       (.region false [
        ⟨some 6, .mv, [.k (.b true)], none⟩])
       .ret)
      .skip))
    (.seq
     (.seq
      (.region false [
       ⟨some 19, .mv, [.t 1], none⟩,
       ⟨some 20, .len, [.t 19], none⟩,
       ⟨some 21, (.bin .gtr), [.t 20, .k (.i .i64 1048576)], none⟩])
      (.cond (.t 21)
       (.seq
        (.region false [
         ⟨some 6, .mv, [.k (.b true)], none⟩])
        .ret)
       .skip))
     (.seq
      (.seq
       (.region false [
        ⟨some 22, .mv, [.t 2], none⟩,
        ⟨some 23, .len, [.t 22], none⟩,
        ⟨some 24, (.bin .gtr), [.t 23, .k (.i .i64 1048576)], none⟩])
       (.cond (.t 24)
        (.seq
         (.region false [
          ⟨some 6, .mv, [.k (.b true)], none⟩])
         .ret)
        .skip))
      (.seq
       (.region false [
        ⟨some 26, .mv, [.t 0], none⟩,
        ⟨some 27, (.call g_laws_toFloat32S), [.t 26], none⟩,
        ⟨some 28, .mv, [.t 1], none⟩,
        ⟨some 29, (.call g_laws_toFloat32S), [.t 28], none⟩,
        ⟨some 30, .mv, [.t 2], none⟩,
        ⟨some 31, (.call g_laws_toFloat32S), [.t 30], none⟩,
        ⟨some 32, (.call g_spec_WeightFit), [.t 27, .t 29, .t 31], none⟩,
        ⟨some 25, .mv, [.t 32], none⟩,
        ⟨some 33, (.extract 0), [.t 25], none⟩,
        ⟨some 34, (.extract 1), [.t 25], none⟩,
        ⟨some 35, (.extract 2), [.t 25], none⟩,
        ⟨some 7, .mv, [.t 33], none⟩,
        ⟨some 8, .mv, [.t 34], none⟩,
        ⟨some 9, .mv, [.t 35], none⟩])
       (.seq
        (.region false [
         ⟨some 36, .mv, [.t 0], none⟩,
         ⟨some 37, (.call g_laws_toFloat32S), [.t 36], none⟩,
         ⟨some 10, .mv, [.t 37], none⟩])
        (.seq
         (.region false [
          ⟨some 38, .mv, [.t 1], none⟩,
          ⟨some 39, (.call g_laws_toFloat32S), [.t 38], none⟩,
          ⟨some 11, .mv, [.t 39], none⟩])
         (.seq
          (.region false [
           ⟨some 40, .mv, [.t 2], none⟩,
           ⟨some 41, (.call g_laws_toFloat32S), [.t 40], none⟩,
           ⟨some 12, .mv, [.t 41], none⟩])
          (.seq
           (.region false [
            ⟨some 43, .mv, [.t 10], none⟩,
            ⟨some 44, .mv, [.t 11], none⟩,
            ⟨some 45, .mv, [.t 12], none⟩,
            ⟨some 46, (.call g_impl_WeightFit), [.t 43, .t 44, .t 45], none⟩,
            ⟨some 42, .mv, [.t 46], none⟩,
            ⟨some 47, (.extract 0), [.t 42], none⟩,
            ⟨some 48, (.extract 1), [.t 42], none⟩,
            ⟨some 49, (.extract 2), [.t 42], none⟩,
            ⟨some 13, .mv, [.t 47], none⟩,
            ⟨some 14, .mv, [.t 48], none⟩,
            ⟨some 15, .mv, [.t 49], none⟩])
           (.seq
            (.seq
             (.region false [
              ⟨some 50, .mv, [.t 13], none⟩,
              ⟨some 51, (.convF .f64), [.t 50], none⟩,
              ⟨some 52, .mv, [.t 7], none⟩,
              ⟨some 53, (.convF .f64), [.t 52], none⟩,
              ⟨some 54, (.call g_laws_sameFloat), [.t 51, .t 53], none⟩,
              ⟨some 55, .not, [.t 54], none⟩,
              ⟨some 56, .mv, [.t 55], none⟩,
              ⟨some 57, .mv, [.t 14], some (56, false)⟩,
              ⟨some 58, (.convF .f64), [.t 57], some (56, false)⟩,
              ⟨some 59, .mv, [.t 8], some (56, false)⟩,
              ⟨some 60, (.convF .f64), [.t 59], some (56, false)⟩,
              ⟨some 61, (.call g_laws_sameFloat), [.t 58, .t 60], some (56, false)⟩,
              ⟨some 62, .not, [.t 61], some (56, false)⟩,
              ⟨some 63, .pick, [.t 56, .k (.b true), .t 62], none⟩,
              ⟨some 64, .mv, [.t 63], none⟩,
              ⟨some 65, .mv, [.t 15], some (64, false)⟩,
              ⟨some 66, .mv, [.t 9], some (64, false)⟩,
              ⟨some 67, (.binb .neq), [.t 65, .t 66], some (64, false)⟩,
              ⟨some 68, .pick, [.t 64, .k (.b true), .t 67], none⟩])
             (.cond (.t 68)
              (.seq
               (.region false [
                ⟨some 6, .mv, [.k (.b false)], none⟩])
               .ret)
              .skip))
            (.seq
             (.seq
              (.region false [
               ⟨some 69, .mv, [.t 10], none⟩,
               ⟨some 70, .mv, [.t 0], none⟩,
               ⟨some 71, (.call g_laws_toFloat32S), [.t 70], none⟩,
               ⟨some 72, (.call g_laws_eqFloat32S), [.t 69, .t 71], none⟩,
               ⟨some 73, .not, [.t 72], none⟩])
              (.cond (.t 73)
               (.seq
                (.region false [
                 ⟨some 6, .mv, [.k (.b false)], none⟩])
                .ret)
               .skip))
             (.seq
              (.seq
               (.region false [
                ⟨some 74, .mv, [.t 11], none⟩,
                ⟨some 75, .mv, [.t 1], none⟩,
                ⟨some 76, (.call g_laws_toFloat32S), [.t 75], none⟩,
                ⟨some 77, (.call g_laws_eqFloat32S), [.t 74, .t 76], none⟩,
                ⟨some 78, .not, [.t 77], none⟩])
               (.cond (.t 78)
                (.seq
                 (.region false [
                  ⟨some 6, .mv, [.k (.b false)], none⟩])
                 .ret)
                .skip))
              (.seq
               (.seq
                (.region false [
                 ⟨some 79, .mv, [.t 12], none⟩,
                 ⟨some 80, .mv, [.t 2], none⟩,
                 ⟨some 81, (.call g_laws_toFloat32S), [.t 80], none⟩,
                 ⟨some 82, (.call g_laws_eqFloat32S), [.t 79, .t 81], none⟩,
                 ⟨some 83, .not, [.t 82], none⟩])
                (.cond (.t 83)
                 (.seq
                  (.region false [
                   ⟨some 6, .mv, [.k (.b false)], none⟩])
                  .ret)
                 .skip))
               (.seq
                (.region false [
                 ⟨some 6, .mv, [.k (.b true)], none⟩])
                .ret))))))))))))))

abbrev Is_laws_FnExactWeightFit (P : Program) (g_f : FuncId) (g_laws_toFloat32S g_spec_WeightFit g_impl_WeightFit g_laws_sameFloat g_laws_eqFloat32S : FuncId) : Prop := FnIs P g_f 84 [.t 6] (b_laws_FnExactWeightFit g_laws_toFloat32S g_spec_WeightFit g_impl_WeightFit g_laws_sameFloat g_laws_eqFloat32S)

abbrev C_laws_FnExactWeightFit (P : Program) (g_f : FuncId) : Prop := ∀ (x : List Nat) (y : List Nat) (ws : List Nat) (hx : x.length ≤ maxLen) (hy : y.length ≤ maxLen) (hw : ws.length ≤ maxLen), VCall P g_f [PS [0] .f32 x, PS [1] .f32 y, PS [2] .f32 ws] (.b true)
def oc1_laws_FnExactWeightFit (as : List AV) : T AV := match as with | [.sl _ _ (.f .f32 x), .sl _ _ (.f .f32 y), .sl _ _ (.f .f32 ws)] => .leaf (.b true) | _ => .fail
def oc_laws_FnExactWeightFit (x : List Nat) (y : List Nat) (ws : List Nat) (d : Nat) (as : List AV) : T AV := match d with | 27 => oc1_laws_toFloat32S as | 29 => oc1_laws_toFloat32S as | 31 => oc1_laws_toFloat32S as | 32 => oc1_spec_WeightFit as | 37 => oc1_laws_toFloat32S as | 39 => oc1_laws_toFloat32S as | 41 => oc1_laws_toFloat32S as | 46 => oc1_impl_WeightFit as | 54 => oc1_laws_sameFloat as | 61 => oc1_laws_sameFloat as | 71 => oc1_laws_toFloat32S as | 72 => oc1_laws_eqFloat32S as | 76 => oc1_laws_toFloat32S as | 77 => oc1_laws_eqFloat32S as | 81 => oc1_laws_toFloat32S as | 82 => oc1_laws_eqFloat32S as | _ => .fail



theorem q_laws_FnExactWeightFit {P : Program} {g_f : FuncId} {g_laws_toFloat32S g_spec_WeightFit g_impl_WeightFit g_laws_sameFloat g_laws_eqFloat32S : FuncId} (h_ : Is_laws_FnExactWeightFit P g_f g_laws_toFloat32S g_spec_WeightFit g_impl_WeightFit g_laws_sameFloat g_laws_eqFloat32S) (x : List Nat) (y : List Nat) (ws : List Nat) (ht : T.ok (fun x_ => x_ = .b true) (
      T.ite (decide ((↑(List.length x) : Int) > 1048576)) (T.leaf (AV.b true))
        (T.ite (decide ((↑(List.length y) : Int) > 1048576)) (T.leaf (AV.b true))
          (T.ite (decide ((↑(List.length ws) : Int) > 1048576)) (T.leaf (AV.b true))
            (T.ob ((VCall P) g_laws_toFloat32S [AV.sl (Tag.par [0]) 0 (Cont.f FloatKind.f32 x)] (AV.sl (Tag.own 0) 0 (Cont.f FloatKind.f32 x)))
              (T.ob ((VCall P) g_laws_toFloat32S [AV.sl (Tag.par [0]) 0 (Cont.f FloatKind.f32 y)] (AV.sl (Tag.own 0) 0 (Cont.f FloatKind.f32 y)))
                (T.ob ((VCall P) g_laws_toFloat32S [AV.sl (Tag.par [0]) 0 (Cont.f FloatKind.f32 ws)] (AV.sl (Tag.own 0) 0 (Cont.f FloatKind.f32 ws)))
                  (T.ob
                    ((VCall P) g_spec_WeightFit [AV.sl (Tag.par [0]) 0 (Cont.f FloatKind.f32 x), AV.sl (Tag.par [1]) 0 (Cont.f FloatKind.f32 y), AV.sl (Tag.par [2]) 0 (Cont.f FloatKind.f32 ws)]
                      (AV.tup [AV.f FloatKind.f32 (if wfOk x y ws = true then wfBase x y ws else 0), AV.f FloatKind.f32 (if wfOk x y ws = true then wfSlope x y ws else 0), AV.b (wfOk x y ws)]))
                    (T.ob ((VCall P) g_laws_toFloat32S [AV.sl (Tag.par [0]) 0 (Cont.f FloatKind.f32 x)] (AV.sl (Tag.own 0) 0 (Cont.f FloatKind.f32 x)))
                      (T.ob ((VCall P) g_laws_toFloat32S [AV.sl (Tag.par [0]) 0 (Cont.f FloatKind.f32 y)] (AV.sl (Tag.own 0) 0 (Cont.f FloatKind.f32 y)))
                        (T.ob ((VCall P) g_laws_toFloat32S [AV.sl (Tag.par [0]) 0 (Cont.f FloatKind.f32 ws)] (AV.sl (Tag.own 0) 0 (Cont.f FloatKind.f32 ws)))
                          (T.ob
                            ((VCall P) g_impl_WeightFit [AV.sl (Tag.par [0]) 0 (Cont.f FloatKind.f32 x), AV.sl (Tag.par [1]) 0 (Cont.f FloatKind.f32 y), AV.sl (Tag.par [2]) 0 (Cont.f FloatKind.f32 ws)]
                              (AV.tup [AV.f FloatKind.f32 (if wfOk x y ws = true then wfBase x y ws else 0), AV.f FloatKind.f32 (if wfOk x y ws = true then wfSlope x y ws else 0), AV.b (wfOk x y ws)]))
                            (T.ob (fconvOk FloatKind.f32 FloatKind.f64 (if wfOk x y ws = true then wfBase x y ws else 0) = true)
                              (T.ob (fconvOk FloatKind.f32 FloatKind.f64 (if wfOk x y ws = true then wfBase x y ws else 0) = true)
                                (T.ob
                                  ((VCall P) g_laws_sameFloat
                                    [AV.f FloatKind.f64 (fconv FloatKind.f32 FloatKind.f64 (if wfOk x y ws = true then wfBase x y ws else 0)),
                                      AV.f FloatKind.f64 (fconv FloatKind.f32 FloatKind.f64 (if wfOk x y ws = true then wfBase x y ws else 0))]
                                    (AV.b true))
                                  (T.ite false (T.leaf (AV.b false))
                                    (T.ob (fconvOk FloatKind.f32 FloatKind.f64 (if wfOk x y ws = true then wfSlope x y ws else 0) = true)
                                      (T.ob (fconvOk FloatKind.f32 FloatKind.f64 (if wfOk x y ws = true then wfSlope x y ws else 0) = true)
                                        (T.ob
                                          ((VCall P) g_laws_sameFloat
                                            [AV.f FloatKind.f64 (fconv FloatKind.f32 FloatKind.f64 (if wfOk x y ws = true then wfSlope x y ws else 0)),
                                              AV.f FloatKind.f64 (fconv FloatKind.f32 FloatKind.f64 (if wfOk x y ws = true then wfSlope x y ws else 0))]
                                            (AV.b true))
                                          (T.ite false (T.leaf (AV.b false))
                                            (T.ite (!wfOk x y ws == wfOk x y ws) (T.leaf (AV.b false))
                                              (T.ob ((VCall P) g_laws_toFloat32S [AV.sl (Tag.par [0]) 0 (Cont.f FloatKind.f32 x)] (AV.sl (Tag.own 0) 0 (Cont.f FloatKind.f32 x)))
                                                (T.ob ((VCall P) g_laws_eqFloat32S [AV.sl (Tag.par [0]) 0 (Cont.f FloatKind.f32 x), AV.sl (Tag.par [1]) 0 (Cont.f FloatKind.f32 x)] (AV.b true))
                                                  (T.ite false (T.leaf (AV.b false))
                                                    (T.ob ((VCall P) g_laws_toFloat32S [AV.sl (Tag.par [0]) 0 (Cont.f FloatKind.f32 y)] (AV.sl (Tag.own 0) 0 (Cont.f FloatKind.f32 y)))
                                                      (T.ob ((VCall P) g_laws_eqFloat32S [AV.sl (Tag.par [0]) 0 (Cont.f FloatKind.f32 y), AV.sl (Tag.par [1]) 0 (Cont.f FloatKind.f32 y)] (AV.b true))
                                                        (T.ite false (T.leaf (AV.b false))
                                                          (T.ob ((VCall P) g_laws_toFloat32S [AV.sl (Tag.par [0]) 0 (Cont.f FloatKind.f32 ws)] (AV.sl (Tag.own 0) 0 (Cont.f FloatKind.f32 ws)))
                                                            (T.ob ((VCall P) g_laws_eqFloat32S [AV.sl (Tag.par [0]) 0 (Cont.f FloatKind.f32 ws), AV.sl (Tag.par [1]) 0 (Cont.f FloatKind.f32 ws)] (AV.b true))
                                                              (T.ite false (T.leaf (AV.b false)) (T.leaf (AV.b true)))))))))))))))))))))))))))))))) :
    VCall P g_f [PS [0] .f32 x, PS [1] .f32 y, PS [2] .f32 ws] (.b true) := h_.call_of ps_laws_FnExactWeightFit ⟨oc_laws_FnExactWeightFit x y ws, fun _ _ => none⟩ (by kernel_rfl) ht


/-- laws.FnExactStepOf: slots 49, results [.t 2]; calls [15:g_laws_toFloat32S, 16:g_spec_StepOf, 21:g_laws_toFloat32S, 24:g_impl_StepOf, 36:g_laws_sameFloat, 46:g_laws_toFloat32S, 47:g_laws_eqFloat32S]; names [(aList, 0), (aList, 1), (w0, 3), (w1, 4), (w2, 5), (x0, 6), (g0, 7), (g1, 8), (g2, 9)] -/
def ps_laws_FnExactStepOf : List Nat := [0, 2, 3, 4, 5, 6, 7, 8, 9, 12, 43, 48]
def b_laws_FnExactStepOf (g_laws_toFloat32S g_spec_StepOf g_impl_StepOf g_laws_sameFloat g_laws_eqFloat32S : FuncId) : VCode :=
  (.seq
   (.region false [
    ⟨some 2, .mv, [.k (.b false)], none⟩])
   (.seq
    (.seq
     (.region false [
      ⟨some 10, .mv, [.t 0], none⟩,
      ⟨some 11, .len, [.t 10], none⟩,
      ⟨some 12, (.bin .gtr), [.t 11, .k (.i .i64 1048576)], none⟩])
     (.cond (.t 12)
      (.seq
       (.region false [
        ⟨some 2, .mv, [.k (.b true)], none⟩])
       .ret)
      .skip))
    (.seq
     (.region false [
      ⟨some 14, .mv, [.t 0], none⟩,
      ⟨some 15, (.call g_laws_toFloat32S), [.t 14], none⟩,
      ⟨some 16, (.call g_spec_StepOf), [.t 15], none⟩,
      ⟨some 13, .mv, [.t 16], none⟩,
      ⟨some 17, (.extract 0), [.t 13], none⟩,
      ⟨some 18, (.extract 1), [.t 13], none⟩,
      ⟨some 19, (.extract 2), [.t 13], none⟩,
      ⟨some 3, .mv, [.t 17], none⟩,
      ⟨some 4, .mv, [.t 18], none⟩,
      ⟨some 5, .mv, [.t 19], none⟩])
     (.seq
      (.region false [
       ⟨some 20, .mv, [.t 0], none⟩,
       ⟨some 21, (.call g_laws_toFloat32S), [.t 20], none⟩,
       ⟨some 6, .mv, [.t 21], none⟩])
      (.seq
       (.region false [
        ⟨some 23, .mv, [.t 6], none⟩,
        ⟨some 24, (.call g_impl_StepOf), [.t 23], none⟩,
        ⟨some 22, .mv, [.t 24], none⟩,
        ⟨some 25, (.extract 0), [.t 22], none⟩,
        ⟨some 26, (.extract 1), [.t 22], none⟩,
        ⟨some 27, (.extract 2), [.t 22], none⟩,
        ⟨some 7, .mv, [.t 25], none⟩,
        ⟨some 8, .mv, [.t 26], none⟩,
        ⟨some 9, .mv, [.t 27], none⟩])
       (.seq
        (.seq
         (.region false [
          ⟨some 28, .mv, [.t 7], none⟩,
          ⟨some 29, .mv, [.t 3], none⟩,
          ⟨some 30, (.bin .neq), [.t 28, .t 29], none⟩,
          ⟨some 31, .mv, [.t 30], none⟩,
          ⟨some 32, .mv, [.t 8], some (31, false)⟩,
          ⟨some 33, (.convF .f64), [.t 32], some (31, false)⟩,
          ⟨some 34, .mv, [.t 4], some (31, false)⟩,
          ⟨some 35, (.convF .f64), [.t 34], some (31, false)⟩,
          ⟨some 36, (.call g_laws_sameFloat), [.t 33, .t 35], some (31, false)⟩,
          ⟨some 37, .not, [.t 36], some (31, false)⟩,
          ⟨some 38, .pick, [.t 31, .k (.b true), .t 37], none⟩,
          ⟨some 39, .mv, [.t 38], none⟩,
          ⟨some 40, .mv, [.t 9], some (39, false)⟩,
          ⟨some 41, .mv, [.t 5], some (39, false)⟩,
          ⟨some 42, (.binb .neq), [.t 40, .t 41], some (39, false)⟩,
          ⟨some 43, .pick, [.t 39, .k (.b true), .t 42], none⟩])
         (.cond (.t 43)
          (.seq
           (.region false [
            ⟨some 2, .mv, [.k (.b false)], none⟩])
           .ret)
          .skip))
        (.seq
         (.seq
          (.region false [
           ⟨some 44, .mv, [.t 6], none⟩,
           ⟨some 45, .mv, [.t 0], none⟩,
           ⟨some 46, (.call g_laws_toFloat32S), [.t 45], none⟩,
           ⟨some 47, (.call g_laws_eqFloat32S), [.t 44, .t 46], none⟩,
           ⟨some 48, .not, [.t 47], none⟩])
          (.cond (.t 48)
           (.seq
            (.region false [
             ⟨some 2, .mv, [.k (.b false)], none⟩])
            .ret)
           .skip))
         (.seq
          (.region false [
           ⟨some 2, .mv, [.k (.b true)], none⟩])
          .ret))))))))

abbrev Is_laws_FnExactStepOf (P : Program) (g_f : FuncId) (g_laws_toFloat32S g_spec_StepOf g_impl_StepOf g_laws_sameFloat g_laws_eqFloat32S : FuncId) : Prop := FnIs P g_f 49 [.t 2] (b_laws_FnExactStepOf g_laws_toFloat32S g_spec_StepOf g_impl_StepOf g_laws_sameFloat g_laws_eqFloat32S)

abbrev C_laws_FnExactStepOf (P : Program) (g_f : FuncId) : Prop := ∀ (xs : List Nat) (hx : xs.length ≤ maxLen), VCall P g_f [PS [0] .f32 xs] (.b true)
def oc1_laws_FnExactStepOf (as : List AV) : T AV := match as with | [.sl _ _ (.f .f32 xs)] => .leaf (.b true) | _ => .fail
def oc_laws_FnExactStepOf (xs : List Nat) (d : Nat) (as : List AV) : T AV := match d with | 15 => oc1_laws_toFloat32S as | 16 => oc1_spec_StepOf as | 21 => oc1_laws_toFloat32S as | 24 => oc1_impl_StepOf as | 36 => oc1_laws_sameFloat as | 46 => oc1_laws_toFloat32S as | 47 => oc1_laws_eqFloat32S as | _ => .fail



theorem q_laws_FnExactStepOf {P : Program} {g_f : FuncId} {g_laws_toFloat32S g_spec_StepOf g_impl_StepOf g_laws_sameFloat g_laws_eqFloat32S : FuncId} (h_ : Is_laws_FnExactStepOf P g_f g_laws_toFloat32S g_spec_StepOf g_impl_StepOf g_laws_sameFloat g_laws_eqFloat32S) (xs : List Nat) (ht : T.ok (fun x_ => x_ = .b true) (
      T.ite (decide ((↑(List.length xs) : Int) > 1048576)) (T.leaf (AV.b true))
        (T.ob ((VCall P) g_laws_toFloat32S [AV.sl (Tag.par [0]) 0 (Cont.f FloatKind.f32 xs)] (AV.sl (Tag.own 0) 0 (Cont.f FloatKind.f32 xs)))
          (T.ob
            ((VCall P) g_spec_StepOf [AV.sl (Tag.par [0]) 0 (Cont.f FloatKind.f32 xs)]
              (AV.tup [AV.i IntKind.i64 (↑(if stepOk xs = true then stepBest xs else 0) : Int), AV.f FloatKind.f32 (if stepOk xs = true then stepBy xs else 0), AV.b (stepOk xs)]))
            (T.ob ((VCall P) g_laws_toFloat32S [AV.sl (Tag.par [0]) 0 (Cont.f FloatKind.f32 xs)] (AV.sl (Tag.own 0) 0 (Cont.f FloatKind.f32 xs)))
              (T.ob
                ((VCall P) g_impl_StepOf [AV.sl (Tag.par [0]) 0 (Cont.f FloatKind.f32 xs)]
                  (AV.tup [AV.i IntKind.i64 (↑(if stepOk xs = true then stepBest xs else 0) : Int), AV.f FloatKind.f32 (if stepOk xs = true then stepBy xs else 0), AV.b (stepOk xs)]))
                (T.ite ((↑(if stepOk xs = true then stepBest xs else 0) : Int) != (↑(if stepOk xs = true then stepBest xs else 0) : Int)) (T.leaf (AV.b false))
                  (T.ob (fconvOk FloatKind.f32 FloatKind.f64 (if stepOk xs = true then stepBy xs else 0) = true)
                    (T.ob (fconvOk FloatKind.f32 FloatKind.f64 (if stepOk xs = true then stepBy xs else 0) = true)
                      (T.ob
                        ((VCall P) g_laws_sameFloat
                          [AV.f FloatKind.f64 (fconv FloatKind.f32 FloatKind.f64 (if stepOk xs = true then stepBy xs else 0)), AV.f FloatKind.f64 (fconv FloatKind.f32 FloatKind.f64 (if stepOk xs = true then stepBy xs else 0))]
                          (AV.b true))
                        (T.ite false (T.leaf (AV.b false))
                          (T.ite (!stepOk xs == stepOk xs) (T.leaf (AV.b false))
                            (T.ob ((VCall P) g_laws_toFloat32S [AV.sl (Tag.par [0]) 0 (Cont.f FloatKind.f32 xs)] (AV.sl (Tag.own 0) 0 (Cont.f FloatKind.f32 xs)))
                              (T.ob ((VCall P) g_laws_eqFloat32S [AV.sl (Tag.par [0]) 0 (Cont.f FloatKind.f32 xs), AV.sl (Tag.par [1]) 0 (Cont.f FloatKind.f32 xs)] (AV.b true))
                                (T.ite false (T.leaf (AV.b false)) (T.leaf (AV.b true))))))))))))))))) :
    VCall P g_f [PS [0] .f32 xs] (.b true) := h_.call_of ps_laws_FnExactStepOf ⟨oc_laws_FnExactStepOf xs, fun _ _ => none⟩ (by kernel_rfl) ht


/-- laws.FnExactSeasonOf: slots 98, results [.t 4]; calls [20:g_laws_toFloat32S, 22:g_spec_SeasonOf, 26:g_laws_toFloat32S, 30:g_impl_SeasonOf, 35:g_laws_eqFloat32S, 44:g_laws_toFloat32S, 45:g_laws_eqFloat32S, 49:g_laws_markFloat32S, 55:g_laws_eqFloat32S, 65:g_laws_markFloat32S, 68:g_laws_heldFloat32S, 76:g_laws_toFloat32S, 78:g_impl_SeasonOf, 83:g_laws_eqFloat32S, 92:g_laws_heldFloat32S]; names [(aList, 0), (aPeriod, 1), (aList, 2), (aPeriod, 3), (w0, 5), (w1, 6), (x0, 7), (g0, 8), (g1, 9), (k, 10), (m, 11), (q, 12), (h0, 13), (h1, 14)] -/
def ps_laws_FnExactSeasonOf : List Nat := [0, 1, 4, 5, 6, 7, 8, 9, 10, 11, 12, 13, 14, 17, 41, 46, 62, 70, 73, 89, 94, 97]
def b_laws_FnExactSeasonOf (g_laws_toFloat32S g_spec_SeasonOf g_impl_SeasonOf g_laws_eqFloat32S g_laws_markFloat32S g_laws_heldFloat32S : FuncId) : VCode :=
  (.seq
   (.region false [
    ⟨some 4, .mv, [.k (.b false)], none⟩])
   (.seq
    (.seq
     (.region false [
      ⟨some 15, .mv, [.t 0], none⟩,
      ⟨some 16, .len, [.t 15], none⟩,
      ⟨some 17, (.bin .gtr), [.t 16, .k (.i .i64 1048576)], none⟩])
     (.cond (.t 17)
      (.seq
       (.region false [
        ⟨some 4, .mv, [.k (.b true)], none⟩])
       .ret)
      .skip))
    (.seq
     (.region false [
      ⟨some 19, .mv, [.t 0], none⟩,
      ⟨some 20, (.call g_laws_toFloat32S), [.t 19], none⟩,
      ⟨some 21, .mv, [.t 1], none⟩,
      ⟨some 22, (.call g_spec_SeasonOf), [.t 20, .t 21], none⟩,
      ⟨some 18, .mv, [.t 22], none⟩,
      ⟨some 23, (.extract 0), [.t 18], none⟩,
      ⟨some 24, (.extract 1), [.t 18], none⟩,
      ⟨some 5, .mv, [.t 23], none⟩,
      ⟨some 6, .mv, [.t 24], none⟩])
     (.seq
      (.region false [
       ⟨some 25, .mv, [.t 0], none⟩,
       ⟨some 26, (.call g_laws_toFloat32S), [.t 25], none⟩,
       ⟨some 7, .mv, [.t 26], none⟩])
      (.seq
       (.region false [
        ⟨some 28, .mv, [.t 7], none⟩,
        ⟨some 29, .mv, [.t 1], none⟩,
        ⟨some 30, (.call g_impl_SeasonOf), [.t 28, .t 29], none⟩,
        ⟨some 27, .mv, [.t 30], none⟩,
        ⟨some 31, (.extract 0), [.t 27], none⟩,
        ⟨some 32, (.extract 1), [.t 27], none⟩,
        ⟨some 8, .mv, [.t 31], none⟩,
        ⟨some 9, .mv, [.t 32], none⟩])
       (.seq
        (.seq
         (.region false [
          ⟨some 33, .mv, [.t 8], none⟩,
          ⟨some 34, .mv, [.t 5], none⟩,
          ⟨some 35, (.call g_laws_eqFloat32S), [.t 33, .t 34], none⟩,
          ⟨some 36, .not, [.t 35], none⟩,
          ⟨some 37, .mv, [.t 36], none⟩,
          ⟨some 38, .mv, [.t 9], some (37, false)⟩,
          ⟨some 39, .mv, [.t 6], some (37, false)⟩,
          ⟨some 40, (.binb .neq), [.t 38, .t 39], some (37, false)⟩,
          ⟨some 41, .pick, [.t 37, .k (.b true), .t 40], none⟩])
         (.cond (.t 41)
          (.seq
           (.region false [
            ⟨some 4, .mv, [.k (.b false)], none⟩])
           .ret)
          .skip))
        (.seq
         (.seq
          (.region false [
           ⟨some 42, .mv, [.t 7], none⟩,
           ⟨some 43, .mv, [.t 0], none⟩,
           ⟨some 44, (.call g_laws_toFloat32S), [.t 43], none⟩,
           ⟨some 45, (.call g_laws_eqFloat32S), [.t 42, .t 44], none⟩,
           ⟨some 46, .not, [.t 45], none⟩])
          (.cond (.t 46)
           (.seq
            (.region false [
             ⟨some 4, .mv, [.k (.b false)], none⟩])
            .ret)
           .skip))
         (.seq
          (.region false [
           ⟨some 10, .mv, [.k (.i .i64 1)], none⟩])
          (.seq
           (.region false [
            ⟨some 47, .mv, [.t 7], none⟩,
            ⟨some 48, .mv, [.t 10], none⟩,
            ⟨some 49, (.call g_laws_markFloat32S), [.t 47, .t 48], none⟩,
            ⟨some 10, .mv, [.t 49], none⟩])
           (.seq
            (.seq
             (.region false [
              ⟨some 50, .mv, [.t 10], none⟩,
              ⟨some 51, (.bin .lss), [.t 50, .k (.i .i64 0)], none⟩,
              ⟨some 52, .mv, [.t 51], none⟩,
              ⟨some 53, .mv, [.t 8], some (52, false)⟩,
              ⟨some 54, .mv, [.t 5], some (52, false)⟩,
              ⟨some 55, (.call g_laws_eqFloat32S), [.t 53, .t 54], some (52, false)⟩,
              ⟨some 56, .not, [.t 55], some (52, false)⟩,
              ⟨some 57, .pick, [.t 52, .k (.b true), .t 56], none⟩,
              ⟨some 58, .mv, [.t 57], none⟩,
              ⟨some 59, .mv, [.t 9], some (58, false)⟩,
              ⟨some 60, .mv, [.t 6], some (58, false)⟩,
              ⟨some 61, (.binb .neq), [.t 59, .t 60], some (58, false)⟩,
              ⟨some 62, .pick, [.t 58, .k (.b true), .t 61], none⟩])
             (.cond (.t 62)
              (.seq
               (.region false [
                ⟨some 4, .mv, [.k (.b false)], none⟩])
               .ret)
              .skip))
            (.seq
             (.region false [
              ⟨some 11, .mv, [.k (.i .i64 1)], none⟩])
             (.seq
              (.region false [
               ⟨some 63, .mv, [.t 8], none⟩,
               ⟨some 64, .mv, [.t 11], none⟩,
               ⟨some 65, (.call g_laws_markFloat32S), [.t 63, .t 64], none⟩,
               ⟨some 11, .mv, [.t 65], none⟩])
              (.seq
               (.region false [
                ⟨some 12, .mv, [.k (.i .i64 1)], none⟩])
               (.seq
                (.region false [
                 ⟨some 66, .mv, [.t 8], none⟩,
                 ⟨some 67, .mv, [.t 12], none⟩,
                 ⟨some 68, (.call g_laws_heldFloat32S), [.t 66, .t 67], none⟩,
                 ⟨some 12, .mv, [.t 68], none⟩])
                (.seq
                 (.seq
                  (.region false [
                   ⟨some 69, .mv, [.t 12], none⟩,
                   ⟨some 70, (.bin .lss), [.t 69, .k (.i .i64 0)], none⟩])
                  (.cond (.t 70)
                   (.seq
                    (.region false [
                     ⟨some 4, .mv, [.k (.b false)], none⟩])
                    .ret)
                   .skip))
                 (.seq
                  (.seq
                   (.region false [
                    ⟨some 71, .mv, [.t 12], none⟩,
                    ⟨some 72, .mv, [.t 11], none⟩,
                    ⟨some 73, (.bin .neq), [.t 71, .t 72], none⟩])
                   (.cond (.t 73)
                    (.seq
                     (.region false [
                      ⟨some 4, .mv, [.k (.b false)], none⟩])
                     .ret)
                    .skip))
                  (.seq
                   (.region false [
                    ⟨some 75, .mv, [.t 0], none⟩,
                    ⟨some 76, (.call g_laws_toFloat32S), [.t 75], none⟩,
                    ⟨some 77, .mv, [.t 1], none⟩,
                    ⟨some 78, (.call g_impl_SeasonOf), [.t 76, .t 77], none⟩,
                    ⟨some 74, .mv, [.t 78], none⟩,
                    ⟨some 79, (.extract 0), [.t 74], none⟩,
                    ⟨some 80, (.extract 1), [.t 74], none⟩,
                    ⟨some 13, .mv, [.t 79], none⟩,
                    ⟨some 14, .mv, [.t 80], none⟩])
                   (.seq
                    (.seq
                     (.region false [
                      ⟨some 81, .mv, [.t 13], none⟩,
                      ⟨some 82, .mv, [.t 5], none⟩,
                      ⟨some 83, (.call g_laws_eqFloat32S), [.t 81, .t 82], none⟩,
                      ⟨some 84, .not, [.t 83], none⟩,
                      ⟨some 85, .mv, [.t 84], none⟩,
                      ⟨some 86, .mv, [.t 14], some (85, false)⟩,
                      ⟨some 87, .mv, [.t 6], some (85, false)⟩,
                      ⟨some 88, (.binb .neq), [.t 86, .t 87], some (85, false)⟩,
                      ⟨some 89, .pick, [.t 85, .k (.b true), .t 88], none⟩])
                     (.cond (.t 89)
                      (.seq
                       (.region false [
                        ⟨some 4, .mv, [.k (.b false)], none⟩])
                       .ret)
                      .skip))
                    (.seq
                     (.region false [
                      ⟨some 12, .mv, [.k (.i .i64 1)], none⟩])
                     (.seq
                      (.region false [
                       ⟨some 90, .mv, [.t 8], none⟩,
                       ⟨some 91, .mv, [.t 12], none⟩,
                       ⟨some 92, (.call g_laws_heldFloat32S), [.t 90, .t 91], none⟩,
                       ⟨some 12, .mv, [.t 92], none⟩])
                      (.seq
                       (.seq
                        (.region false [
                         ⟨some 93, .mv, [.t 12], none⟩,
                         ⟨some 94, (.bin .lss), [.t 93, .k (.i .i64 0)], none⟩])
                        (.cond (.t 94)
                         (.seq
                          (.region false [
                           ⟨some 4, .mv, [.k (.b false)], none⟩])
                          .ret)
                         .skip))
                       (.seq
                        (.seq
                         (.region false [
                          ⟨some 95, .mv, [.t 12], none⟩,
                          ⟨some 96, .mv, [.t 11], none⟩,
                          ⟨some 97, (.bin .neq), [.t 95, .t 96], none⟩])
                         (.cond (.t 97)
                          (.seq
                           (.region false [
                            ⟨some 4, .mv, [.k (.b false)], none⟩])
                           .ret)
                          .skip))
                        (.seq
                         (.region false [
                          ⟨some 4, .mv, [.k (.b true)], none⟩])
                         .ret)))))))))))))))))))))))

abbrev Is_laws_FnExactSeasonOf (P : Program) (g_f : FuncId) (g_laws_toFloat32S g_spec_SeasonOf g_impl_SeasonOf g_laws_eqFloat32S g_laws_markFloat32S g_laws_heldFloat32S : FuncId) : Prop := FnIs P g_f 98 [.t 4] (b_laws_FnExactSeasonOf g_laws_toFloat32S g_spec_SeasonOf g_impl_SeasonOf g_laws_eqFloat32S g_laws_markFloat32S g_laws_heldFloat32S)

abbrev C_laws_FnExactSeasonOf (P : Program) (g_f : FuncId) : Prop := ∀ (xs : List Nat) (per : Int) (hx : xs.length ≤ maxLen), VCall P g_f [PS [0] .f32 xs, .i .i64 per] (.b true)
def oc1_laws_FnExactSeasonOf (as : List AV) : T AV := match as with | [.sl _ _ (.f .f32 xs), .i .i64 per] => .leaf (.b true) | _ => .fail
def oc_laws_FnExactSeasonOf (xs : List Nat) (per : Int) (d : Nat) (as : List AV) : T AV := match d with | 20 => oc1_laws_toFloat32S as | 22 => oc1_spec_SeasonOf as | 26 => oc1_laws_toFloat32S as | 30 => oc1_impl_SeasonOf as | 35 => oc1_laws_eqFloat32S as | 44 => oc1_laws_toFloat32S as | 45 => oc1_laws_eqFloat32S as | 49 => oc1_laws_markFloat32S as | 55 => oc1_laws_eqFloat32S as | 65 => oc1_laws_markFloat32S as | 68 => oc1_laws_heldFloat32S as | 76 => oc1_laws_toFloat32S as | 78 => oc1_impl_SeasonOf as | 83 => oc1_laws_eqFloat32S as | 92 => oc1_laws_heldFloat32S as | _ => .fail



theorem q_laws_FnExactSeasonOf {P : Program} {g_f : FuncId} {g_laws_toFloat32S g_spec_SeasonOf g_impl_SeasonOf g_laws_eqFloat32S g_laws_markFloat32S g_laws_heldFloat32S : FuncId} (h_ : Is_laws_FnExactSeasonOf P g_f g_laws_toFloat32S g_spec_SeasonOf g_impl_SeasonOf g_laws_eqFloat32S g_laws_markFloat32S g_laws_heldFloat32S) (xs : List Nat) (per : Int) (ht : T.ok (fun x_ => x_ = .b true) (
      T.ite (decide ((↑(List.length xs) : Int) > 1048576)) (T.leaf (AV.b true))
        (T.ob ((VCall P) g_laws_toFloat32S [AV.sl (Tag.par [0]) 0 (Cont.f FloatKind.f32 xs)] (AV.sl (Tag.own 0) 0 (Cont.f FloatKind.f32 xs)))
          (T.ob
            ((VCall P) g_spec_SeasonOf [AV.sl (Tag.par [0]) 0 (Cont.f FloatKind.f32 xs), AV.i IntKind.i64 per]
              (AV.tup [AV.sl (Tag.own 0) 0 (Cont.f FloatKind.f32 (if seasonOk xs per = true then seasonM xs (Int.toNat per) else [])), AV.b (seasonOk xs per)]))
            (T.ob ((VCall P) g_laws_toFloat32S [AV.sl (Tag.par [0]) 0 (Cont.f FloatKind.f32 xs)] (AV.sl (Tag.own 0) 0 (Cont.f FloatKind.f32 xs)))
              (T.ob
                ((VCall P) g_impl_SeasonOf [AV.sl (Tag.par [0]) 0 (Cont.f FloatKind.f32 xs), AV.i IntKind.i64 per]
                  (AV.tup [AV.sl (Tag.own 0) 0 (Cont.f FloatKind.f32 (if seasonOk xs per = true then seasonM xs (Int.toNat per) else [])), AV.b (seasonOk xs per)]))
                (T.ob
                  ((VCall P) g_laws_eqFloat32S
                    [AV.sl (Tag.par [0]) 0 (Cont.f FloatKind.f32 (if seasonOk xs per = true then seasonM xs (Int.toNat per) else [])),
                      AV.sl (Tag.par [1]) 0 (Cont.f FloatKind.f32 (if seasonOk xs per = true then seasonM xs (Int.toNat per) else []))]
                    (AV.b true))
                  (T.ite false (T.leaf (AV.b false))
                    (T.ite (!seasonOk xs per == seasonOk xs per) (T.leaf (AV.b false))
                      (T.ob ((VCall P) g_laws_toFloat32S [AV.sl (Tag.par [0]) 0 (Cont.f FloatKind.f32 xs)] (AV.sl (Tag.own 0) 0 (Cont.f FloatKind.f32 xs)))
                        (T.ob ((VCall P) g_laws_eqFloat32S [AV.sl (Tag.par [0]) 0 (Cont.f FloatKind.f32 xs), AV.sl (Tag.par [1]) 0 (Cont.f FloatKind.f32 xs)] (AV.b true))
                          (T.ite false (T.leaf (AV.b false))
                            (T.ob
                              ((VCall P) g_laws_markFloat32S [AV.sl (Tag.own 800000) 0 (Cont.f FloatKind.f32 xs), AV.i IntKind.i64 1]
                                  (AV.bx Tag.nil [AV.i IntKind.i64 (1 + (↑(List.length xs) : Int)), AV.tup [AV.sl (Tag.own 800000) 0 (Cont.f FloatKind.f32 (marksM (List.length xs) 1)), AV.i IntKind.i64 1]]) ∧
                                List.length xs = List.length (marksM (List.length xs) 1) ∧ List.length xs = List.length (marksM (List.length xs) 1) ∧ True)
                              (T.ite false (T.leaf (AV.b false))
                                (T.ob
                                  ((VCall P) g_laws_eqFloat32S
                                    [AV.sl (Tag.par [0]) 0 (Cont.f FloatKind.f32 (if seasonOk xs per = true then seasonM xs (Int.toNat per) else [])),
                                      AV.sl (Tag.par [1]) 0 (Cont.f FloatKind.f32 (if seasonOk xs per = true then seasonM xs (Int.toNat per) else []))]
                                    (AV.b true))
                                  (T.ite false (T.leaf (AV.b false))
                                    (T.ite (!seasonOk xs per == seasonOk xs per) (T.leaf (AV.b false))
                                      (T.ob
                                        ((VCall P) g_laws_markFloat32S [AV.sl (Tag.own 800000) 0 (Cont.f FloatKind.f32 (if seasonOk xs per = true then seasonM xs (Int.toNat per) else [])), AV.i IntKind.i64 1]
                                            (AV.bx Tag.nil
                                              [AV.i IntKind.i64 (1 + (↑(List.length (if seasonOk xs per = true then seasonM xs (Int.toNat per) else [])) : Int)),
                                                AV.tup [AV.sl (Tag.own 800000) 0 (Cont.f FloatKind.f32 (marksM (List.length (if seasonOk xs per = true then seasonM xs (Int.toNat per) else [])) 1)), AV.i IntKind.i64 1]]) ∧
                                          List.length (if seasonOk xs per = true then seasonM xs (Int.toNat per) else []) =
                                              List.length (marksM (List.length (if seasonOk xs per = true then seasonM xs (Int.toNat per) else [])) 1) ∧
                                            List.length (if seasonOk xs per = true then seasonM xs (Int.toNat per) else []) =
                                                List.length (marksM (List.length (if seasonOk xs per = true then seasonM xs (Int.toNat per) else [])) 1) ∧
                                              True)
                                        (T.ob
                                          ((VCall P) g_laws_heldFloat32S [AV.sl (Tag.par [0]) 0 (Cont.f FloatKind.f32 (marksM (List.length (if seasonOk xs per = true then seasonM xs (Int.toNat per) else [])) 1)), AV.i IntKind.i64 1]
                                            (AV.i IntKind.i64 (1 + (↑(List.length (marksM (List.length (if seasonOk xs per = true then seasonM xs (Int.toNat per) else [])) 1)) : Int))))
                                          (T.ite false (T.leaf (AV.b false))
                                            (T.ite
                                              (1 + (↑(List.length (marksM (List.length (if seasonOk xs per = true then seasonM xs (Int.toNat per) else [])) 1)) : Int) !=
                                                1 + (↑(List.length (if seasonOk xs per = true then seasonM xs (Int.toNat per) else [])) : Int))
                                              (T.leaf (AV.b false))
                                              (T.ob ((VCall P) g_laws_toFloat32S [AV.sl (Tag.par [0]) 0 (Cont.f FloatKind.f32 xs)] (AV.sl (Tag.own 0) 0 (Cont.f FloatKind.f32 xs)))
                                                (T.ob
                                                  ((VCall P) g_impl_SeasonOf [AV.sl (Tag.par [0]) 0 (Cont.f FloatKind.f32 xs), AV.i IntKind.i64 per]
                                                    (AV.tup [AV.sl (Tag.own 0) 0 (Cont.f FloatKind.f32 (if seasonOk xs per = true then seasonM xs (Int.toNat per) else [])), AV.b (seasonOk xs per)]))
                                                  (T.ob
                                                    ((VCall P) g_laws_eqFloat32S
                                                      [AV.sl (Tag.par [0]) 0 (Cont.f FloatKind.f32 (if seasonOk xs per = true then seasonM xs (Int.toNat per) else [])),
                                                        AV.sl (Tag.par [1]) 0 (Cont.f FloatKind.f32 (if seasonOk xs per = true then seasonM xs (Int.toNat per) else []))]
                                                      (AV.b true))
                                                    (T.ite false (T.leaf (AV.b false))
                                                      (T.ite (!seasonOk xs per == seasonOk xs per) (T.leaf (AV.b false))
                                                        (T.ob
                                                          ((VCall P) g_laws_heldFloat32S
                                                            [AV.sl (Tag.par [0]) 0 (Cont.f FloatKind.f32 (marksM (List.length (if seasonOk xs per = true then seasonM xs (Int.toNat per) else [])) 1)), AV.i IntKind.i64 1]
                                                            (AV.i IntKind.i64 (1 + (↑(List.length (marksM (List.length (if seasonOk xs per = true then seasonM xs (Int.toNat per) else [])) 1)) : Int))))
                                                          (T.ite false (T.leaf (AV.b false))
                                                            (T.ite
                                                              (1 + (↑(List.length (marksM (List.length (if seasonOk xs per = true then seasonM xs (Int.toNat per) else [])) 1)) : Int) !=
                                                                1 + (↑(List.length (if seasonOk xs per = true then seasonM xs (Int.toNat per) else [])) : Int))
                                                              (T.leaf (AV.b false)) (T.leaf (AV.b true))))))))))))))))))))))))))))))) :
    VCall P g_f [PS [0] .f32 xs, .i .i64 per] (.b true) := h_.call_of ps_laws_FnExactSeasonOf ⟨oc_laws_FnExactSeasonOf xs per, fun _ _ => none⟩ (by kernel_rfl) ht


/-- laws.FnExactBestPeriod: slots 61, results [.t 8]; calls [21:g_laws_toFloat32S, 25:g_spec_BestPeriod, 30:g_laws_toFloat32S, 36:g_impl_BestPeriod, 48:g_laws_sameFloat, 58:g_laws_toFloat32S, 59:g_laws_eqFloat32S]; names [(aA, 0), (aLow, 1), (aHigh, 2), (aWorkers, 3), (aA, 4), (aLow, 5), (aHigh, 6), (aWorkers, 7), (w0, 9), (w1, 10), (w2, 11), (x0, 12), (g0, 13), (g1, 14), (g2, 15)] -/
def ps_laws_FnExactBestPeriod : List Nat := [0, 1, 2, 3, 8, 9, 10, 11, 12, 13, 14, 15, 18, 55, 60]
def b_laws_FnExactBestPeriod (g_laws_toFloat32S g_spec_BestPeriod g_impl_BestPeriod g_laws_sameFloat g_laws_eqFloat32S : FuncId) : VCode :=
  (.seq
   (.region false [
    ⟨some 8, .mv, [.k (.b false)], none⟩])
   (.seq
    (.seq
     (.region false [
      ⟨some 16, .mv, [.t 0], none⟩,
      ⟨some 17, .len, [.t 16], none⟩,
      ⟨some 18, (.bin .gtr), [.t 17, .k (.i .i64 1048576)], none⟩])
     (.cond (.t 18)
      (.seq
       (.region false [
        ⟨some 8, .mv, [.k (.b true)], none⟩])
       .ret)
      .skip))
    (.seq
     (.region false [
      ⟨some 20, .mv, [.t 0], none⟩,
      ⟨some 21, (.call g_laws_toFloat32S), [.t 20], none⟩,
      ⟨some 22, .mv, [.t 1], none⟩,
      ⟨some 23, .mv, [.t 2], none⟩,
      ⟨some 24, .mv, [.t 3], none⟩,
      ⟨some 25, (.call g_spec_BestPeriod), [.t 21, .t 22, .t 23, .t 24], none⟩,
      ⟨some 19, .mv, [.t 25], none⟩,
      ⟨some 26, (.extract 0), [.t 19], none⟩,
      ⟨some 27, (.extract 1), [.t 19], none⟩,
      ⟨some 28, (.extract 2), [.t 19], none⟩,
      ⟨some 9, .mv, [.t 26], none⟩,
      ⟨some 10, .mv, [.t 27], none⟩,
      ⟨some 11, .mv, [.t 28], none⟩])
     (.seq
      (.region false [
       ⟨some 29, .mv, [.t 0], none⟩,
       ⟨some 30, (.call g_laws_toFloat32S), [.t 29], none⟩,
       ⟨some 12, .mv, [.t 30], none⟩])
      (.seq
       (.region false [
        ⟨some 32, .mv, [.t 12], none⟩,
        ⟨some 33, .mv, [.t 1], none⟩,
        ⟨some 34, .mv, [.t 2], none⟩,
        ⟨some 35, .mv, [.t 3], none⟩,
        ⟨some 36, (.call g_impl_BestPeriod), [.t 32, .t 33, .t 34, .t 35], none⟩,
        ⟨some 31, .mv, [.t 36], none⟩,
        ⟨some 37, (.extract 0), [.t 31], none⟩,
        ⟨some 38, (.extract 1), [.t 31], none⟩,
        ⟨some 39, (.extract 2), [.t 31], none⟩,
        ⟨some 13, .mv, [.t 37], none⟩,
        ⟨some 14, .mv, [.t 38], none⟩,
        ⟨some 15, .mv, [.t 39], none⟩])
       (.seq
        (.seq
         (.region false [
          ⟨some 40, .mv, [.t 13], none⟩,
          ⟨some 41, .mv, [.t 9], none⟩,
          ⟨some 42, (.bin .neq), [.t 40, .t 41], none⟩,
          ⟨some 43, .mv, [.t 42], none⟩,
          ⟨some 44, .mv, [.t 14], some (43, false)⟩,
          ⟨some 45, (.convF .f64), [.t 44], some (43, false)⟩,
          ⟨some 46, .mv, [.t 10], some (43, false)⟩,
          ⟨some 47, (.convF .f64), [.t 46], some (43, false)⟩,
          ⟨some 48, (.call g_laws_sameFloat), [.t 45, .t 47], some (43, false)⟩,
          ⟨some 49, .not, [.t 48], some (43, false)⟩,
          ⟨some 50, .pick, [.t 43, .k (.b true), .t 49], none⟩,
          ⟨some 51, .mv, [.t 50], none⟩,
          ⟨some 52, .mv, [.t 15], some (51, false)⟩,
          ⟨some 53, .mv, [.t 11], some (51, false)⟩,
          ⟨some 54, (.binb .neq), [.t 52, .t 53], some (51, false)⟩,
          ⟨some 55, .pick, [.t 51, .k (.b true), .t 54], none⟩])
         (.cond (.t 55)
          (.seq
           (.region false [
            ⟨some 8, .mv, [.k (.b false)], none⟩])
           .ret)
          .skip))
        (.seq
         (.seq
          (.region false [
           ⟨some 56, .mv, [.t 12], none⟩,
           ⟨some 57, .mv, [.t 0], none⟩,
           ⟨some 58, (.call g_laws_toFloat32S), [.t 57], none⟩,
           ⟨some 59, (.call g_laws_eqFloat32S), [.t 56, .t 58], none⟩,
           ⟨some 60, .not, [.t 59], none⟩])
          (.cond (.t 60)
           (.seq
            (.region false [
             ⟨some 8, .mv, [.k (.b false)], none⟩])
            .ret)
           .skip))
         (.seq
          (.region false [
           ⟨some 8, .mv, [.k (.b true)], none⟩])
          .ret))))))))

abbrev Is_laws_FnExactBestPeriod (P : Program) (g_f : FuncId) (g_laws_toFloat32S g_spec_BestPeriod g_impl_BestPeriod g_laws_sameFloat g_laws_eqFloat32S : FuncId) : Prop := FnIs P g_f 61 [.t 8] (b_laws_FnExactBestPeriod g_laws_toFloat32S g_spec_BestPeriod g_impl_BestPeriod g_laws_sameFloat g_laws_eqFloat32S)

abbrev C_laws_FnExactBestPeriod (P : Program) (g_f : FuncId) : Prop := ∀ (xs : List Nat) (low : Int) (top : Int) (w : Int) (hx : xs.length ≤ maxLen), VCall P g_f [PS [0] .f32 xs, .i .i64 low, .i .i64 top, .i .i64 w] (.b true)
def oc1_laws_FnExactBestPeriod (as : List AV) : T AV := match as with | [.sl _ _ (.f .f32 xs), .i .i64 low, .i .i64 top, .i .i64 w] => .leaf (.b true) | _ => .fail
def oc_laws_FnExactBestPeriod (xs : List Nat) (low : Int) (top : Int) (w : Int) (d : Nat) (as : List AV) : T AV := match d with | 21 => oc1_laws_toFloat32S as | 25 => oc1_spec_BestPeriod as | 30 => oc1_laws_toFloat32S as | 36 => oc1_impl_BestPeriod as | 48 => oc1_laws_sameFloat as | 58 => oc1_laws_toFloat32S as | 59 => oc1_laws_eqFloat32S as | _ => .fail



theorem q_laws_FnExactBestPeriod {P : Program} {g_f : FuncId} {g_laws_toFloat32S g_spec_BestPeriod g_impl_BestPeriod g_laws_sameFloat g_laws_eqFloat32S : FuncId} (h_ : Is_laws_FnExactBestPeriod P g_f g_laws_toFloat32S g_spec_BestPeriod g_impl_BestPeriod g_laws_sameFloat g_laws_eqFloat32S) (xs : List Nat) (low : Int) (top : Int) (w : Int) (ht : T.ok (fun x_ => x_ = .b true) (
      T.ite (decide ((↑(List.length xs) : Int) > 1048576)) (T.leaf (AV.b true))
        (T.ob ((VCall P) g_laws_toFloat32S [AV.sl (Tag.par [0]) 0 (Cont.f FloatKind.f32 xs)] (AV.sl (Tag.own 0) 0 (Cont.f FloatKind.f32 xs)))
          (T.ob
            ((VCall P) g_spec_BestPeriod [AV.sl (Tag.par [0]) 0 (Cont.f FloatKind.f32 xs), AV.i IntKind.i64 low, AV.i IntKind.i64 top, AV.i IntKind.i64 w]
              (AV.tup
                [AV.i IntKind.i64 (if bpOk xs low top w = true then Prod.fst (bpAt xs low (bpN low top)) else 0), AV.f FloatKind.f32 (if bpOk xs low top w = true then Prod.snd (bpAt xs low (bpN low top)) else 0),
                  AV.b (bpOk xs low top w)]))
            (T.ob ((VCall P) g_laws_toFloat32S [AV.sl (Tag.par [0]) 0 (Cont.f FloatKind.f32 xs)] (AV.sl (Tag.own 0) 0 (Cont.f FloatKind.f32 xs)))
              (T.ob
                ((VCall P) g_impl_BestPeriod [AV.sl (Tag.par [0]) 0 (Cont.f FloatKind.f32 xs), AV.i IntKind.i64 low, AV.i IntKind.i64 top, AV.i IntKind.i64 w]
                  (AV.tup
                    [AV.i IntKind.i64 (if bpOk xs low top w = true then Prod.fst (bpAt xs low (bpN low top)) else 0), AV.f FloatKind.f32 (if bpOk xs low top w = true then Prod.snd (bpAt xs low (bpN low top)) else 0),
                      AV.b (bpOk xs low top w)]))
                (T.ite ((if bpOk xs low top w = true then Prod.fst (bpAt xs low (bpN low top)) else 0) != if bpOk xs low top w = true then Prod.fst (bpAt xs low (bpN low top)) else 0) (T.leaf (AV.b false))
                  (T.ob (fconvOk FloatKind.f32 FloatKind.f64 (if bpOk xs low top w = true then Prod.snd (bpAt xs low (bpN low top)) else 0) = true)
                    (T.ob (fconvOk FloatKind.f32 FloatKind.f64 (if bpOk xs low top w = true then Prod.snd (bpAt xs low (bpN low top)) else 0) = true)
                      (T.ob
                        ((VCall P) g_laws_sameFloat
                          [AV.f FloatKind.f64 (fconv FloatKind.f32 FloatKind.f64 (if bpOk xs low top w = true then Prod.snd (bpAt xs low (bpN low top)) else 0)),
                            AV.f FloatKind.f64 (fconv FloatKind.f32 FloatKind.f64 (if bpOk xs low top w = true then Prod.snd (bpAt xs low (bpN low top)) else 0))]
                          (AV.b true))
                        (T.ite false (T.leaf (AV.b false))
                          (T.ite (!bpOk xs low top w == bpOk xs low top w) (T.leaf (AV.b false))
                            (T.ob ((VCall P) g_laws_toFloat32S [AV.sl (Tag.par [0]) 0 (Cont.f FloatKind.f32 xs)] (AV.sl (Tag.own 0) 0 (Cont.f FloatKind.f32 xs)))
                              (T.ob ((VCall P) g_laws_eqFloat32S [AV.sl (Tag.par [0]) 0 (Cont.f FloatKind.f32 xs), AV.sl (Tag.par [1]) 0 (Cont.f FloatKind.f32 xs)] (AV.b true))
                                (T.ite false (T.leaf (AV.b false)) (T.leaf (AV.b true))))))))))))))))) :
    VCall P g_f [PS [0] .f32 xs, .i .i64 low, .i .i64 top, .i .i64 w] (.b true) := h_.call_of ps_laws_FnExactBestPeriod ⟨oc_laws_FnExactBestPeriod xs low top w, fun _ _ => none⟩ (by kernel_rfl) ht


theorem k_laws_FnExactWeightFit {P : Program} {f g_laws_toFloat32S g_spec_WeightFit g_impl_WeightFit g_laws_sameFloat g_laws_eqFloat32S : FuncId} (h : Is_laws_FnExactWeightFit P f g_laws_toFloat32S g_spec_WeightFit g_impl_WeightFit g_laws_sameFloat g_laws_eqFloat32S) (c1 : C_laws_toFloat32S P g_laws_toFloat32S) (c2 : C_spec_WeightFit P g_spec_WeightFit) (c3 : C_impl_WeightFit P g_impl_WeightFit) (c4 : C_laws_sameFloat P g_laws_sameFloat) (c5 : C_laws_eqFloat32S P g_laws_eqFloat32S) : C_laws_FnExactWeightFit P f := by
  intro x y ws hx hy hw
  refine q_laws_FnExactWeightFit h x y ws ?_
  repeat' (first | with_reducible refine T.ok_ob ?_ (fun _ => ?_) | with_reducible refine T.ok_ite (fun _ => ?_) (fun _ => ?_) | with_reducible refine T.ok_leaf ?_)
  all_goals (try simp only [decide_eq_true_eq, decide_eq_false_iff_not, sz_lt, gt_iff_lt, Int.not_lt, Bool.not_beq_self, bne_self_eq_false, beq_self_eq_true] at *)
  all_goals (try simp (disch := omega) only [sz_val] at *)
  all_goals first | with_reducible rfl | with_reducible assumption | ((with_reducible refine c1 _ ?_) <;> (first | assumption | omega | with_reducible rfl | (simp [maxLen_eq]; done) | (simp [maxLen_eq]; omega))) | ((with_reducible refine c2 _ _ _ ?_ ?_ ?_) <;> (first | assumption | omega | with_reducible rfl | (simp [maxLen_eq]; done) | (simp [maxLen_eq]; omega))) | ((with_reducible refine c3 _ _ _ ?_ ?_ ?_) <;> (first | assumption | omega | with_reducible rfl | (simp [maxLen_eq]; done) | (simp [maxLen_eq]; omega))) | ((with_reducible refine c4 _ _ ?_) <;> (first | assumption | omega | with_reducible rfl | (simp [maxLen_eq]; done) | (simp [maxLen_eq]; omega))) | ((with_reducible refine c5 _ _ rfl ?_) <;> (first | assumption | omega | with_reducible rfl | (simp [maxLen_eq]; done) | (simp [maxLen_eq]; omega))) | contradiction | exact fconvOk_32_64 _ | assumption | exact rfl | (simp only [marks_len, bne_self_eq_false, Bool.false_eq_true] at *; done) | (simp_all [marks_len]; done) | (simp_all [T.ok, marks_len]; omega)

theorem k_laws_FnExactStepOf {P : Program} {f g_laws_toFloat32S g_spec_StepOf g_impl_StepOf g_laws_sameFloat g_laws_eqFloat32S : FuncId} (h : Is_laws_FnExactStepOf P f g_laws_toFloat32S g_spec_StepOf g_impl_StepOf g_laws_sameFloat g_laws_eqFloat32S) (c1 : C_laws_toFloat32S P g_laws_toFloat32S) (c2 : C_spec_StepOf P g_spec_StepOf) (c3 : C_impl_StepOf P g_impl_StepOf) (c4 : C_laws_sameFloat P g_laws_sameFloat) (c5 : C_laws_eqFloat32S P g_laws_eqFloat32S) : C_laws_FnExactStepOf P f := by
  intro xs hx
  refine q_laws_FnExactStepOf h xs ?_
  repeat' (first | with_reducible refine T.ok_ob ?_ (fun _ => ?_) | with_reducible refine T.ok_ite (fun _ => ?_) (fun _ => ?_) | with_reducible refine T.ok_leaf ?_)
  all_goals (try simp only [decide_eq_true_eq, decide_eq_false_iff_not, sz_lt, gt_iff_lt, Int.not_lt, Bool.not_beq_self, bne_self_eq_false, beq_self_eq_true] at *)
  all_goals (try simp (disch := omega) only [sz_val] at *)
  all_goals first | with_reducible rfl | with_reducible assumption | ((with_reducible refine c1 _ ?_) <;> (first | assumption | omega | with_reducible rfl | (simp [maxLen_eq]; done) | (simp [maxLen_eq]; omega))) | ((with_reducible refine c2 _ ?_) <;> (first | assumption | omega | with_reducible rfl | (simp [maxLen_eq]; done) | (simp [maxLen_eq]; omega))) | ((with_reducible refine c3 _ ?_) <;> (first | assumption | omega | with_reducible rfl | (simp [maxLen_eq]; done) | (simp [maxLen_eq]; omega))) | ((with_reducible refine c4 _ _ ?_) <;> (first | assumption | omega | with_reducible rfl | (simp [maxLen_eq]; done) | (simp [maxLen_eq]; omega))) | ((with_reducible refine c5 _ _ rfl ?_) <;> (first | assumption | omega | with_reducible rfl | (simp [maxLen_eq]; done) | (simp [maxLen_eq]; omega))) | contradiction | exact fconvOk_32_64 _ | assumption | exact rfl | (simp only [marks_len, bne_self_eq_false, Bool.false_eq_true] at *; done) | (simp_all [marks_len]; done) | (simp_all [T.ok, marks_len]; omega)

theorem k_laws_FnExactSeasonOf {P : Program} {f g_laws_toFloat32S g_spec_SeasonOf g_impl_SeasonOf g_laws_eqFloat32S g_laws_markFloat32S g_laws_heldFloat32S : FuncId} (h : Is_laws_FnExactSeasonOf P f g_laws_toFloat32S g_spec_SeasonOf g_impl_SeasonOf g_laws_eqFloat32S g_laws_markFloat32S g_laws_heldFloat32S) (c1 : C_laws_toFloat32S P g_laws_toFloat32S) (c2 : C_spec_SeasonOf P g_spec_SeasonOf) (c3 : C_impl_SeasonOf P g_impl_SeasonOf) (c4 : C_laws_eqFloat32S P g_laws_eqFloat32S) (c5 : C_laws_markFloat32S P g_laws_markFloat32S) (c6 : C_laws_heldFloat32S P g_laws_heldFloat32S) : C_laws_FnExactSeasonOf P f := by
  intro xs per hx
  refine q_laws_FnExactSeasonOf h xs per ?_
  have hR : (if seasonOk xs per = true then seasonM xs per.toNat else []).length ≤ xs.length := by
    split
    · rename_i h
      unfold seasonOk at h; simp only [Bool.and_eq_true] at h
      have := in_1 h.2.1
      rw [season_len]; omega
    · simp
  have b2 := c2 xs per hx
  have b3 := c3 xs per hx
  generalize (if seasonOk xs per = true then seasonM xs per.toNat else []) = R at *
  repeat' (first | with_reducible refine T.ok_ob ?_ (fun _ => ?_) | with_reducible refine T.ok_ite (fun _ => ?_) (fun _ => ?_) | with_reducible refine T.ok_leaf ?_)
  all_goals (try simp only [decide_eq_true_eq, decide_eq_false_iff_not, sz_lt, gt_iff_lt, Int.not_lt, Bool.not_beq_self, bne_self_eq_false, beq_self_eq_true] at *)
  all_goals (try simp (disch := omega) only [sz_val] at *)
  all_goals first | with_reducible rfl | with_reducible assumption | ((with_reducible refine c1 _ ?_) <;> (first | assumption | omega | with_reducible rfl | (simp [maxLen_eq]; done) | (simp [maxLen_eq]; omega))) | ((with_reducible refine c2 _ _ ?_) <;> (first | assumption | omega | with_reducible rfl | (simp [maxLen_eq]; done) | (simp [maxLen_eq]; omega))) | ((with_reducible refine c3 _ _ ?_) <;> (first | assumption | omega | with_reducible rfl | (simp [maxLen_eq]; done) | (simp [maxLen_eq]; omega))) | ((with_reducible refine c4 _ _ rfl ?_) <;> (first | assumption | omega | with_reducible rfl | (simp [maxLen_eq]; done) | (simp [maxLen_eq]; omega))) | ((with_reducible refine ⟨c5 _ _ ?_ ?_, ?_, ?_, trivial⟩) <;> first | assumption | omega | (simp [marks_len]; done) | (simp [marks_len]; omega)) | ((with_reducible refine c6 _ _ _ rfl ?_ ?_) <;> (first | assumption | omega | with_reducible rfl | (simp [maxLen_eq]; done) | (simp [maxLen_eq]; omega))) | contradiction | exact fconvOk_32_64 _ | assumption | exact rfl | (simp only [marks_len, bne_self_eq_false, Bool.false_eq_true] at *; done) | (simp_all [marks_len]; done) | (simp_all [T.ok, marks_len]; omega)

theorem k_laws_FnExactBestPeriod {P : Program} {f g_laws_toFloat32S g_spec_BestPeriod g_impl_BestPeriod g_laws_sameFloat g_laws_eqFloat32S : FuncId} (h : Is_laws_FnExactBestPeriod P f g_laws_toFloat32S g_spec_BestPeriod g_impl_BestPeriod g_laws_sameFloat g_laws_eqFloat32S) (c1 : C_laws_toFloat32S P g_laws_toFloat32S) (c2 : C_spec_BestPeriod P g_spec_BestPeriod) (c3 : C_impl_BestPeriod P g_impl_BestPeriod) (c4 : C_laws_sameFloat P g_laws_sameFloat) (c5 : C_laws_eqFloat32S P g_laws_eqFloat32S) : C_laws_FnExactBestPeriod P f := by
  intro xs low top w hx
  refine q_laws_FnExactBestPeriod h xs low top w ?_
  repeat' (first | with_reducible refine T.ok_ob ?_ (fun _ => ?_) | with_reducible refine T.ok_ite (fun _ => ?_) (fun _ => ?_) | with_reducible refine T.ok_leaf ?_)
  all_goals (try simp only [decide_eq_true_eq, decide_eq_false_iff_not, sz_lt, gt_iff_lt, Int.not_lt, Bool.not_beq_self, bne_self_eq_false, beq_self_eq_true] at *)
  all_goals (try simp (disch := omega) only [sz_val] at *)
  all_goals first | with_reducible rfl | with_reducible assumption | ((with_reducible refine c1 _ ?_) <;> (first | assumption | omega | with_reducible rfl | (simp [maxLen_eq]; done) | (simp [maxLen_eq]; omega))) | ((with_reducible refine c2 _ _ _ _ ?_) <;> (first | assumption | omega | with_reducible rfl | (simp [maxLen_eq]; done) | (simp [maxLen_eq]; omega))) | ((with_reducible refine c3 _ _ _ _ ?_) <;> (first | assumption | omega | with_reducible rfl | (simp [maxLen_eq]; done) | (simp [maxLen_eq]; omega))) | ((with_reducible refine c4 _ _ ?_) <;> (first | assumption | omega | with_reducible rfl | (simp [maxLen_eq]; done) | (simp [maxLen_eq]; omega))) | ((with_reducible refine c5 _ _ rfl ?_) <;> (first | assumption | omega | with_reducible rfl | (simp [maxLen_eq]; done) | (simp [maxLen_eq]; omega))) | contradiction | exact fconvOk_32_64 _ | assumption | exact rfl | (simp only [marks_len, bne_self_eq_false, Bool.false_eq_true] at *; done) | (simp_all [marks_len]; done) | (simp_all [T.ok, marks_len]; omega)


end Go.Proofs.LV
