/- The law FnExactStepWaves. -/
import Derived.Test.YtplfalnldkbliaaLvFnW
import Derived.Test.YtplfalnldkbliaaLvLawB
namespace Go.Proofs.LV
open Go
set_option linter.unusedVariables false
set_option linter.unusedSimpArgs false

-- FN laws_FnExactStepWaves
/-- laws.FnExactStepWaves: slots 130, results [.t 2]; calls [21:g_laws_toFloat32S, 22:g_spec_StepWaves, 27:g_laws_toFloat32S, 30:g_impl_StepWaves, 36:g_laws_eqFloat32S, 41:g_laws_eqFloat32S, 51:g_laws_toFloat32S, 52:g_laws_eqFloat32S, 56:g_laws_markFloat32S, 62:g_laws_eqFloat32S, 68:g_laws_eqFloat32S, 78:g_laws_markFloat32S, 81:g_laws_markFloat32S, 84:g_laws_heldFloat32S, 89:g_laws_heldFloat32S, 97:g_laws_toFloat32S, 98:g_impl_StepWaves, 104:g_laws_eqFloat32S, 109:g_laws_eqFloat32S, 119:g_laws_heldFloat32S, 124:g_laws_heldFloat32S]; names [(aA, 0), (aA, 1), (w0, 3), (w1, 4), (w2, 5), (x0, 6), (g0, 7), (g1, 8), (g2, 9), (k, 10), (m, 11), (q, 12), (h0, 13), (h1, 14), (h2, 15)] -/
def ps_laws_FnExactStepWaves : List Nat := [0, 2, 3, 4, 5, 6, 7, 8, 9, 10, 11, 12, 13, 14, 15, 18, 48, 53, 75, 86, 91, 94, 116, 121, 126, 129]
def b_laws_FnExactStepWaves (g_laws_toFloat32S g_spec_StepWaves g_impl_StepWaves g_laws_eqFloat32S g_laws_markFloat32S g_laws_heldFloat32S : FuncId) : VCode :=
  (.seq
   (.region false [
    ⟨some 2, .mv, [.k (.b false)], none⟩])
   (.seq
    (.seq
     (.region false [
      ⟨some 16, .mv, [.t 0], none⟩,
      ⟨some 17, .len, [.t 16], none⟩,
      ⟨some 18, (.bin .gtr), [.t 17, .k (.i .i64 1048576)], none⟩])
     (.cond (.t 18)
      (.seq
       (.region false [
        ⟨some 2, .mv, [.k (.b true)], none⟩])
       .ret)
      .skip))
    (.seq
     (.region false [
      ⟨some 20, .mv, [.t 0], none⟩,
      ⟨some 21, (.call g_laws_toFloat32S), [.t 20], none⟩,
      ⟨some 22, (.call g_spec_StepWaves), [.t 21], none⟩,
      ⟨some 19, .mv, [.t 22], none⟩,
      ⟨some 23, (.extract 0), [.t 19], none⟩,
      ⟨some 24, (.extract 1), [.t 19], none⟩,
      ⟨some 25, (.extract 2), [.t 19], none⟩,
      ⟨some 3, .mv, [.t 23], none⟩,
      ⟨some 4, .mv, [.t 24], none⟩,
      ⟨some 5, .mv, [.t 25], none⟩])
     (.seq
      (.region false [
       ⟨some 26, .mv, [.t 0], none⟩,
       ⟨some 27, (.call g_laws_toFloat32S), [.t 26], none⟩,
       ⟨some 6, .mv, [.t 27], none⟩])
      (.seq
       (.region false [
        ⟨some 29, .mv, [.t 6], none⟩,
        ⟨some 30, (.call g_impl_StepWaves), [.t 29], none⟩,
        ⟨some 28, .mv, [.t 30], none⟩,
        ⟨some 31, (.extract 0), [.t 28], none⟩,
        ⟨some 32, (.extract 1), [.t 28], none⟩,
        ⟨some 33, (.extract 2), [.t 28], none⟩,
        ⟨some 7, .mv, [.t 31], none⟩,
        ⟨some 8, .mv, [.t 32], none⟩,
        ⟨some 9, .mv, [.t 33], none⟩])
       (.seq
        (.seq
         (.region false [
          ⟨some 34, .mv, [.t 7], none⟩,
          ⟨some 35, .mv, [.t 3], none⟩,
          ⟨some 36, (.call g_laws_eqFloat32S), [.t 34, .t 35], none⟩,
          ⟨some 37, .not, [.t 36], none⟩,
          ⟨some 38, .mv, [.t 37], none⟩,
          ⟨some 39, .mv, [.t 8], some (38, false)⟩,
          ⟨some 40, .mv, [.t 4], some (38, false)⟩,
          ⟨some 41, (.call g_laws_eqFloat32S), [.t 39, .t 40], some (38, false)⟩,
          ⟨some 42, .not, [.t 41], some (38, false)⟩,
          ⟨some 43, .pick, [.t 38, .k (.b true), .t 42], none⟩,
          ⟨some 44, .mv, [.t 43], none⟩,
          ⟨some 45, .mv, [.t 9], some (44, false)⟩,
          ⟨some 46, .mv, [.t 5], some (44, false)⟩,
          ⟨some 47, (.binb .neq), [.t 45, .t 46], some (44, false)⟩,
          ⟨some 48, .pick, [.t 44, .k (.b true), .t 47], none⟩])
         (.cond (.t 48)
          (.seq
           (.region false [
            ⟨some 2, .mv, [.k (.b false)], none⟩])
           .ret)
          .skip))
        (.seq
         (.seq
          (.region false [
           ⟨some 49, .mv, [.t 6], none⟩,
           ⟨some 50, .mv, [.t 0], none⟩,
           ⟨some 51, (.call g_laws_toFloat32S), [.t 50], none⟩,
           ⟨some 52, (.call g_laws_eqFloat32S), [.t 49, .t 51], none⟩,
           ⟨some 53, .not, [.t 52], none⟩])
          (.cond (.t 53)
           (.seq
            (.region false [
             ⟨some 2, .mv, [.k (.b false)], none⟩])
            .ret)
           .skip))
         (.seq
          (.region false [
           ⟨some 10, .mv, [.k (.i .i64 1)], none⟩])
          (.seq
           (.region false [
            ⟨some 54, .mv, [.t 6], none⟩,
            ⟨some 55, .mv, [.t 10], none⟩,
            ⟨some 56, (.call g_laws_markFloat32S), [.t 54, .t 55], none⟩,
            ⟨some 10, .mv, [.t 56], none⟩])
           (.seq
            (.seq
             (.region false [
              ⟨some 57, .mv, [.t 10], none⟩,
              ⟨some 58, (.bin .lss), [.t 57, .k (.i .i64 0)], none⟩,
              ⟨some 59, .mv, [.t 58], none⟩,
              ⟨some 60, .mv, [.t 7], some (59, false)⟩,
              ⟨some 61, .mv, [.t 3], some (59, false)⟩,
              ⟨some 62, (.call g_laws_eqFloat32S), [.t 60, .t 61], some (59, false)⟩,
              ⟨some 63, .not, [.t 62], some (59, false)⟩,
              ⟨some 64, .pick, [.t 59, .k (.b true), .t 63], none⟩,
              ⟨some 65, .mv, [.t 64], none⟩,
              ⟨some 66, .mv, [.t 8], some (65, false)⟩,
              ⟨some 67, .mv, [.t 4], some (65, false)⟩,
              ⟨some 68, (.call g_laws_eqFloat32S), [.t 66, .t 67], some (65, false)⟩,
              ⟨some 69, .not, [.t 68], some (65, false)⟩,
              ⟨some 70, .pick, [.t 65, .k (.b true), .t 69], none⟩,
              ⟨some 71, .mv, [.t 70], none⟩,
              ⟨some 72, .mv, [.t 9], some (71, false)⟩,
              ⟨some 73, .mv, [.t 5], some (71, false)⟩,
              ⟨some 74, (.binb .neq), [.t 72, .t 73], some (71, false)⟩,
              ⟨some 75, .pick, [.t 71, .k (.b true), .t 74], none⟩])
             (.cond (.t 75)
              (.seq
               (.region false [
                ⟨some 2, .mv, [.k (.b false)], none⟩])
               .ret)
              .skip))
            (.seq
             (.region false [
              ⟨some 11, .mv, [.k (.i .i64 1)], none⟩])
             (.seq
              (.region false [
               ⟨some 76, .mv, [.t 7], none⟩,
               ⟨some 77, .mv, [.t 11], none⟩,
               ⟨some 78, (.call g_laws_markFloat32S), [.t 76, .t 77], none⟩,
               ⟨some 11, .mv, [.t 78], none⟩])
              (.seq
               (.region false [
                ⟨some 79, .mv, [.t 8], none⟩,
                ⟨some 80, .mv, [.t 11], none⟩,
                ⟨some 81, (.call g_laws_markFloat32S), [.t 79, .t 80], none⟩,
                ⟨some 11, .mv, [.t 81], none⟩])
               (.seq
                (.region false [
                 ⟨some 12, .mv, [.k (.i .i64 1)], none⟩])
                (.seq
                 (.region false [
                  ⟨some 82, .mv, [.t 7], none⟩,
                  ⟨some 83, .mv, [.t 12], none⟩,
                  ⟨some 84, (.call g_laws_heldFloat32S), [.t 82, .t 83], none⟩,
                  ⟨some 12, .mv, [.t 84], none⟩])
                 (.seq
                  (.seq
                   (.region false [
                    ⟨some 85, .mv, [.t 12], none⟩,
                    ⟨some 86, (.bin .lss), [.t 85, .k (.i .i64 0)], none⟩])
                   (.cond (.t 86)
                    (.seq
                     (.region false [
                      ⟨some 2, .mv, [.k (.b false)], none⟩])
                     .ret)
                    .skip))
                  (.seq
                   (.region false [
                    ⟨some 87, .mv, [.t 8], none⟩,
                    ⟨some 88, .mv, [.t 12], none⟩,
                    ⟨some 89, (.call g_laws_heldFloat32S), [.t 87, .t 88], none⟩,
                    ⟨some 12, .mv, [.t 89], none⟩])
                   (.seq
                    (.seq
                     (.region false [
                      ⟨some 90, .mv, [.t 12], none⟩,
                      ⟨some 91, (.bin .lss), [.t 90, .k (.i .i64 0)], none⟩])
                     (.cond (.t 91)
                      (.seq
                       (.region false [
                        ⟨some 2, .mv, [.k (.b false)], none⟩])
                       .ret)
                      .skip))
                    (.seq
                     (.seq
                      (.region false [
                       ⟨some 92, .mv, [.t 12], none⟩,
                       ⟨some 93, .mv, [.t 11], none⟩,
                       ⟨some 94, (.bin .neq), [.t 92, .t 93], none⟩])
                      (.cond (.t 94)
                       (.seq
                        (.region false [
                         ⟨some 2, .mv, [.k (.b false)], none⟩])
                        .ret)
                       .skip))
                     (.seq
                      (.region false [
                       ⟨some 96, .mv, [.t 0], none⟩,
                       ⟨some 97, (.call g_laws_toFloat32S), [.t 96], none⟩,
                       ⟨some 98, (.call g_impl_StepWaves), [.t 97], none⟩,
                       ⟨some 95, .mv, [.t 98], none⟩,
                       ⟨some 99, (.extract 0), [.t 95], none⟩,
                       ⟨some 100, (.extract 1), [.t 95], none⟩,
                       ⟨some 101, (.extract 2), [.t 95], none⟩,
                       ⟨some 13, .mv, [.t 99], none⟩,
                       ⟨some 14, .mv, [.t 100], none⟩,
                       ⟨some 15, .mv, [.t 101], none⟩])
                      (.seq
                       (.seq
                        (.region false [
                         ⟨some 102, .mv, [.t 13], none⟩,
                         ⟨some 103, .mv, [.t 3], none⟩,
                         ⟨some 104, (.call g_laws_eqFloat32S), [.t 102, .t 103], none⟩,
                         ⟨some 105, .not, [.t 104], none⟩,
                         ⟨some 106, .mv, [.t 105], none⟩,
                         ⟨some 107, .mv, [.t 14], some (106, false)⟩,
                         ⟨some 108, .mv, [.t 4], some (106, false)⟩,
                         ⟨some 109, (.call g_laws_eqFloat32S), [.t 107, .t 108], some (106, false)⟩,
                         ⟨some 110, .not, [.t 109], some (106, false)⟩,
                         ⟨some 111, .pick, [.t 106, .k (.b true), .t 110], none⟩,
                         ⟨some 112, .mv, [.t 111], none⟩,
                         ⟨some 113, .mv, [.t 15], some (112, false)⟩,
                         ⟨some 114, .mv, [.t 5], some (112, false)⟩,
                         ⟨some 115, (.binb .neq), [.t 113, .t 114], some (112, false)⟩,
                         ⟨some 116, .pick, [.t 112, .k (.b true), .t 115], none⟩])
                        (.cond (.t 116)
                         (.seq
                          (.region false [
                           ⟨some 2, .mv, [.k (.b false)], none⟩])
                          .ret)
                         .skip))
                       (.seq
                        (.region false [
                         ⟨some 12, .mv, [.k (.i .i64 1)], none⟩])
                        (.seq
                         (.region false [
                          ⟨some 117, .mv, [.t 7], none⟩,
                          ⟨some 118, .mv, [.t 12], none⟩,
                          ⟨some 119, (.call g_laws_heldFloat32S), [.t 117, .t 118], none⟩,
                          ⟨some 12, .mv, [.t 119], none⟩])
                         (.seq
                          (.seq
                           (.region false [
                            ⟨some 120, .mv, [.t 12], none⟩,
                            ⟨some 121, (.bin .lss), [.t 120, .k (.i .i64 0)], none⟩])
                           (.cond (.t 121)
                            (.seq
                             (.region false [
                              ⟨some 2, .mv, [.k (.b false)], none⟩])
                             .ret)
                            .skip))
                          (.seq
                           (.region false [
                            ⟨some 122, .mv, [.t 8], none⟩,
                            ⟨some 123, .mv, [.t 12], none⟩,
                            ⟨some 124, (.call g_laws_heldFloat32S), [.t 122, .t 123], none⟩,
                            ⟨some 12, .mv, [.t 124], none⟩])
                           (.seq
                            (.seq
                             (.region false [
                              ⟨some 125, .mv, [.t 12], none⟩,
                              ⟨some 126, (.bin .lss), [.t 125, .k (.i .i64 0)], none⟩])
                             (.cond (.t 126)
                              (.seq
                               (.region false [
                                ⟨some 2, .mv, [.k (.b false)], none⟩])
                               .ret)
                              .skip))
                            (.seq
                             (.seq
                              (.region false [
                               ⟨some 127, .mv, [.t 12], none⟩,
                               ⟨some 128, .mv, [.t 11], none⟩,
                               ⟨some 129, (.bin .neq), [.t 127, .t 128], none⟩])
                              (.cond (.t 129)
                               (.seq
                                (.region false [
                                 ⟨some 2, .mv, [.k (.b false)], none⟩])
                                .ret)
                               .skip))
                             (.seq
                              (.region false [
                               ⟨some 2, .mv, [.k (.b true)], none⟩])
                              .ret))))))))))))))))))))))))))))

abbrev Is_laws_FnExactStepWaves (P : Program) (g_f : FuncId) (g_laws_toFloat32S g_spec_StepWaves g_impl_StepWaves g_laws_eqFloat32S g_laws_markFloat32S g_laws_heldFloat32S : FuncId) : Prop := FnIs P g_f 130 [.t 2] (b_laws_FnExactStepWaves g_laws_toFloat32S g_spec_StepWaves g_impl_StepWaves g_laws_eqFloat32S g_laws_markFloat32S g_laws_heldFloat32S)

abbrev C_laws_FnExactStepWaves (P : Program) (g_f : FuncId) : Prop := ∀ (a : List Nat) (hx : a.length ≤ maxLen), VCall P g_f [PS [0] .f32 a] (.b true)
def oc1_laws_FnExactStepWaves (as : List AV) : T AV := match as with | [.sl _ _ (.f .f32 a)] => .leaf (.b true) | _ => .fail
def oc_laws_FnExactStepWaves (a : List Nat) (d : Nat) (as : List AV) : T AV := match d with | 21 => oc1_laws_toFloat32S as | 22 => oc1_spec_StepWaves as | 27 => oc1_laws_toFloat32S as | 30 => oc1_impl_StepWaves as | 36 => oc1_laws_eqFloat32S as | 41 => oc1_laws_eqFloat32S as | 51 => oc1_laws_toFloat32S as | 52 => oc1_laws_eqFloat32S as | 56 => oc1_laws_markFloat32S as | 62 => oc1_laws_eqFloat32S as | 68 => oc1_laws_eqFloat32S as | 78 => oc1_laws_markFloat32S as | 81 => oc1_laws_markFloat32S as | 84 => oc1_laws_heldFloat32S as | 89 => oc1_laws_heldFloat32S as | 97 => oc1_laws_toFloat32S as | 98 => oc1_impl_StepWaves as | 104 => oc1_laws_eqFloat32S as | 109 => oc1_laws_eqFloat32S as | 119 => oc1_laws_heldFloat32S as | 124 => oc1_laws_heldFloat32S as | _ => .fail



theorem q_laws_FnExactStepWaves {P : Program} {g_f : FuncId} {g_laws_toFloat32S g_spec_StepWaves g_impl_StepWaves g_laws_eqFloat32S g_laws_markFloat32S g_laws_heldFloat32S : FuncId} (h_ : Is_laws_FnExactStepWaves P g_f g_laws_toFloat32S g_spec_StepWaves g_impl_StepWaves g_laws_eqFloat32S g_laws_markFloat32S g_laws_heldFloat32S) (a : List Nat) (ht : T.ok (fun x_ => x_ = .b true) (
      T.ite (decide ((↑(List.length a) : Int) > 1048576)) (T.leaf (AV.b true))
        (T.ob ((VCall P) g_laws_toFloat32S [AV.sl (Tag.par [0]) 0 (Cont.f FloatKind.f32 a)] (AV.sl (Tag.own 0) 0 (Cont.f FloatKind.f32 a)))
          (T.ob
            ((VCall P) g_spec_StepWaves [AV.sl (Tag.par [0]) 0 (Cont.f FloatKind.f32 a)]
              (AV.tup [AV.sl (Tag.own 0) 0 (Cont.f FloatKind.f32 (if swOk a = true then swM a else [])), AV.sl (Tag.own 1) 0 (Cont.f FloatKind.f32 (if swOk a = true then swS a else [])), AV.b (swOk a)]))
            (T.ob ((VCall P) g_laws_toFloat32S [AV.sl (Tag.par [0]) 0 (Cont.f FloatKind.f32 a)] (AV.sl (Tag.own 0) 0 (Cont.f FloatKind.f32 a)))
              (T.ob
                ((VCall P) g_impl_StepWaves [AV.sl (Tag.par [0]) 0 (Cont.f FloatKind.f32 a)]
                  (AV.tup [AV.sl (Tag.own 0) 0 (Cont.f FloatKind.f32 (if swOk a = true then swM a else [])), AV.sl (Tag.own 1) 0 (Cont.f FloatKind.f32 (if swOk a = true then swS a else [])), AV.b (swOk a)]))
                (T.ob ((VCall P) g_laws_eqFloat32S [AV.sl (Tag.par [0]) 0 (Cont.f FloatKind.f32 (if swOk a = true then swM a else [])), AV.sl (Tag.par [1]) 0 (Cont.f FloatKind.f32 (if swOk a = true then swM a else []))] (AV.b true))
                  (T.ite false (T.leaf (AV.b false))
                    (T.ob
                      ((VCall P) g_laws_eqFloat32S [AV.sl (Tag.par [0]) 0 (Cont.f FloatKind.f32 (if swOk a = true then swS a else [])), AV.sl (Tag.par [1]) 0 (Cont.f FloatKind.f32 (if swOk a = true then swS a else []))] (AV.b true))
                      (T.ite false (T.leaf (AV.b false))
                        (T.ite (!swOk a == swOk a) (T.leaf (AV.b false))
                          (T.ob ((VCall P) g_laws_toFloat32S [AV.sl (Tag.par [0]) 0 (Cont.f FloatKind.f32 a)] (AV.sl (Tag.own 0) 0 (Cont.f FloatKind.f32 a)))
                            (T.ob ((VCall P) g_laws_eqFloat32S [AV.sl (Tag.par [0]) 0 (Cont.f FloatKind.f32 a), AV.sl (Tag.par [1]) 0 (Cont.f FloatKind.f32 a)] (AV.b true))
                              (T.ite false (T.leaf (AV.b false))
                                (T.ob
                                  ((VCall P) g_laws_markFloat32S [AV.sl (Tag.own 800000) 0 (Cont.f FloatKind.f32 a), AV.i IntKind.i64 1]
                                      (AV.bx Tag.nil [AV.i IntKind.i64 (1 + (↑(List.length a) : Int)), AV.tup [AV.sl (Tag.own 800000) 0 (Cont.f FloatKind.f32 (marksM (List.length a) 1)), AV.i IntKind.i64 1]]) ∧
                                    List.length a = List.length (marksM (List.length a) 1) ∧ List.length a = List.length (marksM (List.length a) 1) ∧ True)
                                  (T.ite false (T.leaf (AV.b false))
                                    (T.ob
                                      ((VCall P) g_laws_eqFloat32S
                                        [AV.sl (Tag.par [0]) 0 (Cont.f FloatKind.f32 (if swOk a = true then swM a else [])), AV.sl (Tag.par [1]) 0 (Cont.f FloatKind.f32 (if swOk a = true then swM a else []))] (AV.b true))
                                      (T.ite false (T.leaf (AV.b false))
                                        (T.ob
                                          ((VCall P) g_laws_eqFloat32S
                                            [AV.sl (Tag.par [0]) 0 (Cont.f FloatKind.f32 (if swOk a = true then swS a else [])), AV.sl (Tag.par [1]) 0 (Cont.f FloatKind.f32 (if swOk a = true then swS a else []))] (AV.b true))
                                          (T.ite false (T.leaf (AV.b false))
                                            (T.ite (!swOk a == swOk a) (T.leaf (AV.b false))
                                              (T.ob
                                                ((VCall P) g_laws_markFloat32S [AV.sl (Tag.own 800000) 0 (Cont.f FloatKind.f32 (if swOk a = true then swM a else [])), AV.i IntKind.i64 1]
                                                    (AV.bx Tag.nil
                                                      [AV.i IntKind.i64 (1 + (↑(List.length (if swOk a = true then swM a else [])) : Int)),
                                                        AV.tup [AV.sl (Tag.own 800000) 0 (Cont.f FloatKind.f32 (marksM (List.length (if swOk a = true then swM a else [])) 1)), AV.i IntKind.i64 1]]) ∧
                                                  List.length (if swOk a = true then swM a else []) = List.length (marksM (List.length (if swOk a = true then swM a else [])) 1) ∧
                                                    List.length (if swOk a = true then swM a else []) = List.length (marksM (List.length (if swOk a = true then swM a else [])) 1) ∧ True)
                                                (T.ob
                                                  ((VCall P) g_laws_markFloat32S
                                                      [AV.sl (Tag.own 800000) 0 (Cont.f FloatKind.f32 (if swOk a = true then swS a else [])), AV.i IntKind.i64 (1 + (↑(List.length (if swOk a = true then swM a else [])) : Int))]
                                                      (AV.bx Tag.nil
                                                        [AV.i IntKind.i64 (1 + (↑(List.length (if swOk a = true then swM a else [])) : Int) + (↑(List.length (if swOk a = true then swS a else [])) : Int)),
                                                          AV.tup
                                                            [AV.sl (Tag.own 800000) 0
                                                                (Cont.f FloatKind.f32 (marksM (List.length (if swOk a = true then swS a else [])) (1 + (↑(List.length (if swOk a = true then swM a else [])) : Int)))),
                                                              AV.i IntKind.i64 (1 + (↑(List.length (if swOk a = true then swM a else [])) : Int))]]) ∧
                                                    List.length (if swOk a = true then swS a else []) =
                                                        List.length (marksM (List.length (if swOk a = true then swS a else [])) (1 + (↑(List.length (if swOk a = true then swM a else [])) : Int))) ∧
                                                      List.length (if swOk a = true then swS a else []) =
                                                          List.length (marksM (List.length (if swOk a = true then swS a else [])) (1 + (↑(List.length (if swOk a = true then swM a else [])) : Int))) ∧
                                                        True)
                                                  (T.ob
                                                    ((VCall P) g_laws_heldFloat32S [AV.sl (Tag.par [0]) 0 (Cont.f FloatKind.f32 (marksM (List.length (if swOk a = true then swM a else [])) 1)), AV.i IntKind.i64 1]
                                                      (AV.i IntKind.i64 (1 + (↑(List.length (marksM (List.length (if swOk a = true then swM a else [])) 1)) : Int))))
                                                    (T.ite false (T.leaf (AV.b false))
                                                      (T.ob
                                                        ((VCall P) g_laws_heldFloat32S
                                                          [AV.sl (Tag.par [0]) 0
                                                              (Cont.f FloatKind.f32 (marksM (List.length (if swOk a = true then swS a else [])) (1 + (↑(List.length (if swOk a = true then swM a else [])) : Int)))),
                                                            AV.i IntKind.i64 (1 + (↑(List.length (marksM (List.length (if swOk a = true then swM a else [])) 1)) : Int))]
                                                          (AV.i IntKind.i64
                                                            (1 + (↑(List.length (marksM (List.length (if swOk a = true then swM a else [])) 1)) : Int) +
                                                              (↑(List.length (marksM (List.length (if swOk a = true then swS a else [])) (1 + (↑(List.length (if swOk a = true then swM a else [])) : Int)))) : Int))))
                                                        (T.ite false (T.leaf (AV.b false))
                                                          (T.ite
                                                            (1 + (↑(List.length (marksM (List.length (if swOk a = true then swM a else [])) 1)) : Int) +
                                                                (↑(List.length (marksM (List.length (if swOk a = true then swS a else [])) (1 + (↑(List.length (if swOk a = true then swM a else [])) : Int)))) : Int) !=
                                                              1 + (↑(List.length (if swOk a = true then swM a else [])) : Int) + (↑(List.length (if swOk a = true then swS a else [])) : Int))
                                                            (T.leaf (AV.b false))
                                                            (T.ob ((VCall P) g_laws_toFloat32S [AV.sl (Tag.par [0]) 0 (Cont.f FloatKind.f32 a)] (AV.sl (Tag.own 0) 0 (Cont.f FloatKind.f32 a)))
                                                              (T.ob
                                                                ((VCall P) g_impl_StepWaves [AV.sl (Tag.par [0]) 0 (Cont.f FloatKind.f32 a)]
                                                                  (AV.tup
                                                                    [AV.sl (Tag.own 0) 0 (Cont.f FloatKind.f32 (if swOk a = true then swM a else [])),
                                                                      AV.sl (Tag.own 1) 0 (Cont.f FloatKind.f32 (if swOk a = true then swS a else [])), AV.b (swOk a)]))
                                                                (T.ob
                                                                  ((VCall P) g_laws_eqFloat32S
                                                                    [AV.sl (Tag.par [0]) 0 (Cont.f FloatKind.f32 (if swOk a = true then swM a else [])),
                                                                      AV.sl (Tag.par [1]) 0 (Cont.f FloatKind.f32 (if swOk a = true then swM a else []))]
                                                                    (AV.b true))
                                                                  (T.ite false (T.leaf (AV.b false))
                                                                    (T.ob
                                                                      ((VCall P) g_laws_eqFloat32S
                                                                        [AV.sl (Tag.par [0]) 0 (Cont.f FloatKind.f32 (if swOk a = true then swS a else [])),
                                                                          AV.sl (Tag.par [1]) 0 (Cont.f FloatKind.f32 (if swOk a = true then swS a else []))]
                                                                        (AV.b true))
                                                                      (T.ite false (T.leaf (AV.b false))
                                                                        (T.ite (!swOk a == swOk a) (T.leaf (AV.b false))
                                                                          (T.ob
                                                                            ((VCall P) g_laws_heldFloat32S
                                                                              [AV.sl (Tag.par [0]) 0 (Cont.f FloatKind.f32 (marksM (List.length (if swOk a = true then swM a else [])) 1)), AV.i IntKind.i64 1]
                                                                              (AV.i IntKind.i64 (1 + (↑(List.length (marksM (List.length (if swOk a = true then swM a else [])) 1)) : Int))))
                                                                            (T.ite false (T.leaf (AV.b false))
                                                                              (T.ob
                                                                                ((VCall P) g_laws_heldFloat32S
                                                                                  [AV.sl (Tag.par [0]) 0
                                                                                      (Cont.f FloatKind.f32
                                                                                        (marksM (List.length (if swOk a = true then swS a else [])) (1 + (↑(List.length (if swOk a = true then swM a else [])) : Int)))),
                                                                                    AV.i IntKind.i64 (1 + (↑(List.length (marksM (List.length (if swOk a = true then swM a else [])) 1)) : Int))]
                                                                                  (AV.i IntKind.i64
                                                                                    (1 + (↑(List.length (marksM (List.length (if swOk a = true then swM a else [])) 1)) : Int) +
                                                                                      (↑(List.length
                                                                                            (marksM (List.length (if swOk a = true then swS a else [])) (1 + (↑(List.length (if swOk a = true then swM a else [])) : Int)))) :
                                                                                        Int))))
                                                                                (T.ite false (T.leaf (AV.b false))
                                                                                  (T.ite
                                                                                    (1 + (↑(List.length (marksM (List.length (if swOk a = true then swM a else [])) 1)) : Int) +
                                                                                        (↑(List.length
                                                                                              (marksM (List.length (if swOk a = true then swS a else [])) (1 + (↑(List.length (if swOk a = true then swM a else [])) : Int)))) :
                                                                                          Int) !=
                                                                                      1 + (↑(List.length (if swOk a = true then swM a else [])) : Int) + (↑(List.length (if swOk a = true then swS a else [])) : Int))
                                                                                    (T.leaf (AV.b false)) (T.leaf (AV.b true)))))))))))))))))))))))))))))))))))))))))) :
    VCall P g_f [PS [0] .f32 a] (.b true) := h_.call_of ps_laws_FnExactStepWaves ⟨oc_laws_FnExactStepWaves a, fun _ _ => none⟩ (by kernel_rfl) ht

-- END laws_FnExactStepWaves

theorem k_laws_FnExactStepWaves {P : Program} {f g_laws_toFloat32S g_spec_StepWaves g_impl_StepWaves g_laws_eqFloat32S g_laws_markFloat32S g_laws_heldFloat32S : FuncId} (h : Is_laws_FnExactStepWaves P f g_laws_toFloat32S g_spec_StepWaves g_impl_StepWaves g_laws_eqFloat32S g_laws_markFloat32S g_laws_heldFloat32S) (c1 : C_laws_toFloat32S P g_laws_toFloat32S) (c2 : C_spec_StepWaves P g_spec_StepWaves) (c3 : C_impl_StepWaves P g_impl_StepWaves) (c4 : C_laws_eqFloat32S P g_laws_eqFloat32S) (c5 : C_laws_markFloat32S P g_laws_markFloat32S) (c6 : C_laws_heldFloat32S P g_laws_heldFloat32S) : C_laws_FnExactStepWaves P f := by
  intro a hx
  refine q_laws_FnExactStepWaves h a ?_
  have hR : (if swOk a = true then swM a else []).length ≤ a.length := by
    split
    · have := tab_len (a.length / 2) (swV a); unfold swM; omega
    · simp
  have hS : (if swOk a = true then swS a else []).length ≤ a.length := by
    split
    · have := tab_len (a.length / 2) (swD a); unfold swS; omega
    · simp
  have b2 := c2 a hx
  have b3 := c3 a hx
  generalize (if swOk a = true then swM a else []) = R at *
  generalize (if swOk a = true then swS a else []) = S at *
  repeat' (first | with_reducible refine T.ok_ob ?_ (fun _ => ?_) | with_reducible refine T.ok_ite (fun _ => ?_) (fun _ => ?_) | with_reducible refine T.ok_leaf ?_)
  all_goals (try simp only [decide_eq_true_eq, decide_eq_false_iff_not, sz_lt, gt_iff_lt, Int.not_lt, Bool.not_beq_self, bne_self_eq_false, beq_self_eq_true] at *)
  all_goals (try simp (disch := omega) only [sz_val] at *)
  all_goals first | with_reducible rfl | with_reducible assumption | ((with_reducible refine c1 _ ?_) <;> (first | assumption | omega | with_reducible rfl | (simp [maxLen_eq]; done) | (simp [maxLen_eq]; omega))) | ((with_reducible refine c2 _ ?_) <;> (first | assumption | omega | with_reducible rfl | (simp [maxLen_eq]; done) | (simp [maxLen_eq]; omega))) | ((with_reducible refine c3 _ ?_) <;> (first | assumption | omega | with_reducible rfl | (simp [maxLen_eq]; done) | (simp [maxLen_eq]; omega))) | ((with_reducible refine c4 _ _ rfl ?_) <;> (first | assumption | omega | with_reducible rfl | (simp [maxLen_eq]; done) | (simp [maxLen_eq]; omega))) | ((with_reducible refine ⟨c5 _ _ ?_ ?_, ?_⟩) <;> first | assumption | omega | (simp [marks_len]; done) | (simp [marks_len]; omega)) | ((with_reducible refine c6 _ _ _ rfl ?_ ?_) <;> (first | assumption | omega | with_reducible rfl | (simp [maxLen_eq]; done) | (simp [maxLen_eq]; omega))) | contradiction | exact fconvOk_32_64 _ | assumption | exact rfl | (simp only [marks_len, bne_self_eq_false, Bool.false_eq_true] at *; done) | skip
  all_goals exact c6 _ _ _ (by rw [marks_len]) (by rw [marks_len]; omega) (by omega)


end Go.Proofs.LV
