/- The law FnExactLinesOf. -/
import Derived.Test.YtaehhnldcnhiiaaLvFnCC
import Derived.Test.YtaehhnldcnhiiaaLvLawG
namespace Go.Proofs.LV
open Go
set_option linter.unusedVariables false
set_option linter.unusedSimpArgs false

-- FN laws_FnExactLinesOf
/-- laws.FnExactLinesOf: slots 93, results [.t 2]; calls [18:g_laws_toFloat32S, 19:g_spec_LinesOf, 23:g_laws_toFloat32S, 26:g_impl_LinesOf, 31:g_laws_eqComplex64S, 40:g_laws_toFloat32S, 41:g_laws_eqFloat32S, 45:g_laws_markFloat32S, 51:g_laws_eqComplex64S, 61:g_laws_markComplex64S, 64:g_laws_heldComplex64S, 72:g_laws_toFloat32S, 73:g_impl_LinesOf, 78:g_laws_eqComplex64S, 87:g_laws_heldComplex64S]; names [(aA, 0), (aA, 1), (w0, 3), (w1, 4), (x0, 5), (g0, 6), (g1, 7), (k, 8), (m, 9), (q, 10), (h0, 11), (h1, 12)] -/
def ps_laws_FnExactLinesOf : List Nat := [0, 2, 3, 4, 5, 6, 7, 8, 9, 10, 11, 12, 15, 37, 42, 58, 66, 69, 84, 89, 92]
def b_laws_FnExactLinesOf (g_laws_toFloat32S g_spec_LinesOf g_impl_LinesOf g_laws_eqComplex64S g_laws_eqFloat32S g_laws_markFloat32S g_laws_markComplex64S g_laws_heldComplex64S : FuncId) : VCode :=
  (.seq
   (.region false [
    ⟨some 2, .mv, [.k (.b false)], none⟩])
   (.seq
    (.seq
     (.region false [
      ⟨some 13, .mv, [.t 0], none⟩,
      ⟨some 14, .len, [.t 13], none⟩,
      ⟨some 15, (.bin .gtr), [.t 14, .k (.i .i64 1048576)], none⟩])
     (.cond (.t 15)
      (.seq
       (.region false [
        ⟨some 2, .mv, [.k (.b true)], none⟩])
       .ret)
      .skip))
    (.seq
     (.region false [
      ⟨some 17, .mv, [.t 0], none⟩,
      ⟨some 18, (.call g_laws_toFloat32S), [.t 17], none⟩,
      ⟨some 19, (.call g_spec_LinesOf), [.t 18], none⟩,
      ⟨some 16, .mv, [.t 19], none⟩,
      ⟨some 20, (.extract 0), [.t 16], none⟩,
      ⟨some 21, (.extract 1), [.t 16], none⟩,
      ⟨some 3, .mv, [.t 20], none⟩,
      ⟨some 4, .mv, [.t 21], none⟩])
     (.seq
      (.region false [
       ⟨some 22, .mv, [.t 0], none⟩,
       ⟨some 23, (.call g_laws_toFloat32S), [.t 22], none⟩,
       ⟨some 5, .mv, [.t 23], none⟩])
      (.seq
       (.region false [
        ⟨some 25, .mv, [.t 5], none⟩,
        ⟨some 26, (.call g_impl_LinesOf), [.t 25], none⟩,
        ⟨some 24, .mv, [.t 26], none⟩,
        ⟨some 27, (.extract 0), [.t 24], none⟩,
        ⟨some 28, (.extract 1), [.t 24], none⟩,
        ⟨some 6, .mv, [.t 27], none⟩,
        ⟨some 7, .mv, [.t 28], none⟩])
       (.seq
        (.seq
         (.region false [
          ⟨some 29, .mv, [.t 6], none⟩,
          ⟨some 30, .mv, [.t 3], none⟩,
          ⟨some 31, (.call g_laws_eqComplex64S), [.t 29, .t 30], none⟩,
          ⟨some 32, .not, [.t 31], none⟩,
          ⟨some 33, .mv, [.t 32], none⟩,
          ⟨some 34, .mv, [.t 7], some (33, false)⟩,
          ⟨some 35, .mv, [.t 4], some (33, false)⟩,
          ⟨some 36, (.binb .neq), [.t 34, .t 35], some (33, false)⟩,
          ⟨some 37, .pick, [.t 33, .k (.b true), .t 36], none⟩])
         (.cond (.t 37)
          (.seq
           (.region false [
            ⟨some 2, .mv, [.k (.b false)], none⟩])
           .ret)
          .skip))
        (.seq
         (.seq
          (.region false [
           ⟨some 38, .mv, [.t 5], none⟩,
           ⟨some 39, .mv, [.t 0], none⟩,
           ⟨some 40, (.call g_laws_toFloat32S), [.t 39], none⟩,
           ⟨some 41, (.call g_laws_eqFloat32S), [.t 38, .t 40], none⟩,
           ⟨some 42, .not, [.t 41], none⟩])
          (.cond (.t 42)
           (.seq
            (.region false [
             ⟨some 2, .mv, [.k (.b false)], none⟩])
            .ret)
           .skip))
         (.seq
          (.region false [
           ⟨some 8, .mv, [.k (.i .i64 1)], none⟩])
          (.seq
           (.region false [
            ⟨some 43, .mv, [.t 5], none⟩,
            ⟨some 44, .mv, [.t 8], none⟩,
            ⟨some 45, (.call g_laws_markFloat32S), [.t 43, .t 44], none⟩,
            ⟨some 8, .mv, [.t 45], none⟩])
           (.seq
            (.seq
             (.region false [
              ⟨some 46, .mv, [.t 8], none⟩,
              ⟨some 47, (.bin .lss), [.t 46, .k (.i .i64 0)], none⟩,
              ⟨some 48, .mv, [.t 47], none⟩,
              ⟨some 49, .mv, [.t 6], some (48, false)⟩,
              ⟨some 50, .mv, [.t 3], some (48, false)⟩,
              ⟨some 51, (.call g_laws_eqComplex64S), [.t 49, .t 50], some (48, false)⟩,
              ⟨some 52, .not, [.t 51], some (48, false)⟩,
              ⟨some 53, .pick, [.t 48, .k (.b true), .t 52], none⟩,
              ⟨some 54, .mv, [.t 53], none⟩,
              ⟨some 55, .mv, [.t 7], some (54, false)⟩,
              ⟨some 56, .mv, [.t 4], some (54, false)⟩,
              ⟨some 57, (.binb .neq), [.t 55, .t 56], some (54, false)⟩,
              ⟨some 58, .pick, [.t 54, .k (.b true), .t 57], none⟩])
             (.cond (.t 58)
              (.seq
               (.region false [
                ⟨some 2, .mv, [.k (.b false)], none⟩])
               .ret)
              .skip))
            (.seq
             (.region false [
              ⟨some 9, .mv, [.k (.i .i64 1)], none⟩])
             (.seq
              (.region false [
               ⟨some 59, .mv, [.t 6], none⟩,
               ⟨some 60, .mv, [.t 9], none⟩,
               ⟨some 61, (.call g_laws_markComplex64S), [.t 59, .t 60], none⟩,
               ⟨some 9, .mv, [.t 61], none⟩])
              (.seq
               (.region false [
                ⟨some 10, .mv, [.k (.i .i64 1)], none⟩])
               (.seq
                (.region false [
                 ⟨some 62, .mv, [.t 6], none⟩,
                 ⟨some 63, .mv, [.t 10], none⟩,
                 ⟨some 64, (.call g_laws_heldComplex64S), [.t 62, .t 63], none⟩,
                 ⟨some 10, .mv, [.t 64], none⟩])
                (.seq
                 (.seq
                  (.region false [
                   ⟨some 65, .mv, [.t 10], none⟩,
                   ⟨some 66, (.bin .lss), [.t 65, .k (.i .i64 0)], none⟩])
                  (.cond (.t 66)
                   (.seq
                    (.region false [
                     ⟨some 2, .mv, [.k (.b false)], none⟩])
                    .ret)
                   .skip))
                 (.seq
                  (.seq
                   (.region false [
                    ⟨some 67, .mv, [.t 10], none⟩,
                    ⟨some 68, .mv, [.t 9], none⟩,
                    ⟨some 69, (.bin .neq), [.t 67, .t 68], none⟩])
                   (.cond (.t 69)
                    (.seq
                     (.region false [
                      ⟨some 2, .mv, [.k (.b false)], none⟩])
                     .ret)
                    .skip))
                  (.seq
                   (.region false [
                    ⟨some 71, .mv, [.t 0], none⟩,
                    ⟨some 72, (.call g_laws_toFloat32S), [.t 71], none⟩,
                    ⟨some 73, (.call g_impl_LinesOf), [.t 72], none⟩,
                    ⟨some 70, .mv, [.t 73], none⟩,
                    ⟨some 74, (.extract 0), [.t 70], none⟩,
                    ⟨some 75, (.extract 1), [.t 70], none⟩,
                    ⟨some 11, .mv, [.t 74], none⟩,
                    ⟨some 12, .mv, [.t 75], none⟩])
                   (.seq
                    (.seq
                     (.region false [
                      ⟨some 76, .mv, [.t 11], none⟩,
                      ⟨some 77, .mv, [.t 3], none⟩,
                      ⟨some 78, (.call g_laws_eqComplex64S), [.t 76, .t 77], none⟩,
                      ⟨some 79, .not, [.t 78], none⟩,
                      ⟨some 80, .mv, [.t 79], none⟩,
                      ⟨some 81, .mv, [.t 12], some (80, false)⟩,
                      ⟨some 82, .mv, [.t 4], some (80, false)⟩,
                      ⟨some 83, (.binb .neq), [.t 81, .t 82], some (80, false)⟩,
                      ⟨some 84, .pick, [.t 80, .k (.b true), .t 83], none⟩])
                     (.cond (.t 84)
                      (.seq
                       (.region false [
                        ⟨some 2, .mv, [.k (.b false)], none⟩])
                       .ret)
                      .skip))
                    (.seq
                     (.region false [
                      ⟨some 10, .mv, [.k (.i .i64 1)], none⟩])
                     (.seq
                      (.region false [
                       ⟨some 85, .mv, [.t 6], none⟩,
                       ⟨some 86, .mv, [.t 10], none⟩,
                       ⟨some 87, (.call g_laws_heldComplex64S), [.t 85, .t 86], none⟩,
                       ⟨some 10, .mv, [.t 87], none⟩])
                      (.seq
                       (.seq
                        (.region false [
                         ⟨some 88, .mv, [.t 10], none⟩,
                         ⟨some 89, (.bin .lss), [.t 88, .k (.i .i64 0)], none⟩])
                        (.cond (.t 89)
                         (.seq
                          (.region false [
                           ⟨some 2, .mv, [.k (.b false)], none⟩])
                          .ret)
                         .skip))
                       (.seq
                        (.seq
                         (.region false [
                          ⟨some 90, .mv, [.t 10], none⟩,
                          ⟨some 91, .mv, [.t 9], none⟩,
                          ⟨some 92, (.bin .neq), [.t 90, .t 91], none⟩])
                         (.cond (.t 92)
                          (.seq
                           (.region false [
                            ⟨some 2, .mv, [.k (.b false)], none⟩])
                           .ret)
                          .skip))
                        (.seq
                         (.region false [
                          ⟨some 2, .mv, [.k (.b true)], none⟩])
                         .ret)))))))))))))))))))))))

abbrev Is_laws_FnExactLinesOf (P : Program) (g_f : FuncId) (g_laws_toFloat32S g_spec_LinesOf g_impl_LinesOf g_laws_eqComplex64S g_laws_eqFloat32S g_laws_markFloat32S g_laws_markComplex64S g_laws_heldComplex64S : FuncId) : Prop := FnIs P g_f 93 [.t 2] (b_laws_FnExactLinesOf g_laws_toFloat32S g_spec_LinesOf g_impl_LinesOf g_laws_eqComplex64S g_laws_eqFloat32S g_laws_markFloat32S g_laws_markComplex64S g_laws_heldComplex64S)

abbrev C_laws_FnExactLinesOf (P : Program) (g_f : FuncId) : Prop := ∀ (a : List Nat) (hx : a.length ≤ maxLen), VCall P g_f [PS [0] .f32 a] (.b true)
def oc1_laws_FnExactLinesOf (as : List AV) : T AV := match as with | [.sl _ _ (.f .f32 a)] => .leaf (.b true) | _ => .fail
def oc_laws_FnExactLinesOf (a : List Nat) (d : Nat) (as : List AV) : T AV := match d with | 18 => oc1_laws_toFloat32S as | 19 => oc1_spec_LinesOf as | 23 => oc1_laws_toFloat32S as | 26 => oc1_impl_LinesOf as | 31 => oc1_laws_eqComplex64S as | 40 => oc1_laws_toFloat32S as | 41 => oc1_laws_eqFloat32S as | 45 => oc1_laws_markFloat32S as | 51 => oc1_laws_eqComplex64S as | 61 => oc1_laws_markComplex64S as | 64 => oc1_laws_heldComplex64S as | 72 => oc1_laws_toFloat32S as | 73 => oc1_impl_LinesOf as | 78 => oc1_laws_eqComplex64S as | 87 => oc1_laws_heldComplex64S as | _ => .fail



theorem q_laws_FnExactLinesOf {P : Program} {g_f : FuncId} {g_laws_toFloat32S g_spec_LinesOf g_impl_LinesOf g_laws_eqComplex64S g_laws_eqFloat32S g_laws_markFloat32S g_laws_markComplex64S g_laws_heldComplex64S : FuncId} (h_ : Is_laws_FnExactLinesOf P g_f g_laws_toFloat32S g_spec_LinesOf g_impl_LinesOf g_laws_eqComplex64S g_laws_eqFloat32S g_laws_markFloat32S g_laws_markComplex64S g_laws_heldComplex64S) (a : List Nat) (ht : T.ok (fun x_ => x_ = .b true) (
      T.ite (decide ((↑(List.length a) : Int) > 1048576)) (T.leaf (AV.b true))
        (T.ob ((VCall P) g_laws_toFloat32S [AV.sl (Tag.par [0]) 0 (Cont.f FloatKind.f32 a)] (AV.sl (Tag.own 0) 0 (Cont.f FloatKind.f32 a)))
          (T.ob ((VCall P) g_spec_LinesOf [AV.sl (Tag.par [0]) 0 (Cont.f FloatKind.f32 a)] (AV.tup [AV.sl (Tag.own 0) 0 (Cont.c FloatKind.f32 (if lnsOk a = true then lnsM a (List.length a / 2 + 1) else [])), AV.b (lnsOk a)]))
            (T.ob ((VCall P) g_laws_toFloat32S [AV.sl (Tag.par [0]) 0 (Cont.f FloatKind.f32 a)] (AV.sl (Tag.own 0) 0 (Cont.f FloatKind.f32 a)))
              (T.ob ((VCall P) g_impl_LinesOf [AV.sl (Tag.par [0]) 0 (Cont.f FloatKind.f32 a)] (AV.tup [AV.sl (Tag.own 0) 0 (Cont.c FloatKind.f32 (if lnsOk a = true then lnsM a (List.length a / 2 + 1) else [])), AV.b (lnsOk a)]))
                (T.ob
                  ((VCall P) g_laws_eqComplex64S
                    [AV.sl (Tag.par [0]) 0 (Cont.c FloatKind.f32 (if lnsOk a = true then lnsM a (List.length a / 2 + 1) else [])),
                      AV.sl (Tag.par [1]) 0 (Cont.c FloatKind.f32 (if lnsOk a = true then lnsM a (List.length a / 2 + 1) else []))]
                    (AV.b true))
                  (T.ite false (T.leaf (AV.b false))
                    (T.ite (!lnsOk a == lnsOk a) (T.leaf (AV.b false))
                      (T.ob ((VCall P) g_laws_toFloat32S [AV.sl (Tag.par [0]) 0 (Cont.f FloatKind.f32 a)] (AV.sl (Tag.own 0) 0 (Cont.f FloatKind.f32 a)))
                        (T.ob ((VCall P) g_laws_eqFloat32S [AV.sl (Tag.par [0]) 0 (Cont.f FloatKind.f32 a), AV.sl (Tag.par [1]) 0 (Cont.f FloatKind.f32 a)] (AV.b true))
                          (T.ite false (T.leaf (AV.b false))
                            (T.ob
                              ((VCall P) g_laws_markFloat32S [AV.sl (Tag.own 800000) 0 (Cont.f FloatKind.f32 a), AV.i IntKind.i64 1]
                                  (AV.bx Tag.nil [AV.i IntKind.i64 (1 + (↑(List.length a) : Int)), AV.tup [AV.sl (Tag.own 800000) 0 (Cont.f FloatKind.f32 (marksM (List.length a) 1)), AV.i IntKind.i64 1]]) ∧
                                List.length a = List.length (marksM (List.length a) 1) ∧ List.length a = List.length (marksM (List.length a) 1) ∧ True)
                              (T.ite false (T.leaf (AV.b false))
                                (T.ob
                                  ((VCall P) g_laws_eqComplex64S
                                    [AV.sl (Tag.par [0]) 0 (Cont.c FloatKind.f32 (if lnsOk a = true then lnsM a (List.length a / 2 + 1) else [])),
                                      AV.sl (Tag.par [1]) 0 (Cont.c FloatKind.f32 (if lnsOk a = true then lnsM a (List.length a / 2 + 1) else []))]
                                    (AV.b true))
                                  (T.ite false (T.leaf (AV.b false))
                                    (T.ite (!lnsOk a == lnsOk a) (T.leaf (AV.b false))
                                      (T.ob
                                        ((VCall P) g_laws_markComplex64S [AV.sl (Tag.own 800000) 0 (Cont.c FloatKind.f32 (if lnsOk a = true then lnsM a (List.length a / 2 + 1) else [])), AV.i IntKind.i64 1]
                                            (AV.bx Tag.nil
                                              [AV.i IntKind.i64 (1 + (↑(List.length (if lnsOk a = true then lnsM a (List.length a / 2 + 1) else [])) : Int)),
                                                AV.tup [AV.sl (Tag.own 800000) 0 (Cont.c FloatKind.f32 (marksC (List.length (if lnsOk a = true then lnsM a (List.length a / 2 + 1) else [])) 1)), AV.i IntKind.i64 1]]) ∧
                                          List.length (if lnsOk a = true then lnsM a (List.length a / 2 + 1) else []) = List.length (marksC (List.length (if lnsOk a = true then lnsM a (List.length a / 2 + 1) else [])) 1) ∧
                                            List.length (if lnsOk a = true then lnsM a (List.length a / 2 + 1) else []) = List.length (marksC (List.length (if lnsOk a = true then lnsM a (List.length a / 2 + 1) else [])) 1) ∧
                                              True)
                                        (T.ob
                                          ((VCall P) g_laws_heldComplex64S [AV.sl (Tag.par [0]) 0 (Cont.c FloatKind.f32 (marksC (List.length (if lnsOk a = true then lnsM a (List.length a / 2 + 1) else [])) 1)), AV.i IntKind.i64 1]
                                            (AV.i IntKind.i64 (1 + (↑(List.length (marksC (List.length (if lnsOk a = true then lnsM a (List.length a / 2 + 1) else [])) 1)) : Int))))
                                          (T.ite false (T.leaf (AV.b false))
                                            (T.ite
                                              (1 + (↑(List.length (marksC (List.length (if lnsOk a = true then lnsM a (List.length a / 2 + 1) else [])) 1)) : Int) !=
                                                1 + (↑(List.length (if lnsOk a = true then lnsM a (List.length a / 2 + 1) else [])) : Int))
                                              (T.leaf (AV.b false))
                                              (T.ob ((VCall P) g_laws_toFloat32S [AV.sl (Tag.par [0]) 0 (Cont.f FloatKind.f32 a)] (AV.sl (Tag.own 0) 0 (Cont.f FloatKind.f32 a)))
                                                (T.ob
                                                  ((VCall P) g_impl_LinesOf [AV.sl (Tag.par [0]) 0 (Cont.f FloatKind.f32 a)]
                                                    (AV.tup [AV.sl (Tag.own 0) 0 (Cont.c FloatKind.f32 (if lnsOk a = true then lnsM a (List.length a / 2 + 1) else [])), AV.b (lnsOk a)]))
                                                  (T.ob
                                                    ((VCall P) g_laws_eqComplex64S
                                                      [AV.sl (Tag.par [0]) 0 (Cont.c FloatKind.f32 (if lnsOk a = true then lnsM a (List.length a / 2 + 1) else [])),
                                                        AV.sl (Tag.par [1]) 0 (Cont.c FloatKind.f32 (if lnsOk a = true then lnsM a (List.length a / 2 + 1) else []))]
                                                      (AV.b true))
                                                    (T.ite false (T.leaf (AV.b false))
                                                      (T.ite (!lnsOk a == lnsOk a) (T.leaf (AV.b false))
                                                        (T.ob
                                                          ((VCall P) g_laws_heldComplex64S
                                                            [AV.sl (Tag.par [0]) 0 (Cont.c FloatKind.f32 (marksC (List.length (if lnsOk a = true then lnsM a (List.length a / 2 + 1) else [])) 1)), AV.i IntKind.i64 1]
                                                            (AV.i IntKind.i64 (1 + (↑(List.length (marksC (List.length (if lnsOk a = true then lnsM a (List.length a / 2 + 1) else [])) 1)) : Int))))
                                                          (T.ite false (T.leaf (AV.b false))
                                                            (T.ite
                                                              (1 + (↑(List.length (marksC (List.length (if lnsOk a = true then lnsM a (List.length a / 2 + 1) else [])) 1)) : Int) !=
                                                                1 + (↑(List.length (if lnsOk a = true then lnsM a (List.length a / 2 + 1) else [])) : Int))
                                                              (T.leaf (AV.b false)) (T.leaf (AV.b true))))))))))))))))))))))))))))))) :
    VCall P g_f [PS [0] .f32 a] (.b true) := h_.call_of ps_laws_FnExactLinesOf ⟨oc_laws_FnExactLinesOf a, fun _ _ => none⟩ (by kernel_rfl) ht

-- END laws_FnExactLinesOf

theorem k_laws_FnExactLinesOf {P : Program} {f g_laws_toFloat32S g_spec_LinesOf g_impl_LinesOf g_laws_eqComplex64S g_laws_eqFloat32S g_laws_markFloat32S g_laws_markComplex64S g_laws_heldComplex64S : FuncId} (h : Is_laws_FnExactLinesOf P f g_laws_toFloat32S g_spec_LinesOf g_impl_LinesOf g_laws_eqComplex64S g_laws_eqFloat32S g_laws_markFloat32S g_laws_markComplex64S g_laws_heldComplex64S) (c1 : C_laws_toFloat32S P g_laws_toFloat32S) (c2 : C_spec_LinesOf P g_spec_LinesOf) (c3 : C_impl_LinesOf P g_impl_LinesOf) (c4 : C_laws_eqComplex64S P g_laws_eqComplex64S) (c5 : C_laws_eqFloat32S P g_laws_eqFloat32S) (c6 : C_laws_markFloat32S P g_laws_markFloat32S) (c7 : C_laws_markComplex64S P g_laws_markComplex64S) (c8 : C_laws_heldComplex64S P g_laws_heldComplex64S) : C_laws_FnExactLinesOf P f := by
  intro a hx
  refine q_laws_FnExactLinesOf h a ?_
  have hR : (if lnsOk a = true then lnsM a (a.length / 2 + 1) else []).length ≤ a.length + 1 := by split <;> simp [lns_len]; omega
  have b2 := c2 a hx
  have b3 := c3 a hx
  generalize (if lnsOk a = true then lnsM a (a.length / 2 + 1) else []) = R at *
  generalize lnsOk a = rk at *
  repeat' (first | with_reducible refine T.ok_ob ?_ (fun _ => ?_) | with_reducible refine T.ok_ite (fun _ => ?_) (fun _ => ?_) | with_reducible refine T.ok_leaf ?_)
  all_goals (try simp only [decide_eq_true_eq, decide_eq_false_iff_not, sz_lt, gt_iff_lt, Int.not_lt, Bool.not_beq_self, bne_self_eq_false, beq_self_eq_true] at *)
  all_goals (try simp (disch := omega) only [sz_val] at *)
  all_goals first | with_reducible rfl | with_reducible assumption | ((with_reducible refine c1 _ ?_) <;> (first | assumption | omega | with_reducible rfl | (simp [maxLen_eq]; done) | (simp [maxLen_eq]; omega))) | ((with_reducible refine c2 _ ?_) <;> (first | assumption | omega | with_reducible rfl | (simp [maxLen_eq]; done) | (simp [maxLen_eq]; omega))) | ((with_reducible refine c3 _ ?_) <;> (first | assumption | omega | with_reducible rfl | (simp [maxLen_eq]; done) | (simp [maxLen_eq]; omega))) | ((with_reducible refine c4 _ _ rfl ?_) <;> (first | assumption | omega | with_reducible rfl | (simp [maxLen_eq]; done) | (simp [maxLen_eq]; omega))) | ((with_reducible refine c5 _ _ rfl ?_) <;> (first | assumption | omega | with_reducible rfl | (simp [maxLen_eq]; done) | (simp [maxLen_eq]; omega))) | ((with_reducible refine ⟨c6 _ _ ?_ ?_, ?_⟩) <;> first | assumption | omega | (simp [marks_len, cmarks_len]; done) | (simp [marks_len, cmarks_len]; omega)) | ((with_reducible refine ⟨c7 _ _ ?_ ?_, ?_⟩) <;> first | assumption | omega | (simp [marks_len, cmarks_len]; done) | (simp [marks_len, cmarks_len]; omega)) | ((with_reducible refine c8 _ _ _ rfl ?_ ?_) <;> (first | assumption | omega | with_reducible rfl | (simp [maxLen_eq]; done) | (simp [maxLen_eq]; omega))) | contradiction | exact fconvOk_32_64 _ | assumption | exact rfl | (simp only [marks_len, bne_self_eq_false, Bool.false_eq_true] at *; done) | (simp only [cmarks_len, marks_len, bne_self_eq_false, Bool.false_eq_true] at *; done) | (simp_all [cmarks_len, marks_len]; done) | (simp_all [T.ok, cmarks_len, marks_len]; omega) | skip
  all_goals (simp only [cmarks_len, marks_len, bne_self_eq_false, Bool.false_eq_true] at *)

end Go.Proofs.LV
