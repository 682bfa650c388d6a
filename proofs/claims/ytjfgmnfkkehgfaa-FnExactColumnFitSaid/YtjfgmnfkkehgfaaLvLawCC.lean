/- The laws FnExactColumnFit and FnExactRestOfFit. -/
import Derived.Test.YtjfgmnfkkehgfaaLvFnMM
import Derived.Test.YtjfgmnfkkehgfaaLvLawBX
namespace Go.Proofs.LV
open Go
set_option linter.unusedVariables false
set_option linter.unusedSimpArgs false

-- FN laws_FnExactColumnFit
/-- laws.FnExactColumnFit: slots 117, results [.t 4]; calls [22:g_laws_szFloat32SS, 27:g_laws_toFloat32SS, 29:g_laws_toFloat32S, 30:g_spec_ColumnFit, 34:g_laws_toFloat32SS, 36:g_laws_toFloat32S, 40:g_impl_ColumnFit, 45:g_laws_eqFloat32S, 54:g_laws_toFloat32SS, 55:g_laws_eqFloat32SS, 59:g_laws_toFloat32S, 60:g_laws_eqFloat32S, 64:g_laws_markFloat32SS, 67:g_laws_markFloat32S, 73:g_laws_eqFloat32S, 83:g_laws_markFloat32S, 86:g_laws_heldFloat32S, 94:g_laws_toFloat32SS, 96:g_laws_toFloat32S, 97:g_impl_ColumnFit, 102:g_laws_eqFloat32S, 111:g_laws_heldFloat32S]; names [(aColumns, 0), (aY, 1), (aColumns, 2), (aY, 3), (left, 5), (w0, 6), (w1, 7), (x0, 8), (x1, 9), (g0, 10), (g1, 11), (k, 12), (m, 13), (q, 14), (h0, 15), (h1, 16)] -/
def ps_laws_FnExactColumnFit : List Nat := [0, 1, 4, 5, 6, 7, 8, 9, 10, 11, 12, 13, 14, 15, 16, 19, 24, 51, 56, 61, 80, 88, 91, 108, 113, 116]
def b_laws_FnExactColumnFit (g_laws_szFloat32SS g_laws_toFloat32SS g_laws_toFloat32S g_spec_ColumnFit g_impl_ColumnFit g_laws_eqFloat32S g_laws_eqFloat32SS g_laws_markFloat32SS g_laws_markFloat32S g_laws_heldFloat32S : FuncId) : VCode :=
  (.seq
   (.region false [
    ⟨some 4, .mv, [.k (.b false)], none⟩])
   (.seq
    (.seq
     (.region false [
      ⟨some 17, .mv, [.t 1], none⟩,
      ⟨some 18, .len, [.t 17], none⟩,
      ⟨some 19, (.bin .gtr), [.t 18, .k (.i .i64 1048576)], none⟩])
     (.cond (.t 19)
      (.seq
       (.region false [
        ⟨some 4, .mv, [.k (.b true)], none⟩])
       .ret)
      .skip))
    (.seq
     (.region false [
      ⟨some 5, .mv, [.k (.i .i64 1048576)], none⟩])
     (.seq
      (.region false [
       ⟨some 20, .mv, [.t 0], none⟩,
       ⟨some 21, .mv, [.t 5], none⟩,
       ⟨some 22, (.call g_laws_szFloat32SS), [.t 20, .t 21], none⟩,
       ⟨some 5, .mv, [.t 22], none⟩])
      (.seq
       (.seq
        (.region false [
         ⟨some 23, .mv, [.t 5], none⟩,
         ⟨some 24, (.bin .lss), [.t 23, .k (.i .i64 0)], none⟩])
        (.cond (.t 24)
         (.seq
          (.region false [
           ⟨some 4, .mv, [.k (.b true)], none⟩])
          .ret)
         .skip))
       (.seq
        (.region false [
         ⟨some 26, .mv, [.t 0], none⟩,
         ⟨some 27, (.call g_laws_toFloat32SS), [.t 26], none⟩,
         ⟨some 28, .mv, [.t 1], none⟩,
         ⟨some 29, (.call g_laws_toFloat32S), [.t 28], none⟩,
         ⟨some 30, (.call g_spec_ColumnFit), [.t 27, .t 29], none⟩,
         ⟨some 25, .mv, [.t 30], none⟩,
         ⟨some 31, (.extract 0), [.t 25], none⟩,
         ⟨some 32, (.extract 1), [.t 25], none⟩,
         ⟨some 6, .mv, [.t 31], none⟩,
         ⟨some 7, .mv, [.t 32], none⟩])
        (.seq
         (.region false [
          ⟨some 33, .mv, [.t 0], none⟩,
          ⟨some 34, (.call g_laws_toFloat32SS), [.t 33], none⟩,
          ⟨some 8, .mv, [.t 34], none⟩])
         (.seq
          (.region false [
           ⟨some 35, .mv, [.t 1], none⟩,
           ⟨some 36, (.call g_laws_toFloat32S), [.t 35], none⟩,
           ⟨some 9, .mv, [.t 36], none⟩])
          (.seq
           (.region false [
            ⟨some 38, .mv, [.t 8], none⟩,
            ⟨some 39, .mv, [.t 9], none⟩,
            ⟨some 40, (.call g_impl_ColumnFit), [.t 38, .t 39], none⟩,
            ⟨some 37, .mv, [.t 40], none⟩,
            ⟨some 41, (.extract 0), [.t 37], none⟩,
            ⟨some 42, (.extract 1), [.t 37], none⟩,
            ⟨some 10, .mv, [.t 41], none⟩,
            ⟨some 11, .mv, [.t 42], none⟩])
           (.seq
            (.seq
             (.region false [
              ⟨some 43, .mv, [.t 10], none⟩,
              ⟨some 44, .mv, [.t 6], none⟩,
              ⟨some 45, (.call g_laws_eqFloat32S), [.t 43, .t 44], none⟩,
              ⟨some 46, .not, [.t 45], none⟩,
              ⟨some 47, .mv, [.t 46], none⟩,
              ⟨some 48, .mv, [.t 11], some (47, false)⟩,
              ⟨some 49, .mv, [.t 7], some (47, false)⟩,
              ⟨some 50, (.binb .neq), [.t 48, .t 49], some (47, false)⟩,
              ⟨some 51, .pick, [.t 47, .k (.b true), .t 50], none⟩])
             (.cond (.t 51)
              (.seq
               (.region false [
                ⟨some 4, .mv, [.k (.b false)], none⟩])
               .ret)
              .skip))
            (.seq
             (.seq
              (.region false [
               ⟨some 52, .mv, [.t 8], none⟩,
               ⟨some 53, .mv, [.t 0], none⟩,
               ⟨some 54, (.call g_laws_toFloat32SS), [.t 53], none⟩,
               ⟨some 55, (.call g_laws_eqFloat32SS), [.t 52, .t 54], none⟩,
               ⟨some 56, .not, [.t 55], none⟩])
              (.cond (.t 56)
               (.seq
                (.region false [
                 ⟨some 4, .mv, [.k (.b false)], none⟩])
                .ret)
               .skip))
             (.seq
              (.seq
               (.region false [
                ⟨some 57, .mv, [.t 9], none⟩,
                ⟨some 58, .mv, [.t 1], none⟩,
                ⟨some 59, (.call g_laws_toFloat32S), [.t 58], none⟩,
                ⟨some 60, (.call g_laws_eqFloat32S), [.t 57, .t 59], none⟩,
                ⟨some 61, .not, [.t 60], none⟩])
               (.cond (.t 61)
                (.seq
                 (.region false [
                  ⟨some 4, .mv, [.k (.b false)], none⟩])
                 .ret)
                .skip))
              (.seq
               (.region false [
                ⟨some 12, .mv, [.k (.i .i64 1)], none⟩])
               (.seq
                (.region false [
                 ⟨some 62, .mv, [.t 8], none⟩,
                 ⟨some 63, .mv, [.t 12], none⟩,
                 ⟨some 64, (.call g_laws_markFloat32SS), [.t 62, .t 63], none⟩,
                 ⟨some 12, .mv, [.t 64], none⟩])
                (.seq
                 (.region false [
                  ⟨some 65, .mv, [.t 9], none⟩,
                  ⟨some 66, .mv, [.t 12], none⟩,
                  ⟨some 67, (.call g_laws_markFloat32S), [.t 65, .t 66], none⟩,
                  ⟨some 12, .mv, [.t 67], none⟩])
                 (.seq
                  (.seq
                   (.region false [
                    ⟨some 68, .mv, [.t 12], none⟩,
                    ⟨some 69, (.bin .lss), [.t 68, .k (.i .i64 0)], none⟩,
                    ⟨some 70, .mv, [.t 69], none⟩,
                    ⟨some 71, .mv, [.t 10], some (70, false)⟩,
                    ⟨some 72, .mv, [.t 6], some (70, false)⟩,
                    ⟨some 73, (.call g_laws_eqFloat32S), [.t 71, .t 72], some (70, false)⟩,
                    ⟨some 74, .not, [.t 73], some (70, false)⟩,
                    ⟨some 75, .pick, [.t 70, .k (.b true), .t 74], none⟩,
                    ⟨some 76, .mv, [.t 75], none⟩,
                    ⟨some 77, .mv, [.t 11], some (76, false)⟩,
                    ⟨some 78, .mv, [.t 7], some (76, false)⟩,
                    ⟨some 79, (.binb .neq), [.t 77, .t 78], some (76, false)⟩,
                    ⟨some 80, .pick, [.t 76, .k (.b true), .t 79], none⟩])
                   (.cond (.t 80)
                    (.seq
                     (.region false [
                      ⟨some 4, .mv, [.k (.b false)], none⟩])
                     .ret)
                    .skip))
                  (.seq
                   (.region false [
                    ⟨some 13, .mv, [.k (.i .i64 1)], none⟩])
                   (.seq
                    (.region false [
                     ⟨some 81, .mv, [.t 10], none⟩,
                     ⟨some 82, .mv, [.t 13], none⟩,
                     ⟨some 83, (.call g_laws_markFloat32S), [.t 81, .t 82], none⟩,
                     ⟨some 13, .mv, [.t 83], none⟩])
                    (.seq
                     (.region false [
                      ⟨some 14, .mv, [.k (.i .i64 1)], none⟩])
                     (.seq
                      (.region false [
                       ⟨some 84, .mv, [.t 10], none⟩,
                       ⟨some 85, .mv, [.t 14], none⟩,
                       ⟨some 86, (.call g_laws_heldFloat32S), [.t 84, .t 85], none⟩,
                       ⟨some 14, .mv, [.t 86], none⟩])
                      (.seq
                       (.seq
                        (.region false [
                         ⟨some 87, .mv, [.t 14], none⟩,
                         ⟨some 88, (.bin .lss), [.t 87, .k (.i .i64 0)], none⟩])
                        (.cond (.t 88)
                         (.seq
                          (.region false [
                           ⟨some 4, .mv, [.k (.b false)], none⟩])
                          .ret)
                         .skip))
                       (.seq
                        (.seq
                         (.region false [
                          ⟨some 89, .mv, [.t 14], none⟩,
                          ⟨some 90, .mv, [.t 13], none⟩,
                          ⟨some 91, (.bin .neq), [.t 89, .t 90], none⟩])
                         (.cond (.t 91)
                          (.seq
                           (.region false [
                            ⟨some 4, .mv, [.k (.b false)], none⟩])
                           .ret)
                          .skip))
                        (.seq
                         (.region false [
                          ⟨some 93, .mv, [.t 0], none⟩,
                          ⟨some 94, (.call g_laws_toFloat32SS), [.t 93], none⟩,
                          ⟨some 95, .mv, [.t 1], none⟩,
                          ⟨some 96, (.call g_laws_toFloat32S), [.t 95], none⟩,
                          ⟨some 97, (.call g_impl_ColumnFit), [.t 94, .t 96], none⟩,
                          ⟨some 92, .mv, [.t 97], none⟩,
                          ⟨some 98, (.extract 0), [.t 92], none⟩,
                          ⟨some 99, (.extract 1), [.t 92], none⟩,
                          ⟨some 15, .mv, [.t 98], none⟩,
                          ⟨some 16, .mv, [.t 99], none⟩])
                         (.seq
                          (.seq
                           (.region false [
                            ⟨some 100, .mv, [.t 15], none⟩,
                            ⟨some 101, .mv, [.t 6], none⟩,
                            ⟨some 102, (.call g_laws_eqFloat32S), [.t 100, .t 101], none⟩,
                            ⟨some 103, .not, [.t 102], none⟩,
                            ⟨some 104, .mv, [.t 103], none⟩,
                            ⟨some 105, .mv, [.t 16], some (104, false)⟩,
                            ⟨some 106, .mv, [.t 7], some (104, false)⟩,
                            ⟨some 107, (.binb .neq), [.t 105, .t 106], some (104, false)⟩,
                            ⟨some 108, .pick, [.t 104, .k (.b true), .t 107], none⟩])
                           (.cond (.t 108)
                            (.seq
                             (.region false [
                              ⟨some 4, .mv, [.k (.b false)], none⟩])
                             .ret)
                            .skip))
                          (.seq
                           (.region false [
                            ⟨some 14, .mv, [.k (.i .i64 1)], none⟩])
                           (.seq
                            (.region false [
                             ⟨some 109, .mv, [.t 10], none⟩,
                             ⟨some 110, .mv, [.t 14], none⟩,
                             ⟨some 111, (.call g_laws_heldFloat32S), [.t 109, .t 110], none⟩,
                             ⟨some 14, .mv, [.t 111], none⟩])
                            (.seq
                             (.seq
                              (.region false [
                               ⟨some 112, .mv, [.t 14], none⟩,
                               ⟨some 113, (.bin .lss), [.t 112, .k (.i .i64 0)], none⟩])
                              (.cond (.t 113)
                               (.seq
                                (.region false [
                                 ⟨some 4, .mv, [.k (.b false)], none⟩])
                                .ret)
                               .skip))
                             (.seq
                              (.seq
                               (.region false [
                                ⟨some 114, .mv, [.t 14], none⟩,
                                ⟨some 115, .mv, [.t 13], none⟩,
                                ⟨some 116, (.bin .neq), [.t 114, .t 115], none⟩])
                               (.cond (.t 116)
                                (.seq
                                 (.region false [
                                  ⟨some 4, .mv, [.k (.b false)], none⟩])
                                 .ret)
                                .skip))
                              (.seq
                               (.region false [
                                ⟨some 4, .mv, [.k (.b true)], none⟩])
                               .ret)))))))))))))))))))))))))))))

abbrev Is_laws_FnExactColumnFit (P : Program) (g_f : FuncId) (g_laws_szFloat32SS g_laws_toFloat32SS g_laws_toFloat32S g_spec_ColumnFit g_impl_ColumnFit g_laws_eqFloat32S g_laws_eqFloat32SS g_laws_markFloat32SS g_laws_markFloat32S g_laws_heldFloat32S : FuncId) : Prop := FnIs P g_f 117 [.t 4] (b_laws_FnExactColumnFit g_laws_szFloat32SS g_laws_toFloat32SS g_laws_toFloat32S g_spec_ColumnFit g_impl_ColumnFit g_laws_eqFloat32S g_laws_eqFloat32SS g_laws_markFloat32SS g_laws_markFloat32S g_laws_heldFloat32S)

abbrev C_laws_FnExactColumnFit (P : Program) (g_f : FuncId) : Prop := ∀ (xss : LL) (y : List Nat) (hx : xss.length ≤ maxLen) (hr : ∀ r ∈ xss, r.length ≤ maxLen) (hy : y.length ≤ maxLen), VCall P g_f [PF [0] xss, PS [1] .f32 y] (.b true)
def oc1_laws_FnExactColumnFit (as : List AV) : T AV := match as with | [.sl _ _ (.ff _ xss), .sl _ _ (.f .f32 y)] => .leaf (.b true) | _ => .fail
def oc_laws_FnExactColumnFit (xss : LL) (y : List Nat) (d : Nat) (as : List AV) : T AV := match d with | 22 => oc1_laws_szFloat32SS as | 27 => oc1_laws_toFloat32SS as | 29 => oc1_laws_toFloat32S as | 30 => oc1_spec_ColumnFit as | 34 => oc1_laws_toFloat32SS as | 36 => oc1_laws_toFloat32S as | 40 => oc1_impl_ColumnFit as | 45 => oc1_laws_eqFloat32S as | 54 => oc1_laws_toFloat32SS as | 55 => oc1_laws_eqFloat32SS as | 59 => oc1_laws_toFloat32S as | 60 => oc1_laws_eqFloat32S as | 64 => oc1_laws_markFloat32SS as | 67 => oc1_laws_markFloat32S as | 73 => oc1_laws_eqFloat32S as | 83 => oc1_laws_markFloat32S as | 86 => oc1_laws_heldFloat32S as | 94 => oc1_laws_toFloat32SS as | 96 => oc1_laws_toFloat32S as | 97 => oc1_impl_ColumnFit as | 102 => oc1_laws_eqFloat32S as | 111 => oc1_laws_heldFloat32S as | _ => .fail



theorem q_laws_FnExactColumnFit {P : Program} {g_f : FuncId} {g_laws_szFloat32SS g_laws_toFloat32SS g_laws_toFloat32S g_spec_ColumnFit g_impl_ColumnFit g_laws_eqFloat32S g_laws_eqFloat32SS g_laws_markFloat32SS g_laws_markFloat32S g_laws_heldFloat32S : FuncId} (h_ : Is_laws_FnExactColumnFit P g_f g_laws_szFloat32SS g_laws_toFloat32SS g_laws_toFloat32S g_spec_ColumnFit g_impl_ColumnFit g_laws_eqFloat32S g_laws_eqFloat32SS g_laws_markFloat32SS g_laws_markFloat32S g_laws_heldFloat32S) (xss : LL) (y : List Nat) (ht : T.ok (fun x_ => x_ = .b true) (
      T.ite (decide ((↑(List.length y) : Int) > 1048576)) (T.leaf (AV.b true))
        (T.ob ((VCall P) g_laws_szFloat32SS [AV.sl (Tag.par [0]) 0 (Cont.ff FloatKind.f32 xss), AV.i IntKind.i64 1048576] (AV.i IntKind.i64 (szSS xss 1048576)))
          (T.ite (decide (szSS xss 1048576 < 0)) (T.leaf (AV.b true))
            (T.ob ((VCall P) g_laws_toFloat32SS [AV.sl (Tag.par [0]) 0 (Cont.ff FloatKind.f32 xss)] (AV.nw 0 0 FloatKind.f32 xss none))
              (T.ob ((VCall P) g_laws_toFloat32S [AV.sl (Tag.par [0]) 0 (Cont.f FloatKind.f32 y)] (AV.sl (Tag.own 0) 0 (Cont.f FloatKind.f32 y)))
                (T.ob
                  ((VCall P) g_spec_ColumnFit [AV.sl (Tag.par [0]) 0 (Cont.ff FloatKind.f32 xss), AV.sl (Tag.par [1]) 0 (Cont.f FloatKind.f32 y)] (AV.tup [AV.sl (Tag.own 0) 0 (Cont.f FloatKind.f32 (ftOut xss y)), AV.b (ftOk xss y)]))
                  (T.ob ((VCall P) g_laws_toFloat32SS [AV.sl (Tag.par [0]) 0 (Cont.ff FloatKind.f32 xss)] (AV.nw 0 0 FloatKind.f32 xss none))
                    (T.ob ((VCall P) g_laws_toFloat32S [AV.sl (Tag.par [0]) 0 (Cont.f FloatKind.f32 y)] (AV.sl (Tag.own 0) 0 (Cont.f FloatKind.f32 y)))
                      (T.ob
                        ((VCall P) g_impl_ColumnFit [AV.sl (Tag.par [0]) 0 (Cont.ff FloatKind.f32 xss), AV.sl (Tag.par [1]) 0 (Cont.f FloatKind.f32 y)]
                          (AV.tup [AV.sl (Tag.own 0) 0 (Cont.f FloatKind.f32 (ftOut xss y)), AV.b (ftOk xss y)]))
                        (T.ob ((VCall P) g_laws_eqFloat32S [AV.sl (Tag.par [0]) 0 (Cont.f FloatKind.f32 (ftOut xss y)), AV.sl (Tag.par [1]) 0 (Cont.f FloatKind.f32 (ftOut xss y))] (AV.b true))
                          (T.ite false (T.leaf (AV.b false))
                            (T.ite (!ftOk xss y == ftOk xss y) (T.leaf (AV.b false))
                              (T.ob ((VCall P) g_laws_toFloat32SS [AV.sl (Tag.par [0]) 0 (Cont.ff FloatKind.f32 xss)] (AV.nw 0 0 FloatKind.f32 xss none))
                                (T.ob ((VCall P) g_laws_eqFloat32SS [AV.sl (Tag.par [0]) 0 (Cont.ff FloatKind.f32 xss), AV.sl (Tag.par [1]) 0 (Cont.ff FloatKind.f32 xss)] (AV.b true))
                                  (T.ite false (T.leaf (AV.b false))
                                    (T.ob ((VCall P) g_laws_toFloat32S [AV.sl (Tag.par [0]) 0 (Cont.f FloatKind.f32 y)] (AV.sl (Tag.own 0) 0 (Cont.f FloatKind.f32 y)))
                                      (T.ob ((VCall P) g_laws_eqFloat32S [AV.sl (Tag.par [0]) 0 (Cont.f FloatKind.f32 y), AV.sl (Tag.par [1]) 0 (Cont.f FloatKind.f32 y)] (AV.b true))
                                        (T.ite false (T.leaf (AV.b false))
                                          (T.ob
                                            ((VCall P) g_laws_markFloat32SS [AV.nw 800000 0 FloatKind.f32 xss none, AV.i IntKind.i64 1]
                                                (AV.bx Tag.nil [AV.i IntKind.i64 (1 + (↑(totN xss (List.length xss)) : Int)), AV.tup [AV.nw 800000 0 FloatKind.f32 (marksSS xss 1) none, AV.i IntKind.i64 1]]) ∧
                                              List.length xss = List.length (marksSS xss 1) ∧ List.length xss = List.length (marksSS xss 1) ∧ True)
                                            (T.ob
                                              ((VCall P) g_laws_markFloat32S [AV.sl (Tag.own 800000) 0 (Cont.f FloatKind.f32 y), AV.i IntKind.i64 (1 + (↑(totN xss (List.length xss)) : Int))]
                                                  (AV.bx Tag.nil
                                                    [AV.i IntKind.i64 (1 + (↑(totN xss (List.length xss)) : Int) + (↑(List.length y) : Int)),
                                                      AV.tup
                                                        [AV.sl (Tag.own 800000) 0 (Cont.f FloatKind.f32 (marksM (List.length y) (1 + (↑(totN xss (List.length xss)) : Int)))),
                                                          AV.i IntKind.i64 (1 + (↑(totN xss (List.length xss)) : Int))]]) ∧
                                                List.length y = List.length (marksM (List.length y) (1 + (↑(totN xss (List.length xss)) : Int))) ∧
                                                  List.length y = List.length (marksM (List.length y) (1 + (↑(totN xss (List.length xss)) : Int))) ∧ True)
                                              (T.ite false (T.leaf (AV.b false))
                                                (T.ob ((VCall P) g_laws_eqFloat32S [AV.sl (Tag.par [0]) 0 (Cont.f FloatKind.f32 (ftOut xss y)), AV.sl (Tag.par [1]) 0 (Cont.f FloatKind.f32 (ftOut xss y))] (AV.b true))
                                                  (T.ite false (T.leaf (AV.b false))
                                                    (T.ite (!ftOk xss y == ftOk xss y) (T.leaf (AV.b false))
                                                      (T.ob
                                                        ((VCall P) g_laws_markFloat32S [AV.sl (Tag.own 800000) 0 (Cont.f FloatKind.f32 (ftOut xss y)), AV.i IntKind.i64 1]
                                                            (AV.bx Tag.nil
                                                              [AV.i IntKind.i64 (1 + (↑(List.length (ftOut xss y)) : Int)),
                                                                AV.tup [AV.sl (Tag.own 800000) 0 (Cont.f FloatKind.f32 (marksM (List.length (ftOut xss y)) 1)), AV.i IntKind.i64 1]]) ∧
                                                          List.length (ftOut xss y) = List.length (marksM (List.length (ftOut xss y)) 1) ∧ List.length (ftOut xss y) = List.length (marksM (List.length (ftOut xss y)) 1) ∧ True)
                                                        (T.ob
                                                          ((VCall P) g_laws_heldFloat32S [AV.sl (Tag.par [0]) 0 (Cont.f FloatKind.f32 (marksM (List.length (ftOut xss y)) 1)), AV.i IntKind.i64 1]
                                                            (AV.i IntKind.i64 (1 + (↑(List.length (marksM (List.length (ftOut xss y)) 1)) : Int))))
                                                          (T.ite false (T.leaf (AV.b false))
                                                            (T.ite (1 + (↑(List.length (marksM (List.length (ftOut xss y)) 1)) : Int) != 1 + (↑(List.length (ftOut xss y)) : Int)) (T.leaf (AV.b false))
                                                              (T.ob ((VCall P) g_laws_toFloat32SS [AV.sl (Tag.par [0]) 0 (Cont.ff FloatKind.f32 xss)] (AV.nw 0 0 FloatKind.f32 xss none))
                                                                (T.ob ((VCall P) g_laws_toFloat32S [AV.sl (Tag.par [0]) 0 (Cont.f FloatKind.f32 y)] (AV.sl (Tag.own 0) 0 (Cont.f FloatKind.f32 y)))
                                                                  (T.ob
                                                                    ((VCall P) g_impl_ColumnFit [AV.sl (Tag.par [0]) 0 (Cont.ff FloatKind.f32 xss), AV.sl (Tag.par [1]) 0 (Cont.f FloatKind.f32 y)]
                                                                      (AV.tup [AV.sl (Tag.own 0) 0 (Cont.f FloatKind.f32 (ftOut xss y)), AV.b (ftOk xss y)]))
                                                                    (T.ob
                                                                      ((VCall P) g_laws_eqFloat32S [AV.sl (Tag.par [0]) 0 (Cont.f FloatKind.f32 (ftOut xss y)), AV.sl (Tag.par [1]) 0 (Cont.f FloatKind.f32 (ftOut xss y))] (AV.b true))
                                                                      (T.ite false (T.leaf (AV.b false))
                                                                        (T.ite (!ftOk xss y == ftOk xss y) (T.leaf (AV.b false))
                                                                          (T.ob
                                                                            ((VCall P) g_laws_heldFloat32S [AV.sl (Tag.par [0]) 0 (Cont.f FloatKind.f32 (marksM (List.length (ftOut xss y)) 1)), AV.i IntKind.i64 1]
                                                                              (AV.i IntKind.i64 (1 + (↑(List.length (marksM (List.length (ftOut xss y)) 1)) : Int))))
                                                                            (T.ite false (T.leaf (AV.b false))
                                                                              (T.ite (1 + (↑(List.length (marksM (List.length (ftOut xss y)) 1)) : Int) != 1 + (↑(List.length (ftOut xss y)) : Int)) (T.leaf (AV.b false))
                                                                                (T.leaf (AV.b true)))))))))))))))))))))))))))))))))))))))) :
    VCall P g_f [PF [0] xss, PS [1] .f32 y] (.b true) := h_.call_of ps_laws_FnExactColumnFit ⟨oc_laws_FnExactColumnFit xss y, fun _ _ => none⟩ (by kernel_rfl) ht

-- END laws_FnExactColumnFit

theorem ft_out_len (xss : LL) (y : List Nat) : (ftOut xss y).length ≤ 96 := by
  unfold ftOut
  split
  · rename_i h
    have := ftOk_facts h
    omega
  · simp
theorem ro_out_len (xss : LL) (y : List Nat) : (if roOk xss y = true then roR xss y else []).length ≤ 96 := by
  split
  · rename_i h
    unfold roOk at h
    simp only [Bool.and_eq_true] at h
    have := ftOk_facts h.1
    rw [roR_len]; omega
  · simp
theorem k_laws_FnExactColumnFit {P : Program} {f g_laws_szFloat32SS g_laws_toFloat32SS g_laws_toFloat32S g_spec_ColumnFit g_impl_ColumnFit g_laws_eqFloat32S g_laws_eqFloat32SS g_laws_markFloat32SS g_laws_markFloat32S g_laws_heldFloat32S : FuncId} (h : Is_laws_FnExactColumnFit P f g_laws_szFloat32SS g_laws_toFloat32SS g_laws_toFloat32S g_spec_ColumnFit g_impl_ColumnFit g_laws_eqFloat32S g_laws_eqFloat32SS g_laws_markFloat32SS g_laws_markFloat32S g_laws_heldFloat32S) (c1 : C_laws_szFloat32SS P g_laws_szFloat32SS) (c2 : C_laws_toFloat32SS P g_laws_toFloat32SS) (c3 : C_laws_toFloat32S P g_laws_toFloat32S) (c4 : C_spec_ColumnFit P g_spec_ColumnFit) (c5 : C_impl_ColumnFit P g_impl_ColumnFit) (c6 : C_laws_eqFloat32S P g_laws_eqFloat32S) (c7 : C_laws_eqFloat32SS P g_laws_eqFloat32SS) (c8 : C_laws_markFloat32SS P g_laws_markFloat32SS) (c9 : C_laws_markFloat32S P g_laws_markFloat32S) (c10 : C_laws_heldFloat32S P g_laws_heldFloat32S) : C_laws_FnExactColumnFit P f := by
  intro xss y hx hr hy
  refine q_laws_FnExactColumnFit h xss y ?_
  have hR := ft_out_len xss y
  have b4 := c4 xss y hx hr hy
  have b5 := c5 xss y hx hr hy
  generalize ftOut xss y = R at *
  have hz := szSS_lt xss 1048576
  have hrw := @rows_le xss 1048576
  have hmk := marksSS_len xss 1
  repeat' (first | with_reducible refine T.ok_ob ?_ (fun _ => ?_) | with_reducible refine T.ok_ite (fun _ => ?_) (fun _ => ?_) | with_reducible refine T.ok_leaf ?_)
  all_goals (try simp only [decide_eq_true_eq, decide_eq_false_iff_not, sz_lt, gt_iff_lt, Int.not_lt, Bool.not_beq_self, bne_self_eq_false, beq_self_eq_true] at *)
  all_goals (try simp (disch := omega) only [sz_val] at *)
  all_goals first | with_reducible rfl | with_reducible assumption | ((with_reducible refine c1 _ _ ?_ ?_ ?_) <;> (first | assumption | omega | with_reducible rfl | (simp [maxLen_eq]; done) | (simp [maxLen_eq]; omega))) | ((with_reducible refine c2 _ ?_ ?_) <;> (first | assumption | omega | with_reducible rfl | (simp [maxLen_eq]; done) | (simp [maxLen_eq]; omega))) | ((with_reducible refine c3 _ ?_) <;> (first | assumption | omega | with_reducible rfl | (simp [maxLen_eq]; done) | (simp [maxLen_eq]; omega))) | ((with_reducible refine c4 _ _ ?_ ?_ ?_) <;> (first | assumption | omega | with_reducible rfl | (simp [maxLen_eq]; done) | (simp [maxLen_eq]; omega))) | ((with_reducible refine c5 _ _ ?_ ?_ ?_) <;> (first | assumption | omega | with_reducible rfl | (simp [maxLen_eq]; done) | (simp [maxLen_eq]; omega))) | ((with_reducible refine c6 _ _ rfl ?_) <;> (first | assumption | omega | with_reducible rfl | (simp [maxLen_eq]; done) | (simp [maxLen_eq]; omega))) | ((with_reducible refine c7 _ _ rfl ?_ ?_) <;> (first | assumption | omega | with_reducible rfl | (simp [maxLen_eq]; done) | (simp [maxLen_eq]; omega))) | ((with_reducible refine ⟨c8 _ _ ?_ ?_ ?_, ?_⟩) <;> first | assumption | omega | (simp [marks_len]; done) | (simp [marks_len]; omega)) | ((with_reducible refine ⟨c9 _ _ ?_ ?_, ?_⟩) <;> first | assumption | omega | (simp [marks_len]; done) | (simp [marks_len]; omega)) | ((with_reducible refine c10 _ _ _ rfl ?_ ?_) <;> (first | assumption | omega | with_reducible rfl | (simp [maxLen_eq]; done) | (simp [maxLen_eq]; omega))) | contradiction | exact fconvOk_32_64 _ | assumption | exact rfl | (simp only [marks_len, bne_self_eq_false, Bool.false_eq_true] at *; done) | (simp_all [marks_len]; done) | (simp_all [T.ok, marks_len]; omega) | skip
  all_goals first | exact c2 xss (by omega) (fun r h => by have := hrw (by omega) r h; omega) | exact c7 xss xss rfl (by omega) (fun r h => by have := hrw (by omega) r h; omega)


end Go.Proofs.LV
