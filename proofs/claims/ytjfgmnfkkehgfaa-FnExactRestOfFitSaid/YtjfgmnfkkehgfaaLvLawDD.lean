/- The law FnExactRestOfFit. -/
import Derived.Test.YtjfgmnfkkehgfaaLvLawBX
namespace Go.Proofs.LV
open Go
set_option linter.unusedVariables false
set_option linter.unusedSimpArgs false

-- FN laws_FnExactRestOfFit
/-- laws.FnExactRestOfFit: slots 147, results [.t 4]; calls [25:g_laws_szFloat32SS, 30:g_laws_toFloat32SS, 32:g_laws_toFloat32S, 33:g_spec_RestOfFit, 38:g_laws_toFloat32SS, 40:g_laws_toFloat32S, 44:g_impl_RestOfFit, 50:g_laws_eqFloat32S, 57:g_laws_sameFloat, 67:g_laws_toFloat32SS, 68:g_laws_eqFloat32SS, 72:g_laws_toFloat32S, 73:g_laws_eqFloat32S, 77:g_laws_markFloat32SS, 80:g_laws_markFloat32S, 86:g_laws_eqFloat32S, 94:g_laws_sameFloat, 104:g_laws_markFloat32S, 107:g_laws_heldFloat32S, 115:g_laws_toFloat32SS, 117:g_laws_toFloat32S, 118:g_impl_RestOfFit, 124:g_laws_eqFloat32S, 131:g_laws_sameFloat, 141:g_laws_heldFloat32S]; names [(aColumns, 0), (aY, 1), (aColumns, 2), (aY, 3), (left, 5), (w0, 6), (w1, 7), (w2, 8), (x0, 9), (x1, 10), (g0, 11), (g1, 12), (g2, 13), (k, 14), (m, 15), (q, 16), (h0, 17), (h1, 18), (h2, 19)] -/
def ps_laws_FnExactRestOfFit : List Nat := [0, 1, 4, 5, 6, 7, 8, 9, 10, 11, 12, 13, 14, 15, 16, 17, 18, 19, 22, 27, 64, 69, 74, 101, 109, 112, 138, 143, 146]
def b_laws_FnExactRestOfFit (g_laws_szFloat32SS g_laws_toFloat32SS g_laws_toFloat32S g_spec_RestOfFit g_impl_RestOfFit g_laws_eqFloat32S g_laws_sameFloat g_laws_eqFloat32SS g_laws_markFloat32SS g_laws_markFloat32S g_laws_heldFloat32S : FuncId) : VCode :=
  (.seq
   (.region false [
    ⟨some 4, .mv, [.k (.b false)], none⟩])
   (.seq
    (.seq
     (.region false [
      ⟨some 20, .mv, [.t 1], none⟩,
      ⟨some 21, .len, [.t 20], none⟩,
      ⟨some 22, (.bin .gtr), [.t 21, .k (.i .i64 1048576)], none⟩])
     (.cond (.t 22)
      (.seq
       (.region false [
        ⟨some 4, .mv, [.k (.b true)], none⟩])
       .ret)
      .skip))
    (.seq
     (.region false [
      ⟨some 5, .mv, [.k (.i .i64 1048576)], none⟩])
     (.seq
      (.region false [
       ⟨some 23, .mv, [.t 0], none⟩,
       ⟨some 24, .mv, [.t 5], none⟩,
       ⟨some 25, (.call g_laws_szFloat32SS), [.t 23, .t 24], none⟩,
       ⟨some 5, .mv, [.t 25], none⟩])
      (.seq
       (.seq
        (.region false [
         ⟨some 26, .mv, [.t 5], none⟩,
         ⟨some 27, (.bin .lss), [.t 26, .k (.i .i64 0)], none⟩])
        (.cond (.t 27)
         (.seq
          (.region false [
           ⟨some 4, .mv, [.k (.b true)], none⟩])
          .ret)
         .skip))
       (.seq
        (.region false [
         ⟨some 29, .mv, [.t 0], none⟩,
         ⟨some 30, (.call g_laws_toFloat32SS), [.t 29], none⟩,
         ⟨some 31, .mv, [.t 1], none⟩,
         ⟨some 32, (.call g_laws_toFloat32S), [.t 31], none⟩,
         ⟨some 33, (.call g_spec_RestOfFit), [.t 30, .t 32], none⟩,
         ⟨some 28, .mv, [.t 33], none⟩,
         ⟨some 34, (.extract 0), [.t 28], none⟩,
         ⟨some 35, (.extract 1), [.t 28], none⟩,
         ⟨some 36, (.extract 2), [.t 28], none⟩,
         ⟨some 6, .mv, [.t 34], none⟩,
         ⟨some 7, .mv, [.t 35], none⟩,
         ⟨some 8, .mv, [.t 36], none⟩])
        (.seq
         (.region false [
          ⟨some 37, .mv, [.t 0], none⟩,
          ⟨some 38, (.call g_laws_toFloat32SS), [.t 37], none⟩,
          ⟨some 9, .mv, [.t 38], none⟩])
         (.seq
          (.region false [
           ⟨some 39, .mv, [.t 1], none⟩,
           ⟨some 40, (.call g_laws_toFloat32S), [.t 39], none⟩,
           ⟨some 10, .mv, [.t 40], none⟩])
          (.seq
           (.region false [
            ⟨some 42, .mv, [.t 9], none⟩,
            ⟨some 43, .mv, [.t 10], none⟩,
            ⟨some 44, (.call g_impl_RestOfFit), [.t 42, .t 43], none⟩,
            ⟨some 41, .mv, [.t 44], none⟩,
            ⟨some 45, (.extract 0), [.t 41], none⟩,
            ⟨some 46, (.extract 1), [.t 41], none⟩,
            ⟨some 47, (.extract 2), [.t 41], none⟩,
            ⟨some 11, .mv, [.t 45], none⟩,
            ⟨some 12, .mv, [.t 46], none⟩,
            ⟨some 13, .mv, [.t 47], none⟩])
           (.seq
            (.seq
             (.region false [
              ⟨some 48, .mv, [.t 11], none⟩,
              ⟨some 49, .mv, [.t 6], none⟩,
              ⟨some 50, (.call g_laws_eqFloat32S), [.t 48, .t 49], none⟩,
              ⟨some 51, .not, [.t 50], none⟩,
              ⟨some 52, .mv, [.t 51], none⟩,
              ⟨some 53, .mv, [.t 12], some (52, false)⟩,
              ⟨some 54, (.convF .f64), [.t 53], some (52, false)⟩,
              ⟨some 55, .mv, [.t 7], some (52, false)⟩,
              ⟨some 56, (.convF .f64), [.t 55], some (52, false)⟩,
              ⟨some 57, (.call g_laws_sameFloat), [.t 54, .t 56], some (52, false)⟩,
              ⟨some 58, .not, [.t 57], some (52, false)⟩,
              ⟨some 59, .pick, [.t 52, .k (.b true), .t 58], none⟩,
              ⟨some 60, .mv, [.t 59], none⟩,
              ⟨some 61, .mv, [.t 13], some (60, false)⟩,
              ⟨some 62, .mv, [.t 8], some (60, false)⟩,
              ⟨some 63, (.binb .neq), [.t 61, .t 62], some (60, false)⟩,
              ⟨some 64, .pick, [.t 60, .k (.b true), .t 63], none⟩])
             (.cond (.t 64)
              (.seq
               (.region false [
                ⟨some 4, .mv, [.k (.b false)], none⟩])
               .ret)
              .skip))
            (.seq
             (.seq
              (.region false [
               ⟨some 65, .mv, [.t 9], none⟩,
               ⟨some 66, .mv, [.t 0], none⟩,
               ⟨some 67, (.call g_laws_toFloat32SS), [.t 66], none⟩,
               ⟨some 68, (.call g_laws_eqFloat32SS), [.t 65, .t 67], none⟩,
               ⟨some 69, .not, [.t 68], none⟩])
              (.cond (.t 69)
               (.seq
                (.region false [
                 ⟨some 4, .mv, [.k (.b false)], none⟩])
                .ret)
               .skip))
             (.seq
              (.seq
               (.region false [
                ⟨some 70, .mv, [.t 10], none⟩,
                ⟨some 71, .mv, [.t 1], none⟩,
                ⟨some 72, (.call g_laws_toFloat32S), [.t 71], none⟩,
                ⟨some 73, (.call g_laws_eqFloat32S), [.t 70, .t 72], none⟩,
                ⟨some 74, .not, [.t 73], none⟩])
               (.cond (.t 74)
                (.seq
                 (.region false [
                  ⟨some 4, .mv, [.k (.b false)], none⟩])
                 .ret)
                .skip))
              (.seq
               (.region false [
                ⟨some 14, .mv, [.k (.i .i64 1)], none⟩])
               (.seq
                (.region false [
                 ⟨some 75, .mv, [.t 9], none⟩,
                 ⟨some 76, .mv, [.t 14], none⟩,
                 ⟨some 77, (.call g_laws_markFloat32SS), [.t 75, .t 76], none⟩,
                 ⟨some 14, .mv, [.t 77], none⟩])
                (.seq
                 (.region false [
                  ⟨some 78, .mv, [.t 10], none⟩,
                  ⟨some 79, .mv, [.t 14], none⟩,
                  ⟨some 80, (.call g_laws_markFloat32S), [.t 78, .t 79], none⟩,
                  ⟨some 14, .mv, [.t 80], none⟩])
                 (.seq
                  (.seq
                   (.region false [
                    ⟨some 81, .mv, [.t 14], none⟩,
                    ⟨some 82, (.bin .lss), [.t 81, .k (.i .i64 0)], none⟩,
                    ⟨some 83, .mv, [.t 82], none⟩,
                    ⟨some 84, .mv, [.t 11], some (83, false)⟩,
                    ⟨some 85, .mv, [.t 6], some (83, false)⟩,
                    ⟨some 86, (.call g_laws_eqFloat32S), [.t 84, .t 85], some (83, false)⟩,
                    ⟨some 87, .not, [.t 86], some (83, false)⟩,
                    ⟨some 88, .pick, [.t 83, .k (.b true), .t 87], none⟩,
                    ⟨some 89, .mv, [.t 88], none⟩,
                    ⟨some 90, .mv, [.t 12], some (89, false)⟩,
                    ⟨some 91, (.convF .f64), [.t 90], some (89, false)⟩,
                    ⟨some 92, .mv, [.t 7], some (89, false)⟩,
                    ⟨some 93, (.convF .f64), [.t 92], some (89, false)⟩,
                    ⟨some 94, (.call g_laws_sameFloat), [.t 91, .t 93], some (89, false)⟩,
                    ⟨some 95, .not, [.t 94], some (89, false)⟩,
                    ⟨some 96, .pick, [.t 89, .k (.b true), .t 95], none⟩,
                    ⟨some 97, .mv, [.t 96], none⟩,
                    ⟨some 98, .mv, [.t 13], some (97, false)⟩,
                    ⟨some 99, .mv, [.t 8], some (97, false)⟩,
                    ⟨some 100, (.binb .neq), [.t 98, .t 99], some (97, false)⟩,
                    ⟨some 101, .pick, [.t 97, .k (.b true), .t 100], none⟩])
                   (.cond (.t 101)
                    (.seq
                     (.region false [
                      ⟨some 4, .mv, [.k (.b false)], none⟩])
                     .ret)
                    .skip))
                  (.seq
                   (.region false [
                    ⟨some 15, .mv, [.k (.i .i64 1)], none⟩])
                   (.seq
                    (.region false [
                     ⟨some 102, .mv, [.t 11], none⟩,
                     ⟨some 103, .mv, [.t 15], none⟩,
                     ⟨some 104, (.call g_laws_markFloat32S), [.t 102, .t 103], none⟩,
                     ⟨some 15, .mv, [.t 104], none⟩])
                    (.seq
                     (.region false [
                      ⟨some 16, .mv, [.k (.i .i64 1)], none⟩])
                     (.seq
                      (.region false [
                       ⟨some 105, .mv, [.t 11], none⟩,
                       ⟨some 106, .mv, [.t 16], none⟩,
                       ⟨some 107, (.call g_laws_heldFloat32S), [.t 105, .t 106], none⟩,
                       ⟨some 16, .mv, [.t 107], none⟩])
                      (.seq
                       (.seq
                        (.region false [
                         ⟨some 108, .mv, [.t 16], none⟩,
                         ⟨some 109, (.bin .lss), [.t 108, .k (.i .i64 0)], none⟩])
                        (.cond (.t 109)
                         (.seq
                          (.region false [
                           ⟨some 4, .mv, [.k (.b false)], none⟩])
                          .ret)
                         .skip))
                       (.seq
                        (.seq
                         (.region false [
                          ⟨some 110, .mv, [.t 16], none⟩,
                          ⟨some 111, .mv, [.t 15], none⟩,
                          ⟨some 112, (.bin .neq), [.t 110, .t 111], none⟩])
                         (.cond (.t 112)
                          (.seq
                           (.region false [
                            ⟨some 4, .mv, [.k (.b false)], none⟩])
                           .ret)
                          .skip))
                        (.seq
                         (.region false [
                          ⟨some 114, .mv, [.t 0], none⟩,
                          ⟨some 115, (.call g_laws_toFloat32SS), [.t 114], none⟩,
                          ⟨some 116, .mv, [.t 1], none⟩,
                          ⟨some 117, (.call g_laws_toFloat32S), [.t 116], none⟩,
                          ⟨some 118, (.call g_impl_RestOfFit), [.t 115, .t 117], none⟩,
                          ⟨some 113, .mv, [.t 118], none⟩,
                          ⟨some 119, (.extract 0), [.t 113], none⟩,
                          ⟨some 120, (.extract 1), [.t 113], none⟩,
                          ⟨some 121, (.extract 2), [.t 113], none⟩,
                          ⟨some 17, .mv, [.t 119], none⟩,
                          ⟨some 18, .mv, [.t 120], none⟩,
                          ⟨some 19, .mv, [.t 121], none⟩])
                         (.seq
                          (.seq
                           (.region false [
                            ⟨some 122, .mv, [.t 17], none⟩,
                            ⟨some 123, .mv, [.t 6], none⟩,
                            ⟨some 124, (.call g_laws_eqFloat32S), [.t 122, .t 123], none⟩,
                            ⟨some 125, .not, [.t 124], none⟩,
                            ⟨some 126, .mv, [.t 125], none⟩,
                            ⟨some 127, .mv, [.t 18], some (126, false)⟩,
                            ⟨some 128, (.convF .f64), [.t 127], some (126, false)⟩,
                            ⟨some 129, .mv, [.t 7], some (126, false)⟩,
                            ⟨some 130, (.convF .f64), [.t 129], some (126, false)⟩,
                            ⟨some 131, (.call g_laws_sameFloat), [.t 128, .t 130], some (126, false)⟩,
                            ⟨some 132, .not, [.t 131], some (126, false)⟩,
                            ⟨some 133, .pick, [.t 126, .k (.b true), .t 132], none⟩,
                            ⟨some 134, .mv, [.t 133], none⟩,
                            ⟨some 135, .mv, [.t 19], some (134, false)⟩,
                            ⟨some 136, .mv, [.t 8], some (134, false)⟩,
                            ⟨some 137, (.binb .neq), [.t 135, .t 136], some (134, false)⟩,
                            ⟨some 138, .pick, [.t 134, .k (.b true), .t 137], none⟩])
                           (.cond (.t 138)
                            (.seq
                             (.region false [
                              ⟨some 4, .mv, [.k (.b false)], none⟩])
                             .ret)
                            .skip))
                          (.seq
                           (.region false [
                            ⟨some 16, .mv, [.k (.i .i64 1)], none⟩])
                           (.seq
                            (.region false [
                             ⟨some 139, .mv, [.t 11], none⟩,
                             ⟨some 140, .mv, [.t 16], none⟩,
                             ⟨some 141, (.call g_laws_heldFloat32S), [.t 139, .t 140], none⟩,
                             ⟨some 16, .mv, [.t 141], none⟩])
                            (.seq
                             (.seq
                              (.region false [
                               ⟨some 142, .mv, [.t 16], none⟩,
                               ⟨some 143, (.bin .lss), [.t 142, .k (.i .i64 0)], none⟩])
                              (.cond (.t 143)
                               (.seq
                                (.region false [
                                 ⟨some 4, .mv, [.k (.b false)], none⟩])
                                .ret)
                               .skip))
                             (.seq
                              (.seq
                               (.region false [
                                ⟨some 144, .mv, [.t 16], none⟩,
                                ⟨some 145, .mv, [.t 15], none⟩,
                                ⟨some 146, (.bin .neq), [.t 144, .t 145], none⟩])
                               (.cond (.t 146)
                                (.seq
                                 (.region false [
                                  ⟨some 4, .mv, [.k (.b false)], none⟩])
                                 .ret)
                                .skip))
                              (.seq
                               (.region false [
                                ⟨some 4, .mv, [.k (.b true)], none⟩])
                               .ret)))))))))))))))))))))))))))))

abbrev Is_laws_FnExactRestOfFit (P : Program) (g_f : FuncId) (g_laws_szFloat32SS g_laws_toFloat32SS g_laws_toFloat32S g_spec_RestOfFit g_impl_RestOfFit g_laws_eqFloat32S g_laws_sameFloat g_laws_eqFloat32SS g_laws_markFloat32SS g_laws_markFloat32S g_laws_heldFloat32S : FuncId) : Prop := FnIs P g_f 147 [.t 4] (b_laws_FnExactRestOfFit g_laws_szFloat32SS g_laws_toFloat32SS g_laws_toFloat32S g_spec_RestOfFit g_impl_RestOfFit g_laws_eqFloat32S g_laws_sameFloat g_laws_eqFloat32SS g_laws_markFloat32SS g_laws_markFloat32S g_laws_heldFloat32S)

abbrev C_laws_FnExactRestOfFit (P : Program) (g_f : FuncId) : Prop := ∀ (xss : LL) (y : List Nat) (hx : xss.length ≤ maxLen) (hr : ∀ r ∈ xss, r.length ≤ maxLen) (hy : y.length ≤ maxLen), VCall P g_f [PF [0] xss, PS [1] .f32 y] (.b true)
def oc1_laws_FnExactRestOfFit (as : List AV) : T AV := match as with | [.sl _ _ (.ff _ xss), .sl _ _ (.f .f32 y)] => .leaf (.b true) | _ => .fail
def oc_laws_FnExactRestOfFit (xss : LL) (y : List Nat) (d : Nat) (as : List AV) : T AV := match d with | 25 => oc1_laws_szFloat32SS as | 30 => oc1_laws_toFloat32SS as | 32 => oc1_laws_toFloat32S as | 33 => oc1_spec_RestOfFit as | 38 => oc1_laws_toFloat32SS as | 40 => oc1_laws_toFloat32S as | 44 => oc1_impl_RestOfFit as | 50 => oc1_laws_eqFloat32S as | 57 => oc1_laws_sameFloat as | 67 => oc1_laws_toFloat32SS as | 68 => oc1_laws_eqFloat32SS as | 72 => oc1_laws_toFloat32S as | 73 => oc1_laws_eqFloat32S as | 77 => oc1_laws_markFloat32SS as | 80 => oc1_laws_markFloat32S as | 86 => oc1_laws_eqFloat32S as | 94 => oc1_laws_sameFloat as | 104 => oc1_laws_markFloat32S as | 107 => oc1_laws_heldFloat32S as | 115 => oc1_laws_toFloat32SS as | 117 => oc1_laws_toFloat32S as | 118 => oc1_impl_RestOfFit as | 124 => oc1_laws_eqFloat32S as | 131 => oc1_laws_sameFloat as | 141 => oc1_laws_heldFloat32S as | _ => .fail



theorem q_laws_FnExactRestOfFit {P : Program} {g_f : FuncId} {g_laws_szFloat32SS g_laws_toFloat32SS g_laws_toFloat32S g_spec_RestOfFit g_impl_RestOfFit g_laws_eqFloat32S g_laws_sameFloat g_laws_eqFloat32SS g_laws_markFloat32SS g_laws_markFloat32S g_laws_heldFloat32S : FuncId} (h_ : Is_laws_FnExactRestOfFit P g_f g_laws_szFloat32SS g_laws_toFloat32SS g_laws_toFloat32S g_spec_RestOfFit g_impl_RestOfFit g_laws_eqFloat32S g_laws_sameFloat g_laws_eqFloat32SS g_laws_markFloat32SS g_laws_markFloat32S g_laws_heldFloat32S) (xss : LL) (y : List Nat) (ht : T.ok (fun x_ => x_ = .b true) (
      T.ite (decide ((↑(List.length y) : Int) > 1048576)) (T.leaf (AV.b true))
        (T.ob ((VCall P) g_laws_szFloat32SS [AV.sl (Tag.par [0]) 0 (Cont.ff FloatKind.f32 xss), AV.i IntKind.i64 1048576] (AV.i IntKind.i64 (szSS xss 1048576)))
          (T.ite (decide (szSS xss 1048576 < 0)) (T.leaf (AV.b true))
            (T.ob ((VCall P) g_laws_toFloat32SS [AV.sl (Tag.par [0]) 0 (Cont.ff FloatKind.f32 xss)] (AV.nw 0 0 FloatKind.f32 xss none))
              (T.ob ((VCall P) g_laws_toFloat32S [AV.sl (Tag.par [0]) 0 (Cont.f FloatKind.f32 y)] (AV.sl (Tag.own 0) 0 (Cont.f FloatKind.f32 y)))
                (T.ob
                  ((VCall P) g_spec_RestOfFit [AV.sl (Tag.par [0]) 0 (Cont.ff FloatKind.f32 xss), AV.sl (Tag.par [1]) 0 (Cont.f FloatKind.f32 y)]
                    (AV.tup [AV.sl (Tag.own 0) 0 (Cont.f FloatKind.f32 (if roOk xss y = true then roR xss y else [])), AV.f FloatKind.f32 (if roOk xss y = true then roS xss y else 0), AV.b (roOk xss y)]))
                  (T.ob ((VCall P) g_laws_toFloat32SS [AV.sl (Tag.par [0]) 0 (Cont.ff FloatKind.f32 xss)] (AV.nw 0 0 FloatKind.f32 xss none))
                    (T.ob ((VCall P) g_laws_toFloat32S [AV.sl (Tag.par [0]) 0 (Cont.f FloatKind.f32 y)] (AV.sl (Tag.own 0) 0 (Cont.f FloatKind.f32 y)))
                      (T.ob
                        ((VCall P) g_impl_RestOfFit [AV.sl (Tag.par [0]) 0 (Cont.ff FloatKind.f32 xss), AV.sl (Tag.par [1]) 0 (Cont.f FloatKind.f32 y)]
                          (AV.tup [AV.sl (Tag.own 0) 0 (Cont.f FloatKind.f32 (if roOk xss y = true then roR xss y else [])), AV.f FloatKind.f32 (if roOk xss y = true then roS xss y else 0), AV.b (roOk xss y)]))
                        (T.ob
                          ((VCall P) g_laws_eqFloat32S
                            [AV.sl (Tag.par [0]) 0 (Cont.f FloatKind.f32 (if roOk xss y = true then roR xss y else [])), AV.sl (Tag.par [1]) 0 (Cont.f FloatKind.f32 (if roOk xss y = true then roR xss y else []))] (AV.b true))
                          (T.ite false (T.leaf (AV.b false))
                            (T.ob (fconvOk FloatKind.f32 FloatKind.f64 (if roOk xss y = true then roS xss y else 0) = true)
                              (T.ob (fconvOk FloatKind.f32 FloatKind.f64 (if roOk xss y = true then roS xss y else 0) = true)
                                (T.ob
                                  ((VCall P) g_laws_sameFloat
                                    [AV.f FloatKind.f64 (fconv FloatKind.f32 FloatKind.f64 (if roOk xss y = true then roS xss y else 0)),
                                      AV.f FloatKind.f64 (fconv FloatKind.f32 FloatKind.f64 (if roOk xss y = true then roS xss y else 0))]
                                    (AV.b true))
                                  (T.ite false (T.leaf (AV.b false))
                                    (T.ite (!roOk xss y == roOk xss y) (T.leaf (AV.b false))
                                      (T.ob ((VCall P) g_laws_toFloat32SS [AV.sl (Tag.par [0]) 0 (Cont.ff FloatKind.f32 xss)] (AV.nw 0 0 FloatKind.f32 xss none))
                                        (T.ob ((VCall P) g_laws_eqFloat32SS [AV.sl (Tag.par [0]) 0 (Cont.ff FloatKind.f32 xss), AV.sl (Tag.par [1]) 0 (Cont.ff FloatKind.f32 xss)] (AV.b true))
                                          (T.ite false (T.leaf (AV.b false))
                                            (T.ob ((VCall P) g_laws_toFloat32S [AV.sl (Tag.par [0]) 0 (Cont.f FloatKind.f32 y)] (AV.sl (Tag.own 0) 0 (Cont.f FloatKind.f32 y)))
                                              (T.ob ((VCall P) g_laws_eqFloat32S [AV.sl (Tag.par [0]) 0 (Cont.f FloatKind.f32 y), AV.sl (Tag.par [1]) 0 (Cont.f FloatKind.f32 y)] (AV.b true))
                                                (T.ite false (T.leaf (AV.b false))
                                                  (T.ob
                                                    ((VCall P) g_laws_markFloat32SS [AV.nw 800000 0 FloatKind.f32 xss none, AV.i IntKind.i64 1]
                                                        (AV.bx Tag.nil [AV.i IntKind.i64 (1 + (↑(totN xss (List.length xss)) : Int)), AV.tup [AV.nw 800000 0 FloatKind.f32 (marksSS xss 1) none, AV.i IntKind.i64 1]]) ∧
                                                      List.length xss = List.length (marksSS xss 1) ∧ List.length xss = List.length (marksSS xss 1) ∧ True)
                                                    (T.ob
                                                      ((VCall P) g_laws_markFloat32S [AV.sl (Tag.own 800000) 0 (Cont.f FloatKind.f32 y), AV.i IntKind.i64 (1 + (↑(totN xss (List.length xss)) : Int))]
                                                          (AV.bx Tag.nil
                                                            [AV.i IntKind.i64 (1 + (↑(totN xss (List.length xss)) : Int) + (↑(List.length y) : Int)),
                                                              AV.tup
                                                                [AV.sl (Tag.own 800000) 0 (Cont.f FloatKind.f32 (marksM (List.length y) (1 + (↑(totN xss (List.length xss)) : Int)))),
                                                                  AV.i IntKind.i64 (1 + (↑(totN xss (List.length xss)) : Int))]]) ∧
                                                        List.length y = List.length (marksM (List.length y) (1 + (↑(totN xss (List.length xss)) : Int))) ∧
                                                          List.length y = List.length (marksM (List.length y) (1 + (↑(totN xss (List.length xss)) : Int))) ∧ True)
                                                      (T.ite false (T.leaf (AV.b false))
                                                        (T.ob
                                                          ((VCall P) g_laws_eqFloat32S
                                                            [AV.sl (Tag.par [0]) 0 (Cont.f FloatKind.f32 (if roOk xss y = true then roR xss y else [])),
                                                              AV.sl (Tag.par [1]) 0 (Cont.f FloatKind.f32 (if roOk xss y = true then roR xss y else []))]
                                                            (AV.b true))
                                                          (T.ite false (T.leaf (AV.b false))
                                                            (T.ob (fconvOk FloatKind.f32 FloatKind.f64 (if roOk xss y = true then roS xss y else 0) = true)
                                                              (T.ob (fconvOk FloatKind.f32 FloatKind.f64 (if roOk xss y = true then roS xss y else 0) = true)
                                                                (T.ob
                                                                  ((VCall P) g_laws_sameFloat
                                                                    [AV.f FloatKind.f64 (fconv FloatKind.f32 FloatKind.f64 (if roOk xss y = true then roS xss y else 0)),
                                                                      AV.f FloatKind.f64 (fconv FloatKind.f32 FloatKind.f64 (if roOk xss y = true then roS xss y else 0))]
                                                                    (AV.b true))
                                                                  (T.ite false (T.leaf (AV.b false))
                                                                    (T.ite (!roOk xss y == roOk xss y) (T.leaf (AV.b false))
                                                                      (T.ob
                                                                        ((VCall P) g_laws_markFloat32S [AV.sl (Tag.own 800000) 0 (Cont.f FloatKind.f32 (if roOk xss y = true then roR xss y else [])), AV.i IntKind.i64 1]
                                                                            (AV.bx Tag.nil
                                                                              [AV.i IntKind.i64 (1 + (↑(List.length (if roOk xss y = true then roR xss y else [])) : Int)),
                                                                                AV.tup
                                                                                  [AV.sl (Tag.own 800000) 0 (Cont.f FloatKind.f32 (marksM (List.length (if roOk xss y = true then roR xss y else [])) 1)), AV.i IntKind.i64 1]]) ∧
                                                                          List.length (if roOk xss y = true then roR xss y else []) = List.length (marksM (List.length (if roOk xss y = true then roR xss y else [])) 1) ∧
                                                                            List.length (if roOk xss y = true then roR xss y else []) = List.length (marksM (List.length (if roOk xss y = true then roR xss y else [])) 1) ∧ True)
                                                                        (T.ob
                                                                          ((VCall P) g_laws_heldFloat32S
                                                                            [AV.sl (Tag.par [0]) 0 (Cont.f FloatKind.f32 (marksM (List.length (if roOk xss y = true then roR xss y else [])) 1)), AV.i IntKind.i64 1]
                                                                            (AV.i IntKind.i64 (1 + (↑(List.length (marksM (List.length (if roOk xss y = true then roR xss y else [])) 1)) : Int))))
                                                                          (T.ite false (T.leaf (AV.b false))
                                                                            (T.ite
                                                                              (1 + (↑(List.length (marksM (List.length (if roOk xss y = true then roR xss y else [])) 1)) : Int) !=
                                                                                1 + (↑(List.length (if roOk xss y = true then roR xss y else [])) : Int))
                                                                              (T.leaf (AV.b false))
                                                                              (T.ob ((VCall P) g_laws_toFloat32SS [AV.sl (Tag.par [0]) 0 (Cont.ff FloatKind.f32 xss)] (AV.nw 0 0 FloatKind.f32 xss none))
                                                                                (T.ob ((VCall P) g_laws_toFloat32S [AV.sl (Tag.par [0]) 0 (Cont.f FloatKind.f32 y)] (AV.sl (Tag.own 0) 0 (Cont.f FloatKind.f32 y)))
                                                                                  (T.ob
                                                                                    ((VCall P) g_impl_RestOfFit [AV.sl (Tag.par [0]) 0 (Cont.ff FloatKind.f32 xss), AV.sl (Tag.par [1]) 0 (Cont.f FloatKind.f32 y)]
                                                                                      (AV.tup
                                                                                        [AV.sl (Tag.own 0) 0 (Cont.f FloatKind.f32 (if roOk xss y = true then roR xss y else [])),
                                                                                          AV.f FloatKind.f32 (if roOk xss y = true then roS xss y else 0), AV.b (roOk xss y)]))
                                                                                    (T.ob
                                                                                      ((VCall P) g_laws_eqFloat32S
                                                                                        [AV.sl (Tag.par [0]) 0 (Cont.f FloatKind.f32 (if roOk xss y = true then roR xss y else [])),
                                                                                          AV.sl (Tag.par [1]) 0 (Cont.f FloatKind.f32 (if roOk xss y = true then roR xss y else []))]
                                                                                        (AV.b true))
                                                                                      (T.ite false (T.leaf (AV.b false))
                                                                                        (T.ob (fconvOk FloatKind.f32 FloatKind.f64 (if roOk xss y = true then roS xss y else 0) = true)
                                                                                          (T.ob (fconvOk FloatKind.f32 FloatKind.f64 (if roOk xss y = true then roS xss y else 0) = true)
                                                                                            (T.ob
                                                                                              ((VCall P) g_laws_sameFloat
                                                                                                [AV.f FloatKind.f64 (fconv FloatKind.f32 FloatKind.f64 (if roOk xss y = true then roS xss y else 0)),
                                                                                                  AV.f FloatKind.f64 (fconv FloatKind.f32 FloatKind.f64 (if roOk xss y = true then roS xss y else 0))]
                                                                                                (AV.b true))
                                                                                              (T.ite false (T.leaf (AV.b false))
                                                                                                (T.ite (!roOk xss y == roOk xss y) (T.leaf (AV.b false))
                                                                                                  (T.ob
                                                                                                    ((VCall P) g_laws_heldFloat32S
                                                                                                      [AV.sl (Tag.par [0]) 0 (Cont.f FloatKind.f32 (marksM (List.length (if roOk xss y = true then roR xss y else [])) 1)),
                                                                                                        AV.i IntKind.i64 1]
                                                                                                      (AV.i IntKind.i64 (1 + (↑(List.length (marksM (List.length (if roOk xss y = true then roR xss y else [])) 1)) : Int))))
                                                                                                    (T.ite false (T.leaf (AV.b false))
                                                                                                      (T.ite
                                                                                                        (1 + (↑(List.length (marksM (List.length (if roOk xss y = true then roR xss y else [])) 1)) : Int) !=
                                                                                                          1 + (↑(List.length (if roOk xss y = true then roR xss y else [])) : Int))
                                                                                                        (T.leaf (AV.b false)) (T.leaf (AV.b true)))))))))))))))))))))))))))))))))))))))))))))))))))) :
    VCall P g_f [PF [0] xss, PS [1] .f32 y] (.b true) := h_.call_of ps_laws_FnExactRestOfFit ⟨oc_laws_FnExactRestOfFit xss y, fun _ _ => none⟩ (by kernel_rfl) ht

-- END laws_FnExactRestOfFit

theorem k_laws_FnExactRestOfFit {P : Program} {f g_laws_szFloat32SS g_laws_toFloat32SS g_laws_toFloat32S g_spec_RestOfFit g_impl_RestOfFit g_laws_eqFloat32S g_laws_sameFloat g_laws_eqFloat32SS g_laws_markFloat32SS g_laws_markFloat32S g_laws_heldFloat32S : FuncId} (h : Is_laws_FnExactRestOfFit P f g_laws_szFloat32SS g_laws_toFloat32SS g_laws_toFloat32S g_spec_RestOfFit g_impl_RestOfFit g_laws_eqFloat32S g_laws_sameFloat g_laws_eqFloat32SS g_laws_markFloat32SS g_laws_markFloat32S g_laws_heldFloat32S) (c1 : C_laws_szFloat32SS P g_laws_szFloat32SS) (c2 : C_laws_toFloat32SS P g_laws_toFloat32SS) (c3 : C_laws_toFloat32S P g_laws_toFloat32S) (c4 : C_spec_RestOfFit P g_spec_RestOfFit) (c5 : C_impl_RestOfFit P g_impl_RestOfFit) (c6 : C_laws_eqFloat32S P g_laws_eqFloat32S) (c7 : C_laws_sameFloat P g_laws_sameFloat) (c8 : C_laws_eqFloat32SS P g_laws_eqFloat32SS) (c9 : C_laws_markFloat32SS P g_laws_markFloat32SS) (c10 : C_laws_markFloat32S P g_laws_markFloat32S) (c11 : C_laws_heldFloat32S P g_laws_heldFloat32S) : C_laws_FnExactRestOfFit P f := by
  intro xss y hx hr hy
  refine q_laws_FnExactRestOfFit h xss y ?_
  have hR := ro_out_len xss y
  have b4 := c4 xss y hx hr hy
  have b5 := c5 xss y hx hr hy
  generalize (if roOk xss y = true then roR xss y else []) = R at *
  generalize (if roOk xss y = true then roS xss y else 0) = S at *
  have hz := szSS_lt xss 1048576
  have hrw := @rows_le xss 1048576
  have hmk := marksSS_len xss 1
  repeat' (first | with_reducible refine T.ok_ob ?_ (fun _ => ?_) | with_reducible refine T.ok_ite (fun _ => ?_) (fun _ => ?_) | with_reducible refine T.ok_leaf ?_)
  all_goals (try simp only [decide_eq_true_eq, decide_eq_false_iff_not, sz_lt, gt_iff_lt, Int.not_lt, Bool.not_beq_self, bne_self_eq_false, beq_self_eq_true] at *)
  all_goals (try simp (disch := omega) only [sz_val] at *)
  all_goals first | with_reducible rfl | with_reducible assumption | ((with_reducible refine c1 _ _ ?_ ?_ ?_) <;> (first | assumption | omega | with_reducible rfl | (simp [maxLen_eq]; done) | (simp [maxLen_eq]; omega))) | ((with_reducible refine c2 _ ?_ ?_) <;> (first | assumption | omega | with_reducible rfl | (simp [maxLen_eq]; done) | (simp [maxLen_eq]; omega))) | ((with_reducible refine c3 _ ?_) <;> (first | assumption | omega | with_reducible rfl | (simp [maxLen_eq]; done) | (simp [maxLen_eq]; omega))) | ((with_reducible refine c4 _ _ ?_ ?_ ?_) <;> (first | assumption | omega | with_reducible rfl | (simp [maxLen_eq]; done) | (simp [maxLen_eq]; omega))) | ((with_reducible refine c5 _ _ ?_ ?_ ?_) <;> (first | assumption | omega | with_reducible rfl | (simp [maxLen_eq]; done) | (simp [maxLen_eq]; omega))) | ((with_reducible refine c6 _ _ rfl ?_) <;> (first | assumption | omega | with_reducible rfl | (simp [maxLen_eq]; done) | (simp [maxLen_eq]; omega))) | ((with_reducible refine c7 _ _ ?_) <;> (first | assumption | omega | with_reducible rfl | (simp [maxLen_eq]; done) | (simp [maxLen_eq]; omega))) | ((with_reducible refine c8 _ _ rfl ?_ ?_) <;> (first | assumption | omega | with_reducible rfl | (simp [maxLen_eq]; done) | (simp [maxLen_eq]; omega))) | ((with_reducible refine ⟨c9 _ _ ?_ ?_ ?_, ?_⟩) <;> first | assumption | omega | (simp [marks_len]; done) | (simp [marks_len]; omega)) | ((with_reducible refine ⟨c10 _ _ ?_ ?_, ?_⟩) <;> first | assumption | omega | (simp [marks_len]; done) | (simp [marks_len]; omega)) | ((with_reducible refine c11 _ _ _ rfl ?_ ?_) <;> (first | assumption | omega | with_reducible rfl | (simp [maxLen_eq]; done) | (simp [maxLen_eq]; omega))) | contradiction | exact fconvOk_32_64 _ | assumption | exact rfl | (simp only [marks_len, bne_self_eq_false, Bool.false_eq_true] at *; done) | (simp_all [marks_len]; done) | (simp_all [T.ok, marks_len]; omega) | skip
  all_goals first | exact c2 xss (by omega) (fun r h => by have := hrw (by omega) r h; omega) | exact c8 xss xss rfl (by omega) (fun r h => by have := hrw (by omega) r h; omega)


end Go.Proofs.LV
