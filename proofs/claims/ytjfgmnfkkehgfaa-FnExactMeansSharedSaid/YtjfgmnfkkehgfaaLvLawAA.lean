/- The law FnExactMeansShared. -/
import Derived.Test.YtjfgmnfkkehgfaaLvFnHHX
namespace Go.Proofs.LV
open Go
set_option linter.unusedVariables false
set_option linter.unusedSimpArgs false

-- FN laws_FnExactMeansShared
/-- laws.FnExactMeansShared: slots 101, results [.t 4]; calls [18:g_laws_szFloat32SS, 23:g_laws_toFloat32SS, 25:g_spec_MeansShared, 29:g_laws_toFloat32SS, 33:g_impl_MeansShared, 38:g_laws_eqFloat32S, 47:g_laws_toFloat32SS, 48:g_laws_eqFloat32SS, 52:g_laws_markFloat32SS, 58:g_laws_eqFloat32S, 68:g_laws_markFloat32S, 71:g_laws_heldFloat32S, 79:g_laws_toFloat32SS, 81:g_impl_MeansShared, 86:g_laws_eqFloat32S, 95:g_laws_heldFloat32S]; names [(aLists, 0), (aWorkers, 1), (aLists, 2), (aWorkers, 3), (left, 5), (w0, 6), (w1, 7), (x0, 8), (g0, 9), (g1, 10), (k, 11), (m, 12), (q, 13), (h0, 14), (h1, 15)] -/
def ps_laws_FnExactMeansShared : List Nat := [0, 1, 4, 5, 6, 7, 8, 9, 10, 11, 12, 13, 14, 15, 20, 44, 49, 65, 73, 76, 92, 97, 100]
def b_laws_FnExactMeansShared (g_laws_szFloat32SS g_laws_toFloat32SS g_spec_MeansShared g_impl_MeansShared g_laws_eqFloat32S g_laws_eqFloat32SS g_laws_markFloat32SS g_laws_markFloat32S g_laws_heldFloat32S : FuncId) : VCode :=
  (.seq
   (.region false [
    ⟨some 4, .mv, [.k (.b false)], none⟩])
   (.seq
    (.region false [
     ⟨some 5, .mv, [.k (.i .i64 1048576)], none⟩])
    (.seq
     (.region false [
      ⟨some 16, .mv, [.t 0], none⟩,
      ⟨some 17, .mv, [.t 5], none⟩,
      ⟨some 18, (.call g_laws_szFloat32SS), [.t 16, .t 17], none⟩,
      ⟨some 5, .mv, [.t 18], none⟩])
     (.seq
      (.seq
       (.region false [
        ⟨some 19, .mv, [.t 5], none⟩,
        ⟨some 20, (.bin .lss), [.t 19, .k (.i .i64 0)], none⟩])
       (.cond (.t 20)
        (.seq
         (.region false [
          ⟨some 4, .mv, [.k (.b true)], none⟩])
         .ret)
        .skip))
      (.seq
       (.region false [
        ⟨some 22, .mv, [.t 0], none⟩,
        ⟨some 23, (.call g_laws_toFloat32SS), [.t 22], none⟩,
        ⟨some 24, .mv, [.t 1], none⟩,
        ⟨some 25, (.call g_spec_MeansShared), [.t 23, .t 24], none⟩,
        ⟨some 21, .mv, [.t 25], none⟩,
        ⟨some 26, (.extract 0), [.t 21], none⟩,
        ⟨some 27, (.extract 1), [.t 21], none⟩,
        ⟨some 6, .mv, [.t 26], none⟩,
        ⟨some 7, .mv, [.t 27], none⟩])
       (.seq
        (.region false [
         ⟨some 28, .mv, [.t 0], none⟩,
         ⟨some 29, (.call g_laws_toFloat32SS), [.t 28], none⟩,
         ⟨some 8, .mv, [.t 29], none⟩])
        (.seq
         (.region false [
          ⟨some 31, .mv, [.t 8], none⟩,
          ⟨some 32, .mv, [.t 1], none⟩,
          ⟨some 33, (.call g_impl_MeansShared), [.t 31, .t 32], none⟩,
          ⟨some 30, .mv, [.t 33], none⟩,
          ⟨some 34, (.extract 0), [.t 30], none⟩,
          ⟨some 35, (.extract 1), [.t 30], none⟩,
          ⟨some 9, .mv, [.t 34], none⟩,
          ⟨some 10, .mv, [.t 35], none⟩])
         (.seq
          (.seq
           (.region false [
            ⟨some 36, .mv, [.t 9], none⟩,
            ⟨some 37, .mv, [.t 6], none⟩,
            ⟨some 38, (.call g_laws_eqFloat32S), [.t 36, .t 37], none⟩,
            ⟨some 39, .not, [.t 38], none⟩,
            ⟨some 40, .mv, [.t 39], none⟩,
            ⟨some 41, .mv, [.t 10], some (40, false)⟩,
            ⟨some 42, .mv, [.t 7], some (40, false)⟩,
            ⟨some 43, (.binb .neq), [.t 41, .t 42], some (40, false)⟩,
            ⟨some 44, .pick, [.t 40, .k (.b true), .t 43], none⟩])
           (.cond (.t 44)
            (.seq
             (.region false [
              ⟨some 4, .mv, [.k (.b false)], none⟩])
             .ret)
            .skip))
          (.seq
           (.seq
            (.region false [
             ⟨some 45, .mv, [.t 8], none⟩,
             ⟨some 46, .mv, [.t 0], none⟩,
             ⟨some 47, (.call g_laws_toFloat32SS), [.t 46], none⟩,
             ⟨some 48, (.call g_laws_eqFloat32SS), [.t 45, .t 47], none⟩,
             ⟨some 49, .not, [.t 48], none⟩])
            (.cond (.t 49)
             (.seq
              (.region false [
               ⟨some 4, .mv, [.k (.b false)], none⟩])
              .ret)
             .skip))
           (.seq
            (.region false [
             ⟨some 11, .mv, [.k (.i .i64 1)], none⟩])
            (.seq
             (.region false [
              ⟨some 50, .mv, [.t 8], none⟩,
              ⟨some 51, .mv, [.t 11], none⟩,
              ⟨some 52, (.call g_laws_markFloat32SS), [.t 50, .t 51], none⟩,
              ⟨some 11, .mv, [.t 52], none⟩])
             (.seq
              (.seq
               (.region false [
                ⟨some 53, .mv, [.t 11], none⟩,
                ⟨some 54, (.bin .lss), [.t 53, .k (.i .i64 0)], none⟩,
                ⟨some 55, .mv, [.t 54], none⟩,
                ⟨some 56, .mv, [.t 9], some (55, false)⟩,
                ⟨some 57, .mv, [.t 6], some (55, false)⟩,
                ⟨some 58, (.call g_laws_eqFloat32S), [.t 56, .t 57], some (55, false)⟩,
                ⟨some 59, .not, [.t 58], some (55, false)⟩,
                ⟨some 60, .pick, [.t 55, .k (.b true), .t 59], none⟩,
                ⟨some 61, .mv, [.t 60], none⟩,
                ⟨some 62, .mv, [.t 10], some (61, false)⟩,
                ⟨some 63, .mv, [.t 7], some (61, false)⟩,
                ⟨some 64, (.binb .neq), [.t 62, .t 63], some (61, false)⟩,
                ⟨some 65, .pick, [.t 61, .k (.b true), .t 64], none⟩])
               (.cond (.t 65)
                (.seq
                 (.region false [
                  ⟨some 4, .mv, [.k (.b false)], none⟩])
                 .ret)
                .skip))
              (.seq
               (.region false [
                ⟨some 12, .mv, [.k (.i .i64 1)], none⟩])
               (.seq
                (.region false [
                 ⟨some 66, .mv, [.t 9], none⟩,
                 ⟨some 67, .mv, [.t 12], none⟩,
                 ⟨some 68, (.call g_laws_markFloat32S), [.t 66, .t 67], none⟩,
                 ⟨some 12, .mv, [.t 68], none⟩])
                (.seq
                 (.region false [
                  ⟨some 13, .mv, [.k (.i .i64 1)], none⟩])
                 (.seq
                  (.region false [
                   ⟨some 69, .mv, [.t 9], none⟩,
                   ⟨some 70, .mv, [.t 13], none⟩,
                   ⟨some 71, (.call g_laws_heldFloat32S), [.t 69, .t 70], none⟩,
                   ⟨some 13, .mv, [.t 71], none⟩])
                  (.seq
                   (.seq
                    (.region false [
                     ⟨some 72, .mv, [.t 13], none⟩,
                     ⟨some 73, (.bin .lss), [.t 72, .k (.i .i64 0)], none⟩])
                    (.cond (.t 73)
                     (.seq
                      (.region false [
                       ⟨some 4, .mv, [.k (.b false)], none⟩])
                      .ret)
                     .skip))
                   (.seq
                    (.seq
                     (.region false [
                      ⟨some 74, .mv, [.t 13], none⟩,
                      ⟨some 75, .mv, [.t 12], none⟩,
                      ⟨some 76, (.bin .neq), [.t 74, .t 75], none⟩])
                     (.cond (.t 76)
                      (.seq
                       (.region false [
                        ⟨some 4, .mv, [.k (.b false)], none⟩])
                       .ret)
                      .skip))
                    (.seq
                     (.region false [
                      ⟨some 78, .mv, [.t 0], none⟩,
                      ⟨some 79, (.call g_laws_toFloat32SS), [.t 78], none⟩,
                      ⟨some 80, .mv, [.t 1], none⟩,
                      ⟨some 81, (.call g_impl_MeansShared), [.t 79, .t 80], none⟩,
                      ⟨some 77, .mv, [.t 81], none⟩,
                      ⟨some 82, (.extract 0), [.t 77], none⟩,
                      ⟨some 83, (.extract 1), [.t 77], none⟩,
                      ⟨some 14, .mv, [.t 82], none⟩,
                      ⟨some 15, .mv, [.t 83], none⟩])
                     (.seq
                      (.seq
                       (.region false [
                        ⟨some 84, .mv, [.t 14], none⟩,
                        ⟨some 85, .mv, [.t 6], none⟩,
                        ⟨some 86, (.call g_laws_eqFloat32S), [.t 84, .t 85], none⟩,
                        ⟨some 87, .not, [.t 86], none⟩,
                        ⟨some 88, .mv, [.t 87], none⟩,
                        ⟨some 89, .mv, [.t 15], some (88, false)⟩,
                        ⟨some 90, .mv, [.t 7], some (88, false)⟩,
                        ⟨some 91, (.binb .neq), [.t 89, .t 90], some (88, false)⟩,
                        ⟨some 92, .pick, [.t 88, .k (.b true), .t 91], none⟩])
                       (.cond (.t 92)
                        (.seq
                         (.region false [
                          ⟨some 4, .mv, [.k (.b false)], none⟩])
                         .ret)
                        .skip))
                      (.seq
                       (.region false [
                        ⟨some 13, .mv, [.k (.i .i64 1)], none⟩])
                       (.seq
                        (.region false [
                         ⟨some 93, .mv, [.t 9], none⟩,
                         ⟨some 94, .mv, [.t 13], none⟩,
                         ⟨some 95, (.call g_laws_heldFloat32S), [.t 93, .t 94], none⟩,
                         ⟨some 13, .mv, [.t 95], none⟩])
                        (.seq
                         (.seq
                          (.region false [
                           ⟨some 96, .mv, [.t 13], none⟩,
                           ⟨some 97, (.bin .lss), [.t 96, .k (.i .i64 0)], none⟩])
                          (.cond (.t 97)
                           (.seq
                            (.region false [
                             ⟨some 4, .mv, [.k (.b false)], none⟩])
                            .ret)
                           .skip))
                         (.seq
                          (.seq
                           (.region false [
                            ⟨some 98, .mv, [.t 13], none⟩,
                            ⟨some 99, .mv, [.t 12], none⟩,
                            ⟨some 100, (.bin .neq), [.t 98, .t 99], none⟩])
                           (.cond (.t 100)
                            (.seq
                             (.region false [
                              ⟨some 4, .mv, [.k (.b false)], none⟩])
                             .ret)
                            .skip))
                          (.seq
                           (.region false [
                            ⟨some 4, .mv, [.k (.b true)], none⟩])
                           .ret)))))))))))))))))))))))))

abbrev Is_laws_FnExactMeansShared (P : Program) (g_f : FuncId) (g_laws_szFloat32SS g_laws_toFloat32SS g_spec_MeansShared g_impl_MeansShared g_laws_eqFloat32S g_laws_eqFloat32SS g_laws_markFloat32SS g_laws_markFloat32S g_laws_heldFloat32S : FuncId) : Prop := FnIs P g_f 101 [.t 4] (b_laws_FnExactMeansShared g_laws_szFloat32SS g_laws_toFloat32SS g_spec_MeansShared g_impl_MeansShared g_laws_eqFloat32S g_laws_eqFloat32SS g_laws_markFloat32SS g_laws_markFloat32S g_laws_heldFloat32S)

abbrev C_laws_FnExactMeansShared (P : Program) (g_f : FuncId) : Prop := ∀ (xss : LL) (w : Int) (hx : xss.length ≤ maxLen) (hr : ∀ r ∈ xss, r.length ≤ maxLen), VCall P g_f [PF [0] xss, .i .i64 w] (.b true)
def oc1_laws_FnExactMeansShared (as : List AV) : T AV := match as with | [.sl _ _ (.ff _ xss), .i .i64 w] => .leaf (.b true) | _ => .fail
def oc_laws_FnExactMeansShared (xss : LL) (w : Int) (d : Nat) (as : List AV) : T AV := match d with | 18 => oc1_laws_szFloat32SS as | 23 => oc1_laws_toFloat32SS as | 25 => oc1_spec_MeansShared as | 29 => oc1_laws_toFloat32SS as | 33 => oc1_impl_MeansShared as | 38 => oc1_laws_eqFloat32S as | 47 => oc1_laws_toFloat32SS as | 48 => oc1_laws_eqFloat32SS as | 52 => oc1_laws_markFloat32SS as | 58 => oc1_laws_eqFloat32S as | 68 => oc1_laws_markFloat32S as | 71 => oc1_laws_heldFloat32S as | 79 => oc1_laws_toFloat32SS as | 81 => oc1_impl_MeansShared as | 86 => oc1_laws_eqFloat32S as | 95 => oc1_laws_heldFloat32S as | _ => .fail



theorem q_laws_FnExactMeansShared {P : Program} {g_f : FuncId} {g_laws_szFloat32SS g_laws_toFloat32SS g_spec_MeansShared g_impl_MeansShared g_laws_eqFloat32S g_laws_eqFloat32SS g_laws_markFloat32SS g_laws_markFloat32S g_laws_heldFloat32S : FuncId} (h_ : Is_laws_FnExactMeansShared P g_f g_laws_szFloat32SS g_laws_toFloat32SS g_spec_MeansShared g_impl_MeansShared g_laws_eqFloat32S g_laws_eqFloat32SS g_laws_markFloat32SS g_laws_markFloat32S g_laws_heldFloat32S) (xss : LL) (w : Int) (ht : T.ok (fun x_ => x_ = .b true) (
      T.ob ((VCall P) g_laws_szFloat32SS [AV.sl (Tag.par [0]) 0 (Cont.ff FloatKind.f32 xss), AV.i IntKind.i64 1048576] (AV.i IntKind.i64 (szSS xss 1048576)))
        (T.ite (decide (szSS xss 1048576 < 0)) (T.leaf (AV.b true))
          (T.ob ((VCall P) g_laws_toFloat32SS [AV.sl (Tag.par [0]) 0 (Cont.ff FloatKind.f32 xss)] (AV.nw 0 0 FloatKind.f32 xss none))
            (T.ob
              ((VCall P) g_spec_MeansShared [AV.sl (Tag.par [0]) 0 (Cont.ff FloatKind.f32 xss), AV.i IntKind.i64 w] (AV.tup [AV.sl (Tag.own 0) 0 (Cont.f FloatKind.f32 (if msOk xss w = true then msM xss else [])), AV.b (msOk xss w)]))
              (T.ob ((VCall P) g_laws_toFloat32SS [AV.sl (Tag.par [0]) 0 (Cont.ff FloatKind.f32 xss)] (AV.nw 0 0 FloatKind.f32 xss none))
                (T.ob
                  ((VCall P) g_impl_MeansShared [AV.sl (Tag.par [0]) 0 (Cont.ff FloatKind.f32 xss), AV.i IntKind.i64 w]
                    (AV.tup [AV.sl (Tag.own 0) 0 (Cont.f FloatKind.f32 (if msOk xss w = true then msM xss else [])), AV.b (msOk xss w)]))
                  (T.ob
                    ((VCall P) g_laws_eqFloat32S [AV.sl (Tag.par [0]) 0 (Cont.f FloatKind.f32 (if msOk xss w = true then msM xss else [])), AV.sl (Tag.par [1]) 0 (Cont.f FloatKind.f32 (if msOk xss w = true then msM xss else []))]
                      (AV.b true))
                    (T.ite false (T.leaf (AV.b false))
                      (T.ite (!msOk xss w == msOk xss w) (T.leaf (AV.b false))
                        (T.ob ((VCall P) g_laws_toFloat32SS [AV.sl (Tag.par [0]) 0 (Cont.ff FloatKind.f32 xss)] (AV.nw 0 0 FloatKind.f32 xss none))
                          (T.ob ((VCall P) g_laws_eqFloat32SS [AV.sl (Tag.par [0]) 0 (Cont.ff FloatKind.f32 xss), AV.sl (Tag.par [1]) 0 (Cont.ff FloatKind.f32 xss)] (AV.b true))
                            (T.ite false (T.leaf (AV.b false))
                              (T.ob
                                ((VCall P) g_laws_markFloat32SS [AV.nw 800000 0 FloatKind.f32 xss none, AV.i IntKind.i64 1]
                                    (AV.bx Tag.nil [AV.i IntKind.i64 (1 + (↑(totN xss (List.length xss)) : Int)), AV.tup [AV.nw 800000 0 FloatKind.f32 (marksSS xss 1) none, AV.i IntKind.i64 1]]) ∧
                                  List.length xss = List.length (marksSS xss 1) ∧ List.length xss = List.length (marksSS xss 1) ∧ True)
                                (T.ite false (T.leaf (AV.b false))
                                  (T.ob
                                    ((VCall P) g_laws_eqFloat32S
                                      [AV.sl (Tag.par [0]) 0 (Cont.f FloatKind.f32 (if msOk xss w = true then msM xss else [])), AV.sl (Tag.par [1]) 0 (Cont.f FloatKind.f32 (if msOk xss w = true then msM xss else []))]
                                      (AV.b true))
                                    (T.ite false (T.leaf (AV.b false))
                                      (T.ite (!msOk xss w == msOk xss w) (T.leaf (AV.b false))
                                        (T.ob
                                          ((VCall P) g_laws_markFloat32S [AV.sl (Tag.own 800000) 0 (Cont.f FloatKind.f32 (if msOk xss w = true then msM xss else [])), AV.i IntKind.i64 1]
                                              (AV.bx Tag.nil
                                                [AV.i IntKind.i64 (1 + (↑(List.length (if msOk xss w = true then msM xss else [])) : Int)),
                                                  AV.tup [AV.sl (Tag.own 800000) 0 (Cont.f FloatKind.f32 (marksM (List.length (if msOk xss w = true then msM xss else [])) 1)), AV.i IntKind.i64 1]]) ∧
                                            List.length (if msOk xss w = true then msM xss else []) = List.length (marksM (List.length (if msOk xss w = true then msM xss else [])) 1) ∧
                                              List.length (if msOk xss w = true then msM xss else []) = List.length (marksM (List.length (if msOk xss w = true then msM xss else [])) 1) ∧ True)
                                          (T.ob
                                            ((VCall P) g_laws_heldFloat32S [AV.sl (Tag.par [0]) 0 (Cont.f FloatKind.f32 (marksM (List.length (if msOk xss w = true then msM xss else [])) 1)), AV.i IntKind.i64 1]
                                              (AV.i IntKind.i64 (1 + (↑(List.length (marksM (List.length (if msOk xss w = true then msM xss else [])) 1)) : Int))))
                                            (T.ite false (T.leaf (AV.b false))
                                              (T.ite (1 + (↑(List.length (marksM (List.length (if msOk xss w = true then msM xss else [])) 1)) : Int) != 1 + (↑(List.length (if msOk xss w = true then msM xss else [])) : Int))
                                                (T.leaf (AV.b false))
                                                (T.ob ((VCall P) g_laws_toFloat32SS [AV.sl (Tag.par [0]) 0 (Cont.ff FloatKind.f32 xss)] (AV.nw 0 0 FloatKind.f32 xss none))
                                                  (T.ob
                                                    ((VCall P) g_impl_MeansShared [AV.sl (Tag.par [0]) 0 (Cont.ff FloatKind.f32 xss), AV.i IntKind.i64 w]
                                                      (AV.tup [AV.sl (Tag.own 0) 0 (Cont.f FloatKind.f32 (if msOk xss w = true then msM xss else [])), AV.b (msOk xss w)]))
                                                    (T.ob
                                                      ((VCall P) g_laws_eqFloat32S
                                                        [AV.sl (Tag.par [0]) 0 (Cont.f FloatKind.f32 (if msOk xss w = true then msM xss else [])),
                                                          AV.sl (Tag.par [1]) 0 (Cont.f FloatKind.f32 (if msOk xss w = true then msM xss else []))]
                                                        (AV.b true))
                                                      (T.ite false (T.leaf (AV.b false))
                                                        (T.ite (!msOk xss w == msOk xss w) (T.leaf (AV.b false))
                                                          (T.ob
                                                            ((VCall P) g_laws_heldFloat32S [AV.sl (Tag.par [0]) 0 (Cont.f FloatKind.f32 (marksM (List.length (if msOk xss w = true then msM xss else [])) 1)), AV.i IntKind.i64 1]
                                                              (AV.i IntKind.i64 (1 + (↑(List.length (marksM (List.length (if msOk xss w = true then msM xss else [])) 1)) : Int))))
                                                            (T.ite false (T.leaf (AV.b false))
                                                              (T.ite
                                                                (1 + (↑(List.length (marksM (List.length (if msOk xss w = true then msM xss else [])) 1)) : Int) !=
                                                                  1 + (↑(List.length (if msOk xss w = true then msM xss else [])) : Int))
                                                                (T.leaf (AV.b false)) (T.leaf (AV.b true)))))))))))))))))))))))))))))))) :
    VCall P g_f [PF [0] xss, .i .i64 w] (.b true) := h_.call_of ps_laws_FnExactMeansShared ⟨oc_laws_FnExactMeansShared xss w, fun _ _ => none⟩ (by kernel_rfl) ht

-- END laws_FnExactMeansShared

theorem k_laws_FnExactMeansShared {P : Program} {f g_laws_szFloat32SS g_laws_toFloat32SS g_spec_MeansShared g_impl_MeansShared g_laws_eqFloat32S g_laws_eqFloat32SS g_laws_markFloat32SS g_laws_markFloat32S g_laws_heldFloat32S : FuncId} (h : Is_laws_FnExactMeansShared P f g_laws_szFloat32SS g_laws_toFloat32SS g_spec_MeansShared g_impl_MeansShared g_laws_eqFloat32S g_laws_eqFloat32SS g_laws_markFloat32SS g_laws_markFloat32S g_laws_heldFloat32S) (c1 : C_laws_szFloat32SS P g_laws_szFloat32SS) (c2 : C_laws_toFloat32SS P g_laws_toFloat32SS) (c3 : C_spec_MeansShared P g_spec_MeansShared) (c4 : C_impl_MeansShared P g_impl_MeansShared) (c5 : C_laws_eqFloat32S P g_laws_eqFloat32S) (c6 : C_laws_eqFloat32SS P g_laws_eqFloat32SS) (c7 : C_laws_markFloat32SS P g_laws_markFloat32SS) (c8 : C_laws_markFloat32S P g_laws_markFloat32S) (c9 : C_laws_heldFloat32S P g_laws_heldFloat32S) : C_laws_FnExactMeansShared P f := by
  intro xss w hx hr
  refine q_laws_FnExactMeansShared h xss w ?_
  have hR : (if msOk xss w = true then msM xss else []).length ≤ xss.length := by
    split
    · unfold msM; rw [tab_len]; exact Nat.le_refl _
    · simp
  have b3 := c3 xss w hx hr
  have b4 := c4 xss w hx hr
  generalize (if msOk xss w = true then msM xss else []) = R at *
  have hz := szSS_lt xss 1048576
  have hrw := @rows_le xss 1048576
  have hmk := marksSS_len xss 1
  repeat' (first | with_reducible refine T.ok_ob ?_ (fun _ => ?_) | with_reducible refine T.ok_ite (fun _ => ?_) (fun _ => ?_) | with_reducible refine T.ok_leaf ?_)
  all_goals (try simp only [decide_eq_true_eq, decide_eq_false_iff_not, sz_lt, gt_iff_lt, Int.not_lt, Bool.not_beq_self, bne_self_eq_false, beq_self_eq_true] at *)
  all_goals (try simp (disch := omega) only [sz_val] at *)
  all_goals first | with_reducible rfl | with_reducible assumption | ((with_reducible refine c1 _ _ ?_ ?_ ?_) <;> (first | assumption | omega | with_reducible rfl | (simp [maxLen_eq]; done) | (simp [maxLen_eq]; omega))) | ((with_reducible refine c2 _ ?_ ?_) <;> (first | assumption | omega | with_reducible rfl | (simp [maxLen_eq]; done) | (simp [maxLen_eq]; omega))) | ((with_reducible refine c3 _ _ ?_ ?_) <;> (first | assumption | omega | with_reducible rfl | (simp [maxLen_eq]; done) | (simp [maxLen_eq]; omega))) | ((with_reducible refine c4 _ _ ?_ ?_) <;> (first | assumption | omega | with_reducible rfl | (simp [maxLen_eq]; done) | (simp [maxLen_eq]; omega))) | ((with_reducible refine c5 _ _ rfl ?_) <;> (first | assumption | omega | with_reducible rfl | (simp [maxLen_eq]; done) | (simp [maxLen_eq]; omega))) | ((with_reducible refine c6 _ _ rfl ?_ ?_) <;> (first | assumption | omega | with_reducible rfl | (simp [maxLen_eq]; done) | (simp [maxLen_eq]; omega))) | ((with_reducible refine ⟨c7 _ _ ?_ ?_ ?_, ?_⟩) <;> first | assumption | omega | (simp [marks_len]; done) | (simp [marks_len]; omega)) | ((with_reducible refine ⟨c8 _ _ ?_ ?_, ?_⟩) <;> first | assumption | omega | (simp [marks_len]; done) | (simp [marks_len]; omega)) | ((with_reducible refine c9 _ _ _ rfl ?_ ?_) <;> (first | assumption | omega | with_reducible rfl | (simp [maxLen_eq]; done) | (simp [maxLen_eq]; omega))) | contradiction | exact fconvOk_32_64 _ | assumption | exact rfl | (simp only [marks_len, bne_self_eq_false, Bool.false_eq_true] at *; done) | (simp_all [marks_len]; done) | (simp_all [T.ok, marks_len]; omega) | skip
  all_goals first | exact c2 xss (by omega) (fun r h => by have := hrw (by omega) r h; omega) | exact c6 xss xss rfl (by omega) (fun r h => by have := hrw (by omega) r h; omega)


end Go.Proofs.LV
