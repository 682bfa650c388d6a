/- The law FnExactGuessesOf. -/
import Derived.Test.YtdjjpckpcfkgiaaLvFnP
import Derived.Test.YtdjjpckpcfkgiaaLvLawG
namespace Go.Proofs.LV
open Go
set_option linter.unusedVariables false
set_option linter.unusedSimpArgs false

-- FN laws_FnExactGuessesOf
/-- laws.FnExactGuessesOf: slots 125, results [.t 6]; calls [24:g_laws_szState, 29:g_laws_toFloat32S, 31:g_laws_toState, 33:g_laws_toShares, 34:g_spec_GuessesOf, 38:g_laws_toFloat32S, 40:g_laws_toState, 45:g_laws_toShares, 46:g_impl_GuessesOf, 51:g_laws_eqFloat32S, 60:g_laws_toFloat32S, 61:g_laws_eqFloat32S, 65:g_laws_toState, 66:g_laws_eqState, 70:g_laws_markFloat32S, 73:g_laws_markState, 79:g_laws_eqFloat32S, 89:g_laws_markFloat32S, 92:g_laws_heldFloat32S, 100:g_laws_toFloat32S, 102:g_laws_toState, 104:g_laws_toShares, 105:g_impl_GuessesOf, 110:g_laws_eqFloat32S, 119:g_laws_heldFloat32S]; names [(aList, 0), (aS, 1), (aH, 2), (aList, 3), (aS, 4), (aH, 5), (left, 7), (w0, 8), (w1, 9), (x0, 10), (x1, 11), (g0, 12), (g1, 13), (k, 14), (m, 15), (q, 16), (h0, 17), (h1, 18)] -/
def ps_laws_FnExactGuessesOf : List Nat := [0, 1, 2, 4, 5, 6, 7, 8, 9, 10, 11, 12, 13, 14, 15, 16, 17, 18, 21, 26, 57, 62, 67, 86, 94, 97, 116, 121, 124]
def b_laws_FnExactGuessesOf (g_laws_szState g_laws_toFloat32S g_laws_toState g_laws_toShares g_spec_GuessesOf g_impl_GuessesOf g_laws_eqFloat32S g_laws_eqState g_laws_markFloat32S g_laws_markState g_laws_heldFloat32S : FuncId) : VCode :=
  (.seq
   (.region false [
    ⟨some 4, .boxN, [.t 1], none⟩,
    ⟨some 5, .boxN, [.t 2], none⟩,
    ⟨some 6, .mv, [.k (.b false)], none⟩])
   (.seq
    (.seq
     (.region false [
      ⟨some 19, .mv, [.t 0], none⟩,
      ⟨some 20, .len, [.t 19], none⟩,
      ⟨some 21, (.bin .gtr), [.t 20, .k (.i .i64 1048576)], none⟩])
     (.cond (.t 21)
      (.seq
       (.region false [
        ⟨some 6, .mv, [.k (.b true)], none⟩])
       .ret)
      .skip))
    (.seq
     (.region false [
      ⟨some 7, .mv, [.k (.i .i64 1048576)], none⟩])
     (.seq
      (.region false [
       ⟨some 22, (.loadN 4), [.t 4], none⟩,
       ⟨some 23, .mv, [.t 7], none⟩,
       ⟨some 24, (.call g_laws_szState), [.t 22, .t 23], none⟩,
       ⟨some 7, .mv, [.t 24], none⟩])
      (.seq
       (.seq
        (.region false [
         ⟨some 25, .mv, [.t 7], none⟩,
         ⟨some 26, (.bin .lss), [.t 25, .k (.i .i64 0)], none⟩])
        (.cond (.t 26)
         (.seq
          (.region false [
           ⟨some 6, .mv, [.k (.b true)], none⟩])
          .ret)
         .skip))
       (.seq
        (.region true [
         ⟨some 28, .mv, [.t 0], none⟩,
         ⟨some 29, (.call g_laws_toFloat32S), [.t 28], none⟩,
         ⟨some 30, (.loadN 4), [.t 4], none⟩,
         ⟨some 31, (.call g_laws_toState), [.t 30], none⟩,
         ⟨some 32, (.loadN 4), [.t 5], none⟩,
         ⟨some 33, (.call g_laws_toShares), [.t 32], none⟩,
         ⟨some 34, (.call g_spec_GuessesOf), [.t 29, .t 31, .t 33], none⟩,
         ⟨some 27, .mv, [.t 34], none⟩,
         ⟨some 35, (.extract 0), [.t 27], none⟩,
         ⟨some 36, (.extract 1), [.t 27], none⟩,
         ⟨some 8, .mv, [.t 35], none⟩,
         ⟨some 9, .mv, [.t 36], none⟩])
        (.seq
         (.region false [
          ⟨some 37, .mv, [.t 0], none⟩,
          ⟨some 38, (.call g_laws_toFloat32S), [.t 37], none⟩,
          ⟨some 10, .mv, [.t 38], none⟩])
         (.seq
          (.region false [
           ⟨some 39, (.loadN 4), [.t 4], none⟩,
           ⟨some 40, (.call g_laws_toState), [.t 39], none⟩,
           ⟨some 11, (.alloc [(.f .f32 0), (.f .f32 0), (.sl .imm 0 (.f .f32 [])), (.i .i64 0)]), [], none⟩,
           ⟨none, (.storeN 4), [.t 11, .t 40], none⟩])
          (.seq
           (.region true [
            ⟨some 42, .mv, [.t 10], none⟩,
            ⟨some 43, (.loadN 4), [.t 11], none⟩,
            ⟨some 44, (.loadN 4), [.t 5], none⟩,
            ⟨some 45, (.call g_laws_toShares), [.t 44], none⟩,
            ⟨some 46, (.call g_impl_GuessesOf), [.t 42, .t 43, .t 45], none⟩,
            ⟨some 41, .mv, [.t 46], none⟩,
            ⟨some 47, (.extract 0), [.t 41], none⟩,
            ⟨some 48, (.extract 1), [.t 41], none⟩,
            ⟨some 12, .mv, [.t 47], none⟩,
            ⟨some 13, .mv, [.t 48], none⟩])
           (.seq
            (.seq
             (.region false [
              ⟨some 49, .mv, [.t 12], none⟩,
              ⟨some 50, .mv, [.t 8], none⟩,
              ⟨some 51, (.call g_laws_eqFloat32S), [.t 49, .t 50], none⟩,
              ⟨some 52, .not, [.t 51], none⟩,
              ⟨some 53, .mv, [.t 52], none⟩,
              ⟨some 54, .mv, [.t 13], some (53, false)⟩,
              ⟨some 55, .mv, [.t 9], some (53, false)⟩,
              ⟨some 56, (.binb .neq), [.t 54, .t 55], some (53, false)⟩,
              ⟨some 57, .pick, [.t 53, .k (.b true), .t 56], none⟩])
             (.cond (.t 57)
              (.seq
               (.region false [
                ⟨some 6, .mv, [.k (.b false)], none⟩])
               .ret)
              .skip))
            (.seq
             (.seq
              (.region false [
               ⟨some 58, .mv, [.t 10], none⟩,
               ⟨some 59, .mv, [.t 0], none⟩,
               ⟨some 60, (.call g_laws_toFloat32S), [.t 59], none⟩,
               ⟨some 61, (.call g_laws_eqFloat32S), [.t 58, .t 60], none⟩,
               ⟨some 62, .not, [.t 61], none⟩])
              (.cond (.t 62)
               (.seq
                (.region false [
                 ⟨some 6, .mv, [.k (.b false)], none⟩])
                .ret)
               .skip))
             (.seq
              (.seq
               (.region true [
                ⟨some 63, (.loadN 4), [.t 11], none⟩,
                ⟨some 64, (.loadN 4), [.t 4], none⟩,
                ⟨some 65, (.call g_laws_toState), [.t 64], none⟩,
                ⟨some 66, (.call g_laws_eqState), [.t 63, .t 65], none⟩,
                ⟨some 67, .not, [.t 66], none⟩])
               (.cond (.t 67)
                (.seq
                 (.region false [
                  ⟨some 6, .mv, [.k (.b false)], none⟩])
                 .ret)
                .skip))
              (.seq
               (.region false [
                ⟨some 14, .mv, [.k (.i .i64 1)], none⟩])
               (.seq
                (.region false [
                 ⟨some 68, .mv, [.t 10], none⟩,
                 ⟨some 69, .mv, [.t 14], none⟩,
                 ⟨some 70, (.call g_laws_markFloat32S), [.t 68, .t 69], none⟩,
                 ⟨some 14, .mv, [.t 70], none⟩])
                (.seq
                 (.region false [
                  ⟨some 71, (.loadN 4), [.t 11], none⟩,
                  ⟨some 72, .mv, [.t 14], none⟩,
                  ⟨some 73, (.call g_laws_markState), [.t 71, .t 72], none⟩,
                  ⟨some 14, .mv, [.t 73], none⟩])
                 (.seq
                  (.seq
                   (.region false [
                    ⟨some 74, .mv, [.t 14], none⟩,
                    ⟨some 75, (.bin .lss), [.t 74, .k (.i .i64 0)], none⟩,
                    ⟨some 76, .mv, [.t 75], none⟩,
                    ⟨some 77, .mv, [.t 12], some (76, false)⟩,
                    ⟨some 78, .mv, [.t 8], some (76, false)⟩,
                    ⟨some 79, (.call g_laws_eqFloat32S), [.t 77, .t 78], some (76, false)⟩,
                    ⟨some 80, .not, [.t 79], some (76, false)⟩,
                    ⟨some 81, .pick, [.t 76, .k (.b true), .t 80], none⟩,
                    ⟨some 82, .mv, [.t 81], none⟩,
                    ⟨some 83, .mv, [.t 13], some (82, false)⟩,
                    ⟨some 84, .mv, [.t 9], some (82, false)⟩,
                    ⟨some 85, (.binb .neq), [.t 83, .t 84], some (82, false)⟩,
                    ⟨some 86, .pick, [.t 82, .k (.b true), .t 85], none⟩])
                   (.cond (.t 86)
                    (.seq
                     (.region false [
                      ⟨some 6, .mv, [.k (.b false)], none⟩])
                     .ret)
                    .skip))
                  (.seq
                   (.region false [
                    ⟨some 15, .mv, [.k (.i .i64 1)], none⟩])
                   (.seq
                    (.region false [
                     ⟨some 87, .mv, [.t 12], none⟩,
                     ⟨some 88, .mv, [.t 15], none⟩,
                     ⟨some 89, (.call g_laws_markFloat32S), [.t 87, .t 88], none⟩,
                     ⟨some 15, .mv, [.t 89], none⟩])
                    (.seq
                     (.region false [
                      ⟨some 16, .mv, [.k (.i .i64 1)], none⟩])
                     (.seq
                      (.region false [
                       ⟨some 90, .mv, [.t 12], none⟩,
                       ⟨some 91, .mv, [.t 16], none⟩,
                       ⟨some 92, (.call g_laws_heldFloat32S), [.t 90, .t 91], none⟩,
                       ⟨some 16, .mv, [.t 92], none⟩])
                      (.seq
                       (.seq
                        (.region false [
                         ⟨some 93, .mv, [.t 16], none⟩,
                         ⟨some 94, (.bin .lss), [.t 93, .k (.i .i64 0)], none⟩])
                        (.cond (.t 94)
                         (.seq
                          (.region false [
                           ⟨some 6, .mv, [.k (.b false)], none⟩])
                          .ret)
                         .skip))
                       (.seq
                        (.seq
                         (.region false [
                          ⟨some 95, .mv, [.t 16], none⟩,
                          ⟨some 96, .mv, [.t 15], none⟩,
                          ⟨some 97, (.bin .neq), [.t 95, .t 96], none⟩])
                         (.cond (.t 97)
                          (.seq
                           (.region false [
                            ⟨some 6, .mv, [.k (.b false)], none⟩])
                           .ret)
                          .skip))
                        (.seq
                         (.region true [
                          ⟨some 99, .mv, [.t 0], none⟩,
                          ⟨some 100, (.call g_laws_toFloat32S), [.t 99], none⟩,
                          ⟨some 101, (.loadN 4), [.t 4], none⟩,
                          ⟨some 102, (.call g_laws_toState), [.t 101], none⟩,
                          ⟨some 103, (.loadN 4), [.t 5], none⟩,
                          ⟨some 104, (.call g_laws_toShares), [.t 103], none⟩,
                          ⟨some 105, (.call g_impl_GuessesOf), [.t 100, .t 102, .t 104], none⟩,
                          ⟨some 98, .mv, [.t 105], none⟩,
                          ⟨some 106, (.extract 0), [.t 98], none⟩,
                          ⟨some 107, (.extract 1), [.t 98], none⟩,
                          ⟨some 17, .mv, [.t 106], none⟩,
                          ⟨some 18, .mv, [.t 107], none⟩])
                         (.seq
                          (.seq
                           (.region false [
                            ⟨some 108, .mv, [.t 17], none⟩,
                            ⟨some 109, .mv, [.t 8], none⟩,
                            ⟨some 110, (.call g_laws_eqFloat32S), [.t 108, .t 109], none⟩,
                            ⟨some 111, .not, [.t 110], none⟩,
                            ⟨some 112, .mv, [.t 111], none⟩,
                            ⟨some 113, .mv, [.t 18], some (112, false)⟩,
                            ⟨some 114, .mv, [.t 9], some (112, false)⟩,
                            ⟨some 115, (.binb .neq), [.t 113, .t 114], some (112, false)⟩,
                            ⟨some 116, .pick, [.t 112, .k (.b true), .t 115], none⟩])
                           (.cond (.t 116)
                            (.seq
                             (.region false [
                              ⟨some 6, .mv, [.k (.b false)], none⟩])
                             .ret)
                            .skip))
                          (.seq
                           (.region false [
                            ⟨some 16, .mv, [.k (.i .i64 1)], none⟩])
                           (.seq
                            (.region false [
                             ⟨some 117, .mv, [.t 12], none⟩,
                             ⟨some 118, .mv, [.t 16], none⟩,
                             ⟨some 119, (.call g_laws_heldFloat32S), [.t 117, .t 118], none⟩,
                             ⟨some 16, .mv, [.t 119], none⟩])
                            (.seq
                             (.seq
                              (.region false [
                               ⟨some 120, .mv, [.t 16], none⟩,
                               ⟨some 121, (.bin .lss), [.t 120, .k (.i .i64 0)], none⟩])
                              (.cond (.t 121)
                               (.seq
                                (.region false [
                                 ⟨some 6, .mv, [.k (.b false)], none⟩])
                                .ret)
                               .skip))
                             (.seq
                              (.seq
                               (.region false [
                                ⟨some 122, .mv, [.t 16], none⟩,
                                ⟨some 123, .mv, [.t 15], none⟩,
                                ⟨some 124, (.bin .neq), [.t 122, .t 123], none⟩])
                               (.cond (.t 124)
                                (.seq
                                 (.region false [
                                  ⟨some 6, .mv, [.k (.b false)], none⟩])
                                 .ret)
                                .skip))
                              (.seq
                               (.region false [
                                ⟨some 6, .mv, [.k (.b true)], none⟩])
                               .ret)))))))))))))))))))))))))))))

abbrev Is_laws_FnExactGuessesOf (P : Program) (g_f : FuncId) (g_laws_szState g_laws_toFloat32S g_laws_toState g_laws_toShares g_spec_GuessesOf g_impl_GuessesOf g_laws_eqFloat32S g_laws_eqState g_laws_markFloat32S g_laws_markState g_laws_heldFloat32S : FuncId) : Prop := FnIs P g_f 125 [.t 6] (b_laws_FnExactGuessesOf g_laws_szState g_laws_toFloat32S g_laws_toState g_laws_toShares g_spec_GuessesOf g_impl_GuessesOf g_laws_eqFloat32S g_laws_eqState g_laws_markFloat32S g_laws_markState g_laws_heldFloat32S)

abbrev C_laws_FnExactGuessesOf (P : Program) (g_f : FuncId) : Prop := ∀ (list : List Nat) (l : Nat) (s : Nat) (xs : List Nat) (t : Int) (a : Nat) (b : Nat) (c : Nat) (d : Nat) (hl : list.length ≤ maxLen) (hx : xs.length ≤ maxLen), VCall P g_f [PS [0] .f32 list, .agg (ST (.par [1, 2]) l s xs t), .agg (F4 a b c d)] (.b true)
def oc1_laws_FnExactGuessesOf (as : List AV) : T AV := match as with | [.sl _ _ (.f .f32 list), .agg [.f _ l, .f _ s, .sl _ _ (.f _ xs), .i _ t], .agg [.f _ a, .f _ b, .f _ c, .f _ d]] => .leaf (.b true) | _ => .fail
def oc_laws_FnExactGuessesOf (list : List Nat) (l : Nat) (s : Nat) (xs : List Nat) (t : Int) (a : Nat) (b : Nat) (c : Nat) (d : Nat) (d : Nat) (as : List AV) : T AV := match d with | 24 => oc1_laws_szState as | 29 => oc1_laws_toFloat32S as | 31 => oc1_laws_toState as | 33 => oc1_laws_toShares as | 34 => oc1_spec_GuessesOf as | 38 => oc1_laws_toFloat32S as | 40 => oc1_laws_toState as | 45 => oc1_laws_toShares as | 46 => oc1_impl_GuessesOf as | 51 => oc1_laws_eqFloat32S as | 60 => oc1_laws_toFloat32S as | 61 => oc1_laws_eqFloat32S as | 65 => oc1_laws_toState as | 66 => oc1_laws_eqState as | 70 => oc1_laws_markFloat32S as | 73 => oc1_laws_markState as | 79 => oc1_laws_eqFloat32S as | 89 => oc1_laws_markFloat32S as | 92 => oc1_laws_heldFloat32S as | 100 => oc1_laws_toFloat32S as | 102 => oc1_laws_toState as | 104 => oc1_laws_toShares as | 105 => oc1_impl_GuessesOf as | 110 => oc1_laws_eqFloat32S as | 119 => oc1_laws_heldFloat32S as | _ => .fail



theorem q_laws_FnExactGuessesOf {P : Program} {g_f : FuncId} {g_laws_szState g_laws_toFloat32S g_laws_toState g_laws_toShares g_spec_GuessesOf g_impl_GuessesOf g_laws_eqFloat32S g_laws_eqState g_laws_markFloat32S g_laws_markState g_laws_heldFloat32S : FuncId} (h_ : Is_laws_FnExactGuessesOf P g_f g_laws_szState g_laws_toFloat32S g_laws_toState g_laws_toShares g_spec_GuessesOf g_impl_GuessesOf g_laws_eqFloat32S g_laws_eqState g_laws_markFloat32S g_laws_markState g_laws_heldFloat32S) (list : List Nat) (l : Nat) (s : Nat) (xs : List Nat) (t : Int) (a : Nat) (b : Nat) (c : Nat) (d : Nat) (ht : T.ok (fun x_ => x_ = .b true) (
      T.ob (false = false)
        (T.ob (false = false)
          (T.ite (decide ((↑(List.length list) : Int) > 1048576)) (T.leaf (AV.b true))
            (T.ob
              ((VCall P) g_laws_szState [AV.agg [AV.f FloatKind.f32 l, AV.f FloatKind.f32 s, AV.sl (Tag.par [0, 2]) 0 (Cont.f FloatKind.f32 xs), AV.i IntKind.i64 t], AV.i IntKind.i64 1048576]
                (AV.i IntKind.i64 (szM (List.length xs) 1048576)))
              (T.ite (decide (szM (List.length xs) 1048576 < 0)) (T.leaf (AV.b true))
                (T.ob ((VCall P) g_laws_toFloat32S [AV.sl (Tag.par [0]) 0 (Cont.f FloatKind.f32 list)] (AV.sl (Tag.own 0) 0 (Cont.f FloatKind.f32 list)))
                  (T.ob
                    ((VCall P) g_laws_toState [AV.agg [AV.f FloatKind.f32 l, AV.f FloatKind.f32 s, AV.sl (Tag.par [0, 2]) 0 (Cont.f FloatKind.f32 xs), AV.i IntKind.i64 t]]
                      (AV.agg [AV.f FloatKind.f32 l, AV.f FloatKind.f32 s, AV.sl (Tag.own 0) 0 (Cont.f FloatKind.f32 xs), AV.i IntKind.i64 t]))
                    (T.ob
                      ((VCall P) g_laws_toShares [AV.agg [AV.f FloatKind.f32 a, AV.f FloatKind.f32 b, AV.f FloatKind.f32 c, AV.f FloatKind.f32 d]]
                        (AV.agg [AV.f FloatKind.f32 a, AV.f FloatKind.f32 b, AV.f FloatKind.f32 c, AV.f FloatKind.f32 d]))
                      (T.ob
                        ((VCall P) g_spec_GuessesOf
                          [AV.sl (Tag.par [0]) 0 (Cont.f FloatKind.f32 list), AV.agg [AV.f FloatKind.f32 l, AV.f FloatKind.f32 s, AV.sl (Tag.par [1, 2]) 0 (Cont.f FloatKind.f32 xs), AV.i IntKind.i64 t],
                            AV.agg [AV.f FloatKind.f32 a, AV.f FloatKind.f32 b, AV.f FloatKind.f32 c, AV.f FloatKind.f32 d]]
                          (AV.tup
                            [AV.sl (Tag.own 0) 0 (Cont.f FloatKind.f32 (ivl (runOk a b c d list { l := l, s := s, xs := xs, t := t }) (runG a b c d list { l := l, s := s, xs := xs, t := t }))),
                              AV.b (runOk a b c d list { l := l, s := s, xs := xs, t := t })]))
                        (T.ob ((VCall P) g_laws_toFloat32S [AV.sl (Tag.par [0]) 0 (Cont.f FloatKind.f32 list)] (AV.sl (Tag.own 0) 0 (Cont.f FloatKind.f32 list)))
                          (T.ob
                            ((VCall P) g_laws_toState [AV.agg [AV.f FloatKind.f32 l, AV.f FloatKind.f32 s, AV.sl (Tag.par [0, 2]) 0 (Cont.f FloatKind.f32 xs), AV.i IntKind.i64 t]]
                              (AV.agg [AV.f FloatKind.f32 l, AV.f FloatKind.f32 s, AV.sl (Tag.own 0) 0 (Cont.f FloatKind.f32 xs), AV.i IntKind.i64 t]))
                            (T.ob (false = false)
                              (T.ob
                                ((VCall P) g_laws_toShares [AV.agg [AV.f FloatKind.f32 a, AV.f FloatKind.f32 b, AV.f FloatKind.f32 c, AV.f FloatKind.f32 d]]
                                  (AV.agg [AV.f FloatKind.f32 a, AV.f FloatKind.f32 b, AV.f FloatKind.f32 c, AV.f FloatKind.f32 d]))
                                (T.ob
                                  ((VCall P) g_impl_GuessesOf
                                    [AV.sl (Tag.par [0]) 0 (Cont.f FloatKind.f32 list), AV.agg [AV.f FloatKind.f32 l, AV.f FloatKind.f32 s, AV.sl (Tag.par [1, 2]) 0 (Cont.f FloatKind.f32 xs), AV.i IntKind.i64 t],
                                      AV.agg [AV.f FloatKind.f32 a, AV.f FloatKind.f32 b, AV.f FloatKind.f32 c, AV.f FloatKind.f32 d]]
                                    (AV.tup
                                      [AV.sl (Tag.own 0) 0 (Cont.f FloatKind.f32 (ivl (runOk a b c d list { l := l, s := s, xs := xs, t := t }) (runG a b c d list { l := l, s := s, xs := xs, t := t }))),
                                        AV.b (runOk a b c d list { l := l, s := s, xs := xs, t := t })]))
                                  (T.ob
                                    ((VCall P) g_laws_eqFloat32S
                                      [AV.sl (Tag.par [0]) 0 (Cont.f FloatKind.f32 (ivl (runOk a b c d list { l := l, s := s, xs := xs, t := t }) (runG a b c d list { l := l, s := s, xs := xs, t := t }))),
                                        AV.sl (Tag.par [1]) 0 (Cont.f FloatKind.f32 (ivl (runOk a b c d list { l := l, s := s, xs := xs, t := t }) (runG a b c d list { l := l, s := s, xs := xs, t := t })))]
                                      (AV.b true))
                                    (T.ite false (T.leaf (AV.b false))
                                      (T.ite (!runOk a b c d list { l := l, s := s, xs := xs, t := t } == runOk a b c d list { l := l, s := s, xs := xs, t := t }) (T.leaf (AV.b false))
                                        (T.ob ((VCall P) g_laws_toFloat32S [AV.sl (Tag.par [0]) 0 (Cont.f FloatKind.f32 list)] (AV.sl (Tag.own 0) 0 (Cont.f FloatKind.f32 list)))
                                          (T.ob ((VCall P) g_laws_eqFloat32S [AV.sl (Tag.par [0]) 0 (Cont.f FloatKind.f32 list), AV.sl (Tag.par [1]) 0 (Cont.f FloatKind.f32 list)] (AV.b true))
                                            (T.ite false (T.leaf (AV.b false))
                                              (T.ob
                                                ((VCall P) g_laws_toState [AV.agg [AV.f FloatKind.f32 l, AV.f FloatKind.f32 s, AV.sl (Tag.par [0, 2]) 0 (Cont.f FloatKind.f32 xs), AV.i IntKind.i64 t]]
                                                  (AV.agg [AV.f FloatKind.f32 l, AV.f FloatKind.f32 s, AV.sl (Tag.own 0) 0 (Cont.f FloatKind.f32 xs), AV.i IntKind.i64 t]))
                                                (T.ob
                                                  ((VCall P) g_laws_eqState
                                                    [AV.agg [AV.f FloatKind.f32 l, AV.f FloatKind.f32 s, AV.sl (Tag.par [0, 2]) 0 (Cont.f FloatKind.f32 xs), AV.i IntKind.i64 t],
                                                      AV.agg [AV.f FloatKind.f32 l, AV.f FloatKind.f32 s, AV.sl (Tag.par [1, 2]) 0 (Cont.f FloatKind.f32 xs), AV.i IntKind.i64 t]]
                                                    (AV.b true))
                                                  (T.ite false (T.leaf (AV.b false))
                                                    (T.ob
                                                      ((VCall P) g_laws_markFloat32S [AV.sl (Tag.own 800000) 0 (Cont.f FloatKind.f32 list), AV.i IntKind.i64 1]
                                                          (AV.bx Tag.nil
                                                            [AV.i IntKind.i64 (1 + (↑(List.length list) : Int)), AV.tup [AV.sl (Tag.own 800000) 0 (Cont.f FloatKind.f32 (marksM (List.length list) 1)), AV.i IntKind.i64 1]]) ∧
                                                        List.length list = List.length (marksM (List.length list) 1) ∧ List.length list = List.length (marksM (List.length list) 1) ∧ True)
                                                      (T.ob
                                                        ((VCall P) g_laws_markState
                                                            [AV.agg [AV.f FloatKind.f32 l, AV.f FloatKind.f32 s, AV.sl (Tag.own 800000) 0 (Cont.f FloatKind.f32 xs), AV.i IntKind.i64 t],
                                                              AV.i IntKind.i64 (1 + (↑(List.length list) : Int))]
                                                            (AV.bx Tag.nil
                                                              [AV.i IntKind.i64 (1 + (↑(List.length list) : Int) + (↑(List.length xs) : Int)),
                                                                AV.tup
                                                                  [AV.agg
                                                                      [AV.f FloatKind.f32 l, AV.f FloatKind.f32 s, AV.sl (Tag.own 800000) 0 (Cont.f FloatKind.f32 (marksM (List.length xs) (1 + (↑(List.length list) : Int)))),
                                                                        AV.i IntKind.i64 t],
                                                                    AV.i IntKind.i64 (1 + (↑(List.length list) : Int))]]) ∧
                                                          List.length xs = List.length (marksM (List.length xs) (1 + (↑(List.length list) : Int))) ∧
                                                            List.length xs = List.length (marksM (List.length xs) (1 + (↑(List.length list) : Int))) ∧ True)
                                                        (T.ite false (T.leaf (AV.b false))
                                                          (T.ob
                                                            ((VCall P) g_laws_eqFloat32S
                                                              [AV.sl (Tag.par [0]) 0
                                                                  (Cont.f FloatKind.f32 (ivl (runOk a b c d list { l := l, s := s, xs := xs, t := t }) (runG a b c d list { l := l, s := s, xs := xs, t := t }))),
                                                                AV.sl (Tag.par [1]) 0
                                                                  (Cont.f FloatKind.f32 (ivl (runOk a b c d list { l := l, s := s, xs := xs, t := t }) (runG a b c d list { l := l, s := s, xs := xs, t := t })))]
                                                              (AV.b true))
                                                            (T.ite false (T.leaf (AV.b false))
                                                              (T.ite (!runOk a b c d list { l := l, s := s, xs := xs, t := t } == runOk a b c d list { l := l, s := s, xs := xs, t := t }) (T.leaf (AV.b false))
                                                                (T.ob
                                                                  ((VCall P) g_laws_markFloat32S
                                                                      [AV.sl (Tag.own 800000) 0
                                                                          (Cont.f FloatKind.f32 (ivl (runOk a b c d list { l := l, s := s, xs := xs, t := t }) (runG a b c d list { l := l, s := s, xs := xs, t := t }))),
                                                                        AV.i IntKind.i64 1]
                                                                      (AV.bx Tag.nil
                                                                        [AV.i IntKind.i64
                                                                            (1 + (↑(List.length (ivl (runOk a b c d list { l := l, s := s, xs := xs, t := t }) (runG a b c d list { l := l, s := s, xs := xs, t := t }))) : Int)),
                                                                          AV.tup
                                                                            [AV.sl (Tag.own 800000) 0
                                                                                (Cont.f FloatKind.f32
                                                                                  (marksM (List.length (ivl (runOk a b c d list { l := l, s := s, xs := xs, t := t }) (runG a b c d list { l := l, s := s, xs := xs, t := t })))
                                                                                    1)),
                                                                              AV.i IntKind.i64 1]]) ∧
                                                                    List.length (ivl (runOk a b c d list { l := l, s := s, xs := xs, t := t }) (runG a b c d list { l := l, s := s, xs := xs, t := t })) =
                                                                        List.length
                                                                          (marksM (List.length (ivl (runOk a b c d list { l := l, s := s, xs := xs, t := t }) (runG a b c d list { l := l, s := s, xs := xs, t := t }))) 1) ∧
                                                                      List.length (ivl (runOk a b c d list { l := l, s := s, xs := xs, t := t }) (runG a b c d list { l := l, s := s, xs := xs, t := t })) =
                                                                          List.length
                                                                            (marksM (List.length (ivl (runOk a b c d list { l := l, s := s, xs := xs, t := t }) (runG a b c d list { l := l, s := s, xs := xs, t := t }))) 1) ∧
                                                                        True)
                                                                  (T.ob
                                                                    ((VCall P) g_laws_heldFloat32S
                                                                      [AV.sl (Tag.par [0]) 0
                                                                          (Cont.f FloatKind.f32
                                                                            (marksM (List.length (ivl (runOk a b c d list { l := l, s := s, xs := xs, t := t }) (runG a b c d list { l := l, s := s, xs := xs, t := t }))) 1)),
                                                                        AV.i IntKind.i64 1]
                                                                      (AV.i IntKind.i64
                                                                        (1 +
                                                                          (↑(List.length
                                                                                (marksM (List.length (ivl (runOk a b c d list { l := l, s := s, xs := xs, t := t }) (runG a b c d list { l := l, s := s, xs := xs, t := t })))
                                                                                  1)) :
                                                                            Int))))
                                                                    (T.ite false (T.leaf (AV.b false))
                                                                      (T.ite
                                                                        (1 +
                                                                            (↑(List.length
                                                                                  (marksM (List.length (ivl (runOk a b c d list { l := l, s := s, xs := xs, t := t }) (runG a b c d list { l := l, s := s, xs := xs, t := t })))
                                                                                    1)) :
                                                                              Int) !=
                                                                          1 + (↑(List.length (ivl (runOk a b c d list { l := l, s := s, xs := xs, t := t }) (runG a b c d list { l := l, s := s, xs := xs, t := t }))) : Int))
                                                                        (T.leaf (AV.b false))
                                                                        (T.ob ((VCall P) g_laws_toFloat32S [AV.sl (Tag.par [0]) 0 (Cont.f FloatKind.f32 list)] (AV.sl (Tag.own 0) 0 (Cont.f FloatKind.f32 list)))
                                                                          (T.ob
                                                                            ((VCall P) g_laws_toState [AV.agg [AV.f FloatKind.f32 l, AV.f FloatKind.f32 s, AV.sl (Tag.par [0, 2]) 0 (Cont.f FloatKind.f32 xs), AV.i IntKind.i64 t]]
                                                                              (AV.agg [AV.f FloatKind.f32 l, AV.f FloatKind.f32 s, AV.sl (Tag.own 0) 0 (Cont.f FloatKind.f32 xs), AV.i IntKind.i64 t]))
                                                                            (T.ob
                                                                              ((VCall P) g_laws_toShares [AV.agg [AV.f FloatKind.f32 a, AV.f FloatKind.f32 b, AV.f FloatKind.f32 c, AV.f FloatKind.f32 d]]
                                                                                (AV.agg [AV.f FloatKind.f32 a, AV.f FloatKind.f32 b, AV.f FloatKind.f32 c, AV.f FloatKind.f32 d]))
                                                                              (T.ob
                                                                                ((VCall P) g_impl_GuessesOf
                                                                                  [AV.sl (Tag.par [0]) 0 (Cont.f FloatKind.f32 list),
                                                                                    AV.agg [AV.f FloatKind.f32 l, AV.f FloatKind.f32 s, AV.sl (Tag.par [1, 2]) 0 (Cont.f FloatKind.f32 xs), AV.i IntKind.i64 t],
                                                                                    AV.agg [AV.f FloatKind.f32 a, AV.f FloatKind.f32 b, AV.f FloatKind.f32 c, AV.f FloatKind.f32 d]]
                                                                                  (AV.tup
                                                                                    [AV.sl (Tag.own 0) 0
                                                                                        (Cont.f FloatKind.f32
                                                                                          (ivl (runOk a b c d list { l := l, s := s, xs := xs, t := t }) (runG a b c d list { l := l, s := s, xs := xs, t := t }))),
                                                                                      AV.b (runOk a b c d list { l := l, s := s, xs := xs, t := t })]))
                                                                                (T.ob
                                                                                  ((VCall P) g_laws_eqFloat32S
                                                                                    [AV.sl (Tag.par [0]) 0
                                                                                        (Cont.f FloatKind.f32
                                                                                          (ivl (runOk a b c d list { l := l, s := s, xs := xs, t := t }) (runG a b c d list { l := l, s := s, xs := xs, t := t }))),
                                                                                      AV.sl (Tag.par [1]) 0
                                                                                        (Cont.f FloatKind.f32
                                                                                          (ivl (runOk a b c d list { l := l, s := s, xs := xs, t := t }) (runG a b c d list { l := l, s := s, xs := xs, t := t })))]
                                                                                    (AV.b true))
                                                                                  (T.ite false (T.leaf (AV.b false))
                                                                                    (T.ite (!runOk a b c d list { l := l, s := s, xs := xs, t := t } == runOk a b c d list { l := l, s := s, xs := xs, t := t })
                                                                                      (T.leaf (AV.b false))
                                                                                      (T.ob
                                                                                        ((VCall P) g_laws_heldFloat32S
                                                                                          [AV.sl (Tag.par [0]) 0
                                                                                              (Cont.f FloatKind.f32
                                                                                                (marksM
                                                                                                  (List.length
                                                                                                    (ivl (runOk a b c d list { l := l, s := s, xs := xs, t := t }) (runG a b c d list { l := l, s := s, xs := xs, t := t })))
                                                                                                  1)),
                                                                                            AV.i IntKind.i64 1]
                                                                                          (AV.i IntKind.i64
                                                                                            (1 +
                                                                                              (↑(List.length
                                                                                                    (marksM
                                                                                                      (List.length
                                                                                                        (ivl (runOk a b c d list { l := l, s := s, xs := xs, t := t }) (runG a b c d list { l := l, s := s, xs := xs, t := t })))
                                                                                                      1)) :
                                                                                                Int))))
                                                                                        (T.ite false (T.leaf (AV.b false))
                                                                                          (T.ite
                                                                                            (1 +
                                                                                                (↑(List.length
                                                                                                      (marksM
                                                                                                        (List.length
                                                                                                          (ivl (runOk a b c d list { l := l, s := s, xs := xs, t := t })
                                                                                                            (runG a b c d list { l := l, s := s, xs := xs, t := t })))
                                                                                                        1)) :
                                                                                                  Int) !=
                                                                                              1 +
                                                                                                (↑(List.length
                                                                                                      (ivl (runOk a b c d list { l := l, s := s, xs := xs, t := t }) (runG a b c d list { l := l, s := s, xs := xs, t := t }))) :
                                                                                                  Int))
                                                                                            (T.leaf (AV.b false)) (T.leaf (AV.b true)))))))))))))))))))))))))))))))))))))))))))))) :
    VCall P g_f [PS [0] .f32 list, .agg (ST (.par [1, 2]) l s xs t), .agg (F4 a b c d)] (.b true) := h_.call_of ps_laws_FnExactGuessesOf ⟨oc_laws_FnExactGuessesOf list l s xs t a b c d, fun _ _ => none⟩ (by kernel_rfl) ht

-- END laws_FnExactGuessesOf
theorem k_laws_FnExactGuessesOf {P : Program} {f g_laws_szState g_laws_toFloat32S g_laws_toState g_laws_toShares g_spec_GuessesOf g_impl_GuessesOf g_laws_eqFloat32S g_laws_eqState g_laws_markFloat32S g_laws_markState g_laws_heldFloat32S : FuncId} (h : Is_laws_FnExactGuessesOf P f g_laws_szState g_laws_toFloat32S g_laws_toState g_laws_toShares g_spec_GuessesOf g_impl_GuessesOf g_laws_eqFloat32S g_laws_eqState g_laws_markFloat32S g_laws_markState g_laws_heldFloat32S) (c1 : C_laws_szState P g_laws_szState) (c2 : C_laws_toFloat32S P g_laws_toFloat32S) (c3 : C_laws_toState P g_laws_toState) (c4 : C_laws_toShares P g_laws_toShares) (c5 : C_spec_GuessesOf P g_spec_GuessesOf) (c6 : C_impl_GuessesOf P g_impl_GuessesOf) (c7 : C_laws_eqFloat32S P g_laws_eqFloat32S) (c8 : C_laws_eqState P g_laws_eqState) (c9 : C_laws_markFloat32S P g_laws_markFloat32S) (c10 : C_laws_markState P g_laws_markState) (c11 : C_laws_heldFloat32S P g_laws_heldFloat32S) : C_laws_FnExactGuessesOf P f := by
  intro list l s xs t a b c d hl hx
  refine q_laws_FnExactGuessesOf h list l s xs t a b c d ?_
  have hR : (ivl (runOk a b c d list ⟨l, s, xs, t⟩) (runG a b c d list ⟨l, s, xs, t⟩)).length ≤ list.length := by
    unfold ivl; split
    · unfold runG; rw [tab_len]; exact Nat.le_refl _
    · simp
  have bc5 := c5 list l s xs t a b c d hl hx
  have bc6 := c6 list l s xs t a b c d hl hx
  generalize ivl (runOk a b c d list ⟨l, s, xs, t⟩) (runG a b c d list ⟨l, s, xs, t⟩) = R at *
  repeat' (first | with_reducible refine T.ok_ob ?_ (fun _ => ?_) | with_reducible refine T.ok_ite (fun _ => ?_) (fun _ => ?_) | with_reducible refine T.ok_leaf ?_)
  all_goals (try simp only [decide_eq_true_eq, decide_eq_false_iff_not, sz_lt, gt_iff_lt, Int.not_lt, Bool.not_beq_self, bne_self_eq_false, beq_self_eq_true] at *)
  all_goals (try simp (disch := omega) only [sz_val] at *)
  all_goals first | with_reducible rfl | with_reducible assumption | ((with_reducible refine c1 _ _ _ _ _ ?_ ?_) <;> (first | assumption | omega | with_reducible rfl | (simp [maxLen_eq]; done) | (simp [maxLen_eq]; omega))) | ((with_reducible refine c2 _ ?_) <;> (first | assumption | omega | with_reducible rfl | (simp [maxLen_eq]; done) | (simp [maxLen_eq]; omega))) | ((with_reducible refine c3 _ _ _ _ ?_) <;> (first | assumption | omega | with_reducible rfl | (simp [maxLen_eq]; done) | (simp [maxLen_eq]; omega))) | with_reducible exact c4 _ _ _ _ | ((with_reducible refine c5 _ _ _ _ _ _ _ _ _ ?_ ?_) <;> (first | assumption | omega | with_reducible rfl | (simp [maxLen_eq]; done) | (simp [maxLen_eq]; omega))) | ((with_reducible refine c6 _ _ _ _ _ _ _ _ _ ?_ ?_) <;> (first | assumption | omega | with_reducible rfl | (simp [maxLen_eq]; done) | (simp [maxLen_eq]; omega))) | ((with_reducible refine c7 _ _ rfl ?_) <;> (first | assumption | omega | with_reducible rfl | (simp [maxLen_eq]; done) | (simp [maxLen_eq]; omega))) | ((with_reducible refine c8 _ _ _ _ _ rfl ?_) <;> (first | assumption | omega | with_reducible rfl | (simp [maxLen_eq]; done) | (simp [maxLen_eq]; omega))) | ((with_reducible refine ⟨c9 _ _ ?_ ?_, ?_⟩) <;> first | assumption | omega | (simp [marks_len]; done) | (simp [marks_len]; omega)) | ((with_reducible refine ⟨c10 _ _ _ _ _ ?_ ?_, ?_⟩) <;> first | assumption | omega | (simp [marks_len]; done) | (simp [marks_len]; omega)) | ((with_reducible refine c11 _ _ _ rfl ?_ ?_) <;> (first | assumption | omega | with_reducible rfl | (simp [maxLen_eq]; done) | (simp [maxLen_eq]; omega))) | contradiction | exact fconvOk_32_64 _ | assumption | exact rfl | (simp only [marks_len, bne_self_eq_false, Bool.false_eq_true] at *; done) | (simp_all [marks_len]; done) | (simp_all [T.ok, marks_len]; omega)


end Go.Proofs.LV
