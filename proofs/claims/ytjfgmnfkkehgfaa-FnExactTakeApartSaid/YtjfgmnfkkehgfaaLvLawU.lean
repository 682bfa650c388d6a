/- The law FnExactTakeApart. -/
import Derived.Test.YtjfgmnfkkehgfaaLvFnDD
import Derived.Test.YtjfgmnfkkehgfaaLvLawG
namespace Go.Proofs.LV
open Go
set_option linter.unusedVariables false
set_option linter.unusedSimpArgs false

-- FN laws_FnExactTakeApart
/-- laws.FnExactTakeApart: slots 182, results [.t 8]; calls [30:g_laws_toFloat32S, 34:g_spec_TakeApart, 40:g_laws_toFloat32S, 46:g_impl_TakeApart, 53:g_laws_eqFloat32S, 58:g_laws_eqFloat32S, 64:g_laws_eqFloat32S, 74:g_laws_toFloat32S, 75:g_laws_eqFloat32S, 79:g_laws_markFloat32S, 85:g_laws_eqFloat32S, 91:g_laws_eqFloat32S, 97:g_laws_eqFloat32S, 107:g_laws_markFloat32S, 110:g_laws_markFloat32S, 113:g_laws_markFloat32S, 116:g_laws_heldFloat32S, 121:g_laws_heldFloat32S, 126:g_laws_heldFloat32S, 134:g_laws_toFloat32S, 138:g_impl_TakeApart, 145:g_laws_eqFloat32S, 150:g_laws_eqFloat32S, 156:g_laws_eqFloat32S, 166:g_laws_heldFloat32S, 171:g_laws_heldFloat32S, 176:g_laws_heldFloat32S]; names [(aList, 0), (aPeriod, 1), (aSide, 2), (aRounds, 3), (aList, 4), (aPeriod, 5), (aSide, 6), (aRounds, 7), (w0, 9), (w1, 10), (w2, 11), (w3, 12), (x0, 13), (g0, 14), (g1, 15), (g2, 16), (g3, 17), (k, 18), (m, 19), (q, 20), (h0, 21), (h1, 22), (h2, 23), (h3, 24)] -/
def ps_laws_FnExactTakeApart : List Nat := [0, 1, 2, 3, 8, 9, 10, 11, 12, 13, 14, 15, 16, 17, 18, 19, 20, 21, 22, 23, 24, 27, 71, 76, 104, 118, 123, 128, 131, 163, 168, 173, 178, 181]
def b_laws_FnExactTakeApart (g_laws_toFloat32S g_spec_TakeApart g_impl_TakeApart g_laws_eqFloat32S g_laws_markFloat32S g_laws_heldFloat32S : FuncId) : VCode :=
  (.seq
   (.region false [
    ⟨some 8, .mv, [.k (.b false)], none⟩])
   (.seq
    (.seq
     (.region false [
      ⟨some 25, .mv, [.t 0], none⟩,
      ⟨some 26, .len, [.t 25], none⟩,
      ⟨some 27, (.bin .gtr), [.t 26, .k (.i .i64 1048576)], none⟩])
     (.cond (.t 27)
      (.seq
       (.region false [
        ⟨some 8, .mv, [.k (.b true)], none⟩])
       .ret)
      .skip))
    (.seq
     (.region false [
      ⟨some 29, .mv, [.t 0], none⟩,
      ⟨some 30, (.call g_laws_toFloat32S), [.t 29], none⟩,
      ⟨some 31, .mv, [.t 1], none⟩,
      ⟨some 32, .mv, [.t 2], none⟩,
      ⟨some 33, .mv, [.t 3], none⟩,
      ⟨some 34, (.call g_spec_TakeApart), [.t 30, .t 31, .t 32, .t 33], none⟩,
      ⟨some 28, .mv, [.t 34], none⟩,
      ⟨some 35, (.extract 0), [.t 28], none⟩,
      ⟨some 36, (.extract 1), [.t 28], none⟩,
      ⟨some 37, (.extract 2), [.t 28], none⟩,
      ⟨some 38, (.extract 3), [.t 28], none⟩,
      ⟨some 9, .mv, [.t 35], none⟩,
      ⟨some 10, .mv, [.t 36], none⟩,
      ⟨some 11, .mv, [.t 37], none⟩,
      ⟨some 12, .mv, [.t 38], none⟩])
     (.seq
      (.region false [
       ⟨some 39, .mv, [.t 0], none⟩,
       ⟨some 40, (.call g_laws_toFloat32S), [.t 39], none⟩,
       ⟨some 13, .mv, [.t 40], none⟩])
      (.seq
       (.region false [
        ⟨some 42, .mv, [.t 13], none⟩,
        ⟨some 43, .mv, [.t 1], none⟩,
        ⟨some 44, .mv, [.t 2], none⟩,
        ⟨some 45, .mv, [.t 3], none⟩,
        ⟨some 46, (.call g_impl_TakeApart), [.t 42, .t 43, .t 44, .t 45], none⟩,
        ⟨some 41, .mv, [.t 46], none⟩,
        ⟨some 47, (.extract 0), [.t 41], none⟩,
        ⟨some 48, (.extract 1), [.t 41], none⟩,
        ⟨some 49, (.extract 2), [.t 41], none⟩,
        ⟨some 50, (.extract 3), [.t 41], none⟩,
        ⟨some 14, .mv, [.t 47], none⟩,
        ⟨some 15, .mv, [.t 48], none⟩,
        ⟨some 16, .mv, [.t 49], none⟩,
        ⟨some 17, .mv, [.t 50], none⟩])
       (.seq
        (.seq
         (.region false [
          ⟨some 51, .mv, [.t 14], none⟩,
          ⟨some 52, .mv, [.t 9], none⟩,
          ⟨some 53, (.call g_laws_eqFloat32S), [.t 51, .t 52], none⟩,
          ⟨some 54, .not, [.t 53], none⟩,
          ⟨some 55, .mv, [.t 54], none⟩,
          ⟨some 56, .mv, [.t 15], some (55, false)⟩,
          ⟨some 57, .mv, [.t 10], some (55, false)⟩,
          ⟨some 58, (.call g_laws_eqFloat32S), [.t 56, .t 57], some (55, false)⟩,
          ⟨some 59, .not, [.t 58], some (55, false)⟩,
          ⟨some 60, .pick, [.t 55, .k (.b true), .t 59], none⟩,
          ⟨some 61, .mv, [.t 60], none⟩,
          ⟨some 62, .mv, [.t 16], some (61, false)⟩,
          ⟨some 63, .mv, [.t 11], some (61, false)⟩,
          ⟨some 64, (.call g_laws_eqFloat32S), [.t 62, .t 63], some (61, false)⟩,
          ⟨some 65, .not, [.t 64], some (61, false)⟩,
          ⟨some 66, .pick, [.t 61, .k (.b true), .t 65], none⟩,
          ⟨some 67, .mv, [.t 66], none⟩,
          ⟨some 68, .mv, [.t 17], some (67, false)⟩,
          ⟨some 69, .mv, [.t 12], some (67, false)⟩,
          ⟨some 70, (.binb .neq), [.t 68, .t 69], some (67, false)⟩,
          ⟨some 71, .pick, [.t 67, .k (.b true), .t 70], none⟩])
         (.cond (.t 71)
          (.seq
           (.region false [
            ⟨some 8, .mv, [.k (.b false)], none⟩])
           .ret)
          .skip))
        (.seq
         (.seq
          (.region false [
           ⟨some 72, .mv, [.t 13], none⟩,
           ⟨some 73, .mv, [.t 0], none⟩,
           ⟨some 74, (.call g_laws_toFloat32S), [.t 73], none⟩,
           ⟨some 75, (.call g_laws_eqFloat32S), [.t 72, .t 74], none⟩,
           ⟨some 76, .not, [.t 75], none⟩])
          (.cond (.t 76)
           (.seq
            (.region false [
             ⟨some 8, .mv, [.k (.b false)], none⟩])
            .ret)
           .skip))
         (.seq
          (.region false [
           ⟨some 18, .mv, [.k (.i .i64 1)], none⟩])
          (.seq
           (.region false [
            ⟨some 77, .mv, [.t 13], none⟩,
            ⟨some 78, .mv, [.t 18], none⟩,
            ⟨some 79, (.call g_laws_markFloat32S), [.t 77, .t 78], none⟩,
            ⟨some 18, .mv, [.t 79], none⟩])
           (.seq
            (.seq
             (.region false [
              ⟨some 80, .mv, [.t 18], none⟩,
              ⟨some 81, (.bin .lss), [.t 80, .k (.i .i64 0)], none⟩,
              ⟨some 82, .mv, [.t 81], none⟩,
              ⟨some 83, .mv, [.t 14], some (82, false)⟩,
              ⟨some 84, .mv, [.t 9], some (82, false)⟩,
              ⟨some 85, (.call g_laws_eqFloat32S), [.t 83, .t 84], some (82, false)⟩,
              ⟨some 86, .not, [.t 85], some (82, false)⟩,
              ⟨some 87, .pick, [.t 82, .k (.b true), .t 86], none⟩,
              ⟨some 88, .mv, [.t 87], none⟩,
              ⟨some 89, .mv, [.t 15], some (88, false)⟩,
              ⟨some 90, .mv, [.t 10], some (88, false)⟩,
              ⟨some 91, (.call g_laws_eqFloat32S), [.t 89, .t 90], some (88, false)⟩,
              ⟨some 92, .not, [.t 91], some (88, false)⟩,
              ⟨some 93, .pick, [.t 88, .k (.b true), .t 92], none⟩,
              ⟨some 94, .mv, [.t 93], none⟩,
              ⟨some 95, .mv, [.t 16], some (94, false)⟩,
              ⟨some 96, .mv, [.t 11], some (94, false)⟩,
              ⟨some 97, (.call g_laws_eqFloat32S), [.t 95, .t 96], some (94, false)⟩,
              ⟨some 98, .not, [.t 97], some (94, false)⟩,
              ⟨some 99, .pick, [.t 94, .k (.b true), .t 98], none⟩,
              ⟨some 100, .mv, [.t 99], none⟩,
              ⟨some 101, .mv, [.t 17], some (100, false)⟩,
              ⟨some 102, .mv, [.t 12], some (100, false)⟩,
              ⟨some 103, (.binb .neq), [.t 101, .t 102], some (100, false)⟩,
              ⟨some 104, .pick, [.t 100, .k (.b true), .t 103], none⟩])
             (.cond (.t 104)
              (.seq
               (.region false [
                ⟨some 8, .mv, [.k (.b false)], none⟩])
               .ret)
              .skip))
            (.seq
             (.region false [
              ⟨some 19, .mv, [.k (.i .i64 1)], none⟩])
             (.seq
              (.region false [
               ⟨some 105, .mv, [.t 14], none⟩,
               ⟨some 106, .mv, [.t 19], none⟩,
               ⟨some 107, (.call g_laws_markFloat32S), [.t 105, .t 106], none⟩,
               ⟨some 19, .mv, [.t 107], none⟩])
              (.seq
               (.region false [
                ⟨some 108, .mv, [.t 15], none⟩,
                ⟨some 109, .mv, [.t 19], none⟩,
                ⟨some 110, (.call g_laws_markFloat32S), [.t 108, .t 109], none⟩,
                ⟨some 19, .mv, [.t 110], none⟩])
               (.seq
                (.region false [
                 ⟨some 111, .mv, [.t 16], none⟩,
                 ⟨some 112, .mv, [.t 19], none⟩,
                 ⟨some 113, (.call g_laws_markFloat32S), [.t 111, .t 112], none⟩,
                 ⟨some 19, .mv, [.t 113], none⟩])
                (.seq
                 (.region false [
                  ⟨some 20, .mv, [.k (.i .i64 1)], none⟩])
                 (.seq
                  (.region false [
                   ⟨some 114, .mv, [.t 14], none⟩,
                   ⟨some 115, .mv, [.t 20], none⟩,
                   ⟨some 116, (.call g_laws_heldFloat32S), [.t 114, .t 115], none⟩,
                   ⟨some 20, .mv, [.t 116], none⟩])
                  (.seq
                   (.seq
                    (.region false [
                     ⟨some 117, .mv, [.t 20], none⟩,
                     ⟨some 118, (.bin .lss), [.t 117, .k (.i .i64 0)], none⟩])
                    (.cond (.t 118)
                     (.seq
                      (.region false [
                       ⟨some 8, .mv, [.k (.b false)], none⟩])
                      .ret)
                     .skip))
                   (.seq
                    (.region false [
                     ⟨some 119, .mv, [.t 15], none⟩,
                     ⟨some 120, .mv, [.t 20], none⟩,
                     ⟨some 121, (.call g_laws_heldFloat32S), [.t 119, .t 120], none⟩,
                     ⟨some 20, .mv, [.t 121], none⟩])
                    (.seq
                     (.seq
                      (.region false [
                       ⟨some 122, .mv, [.t 20], none⟩,
                       ⟨some 123, (.bin .lss), [.t 122, .k (.i .i64 0)], none⟩])
                      (.cond (.t 123)
                       (.seq
                        (.region false [
                         ⟨some 8, .mv, [.k (.b false)], none⟩])
                        .ret)
                       .skip))
                     (.seq
                      (.region false [
                       ⟨some 124, .mv, [.t 16], none⟩,
                       ⟨some 125, .mv, [.t 20], none⟩,
                       ⟨some 126, (.call g_laws_heldFloat32S), [.t 124, .t 125], none⟩,
                       ⟨some 20, .mv, [.t 126], none⟩])
                      (.seq
                       (.seq
                        (.region false [
                         ⟨some 127, .mv, [.t 20], none⟩,
                         ⟨some 128, (.bin .lss), [.t 127, .k (.i .i64 0)], none⟩])
                        (.cond (.t 128)
                         (.seq
                          (.region false [
                           ⟨some 8, .mv, [.k (.b false)], none⟩])
                          .ret)
                         .skip))
                       (.seq
                        (.seq
                         (.region false [
                          ⟨some 129, .mv, [.t 20], none⟩,
                          ⟨some 130, .mv, [.t 19], none⟩,
                          ⟨some 131, (.bin .neq), [.t 129, .t 130], none⟩])
                         (.cond (.t 131)
                          (.seq
                           (.region false [
                            ⟨some 8, .mv, [.k (.b false)], none⟩])
                           .ret)
                          .skip))
                        (.seq
                         (.region false [
                          ⟨some 133, .mv, [.t 0], none⟩,
                          ⟨some 134, (.call g_laws_toFloat32S), [.t 133], none⟩,
                          ⟨some 135, .mv, [.t 1], none⟩,
                          ⟨some 136, .mv, [.t 2], none⟩,
                          ⟨some 137, .mv, [.t 3], none⟩,
                          ⟨some 138, (.call g_impl_TakeApart), [.t 134, .t 135, .t 136, .t 137], none⟩,
                          ⟨some 132, .mv, [.t 138], none⟩,
                          ⟨some 139, (.extract 0), [.t 132], none⟩,
                          ⟨some 140, (.extract 1), [.t 132], none⟩,
                          ⟨some 141, (.extract 2), [.t 132], none⟩,
                          ⟨some 142, (.extract 3), [.t 132], none⟩,
                          ⟨some 21, .mv, [.t 139], none⟩,
                          ⟨some 22, .mv, [.t 140], none⟩,
                          ⟨some 23, .mv, [.t 141], none⟩,
                          ⟨some 24, .mv, [.t 142], none⟩])
                         (.seq
                          (.seq
                           (.region false [
                            ⟨some 143, .mv, [.t 21], none⟩,
                            ⟨some 144, .mv, [.t 9], none⟩,
                            ⟨some 145, (.call g_laws_eqFloat32S), [.t 143, .t 144], none⟩,
                            ⟨some 146, .not, [.t 145], none⟩,
                            ⟨some 147, .mv, [.t 146], none⟩,
                            ⟨some 148, .mv, [.t 22], some (147, false)⟩,
                            ⟨some 149, .mv, [.t 10], some (147, false)⟩,
                            ⟨some 150, (.call g_laws_eqFloat32S), [.t 148, .t 149], some (147, false)⟩,
                            ⟨some 151, .not, [.t 150], some (147, false)⟩,
                            ⟨some 152, .pick, [.t 147, .k (.b true), .t 151], none⟩,
                            ⟨some 153, .mv, [.t 152], none⟩,
                            ⟨some 154, .mv, [.t 23], some (153, false)⟩,
                            ⟨some 155, .mv, [.t 11], some (153, false)⟩,
                            ⟨some 156, (.call g_laws_eqFloat32S), [.t 154, .t 155], some (153, false)⟩,
                            ⟨some 157, .not, [.t 156], some (153, false)⟩,
                            ⟨some 158, .pick, [.t 153, .k (.b true), .t 157], none⟩,
                            ⟨some 159, .mv, [.t 158], none⟩,
                            ⟨some 160, .mv, [.t 24], some (159, false)⟩,
                            ⟨some 161, .mv, [.t 12], some (159, false)⟩,
                            ⟨some 162, (.binb .neq), [.t 160, .t 161], some (159, false)⟩,
                            ⟨some 163, .pick, [.t 159, .k (.b true), .t 162], none⟩])
                           (.cond (.t 163)
                            (.seq
                             (.region false [
                              ⟨some 8, .mv, [.k (.b false)], none⟩])
                             .ret)
                            .skip))
                          (.seq
                           (.region false [
                            ⟨some 20, .mv, [.k (.i .i64 1)], none⟩])
                           (.seq
                            (.region false [
                             ⟨some 164, .mv, [.t 14], none⟩,
                             ⟨some 165, .mv, [.t 20], none⟩,
                             ⟨some 166, (.call g_laws_heldFloat32S), [.t 164, .t 165], none⟩,
                             ⟨some 20, .mv, [.t 166], none⟩])
                            (.seq
                             (.seq
                              (.region false [
                               ⟨some 167, .mv, [.t 20], none⟩,
                               ⟨some 168, (.bin .lss), [.t 167, .k (.i .i64 0)], none⟩])
                              (.cond (.t 168)
                               (.seq
                                (.region false [
                                 ⟨some 8, .mv, [.k (.b false)], none⟩])
                                .ret)
                               .skip))
                             (.seq
                              (.region false [
                               ⟨some 169, .mv, [.t 15], none⟩,
                               ⟨some 170, .mv, [.t 20], none⟩,
                               ⟨some 171, (.call g_laws_heldFloat32S), [.t 169, .t 170], none⟩,
                               ⟨some 20, .mv, [.t 171], none⟩])
                              (.seq
                               (.seq
                                (.region false [
                                 ⟨some 172, .mv, [.t 20], none⟩,
                                 ⟨some 173, (.bin .lss), [.t 172, .k (.i .i64 0)], none⟩])
                                (.cond (.t 173)
                                 (.seq
                                  (.region false [
                                   ⟨some 8, .mv, [.k (.b false)], none⟩])
                                  .ret)
                                 .skip))
                               (.seq
                                (.region false [
                                 ⟨some 174, .mv, [.t 16], none⟩,
                                 ⟨some 175, .mv, [.t 20], none⟩,
                                 ⟨some 176, (.call g_laws_heldFloat32S), [.t 174, .t 175], none⟩,
                                 ⟨some 20, .mv, [.t 176], none⟩])
                                (.seq
                                 (.seq
                                  (.region false [
                                   ⟨some 177, .mv, [.t 20], none⟩,
                                   ⟨some 178, (.bin .lss), [.t 177, .k (.i .i64 0)], none⟩])
                                  (.cond (.t 178)
                                   (.seq
                                    (.region false [
                                     ⟨some 8, .mv, [.k (.b false)], none⟩])
                                    .ret)
                                   .skip))
                                 (.seq
                                  (.seq
                                   (.region false [
                                    ⟨some 179, .mv, [.t 20], none⟩,
                                    ⟨some 180, .mv, [.t 19], none⟩,
                                    ⟨some 181, (.bin .neq), [.t 179, .t 180], none⟩])
                                   (.cond (.t 181)
                                    (.seq
                                     (.region false [
                                      ⟨some 8, .mv, [.k (.b false)], none⟩])
                                     .ret)
                                    .skip))
                                  (.seq
                                   (.region false [
                                    ⟨some 8, .mv, [.k (.b true)], none⟩])
                                   .ret)))))))))))))))))))))))))))))))))

abbrev Is_laws_FnExactTakeApart (P : Program) (g_f : FuncId) (g_laws_toFloat32S g_spec_TakeApart g_impl_TakeApart g_laws_eqFloat32S g_laws_markFloat32S g_laws_heldFloat32S : FuncId) : Prop := FnIs P g_f 182 [.t 8] (b_laws_FnExactTakeApart g_laws_toFloat32S g_spec_TakeApart g_impl_TakeApart g_laws_eqFloat32S g_laws_markFloat32S g_laws_heldFloat32S)

abbrev C_laws_FnExactTakeApart (P : Program) (g_f : FuncId) : Prop := ∀ (xs : List Nat) (per : Int) (side : Int) (n : Int) (hx : xs.length ≤ maxLen), VCall P g_f [PS [0] .f32 xs, .i .i64 per, .i .i64 side, .i .i64 n] (.b true)
def oc1_laws_FnExactTakeApart (as : List AV) : T AV := match as with | [.sl _ _ (.f .f32 xs), .i .i64 per, .i .i64 side, .i .i64 n] => .leaf (.b true) | _ => .fail
def oc_laws_FnExactTakeApart (xs : List Nat) (per : Int) (side : Int) (n : Int) (d : Nat) (as : List AV) : T AV := match d with | 30 => oc1_laws_toFloat32S as | 34 => oc1_spec_TakeApart as | 40 => oc1_laws_toFloat32S as | 46 => oc1_impl_TakeApart as | 53 => oc1_laws_eqFloat32S as | 58 => oc1_laws_eqFloat32S as | 64 => oc1_laws_eqFloat32S as | 74 => oc1_laws_toFloat32S as | 75 => oc1_laws_eqFloat32S as | 79 => oc1_laws_markFloat32S as | 85 => oc1_laws_eqFloat32S as | 91 => oc1_laws_eqFloat32S as | 97 => oc1_laws_eqFloat32S as | 107 => oc1_laws_markFloat32S as | 110 => oc1_laws_markFloat32S as | 113 => oc1_laws_markFloat32S as | 116 => oc1_laws_heldFloat32S as | 121 => oc1_laws_heldFloat32S as | 126 => oc1_laws_heldFloat32S as | 134 => oc1_laws_toFloat32S as | 138 => oc1_impl_TakeApart as | 145 => oc1_laws_eqFloat32S as | 150 => oc1_laws_eqFloat32S as | 156 => oc1_laws_eqFloat32S as | 166 => oc1_laws_heldFloat32S as | 171 => oc1_laws_heldFloat32S as | 176 => oc1_laws_heldFloat32S as | _ => .fail



theorem q_laws_FnExactTakeApart {P : Program} {g_f : FuncId} {g_laws_toFloat32S g_spec_TakeApart g_impl_TakeApart g_laws_eqFloat32S g_laws_markFloat32S g_laws_heldFloat32S : FuncId} (h_ : Is_laws_FnExactTakeApart P g_f g_laws_toFloat32S g_spec_TakeApart g_impl_TakeApart g_laws_eqFloat32S g_laws_markFloat32S g_laws_heldFloat32S) (xs : List Nat) (per : Int) (side : Int) (n : Int) (ht : T.ok (fun x_ => x_ = .b true) (
      T.ite (decide ((↑(List.length xs) : Int) > 1048576)) (T.leaf (AV.b true))
        (T.ob ((VCall P) g_laws_toFloat32S [AV.sl (Tag.par [0]) 0 (Cont.f FloatKind.f32 xs)] (AV.sl (Tag.own 0) 0 (Cont.f FloatKind.f32 xs)))
          (T.ob
            ((VCall P) g_spec_TakeApart [AV.sl (Tag.par [0]) 0 (Cont.f FloatKind.f32 xs), AV.i IntKind.i64 per, AV.i IntKind.i64 side, AV.i IntKind.i64 n]
              (AV.tup
                [AV.sl (Tag.own 0) 0 (Cont.f FloatKind.f32 (if taOk xs per side n = true then Prod.fst (taS xs (Int.toNat per) (Int.toNat side) (Int.toNat n)) else [])),
                  AV.sl (Tag.own 1) 0 (Cont.f FloatKind.f32 (if taOk xs per side n = true then sprM (Prod.snd (taS xs (Int.toNat per) (Int.toNat side) (Int.toNat n))) (List.length xs) else [])),
                  AV.sl (Tag.own 2) 0 (Cont.f FloatKind.f32 (if taOk xs per side n = true then taR xs (Int.toNat per) (Int.toNat side) (Int.toNat n) else [])), AV.b (taOk xs per side n)]))
            (T.ob ((VCall P) g_laws_toFloat32S [AV.sl (Tag.par [0]) 0 (Cont.f FloatKind.f32 xs)] (AV.sl (Tag.own 0) 0 (Cont.f FloatKind.f32 xs)))
              (T.ob
                ((VCall P) g_impl_TakeApart [AV.sl (Tag.par [0]) 0 (Cont.f FloatKind.f32 xs), AV.i IntKind.i64 per, AV.i IntKind.i64 side, AV.i IntKind.i64 n]
                  (AV.tup
                    [AV.sl (Tag.own 0) 0 (Cont.f FloatKind.f32 (if taOk xs per side n = true then Prod.fst (taS xs (Int.toNat per) (Int.toNat side) (Int.toNat n)) else [])),
                      AV.sl (Tag.own 1) 0 (Cont.f FloatKind.f32 (if taOk xs per side n = true then sprM (Prod.snd (taS xs (Int.toNat per) (Int.toNat side) (Int.toNat n))) (List.length xs) else [])),
                      AV.sl (Tag.own 2) 0 (Cont.f FloatKind.f32 (if taOk xs per side n = true then taR xs (Int.toNat per) (Int.toNat side) (Int.toNat n) else [])), AV.b (taOk xs per side n)]))
                (T.ob
                  ((VCall P) g_laws_eqFloat32S
                    [AV.sl (Tag.par [0]) 0 (Cont.f FloatKind.f32 (if taOk xs per side n = true then Prod.fst (taS xs (Int.toNat per) (Int.toNat side) (Int.toNat n)) else [])),
                      AV.sl (Tag.par [1]) 0 (Cont.f FloatKind.f32 (if taOk xs per side n = true then Prod.fst (taS xs (Int.toNat per) (Int.toNat side) (Int.toNat n)) else []))]
                    (AV.b true))
                  (T.ite false (T.leaf (AV.b false))
                    (T.ob
                      ((VCall P) g_laws_eqFloat32S
                        [AV.sl (Tag.par [0]) 0 (Cont.f FloatKind.f32 (if taOk xs per side n = true then sprM (Prod.snd (taS xs (Int.toNat per) (Int.toNat side) (Int.toNat n))) (List.length xs) else [])),
                          AV.sl (Tag.par [1]) 0 (Cont.f FloatKind.f32 (if taOk xs per side n = true then sprM (Prod.snd (taS xs (Int.toNat per) (Int.toNat side) (Int.toNat n))) (List.length xs) else []))]
                        (AV.b true))
                      (T.ite false (T.leaf (AV.b false))
                        (T.ob
                          ((VCall P) g_laws_eqFloat32S
                            [AV.sl (Tag.par [0]) 0 (Cont.f FloatKind.f32 (if taOk xs per side n = true then taR xs (Int.toNat per) (Int.toNat side) (Int.toNat n) else [])),
                              AV.sl (Tag.par [1]) 0 (Cont.f FloatKind.f32 (if taOk xs per side n = true then taR xs (Int.toNat per) (Int.toNat side) (Int.toNat n) else []))]
                            (AV.b true))
                          (T.ite false (T.leaf (AV.b false))
                            (T.ite (!taOk xs per side n == taOk xs per side n) (T.leaf (AV.b false))
                              (T.ob ((VCall P) g_laws_toFloat32S [AV.sl (Tag.par [0]) 0 (Cont.f FloatKind.f32 xs)] (AV.sl (Tag.own 0) 0 (Cont.f FloatKind.f32 xs)))
                                (T.ob ((VCall P) g_laws_eqFloat32S [AV.sl (Tag.par [0]) 0 (Cont.f FloatKind.f32 xs), AV.sl (Tag.par [1]) 0 (Cont.f FloatKind.f32 xs)] (AV.b true))
                                  (T.ite false (T.leaf (AV.b false))
                                    (T.ob
                                      ((VCall P) g_laws_markFloat32S [AV.sl (Tag.own 800000) 0 (Cont.f FloatKind.f32 xs), AV.i IntKind.i64 1]
                                          (AV.bx Tag.nil [AV.i IntKind.i64 (1 + (↑(List.length xs) : Int)), AV.tup [AV.sl (Tag.own 800000) 0 (Cont.f FloatKind.f32 (marksM (List.length xs) 1)), AV.i IntKind.i64 1]]) ∧
                                        List.length xs = List.length (marksM (List.length xs) 1) ∧ List.length xs = List.length (marksM (List.length xs) 1) ∧ True)
                                      (T.ite false (T.leaf (AV.b false))
                                        (T.ob
                                          ((VCall P) g_laws_eqFloat32S
                                            [AV.sl (Tag.par [0]) 0 (Cont.f FloatKind.f32 (if taOk xs per side n = true then Prod.fst (taS xs (Int.toNat per) (Int.toNat side) (Int.toNat n)) else [])),
                                              AV.sl (Tag.par [1]) 0 (Cont.f FloatKind.f32 (if taOk xs per side n = true then Prod.fst (taS xs (Int.toNat per) (Int.toNat side) (Int.toNat n)) else []))]
                                            (AV.b true))
                                          (T.ite false (T.leaf (AV.b false))
                                            (T.ob
                                              ((VCall P) g_laws_eqFloat32S
                                                [AV.sl (Tag.par [0]) 0
                                                    (Cont.f FloatKind.f32 (if taOk xs per side n = true then sprM (Prod.snd (taS xs (Int.toNat per) (Int.toNat side) (Int.toNat n))) (List.length xs) else [])),
                                                  AV.sl (Tag.par [1]) 0
                                                    (Cont.f FloatKind.f32 (if taOk xs per side n = true then sprM (Prod.snd (taS xs (Int.toNat per) (Int.toNat side) (Int.toNat n))) (List.length xs) else []))]
                                                (AV.b true))
                                              (T.ite false (T.leaf (AV.b false))
                                                (T.ob
                                                  ((VCall P) g_laws_eqFloat32S
                                                    [AV.sl (Tag.par [0]) 0 (Cont.f FloatKind.f32 (if taOk xs per side n = true then taR xs (Int.toNat per) (Int.toNat side) (Int.toNat n) else [])),
                                                      AV.sl (Tag.par [1]) 0 (Cont.f FloatKind.f32 (if taOk xs per side n = true then taR xs (Int.toNat per) (Int.toNat side) (Int.toNat n) else []))]
                                                    (AV.b true))
                                                  (T.ite false (T.leaf (AV.b false))
                                                    (T.ite (!taOk xs per side n == taOk xs per side n) (T.leaf (AV.b false))
                                                      (T.ob
                                                        ((VCall P) g_laws_markFloat32S
                                                            [AV.sl (Tag.own 800000) 0 (Cont.f FloatKind.f32 (if taOk xs per side n = true then Prod.fst (taS xs (Int.toNat per) (Int.toNat side) (Int.toNat n)) else [])),
                                                              AV.i IntKind.i64 1]
                                                            (AV.bx Tag.nil
                                                              [AV.i IntKind.i64 (1 + (↑(List.length (if taOk xs per side n = true then Prod.fst (taS xs (Int.toNat per) (Int.toNat side) (Int.toNat n)) else [])) : Int)),
                                                                AV.tup
                                                                  [AV.sl (Tag.own 800000) 0
                                                                      (Cont.f FloatKind.f32
                                                                        (marksM (List.length (if taOk xs per side n = true then Prod.fst (taS xs (Int.toNat per) (Int.toNat side) (Int.toNat n)) else [])) 1)),
                                                                    AV.i IntKind.i64 1]]) ∧
                                                          List.length (if taOk xs per side n = true then Prod.fst (taS xs (Int.toNat per) (Int.toNat side) (Int.toNat n)) else []) =
                                                              List.length (marksM (List.length (if taOk xs per side n = true then Prod.fst (taS xs (Int.toNat per) (Int.toNat side) (Int.toNat n)) else [])) 1) ∧
                                                            List.length (if taOk xs per side n = true then Prod.fst (taS xs (Int.toNat per) (Int.toNat side) (Int.toNat n)) else []) =
                                                                List.length (marksM (List.length (if taOk xs per side n = true then Prod.fst (taS xs (Int.toNat per) (Int.toNat side) (Int.toNat n)) else [])) 1) ∧
                                                              True)
                                                        (T.ob
                                                          ((VCall P) g_laws_markFloat32S
                                                              [AV.sl (Tag.own 800000) 0
                                                                  (Cont.f FloatKind.f32 (if taOk xs per side n = true then sprM (Prod.snd (taS xs (Int.toNat per) (Int.toNat side) (Int.toNat n))) (List.length xs) else [])),
                                                                AV.i IntKind.i64 (1 + (↑(List.length (if taOk xs per side n = true then Prod.fst (taS xs (Int.toNat per) (Int.toNat side) (Int.toNat n)) else [])) : Int))]
                                                              (AV.bx Tag.nil
                                                                [AV.i IntKind.i64
                                                                    (1 + (↑(List.length (if taOk xs per side n = true then Prod.fst (taS xs (Int.toNat per) (Int.toNat side) (Int.toNat n)) else [])) : Int) +
                                                                      (↑(List.length (if taOk xs per side n = true then sprM (Prod.snd (taS xs (Int.toNat per) (Int.toNat side) (Int.toNat n))) (List.length xs) else [])) :
                                                                        Int)),
                                                                  AV.tup
                                                                    [AV.sl (Tag.own 800000) 0
                                                                        (Cont.f FloatKind.f32
                                                                          (marksM
                                                                            (List.length (if taOk xs per side n = true then sprM (Prod.snd (taS xs (Int.toNat per) (Int.toNat side) (Int.toNat n))) (List.length xs) else []))
                                                                            (1 + (↑(List.length (if taOk xs per side n = true then Prod.fst (taS xs (Int.toNat per) (Int.toNat side) (Int.toNat n)) else [])) : Int)))),
                                                                      AV.i IntKind.i64
                                                                        (1 + (↑(List.length (if taOk xs per side n = true then Prod.fst (taS xs (Int.toNat per) (Int.toNat side) (Int.toNat n)) else [])) : Int))]]) ∧
                                                            List.length (if taOk xs per side n = true then sprM (Prod.snd (taS xs (Int.toNat per) (Int.toNat side) (Int.toNat n))) (List.length xs) else []) =
                                                                List.length
                                                                  (marksM (List.length (if taOk xs per side n = true then sprM (Prod.snd (taS xs (Int.toNat per) (Int.toNat side) (Int.toNat n))) (List.length xs) else []))
                                                                    (1 + (↑(List.length (if taOk xs per side n = true then Prod.fst (taS xs (Int.toNat per) (Int.toNat side) (Int.toNat n)) else [])) : Int))) ∧
                                                              List.length (if taOk xs per side n = true then sprM (Prod.snd (taS xs (Int.toNat per) (Int.toNat side) (Int.toNat n))) (List.length xs) else []) =
                                                                  List.length
                                                                    (marksM (List.length (if taOk xs per side n = true then sprM (Prod.snd (taS xs (Int.toNat per) (Int.toNat side) (Int.toNat n))) (List.length xs) else []))
                                                                      (1 + (↑(List.length (if taOk xs per side n = true then Prod.fst (taS xs (Int.toNat per) (Int.toNat side) (Int.toNat n)) else [])) : Int))) ∧
                                                                True)
                                                          (T.ob
                                                            ((VCall P) g_laws_markFloat32S
                                                                [AV.sl (Tag.own 800000) 0 (Cont.f FloatKind.f32 (if taOk xs per side n = true then taR xs (Int.toNat per) (Int.toNat side) (Int.toNat n) else [])),
                                                                  AV.i IntKind.i64
                                                                    (1 + (↑(List.length (if taOk xs per side n = true then Prod.fst (taS xs (Int.toNat per) (Int.toNat side) (Int.toNat n)) else [])) : Int) +
                                                                      (↑(List.length (if taOk xs per side n = true then sprM (Prod.snd (taS xs (Int.toNat per) (Int.toNat side) (Int.toNat n))) (List.length xs) else [])) :
                                                                        Int))]
                                                                (AV.bx Tag.nil
                                                                  [AV.i IntKind.i64
                                                                      (1 + (↑(List.length (if taOk xs per side n = true then Prod.fst (taS xs (Int.toNat per) (Int.toNat side) (Int.toNat n)) else [])) : Int) +
                                                                          (↑(List.length (if taOk xs per side n = true then sprM (Prod.snd (taS xs (Int.toNat per) (Int.toNat side) (Int.toNat n))) (List.length xs) else [])) :
                                                                            Int) +
                                                                        (↑(List.length (if taOk xs per side n = true then taR xs (Int.toNat per) (Int.toNat side) (Int.toNat n) else [])) : Int)),
                                                                    AV.tup
                                                                      [AV.sl (Tag.own 800000) 0
                                                                          (Cont.f FloatKind.f32
                                                                            (marksM (List.length (if taOk xs per side n = true then taR xs (Int.toNat per) (Int.toNat side) (Int.toNat n) else []))
                                                                              (1 + (↑(List.length (if taOk xs per side n = true then Prod.fst (taS xs (Int.toNat per) (Int.toNat side) (Int.toNat n)) else [])) : Int) +
                                                                                (↑(List.length
                                                                                      (if taOk xs per side n = true then sprM (Prod.snd (taS xs (Int.toNat per) (Int.toNat side) (Int.toNat n))) (List.length xs) else [])) :
                                                                                  Int)))),
                                                                        AV.i IntKind.i64
                                                                          (1 + (↑(List.length (if taOk xs per side n = true then Prod.fst (taS xs (Int.toNat per) (Int.toNat side) (Int.toNat n)) else [])) : Int) +
                                                                            (↑(List.length (if taOk xs per side n = true then sprM (Prod.snd (taS xs (Int.toNat per) (Int.toNat side) (Int.toNat n))) (List.length xs) else [])) :
                                                                              Int))]]) ∧
                                                              List.length (if taOk xs per side n = true then taR xs (Int.toNat per) (Int.toNat side) (Int.toNat n) else []) =
                                                                  List.length
                                                                    (marksM (List.length (if taOk xs per side n = true then taR xs (Int.toNat per) (Int.toNat side) (Int.toNat n) else []))
                                                                      (1 + (↑(List.length (if taOk xs per side n = true then Prod.fst (taS xs (Int.toNat per) (Int.toNat side) (Int.toNat n)) else [])) : Int) +
                                                                        (↑(List.length (if taOk xs per side n = true then sprM (Prod.snd (taS xs (Int.toNat per) (Int.toNat side) (Int.toNat n))) (List.length xs) else [])) :
                                                                          Int))) ∧
                                                                List.length (if taOk xs per side n = true then taR xs (Int.toNat per) (Int.toNat side) (Int.toNat n) else []) =
                                                                    List.length
                                                                      (marksM (List.length (if taOk xs per side n = true then taR xs (Int.toNat per) (Int.toNat side) (Int.toNat n) else []))
                                                                        (1 + (↑(List.length (if taOk xs per side n = true then Prod.fst (taS xs (Int.toNat per) (Int.toNat side) (Int.toNat n)) else [])) : Int) +
                                                                          (↑(List.length (if taOk xs per side n = true then sprM (Prod.snd (taS xs (Int.toNat per) (Int.toNat side) (Int.toNat n))) (List.length xs) else [])) :
                                                                            Int))) ∧
                                                                  True)
                                                            (T.ob
                                                              ((VCall P) g_laws_heldFloat32S
                                                                [AV.sl (Tag.par [0]) 0
                                                                    (Cont.f FloatKind.f32 (marksM (List.length (if taOk xs per side n = true then Prod.fst (taS xs (Int.toNat per) (Int.toNat side) (Int.toNat n)) else [])) 1)),
                                                                  AV.i IntKind.i64 1]
                                                                (AV.i IntKind.i64
                                                                  (1 +
                                                                    (↑(List.length (marksM (List.length (if taOk xs per side n = true then Prod.fst (taS xs (Int.toNat per) (Int.toNat side) (Int.toNat n)) else [])) 1)) :
                                                                      Int))))
                                                              (T.ite false (T.leaf (AV.b false))
                                                                (T.ob
                                                                  ((VCall P) g_laws_heldFloat32S
                                                                    [AV.sl (Tag.par [0]) 0
                                                                        (Cont.f FloatKind.f32
                                                                          (marksM
                                                                            (List.length (if taOk xs per side n = true then sprM (Prod.snd (taS xs (Int.toNat per) (Int.toNat side) (Int.toNat n))) (List.length xs) else []))
                                                                            (1 + (↑(List.length (if taOk xs per side n = true then Prod.fst (taS xs (Int.toNat per) (Int.toNat side) (Int.toNat n)) else [])) : Int)))),
                                                                      AV.i IntKind.i64
                                                                        (1 +
                                                                          (↑(List.length (marksM (List.length (if taOk xs per side n = true then Prod.fst (taS xs (Int.toNat per) (Int.toNat side) (Int.toNat n)) else [])) 1)) :
                                                                            Int))]
                                                                    (AV.i IntKind.i64
                                                                      (1 +
                                                                          (↑(List.length (marksM (List.length (if taOk xs per side n = true then Prod.fst (taS xs (Int.toNat per) (Int.toNat side) (Int.toNat n)) else [])) 1)) :
                                                                            Int) +
                                                                        (↑(List.length
                                                                              (marksM
                                                                                (List.length (if taOk xs per side n = true then sprM (Prod.snd (taS xs (Int.toNat per) (Int.toNat side) (Int.toNat n))) (List.length xs) else []))
                                                                                (1 + (↑(List.length (if taOk xs per side n = true then Prod.fst (taS xs (Int.toNat per) (Int.toNat side) (Int.toNat n)) else [])) : Int)))) :
                                                                          Int))))
                                                                  (T.ite false (T.leaf (AV.b false))
                                                                    (T.ob
                                                                      ((VCall P) g_laws_heldFloat32S
                                                                        [AV.sl (Tag.par [0]) 0
                                                                            (Cont.f FloatKind.f32
                                                                              (marksM (List.length (if taOk xs per side n = true then taR xs (Int.toNat per) (Int.toNat side) (Int.toNat n) else []))
                                                                                (1 + (↑(List.length (if taOk xs per side n = true then Prod.fst (taS xs (Int.toNat per) (Int.toNat side) (Int.toNat n)) else [])) : Int) +
                                                                                  (↑(List.length
                                                                                        (if taOk xs per side n = true then sprM (Prod.snd (taS xs (Int.toNat per) (Int.toNat side) (Int.toNat n))) (List.length xs) else [])) :
                                                                                    Int)))),
                                                                          AV.i IntKind.i64
                                                                            (1 +
                                                                                (↑(List.length
                                                                                      (marksM (List.length (if taOk xs per side n = true then Prod.fst (taS xs (Int.toNat per) (Int.toNat side) (Int.toNat n)) else [])) 1)) :
                                                                                  Int) +
                                                                              (↑(List.length
                                                                                    (marksM
                                                                                      (List.length
                                                                                        (if taOk xs per side n = true then sprM (Prod.snd (taS xs (Int.toNat per) (Int.toNat side) (Int.toNat n))) (List.length xs) else []))
                                                                                      (1 +
                                                                                        (↑(List.length (if taOk xs per side n = true then Prod.fst (taS xs (Int.toNat per) (Int.toNat side) (Int.toNat n)) else [])) : Int)))) :
                                                                                Int))]
                                                                        (AV.i IntKind.i64
                                                                          (1 +
                                                                                (↑(List.length
                                                                                      (marksM (List.length (if taOk xs per side n = true then Prod.fst (taS xs (Int.toNat per) (Int.toNat side) (Int.toNat n)) else [])) 1)) :
                                                                                  Int) +
                                                                              (↑(List.length
                                                                                    (marksM
                                                                                      (List.length
                                                                                        (if taOk xs per side n = true then sprM (Prod.snd (taS xs (Int.toNat per) (Int.toNat side) (Int.toNat n))) (List.length xs) else []))
                                                                                      (1 +
                                                                                        (↑(List.length (if taOk xs per side n = true then Prod.fst (taS xs (Int.toNat per) (Int.toNat side) (Int.toNat n)) else [])) : Int)))) :
                                                                                Int) +
                                                                            (↑(List.length
                                                                                  (marksM (List.length (if taOk xs per side n = true then taR xs (Int.toNat per) (Int.toNat side) (Int.toNat n) else []))
                                                                                    (1 + (↑(List.length (if taOk xs per side n = true then Prod.fst (taS xs (Int.toNat per) (Int.toNat side) (Int.toNat n)) else [])) : Int) +
                                                                                      (↑(List.length
                                                                                            (if taOk xs per side n = true then sprM (Prod.snd (taS xs (Int.toNat per) (Int.toNat side) (Int.toNat n))) (List.length xs)
                                                                                            else [])) :
                                                                                        Int)))) :
                                                                              Int))))
                                                                      (T.ite false (T.leaf (AV.b false))
                                                                        (T.ite
                                                                          (1 +
                                                                                  (↑(List.length
                                                                                        (marksM (List.length (if taOk xs per side n = true then Prod.fst (taS xs (Int.toNat per) (Int.toNat side) (Int.toNat n)) else [])) 1)) :
                                                                                    Int) +
                                                                                (↑(List.length
                                                                                      (marksM
                                                                                        (List.length
                                                                                          (if taOk xs per side n = true then sprM (Prod.snd (taS xs (Int.toNat per) (Int.toNat side) (Int.toNat n))) (List.length xs) else []))
                                                                                        (1 +
                                                                                          (↑(List.length (if taOk xs per side n = true then Prod.fst (taS xs (Int.toNat per) (Int.toNat side) (Int.toNat n)) else [])) : Int)))) :
                                                                                  Int) +
                                                                              (↑(List.length
                                                                                    (marksM (List.length (if taOk xs per side n = true then taR xs (Int.toNat per) (Int.toNat side) (Int.toNat n) else []))
                                                                                      (1 + (↑(List.length (if taOk xs per side n = true then Prod.fst (taS xs (Int.toNat per) (Int.toNat side) (Int.toNat n)) else [])) : Int) +
                                                                                        (↑(List.length
                                                                                              (if taOk xs per side n = true then sprM (Prod.snd (taS xs (Int.toNat per) (Int.toNat side) (Int.toNat n))) (List.length xs)
                                                                                              else [])) :
                                                                                          Int)))) :
                                                                                Int) !=
                                                                            1 + (↑(List.length (if taOk xs per side n = true then Prod.fst (taS xs (Int.toNat per) (Int.toNat side) (Int.toNat n)) else [])) : Int) +
                                                                                (↑(List.length
                                                                                      (if taOk xs per side n = true then sprM (Prod.snd (taS xs (Int.toNat per) (Int.toNat side) (Int.toNat n))) (List.length xs) else [])) :
                                                                                  Int) +
                                                                              (↑(List.length (if taOk xs per side n = true then taR xs (Int.toNat per) (Int.toNat side) (Int.toNat n) else [])) : Int))
                                                                          (T.leaf (AV.b false))
                                                                          (T.ob ((VCall P) g_laws_toFloat32S [AV.sl (Tag.par [0]) 0 (Cont.f FloatKind.f32 xs)] (AV.sl (Tag.own 0) 0 (Cont.f FloatKind.f32 xs)))
                                                                            (T.ob
                                                                              ((VCall P) g_impl_TakeApart [AV.sl (Tag.par [0]) 0 (Cont.f FloatKind.f32 xs), AV.i IntKind.i64 per, AV.i IntKind.i64 side, AV.i IntKind.i64 n]
                                                                                (AV.tup
                                                                                  [AV.sl (Tag.own 0) 0
                                                                                      (Cont.f FloatKind.f32 (if taOk xs per side n = true then Prod.fst (taS xs (Int.toNat per) (Int.toNat side) (Int.toNat n)) else [])),
                                                                                    AV.sl (Tag.own 1) 0
                                                                                      (Cont.f FloatKind.f32
                                                                                        (if taOk xs per side n = true then sprM (Prod.snd (taS xs (Int.toNat per) (Int.toNat side) (Int.toNat n))) (List.length xs) else [])),
                                                                                    AV.sl (Tag.own 2) 0 (Cont.f FloatKind.f32 (if taOk xs per side n = true then taR xs (Int.toNat per) (Int.toNat side) (Int.toNat n) else [])),
                                                                                    AV.b (taOk xs per side n)]))
                                                                              (T.ob
                                                                                ((VCall P) g_laws_eqFloat32S
                                                                                  [AV.sl (Tag.par [0]) 0
                                                                                      (Cont.f FloatKind.f32 (if taOk xs per side n = true then Prod.fst (taS xs (Int.toNat per) (Int.toNat side) (Int.toNat n)) else [])),
                                                                                    AV.sl (Tag.par [1]) 0
                                                                                      (Cont.f FloatKind.f32 (if taOk xs per side n = true then Prod.fst (taS xs (Int.toNat per) (Int.toNat side) (Int.toNat n)) else []))]
                                                                                  (AV.b true))
                                                                                (T.ite false (T.leaf (AV.b false))
                                                                                  (T.ob
                                                                                    ((VCall P) g_laws_eqFloat32S
                                                                                      [AV.sl (Tag.par [0]) 0
                                                                                          (Cont.f FloatKind.f32
                                                                                            (if taOk xs per side n = true then sprM (Prod.snd (taS xs (Int.toNat per) (Int.toNat side) (Int.toNat n))) (List.length xs) else [])),
                                                                                        AV.sl (Tag.par [1]) 0
                                                                                          (Cont.f FloatKind.f32
                                                                                            (if taOk xs per side n = true then sprM (Prod.snd (taS xs (Int.toNat per) (Int.toNat side) (Int.toNat n))) (List.length xs) else []))]
                                                                                      (AV.b true))
                                                                                    (T.ite false (T.leaf (AV.b false))
                                                                                      (T.ob
                                                                                        ((VCall P) g_laws_eqFloat32S
                                                                                          [AV.sl (Tag.par [0]) 0
                                                                                              (Cont.f FloatKind.f32 (if taOk xs per side n = true then taR xs (Int.toNat per) (Int.toNat side) (Int.toNat n) else [])),
                                                                                            AV.sl (Tag.par [1]) 0
                                                                                              (Cont.f FloatKind.f32 (if taOk xs per side n = true then taR xs (Int.toNat per) (Int.toNat side) (Int.toNat n) else []))]
                                                                                          (AV.b true))
                                                                                        (T.ite false (T.leaf (AV.b false))
                                                                                          (T.ite (!taOk xs per side n == taOk xs per side n) (T.leaf (AV.b false))
                                                                                            (T.ob
                                                                                              ((VCall P) g_laws_heldFloat32S
                                                                                                [AV.sl (Tag.par [0]) 0
                                                                                                    (Cont.f FloatKind.f32
                                                                                                      (marksM
                                                                                                        (List.length (if taOk xs per side n = true then Prod.fst (taS xs (Int.toNat per) (Int.toNat side) (Int.toNat n)) else []))
                                                                                                        1)),
                                                                                                  AV.i IntKind.i64 1]
                                                                                                (AV.i IntKind.i64
                                                                                                  (1 +
                                                                                                    (↑(List.length
                                                                                                          (marksM
                                                                                                            (List.length
                                                                                                              (if taOk xs per side n = true then Prod.fst (taS xs (Int.toNat per) (Int.toNat side) (Int.toNat n)) else []))
                                                                                                            1)) :
                                                                                                      Int))))
                                                                                              (T.ite false (T.leaf (AV.b false))
                                                                                                (T.ob
                                                                                                  ((VCall P) g_laws_heldFloat32S
                                                                                                    [AV.sl (Tag.par [0]) 0
                                                                                                        (Cont.f FloatKind.f32
                                                                                                          (marksM
                                                                                                            (List.length
                                                                                                              (if taOk xs per side n = true then
                                                                                                                sprM (Prod.snd (taS xs (Int.toNat per) (Int.toNat side) (Int.toNat n))) (List.length xs)
                                                                                                              else []))
                                                                                                            (1 +
                                                                                                              (↑(List.length
                                                                                                                    (if taOk xs per side n = true then Prod.fst (taS xs (Int.toNat per) (Int.toNat side) (Int.toNat n))
                                                                                                                    else [])) :
                                                                                                                Int)))),
                                                                                                      AV.i IntKind.i64
                                                                                                        (1 +
                                                                                                          (↑(List.length
                                                                                                                (marksM
                                                                                                                  (List.length
                                                                                                                    (if taOk xs per side n = true then Prod.fst (taS xs (Int.toNat per) (Int.toNat side) (Int.toNat n)) else []))
                                                                                                                  1)) :
                                                                                                            Int))]
                                                                                                    (AV.i IntKind.i64
                                                                                                      (1 +
                                                                                                          (↑(List.length
                                                                                                                (marksM
                                                                                                                  (List.length
                                                                                                                    (if taOk xs per side n = true then Prod.fst (taS xs (Int.toNat per) (Int.toNat side) (Int.toNat n)) else []))
                                                                                                                  1)) :
                                                                                                            Int) +
                                                                                                        (↑(List.length
                                                                                                              (marksM
                                                                                                                (List.length
                                                                                                                  (if taOk xs per side n = true then
                                                                                                                    sprM (Prod.snd (taS xs (Int.toNat per) (Int.toNat side) (Int.toNat n))) (List.length xs)
                                                                                                                  else []))
                                                                                                                (1 +
                                                                                                                  (↑(List.length
                                                                                                                        (if taOk xs per side n = true then Prod.fst (taS xs (Int.toNat per) (Int.toNat side) (Int.toNat n))
                                                                                                                        else [])) :
                                                                                                                    Int)))) :
                                                                                                          Int))))
                                                                                                  (T.ite false (T.leaf (AV.b false))
                                                                                                    (T.ob
                                                                                                      ((VCall P) g_laws_heldFloat32S
                                                                                                        [AV.sl (Tag.par [0]) 0
                                                                                                            (Cont.f FloatKind.f32
                                                                                                              (marksM
                                                                                                                (List.length (if taOk xs per side n = true then taR xs (Int.toNat per) (Int.toNat side) (Int.toNat n) else []))
                                                                                                                (1 +
                                                                                                                    (↑(List.length
                                                                                                                          (if taOk xs per side n = true then Prod.fst (taS xs (Int.toNat per) (Int.toNat side) (Int.toNat n))
                                                                                                                          else [])) :
                                                                                                                      Int) +
                                                                                                                  (↑(List.length
                                                                                                                        (if taOk xs per side n = true then
                                                                                                                          sprM (Prod.snd (taS xs (Int.toNat per) (Int.toNat side) (Int.toNat n))) (List.length xs)
                                                                                                                        else [])) :
                                                                                                                    Int)))),
                                                                                                          AV.i IntKind.i64
                                                                                                            (1 +
                                                                                                                (↑(List.length
                                                                                                                      (marksM
                                                                                                                        (List.length
                                                                                                                          (if taOk xs per side n = true then Prod.fst (taS xs (Int.toNat per) (Int.toNat side) (Int.toNat n))
                                                                                                                          else []))
                                                                                                                        1)) :
                                                                                                                  Int) +
                                                                                                              (↑(List.length
                                                                                                                    (marksM
                                                                                                                      (List.length
                                                                                                                        (if taOk xs per side n = true then
                                                                                                                          sprM (Prod.snd (taS xs (Int.toNat per) (Int.toNat side) (Int.toNat n))) (List.length xs)
                                                                                                                        else []))
                                                                                                                      (1 +
                                                                                                                        (↑(List.length
                                                                                                                              (if taOk xs per side n = true then Prod.fst (taS xs (Int.toNat per) (Int.toNat side) (Int.toNat n))
                                                                                                                              else [])) :
                                                                                                                          Int)))) :
                                                                                                                Int))]
                                                                                                        (AV.i IntKind.i64
                                                                                                          (1 +
                                                                                                                (↑(List.length
                                                                                                                      (marksM
                                                                                                                        (List.length
                                                                                                                          (if taOk xs per side n = true then Prod.fst (taS xs (Int.toNat per) (Int.toNat side) (Int.toNat n))
                                                                                                                          else []))
                                                                                                                        1)) :
                                                                                                                  Int) +
                                                                                                              (↑(List.length
                                                                                                                    (marksM
                                                                                                                      (List.length
                                                                                                                        (if taOk xs per side n = true then
                                                                                                                          sprM (Prod.snd (taS xs (Int.toNat per) (Int.toNat side) (Int.toNat n))) (List.length xs)
                                                                                                                        else []))
                                                                                                                      (1 +
                                                                                                                        (↑(List.length
                                                                                                                              (if taOk xs per side n = true then Prod.fst (taS xs (Int.toNat per) (Int.toNat side) (Int.toNat n))
                                                                                                                              else [])) :
                                                                                                                          Int)))) :
                                                                                                                Int) +
                                                                                                            (↑(List.length
                                                                                                                  (marksM
                                                                                                                    (List.length
                                                                                                                      (if taOk xs per side n = true then taR xs (Int.toNat per) (Int.toNat side) (Int.toNat n) else []))
                                                                                                                    (1 +
                                                                                                                        (↑(List.length
                                                                                                                              (if taOk xs per side n = true then Prod.fst (taS xs (Int.toNat per) (Int.toNat side) (Int.toNat n))
                                                                                                                              else [])) :
                                                                                                                          Int) +
                                                                                                                      (↑(List.length
                                                                                                                            (if taOk xs per side n = true then
                                                                                                                              sprM (Prod.snd (taS xs (Int.toNat per) (Int.toNat side) (Int.toNat n))) (List.length xs)
                                                                                                                            else [])) :
                                                                                                                        Int)))) :
                                                                                                              Int))))
                                                                                                      (T.ite false (T.leaf (AV.b false))
                                                                                                        (T.ite
                                                                                                          (1 +
                                                                                                                  (↑(List.length
                                                                                                                        (marksM
                                                                                                                          (List.length
                                                                                                                            (if taOk xs per side n = true then Prod.fst (taS xs (Int.toNat per) (Int.toNat side) (Int.toNat n))
                                                                                                                            else []))
                                                                                                                          1)) :
                                                                                                                    Int) +
                                                                                                                (↑(List.length
                                                                                                                      (marksM
                                                                                                                        (List.length
                                                                                                                          (if taOk xs per side n = true then
                                                                                                                            sprM (Prod.snd (taS xs (Int.toNat per) (Int.toNat side) (Int.toNat n))) (List.length xs)
                                                                                                                          else []))
                                                                                                                        (1 +
                                                                                                                          (↑(List.length
                                                                                                                                (if taOk xs per side n = true then
                                                                                                                                  Prod.fst (taS xs (Int.toNat per) (Int.toNat side) (Int.toNat n))
                                                                                                                                else [])) :
                                                                                                                            Int)))) :
                                                                                                                  Int) +
                                                                                                              (↑(List.length
                                                                                                                    (marksM
                                                                                                                      (List.length
                                                                                                                        (if taOk xs per side n = true then taR xs (Int.toNat per) (Int.toNat side) (Int.toNat n) else []))
                                                                                                                      (1 +
                                                                                                                          (↑(List.length
                                                                                                                                (if taOk xs per side n = true then
                                                                                                                                  Prod.fst (taS xs (Int.toNat per) (Int.toNat side) (Int.toNat n))
                                                                                                                                else [])) :
                                                                                                                            Int) +
                                                                                                                        (↑(List.length
                                                                                                                              (if taOk xs per side n = true then
                                                                                                                                sprM (Prod.snd (taS xs (Int.toNat per) (Int.toNat side) (Int.toNat n))) (List.length xs)
                                                                                                                              else [])) :
                                                                                                                          Int)))) :
                                                                                                                Int) !=
                                                                                                            1 +
                                                                                                                  (↑(List.length
                                                                                                                        (if taOk xs per side n = true then Prod.fst (taS xs (Int.toNat per) (Int.toNat side) (Int.toNat n))
                                                                                                                        else [])) :
                                                                                                                    Int) +
                                                                                                                (↑(List.length
                                                                                                                      (if taOk xs per side n = true then
                                                                                                                        sprM (Prod.snd (taS xs (Int.toNat per) (Int.toNat side) (Int.toNat n))) (List.length xs)
                                                                                                                      else [])) :
                                                                                                                  Int) +
                                                                                                              (↑(List.length (if taOk xs per side n = true then taR xs (Int.toNat per) (Int.toNat side) (Int.toNat n) else [])) :
                                                                                                                Int))
                                                                                                          (T.leaf (AV.b false)) (T.leaf (AV.b true))))))))))))))))))))))))))))))))))))))))))))))))))))) :
    VCall P g_f [PS [0] .f32 xs, .i .i64 per, .i .i64 side, .i .i64 n] (.b true) := h_.call_of ps_laws_FnExactTakeApart ⟨oc_laws_FnExactTakeApart xs per side n, fun _ _ => none⟩ (by kernel_rfl) ht

-- END laws_FnExactTakeApart

theorem ta_short (xs : List Nat) (p s : Nat) : ∀ k, (taS xs p s k).1.length ≤ xs.length
  | 0 => Nat.zero_le _
  | k + 1 => Nat.le_of_eq (ta_len1 xs p s k)
theorem k_laws_FnExactTakeApart {P : Program} {f g_laws_toFloat32S g_spec_TakeApart g_impl_TakeApart g_laws_eqFloat32S g_laws_markFloat32S g_laws_heldFloat32S : FuncId} (h : Is_laws_FnExactTakeApart P f g_laws_toFloat32S g_spec_TakeApart g_impl_TakeApart g_laws_eqFloat32S g_laws_markFloat32S g_laws_heldFloat32S) (c1 : C_laws_toFloat32S P g_laws_toFloat32S) (c2 : C_spec_TakeApart P g_spec_TakeApart) (c3 : C_impl_TakeApart P g_impl_TakeApart) (c4 : C_laws_eqFloat32S P g_laws_eqFloat32S) (c5 : C_laws_markFloat32S P g_laws_markFloat32S) (c6 : C_laws_heldFloat32S P g_laws_heldFloat32S) : C_laws_FnExactTakeApart P f := by
  intro xs per side n hx
  refine q_laws_FnExactTakeApart h xs per side n ?_
  have hR : (if taOk xs per side n = true then (taS xs per.toNat side.toNat n.toNat).1 else []).length ≤ xs.length := by split; exact ta_short _ _ _ _; simp
  have hS : (if taOk xs per side n = true then sprM (taS xs per.toNat side.toNat n.toNat).2 xs.length else []).length ≤ xs.length := by split <;> simp [spr_len]
  have hT : (if taOk xs per side n = true then taR xs per.toNat side.toNat n.toNat else []).length ≤ xs.length := by split; (unfold taR; rw [less_len, less_len]; exact Nat.le_refl _); simp
  have b2 := c2 xs per side n hx
  have b3 := c3 xs per side n hx
  generalize (if taOk xs per side n = true then (taS xs per.toNat side.toNat n.toNat).1 else []) = R at *
  generalize (if taOk xs per side n = true then sprM (taS xs per.toNat side.toNat n.toNat).2 xs.length else []) = S at *
  generalize (if taOk xs per side n = true then taR xs per.toNat side.toNat n.toNat else []) = U at *
  generalize taOk xs per side n = rk at *
  repeat' (first | with_reducible refine T.ok_ob ?_ (fun _ => ?_) | with_reducible refine T.ok_ite (fun _ => ?_) (fun _ => ?_) | with_reducible refine T.ok_leaf ?_)
  all_goals (try simp only [decide_eq_true_eq, decide_eq_false_iff_not, sz_lt, gt_iff_lt, Int.not_lt, Bool.not_beq_self, bne_self_eq_false, beq_self_eq_true] at *)
  all_goals (try simp (disch := omega) only [sz_val] at *)
  all_goals first | with_reducible rfl | with_reducible assumption | ((with_reducible refine c1 _ ?_) <;> (first | assumption | omega | with_reducible rfl | (simp [maxLen_eq]; done) | (simp [maxLen_eq]; omega))) | ((with_reducible refine c2 _ _ _ _ ?_) <;> (first | assumption | omega | with_reducible rfl | (simp [maxLen_eq]; done) | (simp [maxLen_eq]; omega))) | ((with_reducible refine c3 _ _ _ _ ?_) <;> (first | assumption | omega | with_reducible rfl | (simp [maxLen_eq]; done) | (simp [maxLen_eq]; omega))) | ((with_reducible refine c4 _ _ rfl ?_) <;> (first | assumption | omega | with_reducible rfl | (simp [maxLen_eq]; done) | (simp [maxLen_eq]; omega))) | ((with_reducible refine ⟨c5 _ _ ?_ ?_, ?_⟩) <;> first | assumption | omega | (simp [marks_len]; done) | (simp [marks_len]; omega)) | ((with_reducible refine c6 _ _ _ rfl ?_ ?_) <;> (first | assumption | omega | with_reducible rfl | (simp [maxLen_eq]; done) | (simp [maxLen_eq]; omega))) | contradiction | exact fconvOk_32_64 _ | assumption | exact rfl | (simp only [marks_len, bne_self_eq_false, Bool.false_eq_true] at *; done) | (have e := c6 (marksM S.length (1 + (R.length : Int))) (1 + (R.length : Int)) S.length rfl (by omega) (by omega); simp only [marks_len] at e ⊢; exact e) | (have e := c6 (marksM U.length (1 + (R.length : Int) + (S.length : Int))) (1 + (R.length : Int) + (S.length : Int)) U.length rfl (by omega) (by omega); simp only [marks_len] at e ⊢; exact e)

end Go.Proofs.LV
