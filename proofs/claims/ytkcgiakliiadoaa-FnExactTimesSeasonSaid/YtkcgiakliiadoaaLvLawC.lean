/- The laws FnExactMovingMean, LineFit, FoldedBy, TimesSeason. -/
import Derived.Test.YtkcgiakliiadoaaLvFnG
import Derived.Test.YtkcgiakliiadoaaLvLawB
namespace Go.Proofs.LV
open Go
set_option linter.unusedVariables false
set_option linter.unusedSimpArgs false

/-- laws.FnExactMovingMean: slots 98, results [.t 4]; calls [20:g_laws_toFloat32S, 22:g_spec_MovingMean, 26:g_laws_toFloat32S, 30:g_impl_MovingMean, 35:g_laws_eqFloat32S, 44:g_laws_toFloat32S, 45:g_laws_eqFloat32S, 49:g_laws_markFloat32S, 55:g_laws_eqFloat32S, 65:g_laws_markFloat32S, 68:g_laws_heldFloat32S, 76:g_laws_toFloat32S, 78:g_impl_MovingMean, 83:g_laws_eqFloat32S, 92:g_laws_heldFloat32S]; names [(aList, 0), (aSide, 1), (aList, 2), (aSide, 3), (w0, 5), (w1, 6), (x0, 7), (g0, 8), (g1, 9), (k, 10), (m, 11), (q, 12), (h0, 13), (h1, 14)] -/
def ps_laws_FnExactMovingMean : List Nat := [0, 1, 4, 5, 6, 7, 8, 9, 10, 11, 12, 13, 14, 17, 41, 46, 62, 70, 73, 89, 94, 97]
def b_laws_FnExactMovingMean (g_laws_toFloat32S g_spec_MovingMean g_impl_MovingMean g_laws_eqFloat32S g_laws_markFloat32S g_laws_heldFloat32S : FuncId) : VCode :=
  (.seq
   (.region false [
    ⟨some 4, .mv, [.k (.b false)], none⟩])
   (.seq
    (.seq
     (.region false [
      ⟨some 15, .mv, [.t 0], none⟩,
      ⟨some 16, .len, [.t 15], none⟩,
      ⟨some 17, (.bin .gtr), [.t 16, .k (.i .i64 1048576)], none⟩])
     (.cond (.t 17)
      (.seq
       (.region false [
        ⟨some 4, .mv, [.k (.b true)], none⟩])
       .ret)
      .skip))
    (.seq
     (.region false [
      ⟨some 19, .mv, [.t 0], none⟩,
      ⟨some 20, (.call g_laws_toFloat32S), [.t 19], none⟩,
      ⟨some 21, .mv, [.t 1], none⟩,
      ⟨some 22, (.call g_spec_MovingMean), [.t 20, .t 21], none⟩,
      ⟨some 18, .mv, [.t 22], none⟩,
      ⟨some 23, (.extract 0), [.t 18], none⟩,
      ⟨some 24, (.extract 1), [.t 18], none⟩,
      ⟨some 5, .mv, [.t 23], none⟩,
      ⟨some 6, .mv, [.t 24], none⟩])
     (.seq
      (.region false [
       ⟨some 25, .mv, [.t 0], none⟩,
       ⟨some 26, (.call g_laws_toFloat32S), [.t 25], none⟩,
       ⟨some 7, .mv, [.t 26], none⟩])
      (.seq
       (.region false [
        ⟨some 28, .mv, [.t 7], none⟩,
        ⟨some 29, .mv, [.t 1], none⟩,
        ⟨some 30, (.call g_impl_MovingMean), [.t 28, .t 29], none⟩,
        ⟨some 27, .mv, [.t 30], none⟩,
        ⟨some 31, (.extract 0), [.t 27], none⟩,
        ⟨some 32, (.extract 1), [.t 27], none⟩,
        ⟨some 8, .mv, [.t 31], none⟩,
        ⟨some 9, .mv, [.t 32], none⟩])
       (.seq
        (.seq
         (.region false [
          ⟨some 33, .mv, [.t 8], none⟩,
          ⟨some 34, .mv, [.t 5], none⟩,
          ⟨some 35, (.call g_laws_eqFloat32S), [.t 33, .t 34], none⟩,
          ⟨some 36, .not, [.t 35], none⟩,
          ⟨some 37, .mv, [.t 36], none⟩,
          ⟨some 38, .mv, [.t 9], some (37, false)⟩,
          ⟨some 39, .mv, [.t 6], some (37, false)⟩,
          ⟨some 40, (.binb .neq), [.t 38, .t 39], some (37, false)⟩,
          ⟨some 41, .pick, [.t 37, .k (.b true), .t 40], none⟩])
         (.cond (.t 41)
          (.seq
           (.region false [
            ⟨some 4, .mv, [.k (.b false)], none⟩])
           .ret)
          .skip))
        (.seq
         (.seq
          (.region false [
           ⟨some 42, .mv, [.t 7], none⟩,
           ⟨some 43, .mv, [.t 0], none⟩,
           ⟨some 44, (.call g_laws_toFloat32S), [.t 43], none⟩,
           ⟨some 45, (.call g_laws_eqFloat32S), [.t 42, .t 44], none⟩,
           ⟨some 46, .not, [.t 45], none⟩])
          (.cond (.t 46)
           (.seq
            (.region false [
             ⟨some 4, .mv, [.k (.b false)], none⟩])
            .ret)
           .skip))
         (.seq
          (.region false [
           ⟨some 10, .mv, [.k (.i .i64 1)], none⟩])
          (.seq
           (.region false [
            ⟨some 47, .mv, [.t 7], none⟩,
            ⟨some 48, .mv, [.t 10], none⟩,
            ⟨some 49, (.call g_laws_markFloat32S), [.t 47, .t 48], none⟩,
            ⟨some 10, .mv, [.t 49], none⟩])
           (.seq
            (.seq
             (.region false [
              ⟨some 50, .mv, [.t 10], none⟩,
              ⟨some 51, (.bin .lss), [.t 50, .k (.i .i64 0)], none⟩,
              ⟨some 52, .mv, [.t 51], none⟩,
              ⟨some 53, .mv, [.t 8], some (52, false)⟩,
              ⟨some 54, .mv, [.t 5], some (52, false)⟩,
              ⟨some 55, (.call g_laws_eqFloat32S), [.t 53, .t 54], some (52, false)⟩,
              ⟨some 56, .not, [.t 55], some (52, false)⟩,
              ⟨some 57, .pick, [.t 52, .k (.b true), .t 56], none⟩,
              ⟨some 58, .mv, [.t 57], none⟩,
              ⟨some 59, .mv, [.t 9], some (58, false)⟩,
              ⟨some 60, .mv, [.t 6], some (58, false)⟩,
              ⟨some 61, (.binb .neq), [.t 59, .t 60], some (58, false)⟩,
              ⟨some 62, .pick, [.t 58, .k (.b true), .t 61], none⟩])
             (.cond (.t 62)
              (.seq
               (.region false [
                ⟨some 4, .mv, [.k (.b false)], none⟩])
               .ret)
              .skip))
            (.seq
             (.region false [
              ⟨some 11, .mv, [.k (.i .i64 1)], none⟩])
             (.seq
              (.region false [
               ⟨some 63, .mv, [.t 8], none⟩,
               ⟨some 64, .mv, [.t 11], none⟩,
               ⟨some 65, (.call g_laws_markFloat32S), [.t 63, .t 64], none⟩,
               ⟨some 11, .mv, [.t 65], none⟩])
              (.seq
               (.region false [
                ⟨some 12, .mv, [.k (.i .i64 1)], none⟩])
               (.seq
                (.region false [
                 ⟨some 66, .mv, [.t 8], none⟩,
                 ⟨some 67, .mv, [.t 12], none⟩,
                 ⟨some 68, (.call g_laws_heldFloat32S), [.t 66, .t 67], none⟩,
                 ⟨some 12, .mv, [.t 68], none⟩])
                (.seq
                 (.seq
                  (.region false [
                   ⟨some 69, .mv, [.t 12], none⟩,
                   ⟨some 70, (.bin .lss), [.t 69, .k (.i .i64 0)], none⟩])
                  (.cond (.t 70)
                   (.seq
                    (.region false [
                     ⟨some 4, .mv, [.k (.b false)], none⟩])
                    .ret)
                   .skip))
                 (.seq
                  (.seq
                   (.region false [
                    ⟨some 71, .mv, [.t 12], none⟩,
                    ⟨some 72, .mv, [.t 11], none⟩,
                    ⟨some 73, (.bin .neq), [.t 71, .t 72], none⟩])
                   (.cond (.t 73)
                    (.seq
                     (.region false [
                      ⟨some 4, .mv, [.k (.b false)], none⟩])
                     .ret)
                    .skip))
                  (.seq
                   (.region false [
                    ⟨some 75, .mv, [.t 0], none⟩,
                    ⟨some 76, (.call g_laws_toFloat32S), [.t 75], none⟩,
                    ⟨some 77, .mv, [.t 1], none⟩,
                    ⟨some 78, (.call g_impl_MovingMean), [.t 76, .t 77], none⟩,
                    ⟨some 74, .mv, [.t 78], none⟩,
                    ⟨some 79, (.extract 0), [.t 74], none⟩,
                    ⟨some 80, (.extract 1), [.t 74], none⟩,
                    ⟨some 13, .mv, [.t 79], none⟩,
                    ⟨some 14, .mv, [.t 80], none⟩])
                   (.seq
                    (.seq
                     (.region false [
                      ⟨some 81, .mv, [.t 13], none⟩,
                      ⟨some 82, .mv, [.t 5], none⟩,
                      ⟨some 83, (.call g_laws_eqFloat32S), [.t 81, .t 82], none⟩,
                      ⟨some 84, .not, [.t 83], none⟩,
                      ⟨some 85, .mv, [.t 84], none⟩,
                      ⟨some 86, .mv, [.t 14], some (85, false)⟩,
                      ⟨some 87, .mv, [.t 6], some (85, false)⟩,
                      ⟨some 88, (.binb .neq), [.t 86, .t 87], some (85, false)⟩,
                      ⟨some 89, .pick, [.t 85, .k (.b true), .t 88], none⟩])
                     (.cond (.t 89)
                      (.seq
                       (.region false [
                        ⟨some 4, .mv, [.k (.b false)], none⟩])
                       .ret)
                      .skip))
                    (.seq
                     (.region false [
                      ⟨some 12, .mv, [.k (.i .i64 1)], none⟩])
                     (.seq
                      (.region false [
                       ⟨some 90, .mv, [.t 8], none⟩,
                       ⟨some 91, .mv, [.t 12], none⟩,
                       ⟨some 92, (.call g_laws_heldFloat32S), [.t 90, .t 91], none⟩,
                       ⟨some 12, .mv, [.t 92], none⟩])
                      (.seq
                       (.seq
                        (.region false [
                         ⟨some 93, .mv, [.t 12], none⟩,
                         ⟨some 94, (.bin .lss), [.t 93, .k (.i .i64 0)], none⟩])
                        (.cond (.t 94)
                         (.seq
                          (.region false [
                           ⟨some 4, .mv, [.k (.b false)], none⟩])
                          .ret)
                         .skip))
                       (.seq
                        (.seq
                         (.region false [
                          ⟨some 95, .mv, [.t 12], none⟩,
                          ⟨some 96, .mv, [.t 11], none⟩,
                          ⟨some 97, (.bin .neq), [.t 95, .t 96], none⟩])
                         (.cond (.t 97)
                          (.seq
                           (.region false [
                            ⟨some 4, .mv, [.k (.b false)], none⟩])
                           .ret)
                          .skip))
                        (.seq
                         (.region false [
                          ⟨some 4, .mv, [.k (.b true)], none⟩])
                         .ret)))))))))))))))))))))))

abbrev Is_laws_FnExactMovingMean (P : Program) (g_f : FuncId) (g_laws_toFloat32S g_spec_MovingMean g_impl_MovingMean g_laws_eqFloat32S g_laws_markFloat32S g_laws_heldFloat32S : FuncId) : Prop := FnIs P g_f 98 [.t 4] (b_laws_FnExactMovingMean g_laws_toFloat32S g_spec_MovingMean g_impl_MovingMean g_laws_eqFloat32S g_laws_markFloat32S g_laws_heldFloat32S)

abbrev C_laws_FnExactMovingMean (P : Program) (g_f : FuncId) : Prop := ∀ (xs : List Nat) (side : Int) (hx : xs.length ≤ maxLen), VCall P g_f [PS [0] .f32 xs, .i .i64 side] (.b true)
def oc1_laws_FnExactMovingMean (as : List AV) : T AV := match as with | [.sl _ _ (.f .f32 xs), .i .i64 side] => .leaf (.b true) | _ => .fail
def oc_laws_FnExactMovingMean (xs : List Nat) (side : Int) (d : Nat) (as : List AV) : T AV := match d with | 20 => oc1_laws_toFloat32S as | 22 => oc1_spec_MovingMean as | 26 => oc1_laws_toFloat32S as | 30 => oc1_impl_MovingMean as | 35 => oc1_laws_eqFloat32S as | 44 => oc1_laws_toFloat32S as | 45 => oc1_laws_eqFloat32S as | 49 => oc1_laws_markFloat32S as | 55 => oc1_laws_eqFloat32S as | 65 => oc1_laws_markFloat32S as | 68 => oc1_laws_heldFloat32S as | 76 => oc1_laws_toFloat32S as | 78 => oc1_impl_MovingMean as | 83 => oc1_laws_eqFloat32S as | 92 => oc1_laws_heldFloat32S as | _ => .fail



theorem q_laws_FnExactMovingMean {P : Program} {g_f : FuncId} {g_laws_toFloat32S g_spec_MovingMean g_impl_MovingMean g_laws_eqFloat32S g_laws_markFloat32S g_laws_heldFloat32S : FuncId} (h_ : Is_laws_FnExactMovingMean P g_f g_laws_toFloat32S g_spec_MovingMean g_impl_MovingMean g_laws_eqFloat32S g_laws_markFloat32S g_laws_heldFloat32S) (xs : List Nat) (side : Int) (ht : T.ok (fun x_ => x_ = .b true) (
      T.ite (decide ((↑(List.length xs) : Int) > 1048576)) (T.leaf (AV.b true))
        (T.ob ((VCall P) g_laws_toFloat32S [AV.sl (Tag.par [0]) 0 (Cont.f FloatKind.f32 xs)] (AV.sl (Tag.own 0) 0 (Cont.f FloatKind.f32 xs)))
          (T.ob
            ((VCall P) g_spec_MovingMean [AV.sl (Tag.par [0]) 0 (Cont.f FloatKind.f32 xs), AV.i IntKind.i64 side]
              (AV.tup [AV.sl (Tag.own 0) 0 (Cont.f FloatKind.f32 (if mmOk meanM xs side = true then movM meanM xs (Int.toNat side) else [])), AV.b (mmOk meanM xs side)]))
            (T.ob ((VCall P) g_laws_toFloat32S [AV.sl (Tag.par [0]) 0 (Cont.f FloatKind.f32 xs)] (AV.sl (Tag.own 0) 0 (Cont.f FloatKind.f32 xs)))
              (T.ob
                ((VCall P) g_impl_MovingMean [AV.sl (Tag.par [0]) 0 (Cont.f FloatKind.f32 xs), AV.i IntKind.i64 side]
                  (AV.tup [AV.sl (Tag.own 0) 0 (Cont.f FloatKind.f32 (if mmOk meanM xs side = true then movM meanM xs (Int.toNat side) else [])), AV.b (mmOk meanM xs side)]))
                (T.ob
                  ((VCall P) g_laws_eqFloat32S
                    [AV.sl (Tag.par [0]) 0 (Cont.f FloatKind.f32 (if mmOk meanM xs side = true then movM meanM xs (Int.toNat side) else [])),
                      AV.sl (Tag.par [1]) 0 (Cont.f FloatKind.f32 (if mmOk meanM xs side = true then movM meanM xs (Int.toNat side) else []))]
                    (AV.b true))
                  (T.ite false (T.leaf (AV.b false))
                    (T.ite (!mmOk meanM xs side == mmOk meanM xs side) (T.leaf (AV.b false))
                      (T.ob ((VCall P) g_laws_toFloat32S [AV.sl (Tag.par [0]) 0 (Cont.f FloatKind.f32 xs)] (AV.sl (Tag.own 0) 0 (Cont.f FloatKind.f32 xs)))
                        (T.ob ((VCall P) g_laws_eqFloat32S [AV.sl (Tag.par [0]) 0 (Cont.f FloatKind.f32 xs), AV.sl (Tag.par [1]) 0 (Cont.f FloatKind.f32 xs)] (AV.b true))
                          (T.ite false (T.leaf (AV.b false))
                            (T.ob
                              ((VCall P) g_laws_markFloat32S [AV.sl (Tag.own 800000) 0 (Cont.f FloatKind.f32 xs), AV.i IntKind.i64 1]
                                  (AV.bx Tag.nil [AV.i IntKind.i64 (1 + (↑(List.length xs) : Int)), AV.tup [AV.sl (Tag.own 800000) 0 (Cont.f FloatKind.f32 (marksM (List.length xs) 1)), AV.i IntKind.i64 1]]) ∧
                                List.length xs = List.length (marksM (List.length xs) 1) ∧ List.length xs = List.length (marksM (List.length xs) 1) ∧ True)
                              (T.ite false (T.leaf (AV.b false))
                                (T.ob
                                  ((VCall P) g_laws_eqFloat32S
                                    [AV.sl (Tag.par [0]) 0 (Cont.f FloatKind.f32 (if mmOk meanM xs side = true then movM meanM xs (Int.toNat side) else [])),
                                      AV.sl (Tag.par [1]) 0 (Cont.f FloatKind.f32 (if mmOk meanM xs side = true then movM meanM xs (Int.toNat side) else []))]
                                    (AV.b true))
                                  (T.ite false (T.leaf (AV.b false))
                                    (T.ite (!mmOk meanM xs side == mmOk meanM xs side) (T.leaf (AV.b false))
                                      (T.ob
                                        ((VCall P) g_laws_markFloat32S [AV.sl (Tag.own 800000) 0 (Cont.f FloatKind.f32 (if mmOk meanM xs side = true then movM meanM xs (Int.toNat side) else [])), AV.i IntKind.i64 1]
                                            (AV.bx Tag.nil
                                              [AV.i IntKind.i64 (1 + (↑(List.length (if mmOk meanM xs side = true then movM meanM xs (Int.toNat side) else [])) : Int)),
                                                AV.tup
                                                  [AV.sl (Tag.own 800000) 0 (Cont.f FloatKind.f32 (marksM (List.length (if mmOk meanM xs side = true then movM meanM xs (Int.toNat side) else [])) 1)), AV.i IntKind.i64 1]]) ∧
                                          List.length (if mmOk meanM xs side = true then movM meanM xs (Int.toNat side) else []) =
                                              List.length (marksM (List.length (if mmOk meanM xs side = true then movM meanM xs (Int.toNat side) else [])) 1) ∧
                                            List.length (if mmOk meanM xs side = true then movM meanM xs (Int.toNat side) else []) =
                                                List.length (marksM (List.length (if mmOk meanM xs side = true then movM meanM xs (Int.toNat side) else [])) 1) ∧
                                              True)
                                        (T.ob
                                          ((VCall P) g_laws_heldFloat32S
                                            [AV.sl (Tag.par [0]) 0 (Cont.f FloatKind.f32 (marksM (List.length (if mmOk meanM xs side = true then movM meanM xs (Int.toNat side) else [])) 1)), AV.i IntKind.i64 1]
                                            (AV.i IntKind.i64 (1 + (↑(List.length (marksM (List.length (if mmOk meanM xs side = true then movM meanM xs (Int.toNat side) else [])) 1)) : Int))))
                                          (T.ite false (T.leaf (AV.b false))
                                            (T.ite
                                              (1 + (↑(List.length (marksM (List.length (if mmOk meanM xs side = true then movM meanM xs (Int.toNat side) else [])) 1)) : Int) !=
                                                1 + (↑(List.length (if mmOk meanM xs side = true then movM meanM xs (Int.toNat side) else [])) : Int))
                                              (T.leaf (AV.b false))
                                              (T.ob ((VCall P) g_laws_toFloat32S [AV.sl (Tag.par [0]) 0 (Cont.f FloatKind.f32 xs)] (AV.sl (Tag.own 0) 0 (Cont.f FloatKind.f32 xs)))
                                                (T.ob
                                                  ((VCall P) g_impl_MovingMean [AV.sl (Tag.par [0]) 0 (Cont.f FloatKind.f32 xs), AV.i IntKind.i64 side]
                                                    (AV.tup [AV.sl (Tag.own 0) 0 (Cont.f FloatKind.f32 (if mmOk meanM xs side = true then movM meanM xs (Int.toNat side) else [])), AV.b (mmOk meanM xs side)]))
                                                  (T.ob
                                                    ((VCall P) g_laws_eqFloat32S
                                                      [AV.sl (Tag.par [0]) 0 (Cont.f FloatKind.f32 (if mmOk meanM xs side = true then movM meanM xs (Int.toNat side) else [])),
                                                        AV.sl (Tag.par [1]) 0 (Cont.f FloatKind.f32 (if mmOk meanM xs side = true then movM meanM xs (Int.toNat side) else []))]
                                                      (AV.b true))
                                                    (T.ite false (T.leaf (AV.b false))
                                                      (T.ite (!mmOk meanM xs side == mmOk meanM xs side) (T.leaf (AV.b false))
                                                        (T.ob
                                                          ((VCall P) g_laws_heldFloat32S
                                                            [AV.sl (Tag.par [0]) 0 (Cont.f FloatKind.f32 (marksM (List.length (if mmOk meanM xs side = true then movM meanM xs (Int.toNat side) else [])) 1)), AV.i IntKind.i64 1]
                                                            (AV.i IntKind.i64 (1 + (↑(List.length (marksM (List.length (if mmOk meanM xs side = true then movM meanM xs (Int.toNat side) else [])) 1)) : Int))))
                                                          (T.ite false (T.leaf (AV.b false))
                                                            (T.ite
                                                              (1 + (↑(List.length (marksM (List.length (if mmOk meanM xs side = true then movM meanM xs (Int.toNat side) else [])) 1)) : Int) !=
                                                                1 + (↑(List.length (if mmOk meanM xs side = true then movM meanM xs (Int.toNat side) else [])) : Int))
                                                              (T.leaf (AV.b false)) (T.leaf (AV.b true))))))))))))))))))))))))))))))) :
    VCall P g_f [PS [0] .f32 xs, .i .i64 side] (.b true) := h_.call_of ps_laws_FnExactMovingMean ⟨oc_laws_FnExactMovingMean xs side, fun _ _ => none⟩ (by kernel_rfl) ht


/-- laws.FnExactLineFit: slots 52, results [.t 2]; calls [15:g_laws_toFloat32S, 16:g_spec_LineFit, 21:g_laws_toFloat32S, 24:g_impl_LineFit, 32:g_laws_sameFloat, 39:g_laws_sameFloat, 49:g_laws_toFloat32S, 50:g_laws_eqFloat32S]; names [(aA, 0), (aA, 1), (w0, 3), (w1, 4), (w2, 5), (x0, 6), (g0, 7), (g1, 8), (g2, 9)] -/
def ps_laws_FnExactLineFit : List Nat := [0, 2, 3, 4, 5, 6, 7, 8, 9, 12, 46, 51]
def b_laws_FnExactLineFit (g_laws_toFloat32S g_spec_LineFit g_impl_LineFit g_laws_sameFloat g_laws_eqFloat32S : FuncId) : VCode :=
  (.seq
   (.region false [
    ⟨some 2, .mv, [.k (.b false)], none⟩])
   (.seq
    (.seq
     (.region false [
      ⟨some 10, .mv, [.t 0], none⟩,
      ⟨some 11, .len, [.t 10], none⟩,
      ⟨some 12, (.bin .gtr), [.t 11, .k (.i .i64 1048576)], none⟩])
     (.cond (.t 12)
      (.seq
       (.region false [
        ⟨some 2, .mv, [.k (.b true)], none⟩])
       .ret)
      .skip))
    (.seq
     (.region false [
      ⟨some 14, .mv, [.t 0], none⟩,
      ⟨some 15, (.call g_laws_toFloat32S), [.t 14], none⟩,
      ⟨some 16, (.call g_spec_LineFit), [.t 15], none⟩,
      ⟨some 13, .mv, [.t 16], none⟩,
      ⟨some 17, (.extract 0), [.t 13], none⟩,
      ⟨some 18, (.extract 1), [.t 13], none⟩,
      ⟨some 19, (.extract 2), [.t 13], none⟩,
      ⟨some 3, .mv, [.t 17], none⟩,
      ⟨some 4, .mv, [.t 18], none⟩,
      ⟨some 5, .mv, [.t 19], none⟩])
     (.seq
      (.region false [
       ⟨some 20, .mv, [.t 0], none⟩,
       ⟨some 21, (.call g_laws_toFloat32S), [.t 20], none⟩,
       ⟨some 6, .mv, [.t 21], none⟩])
      (.seq
       (.region false [
        ⟨some 23, .mv, [.t 6], none⟩,
        ⟨some 24, (.call g_impl_LineFit), [.t 23], none⟩,
        ⟨some 22, .mv, [.t 24], none⟩,
        ⟨some 25, (.extract 0), [.t 22], none⟩,
        ⟨some 26, (.extract 1), [.t 22], none⟩,
        ⟨some 27, (.extract 2), [.t 22], none⟩,
        ⟨some 7, .mv, [.t 25], none⟩,
        ⟨some 8, .mv, [.t 26], none⟩,
        ⟨some 9, .mv, [.t 27], none⟩])
       (.seq
        (.seq
         (.region false [
          ⟨some 28, .mv, [.t 7], none⟩,
          ⟨some 29, (.convF .f64), [.t 28], none⟩,
          ⟨some 30, .mv, [.t 3], none⟩,
          ⟨some 31, (.convF .f64), [.t 30], none⟩,
          ⟨some 32, (.call g_laws_sameFloat), [.t 29, .t 31], none⟩,
          ⟨some 33, .not, [.t 32], none⟩,
          ⟨some 34, .mv, [.t 33], none⟩,
          ⟨some 35, .mv, [.t 8], some (34, false)⟩,
          ⟨some 36, (.convF .f64), [.t 35], some (34, false)⟩,
          ⟨some 37, .mv, [.t 4], some (34, false)⟩,
          ⟨some 38, (.convF .f64), [.t 37], some (34, false)⟩,
          ⟨some 39, (.call g_laws_sameFloat), [.t 36, .t 38], some (34, false)⟩,
          ⟨some 40, .not, [.t 39], some (34, false)⟩,
          ⟨some 41, .pick, [.t 34, .k (.b true), .t 40], none⟩,
          ⟨some 42, .mv, [.t 41], none⟩,
          ⟨some 43, .mv, [.t 9], some (42, false)⟩,
          ⟨some 44, .mv, [.t 5], some (42, false)⟩,
          ⟨some 45, (.binb .neq), [.t 43, .t 44], some (42, false)⟩,
          ⟨some 46, .pick, [.t 42, .k (.b true), .t 45], none⟩])
         (.cond (.t 46)
          (.seq
           (.region false [
            ⟨some 2, .mv, [.k (.b false)], none⟩])
           .ret)
          .skip))
        (.seq
         (.seq
          (.region false [
           ⟨some 47, .mv, [.t 6], none⟩,
           ⟨some 48, .mv, [.t 0], none⟩,
           ⟨some 49, (.call g_laws_toFloat32S), [.t 48], none⟩,
           ⟨some 50, (.call g_laws_eqFloat32S), [.t 47, .t 49], none⟩,
           ⟨some 51, .not, [.t 50], none⟩])
          (.cond (.t 51)
           (.seq
            (.region false [
             ⟨some 2, .mv, [.k (.b false)], none⟩])
            .ret)
           .skip))
         (.seq
          (.region false [
           ⟨some 2, .mv, [.k (.b true)], none⟩])
          .ret))))))))

abbrev Is_laws_FnExactLineFit (P : Program) (g_f : FuncId) (g_laws_toFloat32S g_spec_LineFit g_impl_LineFit g_laws_sameFloat g_laws_eqFloat32S : FuncId) : Prop := FnIs P g_f 52 [.t 2] (b_laws_FnExactLineFit g_laws_toFloat32S g_spec_LineFit g_impl_LineFit g_laws_sameFloat g_laws_eqFloat32S)

abbrev C_laws_FnExactLineFit (P : Program) (g_f : FuncId) : Prop := ∀ (xs : List Nat) (hx : xs.length ≤ maxLen), VCall P g_f [PS [0] .f32 xs] (.b true)
def oc1_laws_FnExactLineFit (as : List AV) : T AV := match as with | [.sl _ _ (.f .f32 xs)] => .leaf (.b true) | _ => .fail
def oc_laws_FnExactLineFit (xs : List Nat) (d : Nat) (as : List AV) : T AV := match d with | 15 => oc1_laws_toFloat32S as | 16 => oc1_spec_LineFit as | 21 => oc1_laws_toFloat32S as | 24 => oc1_impl_LineFit as | 32 => oc1_laws_sameFloat as | 39 => oc1_laws_sameFloat as | 49 => oc1_laws_toFloat32S as | 50 => oc1_laws_eqFloat32S as | _ => .fail



theorem q_laws_FnExactLineFit {P : Program} {g_f : FuncId} {g_laws_toFloat32S g_spec_LineFit g_impl_LineFit g_laws_sameFloat g_laws_eqFloat32S : FuncId} (h_ : Is_laws_FnExactLineFit P g_f g_laws_toFloat32S g_spec_LineFit g_impl_LineFit g_laws_sameFloat g_laws_eqFloat32S) (xs : List Nat) (ht : T.ok (fun x_ => x_ = .b true) (
      T.ite (decide ((↑(List.length xs) : Int) > 1048576)) (T.leaf (AV.b true))
        (T.ob ((VCall P) g_laws_toFloat32S [AV.sl (Tag.par [0]) 0 (Cont.f FloatKind.f32 xs)] (AV.sl (Tag.own 0) 0 (Cont.f FloatKind.f32 xs)))
          (T.ob
            ((VCall P) g_spec_LineFit [AV.sl (Tag.par [0]) 0 (Cont.f FloatKind.f32 xs)]
              (AV.tup [AV.f FloatKind.f32 (if lfOk xs = true then lfBase xs else 0), AV.f FloatKind.f32 (if lfOk xs = true then lfSlope xs else 0), AV.b (lfOk xs)]))
            (T.ob ((VCall P) g_laws_toFloat32S [AV.sl (Tag.par [0]) 0 (Cont.f FloatKind.f32 xs)] (AV.sl (Tag.own 0) 0 (Cont.f FloatKind.f32 xs)))
              (T.ob
                ((VCall P) g_impl_LineFit [AV.sl (Tag.par [0]) 0 (Cont.f FloatKind.f32 xs)]
                  (AV.tup [AV.f FloatKind.f32 (if lfOk xs = true then lfBase xs else 0), AV.f FloatKind.f32 (if lfOk xs = true then lfSlope xs else 0), AV.b (lfOk xs)]))
                (T.ob (fconvOk FloatKind.f32 FloatKind.f64 (if lfOk xs = true then lfBase xs else 0) = true)
                  (T.ob (fconvOk FloatKind.f32 FloatKind.f64 (if lfOk xs = true then lfBase xs else 0) = true)
                    (T.ob
                      ((VCall P) g_laws_sameFloat
                        [AV.f FloatKind.f64 (fconv FloatKind.f32 FloatKind.f64 (if lfOk xs = true then lfBase xs else 0)), AV.f FloatKind.f64 (fconv FloatKind.f32 FloatKind.f64 (if lfOk xs = true then lfBase xs else 0))]
                        (AV.b true))
                      (T.ite false (T.leaf (AV.b false))
                        (T.ob (fconvOk FloatKind.f32 FloatKind.f64 (if lfOk xs = true then lfSlope xs else 0) = true)
                          (T.ob (fconvOk FloatKind.f32 FloatKind.f64 (if lfOk xs = true then lfSlope xs else 0) = true)
                            (T.ob
                              ((VCall P) g_laws_sameFloat
                                [AV.f FloatKind.f64 (fconv FloatKind.f32 FloatKind.f64 (if lfOk xs = true then lfSlope xs else 0)),
                                  AV.f FloatKind.f64 (fconv FloatKind.f32 FloatKind.f64 (if lfOk xs = true then lfSlope xs else 0))]
                                (AV.b true))
                              (T.ite false (T.leaf (AV.b false))
                                (T.ite (!lfOk xs == lfOk xs) (T.leaf (AV.b false))
                                  (T.ob ((VCall P) g_laws_toFloat32S [AV.sl (Tag.par [0]) 0 (Cont.f FloatKind.f32 xs)] (AV.sl (Tag.own 0) 0 (Cont.f FloatKind.f32 xs)))
                                    (T.ob ((VCall P) g_laws_eqFloat32S [AV.sl (Tag.par [0]) 0 (Cont.f FloatKind.f32 xs), AV.sl (Tag.par [1]) 0 (Cont.f FloatKind.f32 xs)] (AV.b true))
                                      (T.ite false (T.leaf (AV.b false)) (T.leaf (AV.b true)))))))))))))))))))) :
    VCall P g_f [PS [0] .f32 xs] (.b true) := h_.call_of ps_laws_FnExactLineFit ⟨oc_laws_FnExactLineFit xs, fun _ _ => none⟩ (by kernel_rfl) ht


/-- laws.FnExactFoldedBy: slots 128, results [.t 4]; calls [23:g_laws_toFloat32S, 25:g_spec_FoldedBy, 30:g_laws_toFloat32S, 34:g_impl_FoldedBy, 40:g_laws_eqFloat32S, 47:g_laws_sameFloat, 57:g_laws_toFloat32S, 58:g_laws_eqFloat32S, 62:g_laws_markFloat32S, 68:g_laws_eqFloat32S, 76:g_laws_sameFloat, 86:g_laws_markFloat32S, 89:g_laws_heldFloat32S, 97:g_laws_toFloat32S, 99:g_impl_FoldedBy, 105:g_laws_eqFloat32S, 112:g_laws_sameFloat, 122:g_laws_heldFloat32S]; names [(aA, 0), (aPeriod, 1), (aA, 2), (aPeriod, 3), (w0, 5), (w1, 6), (w2, 7), (x0, 8), (g0, 9), (g1, 10), (g2, 11), (k, 12), (m, 13), (q, 14), (h0, 15), (h1, 16), (h2, 17)] -/
def ps_laws_FnExactFoldedBy : List Nat := [0, 1, 4, 5, 6, 7, 8, 9, 10, 11, 12, 13, 14, 15, 16, 17, 20, 54, 59, 83, 91, 94, 119, 124, 127]
def b_laws_FnExactFoldedBy (g_laws_toFloat32S g_spec_FoldedBy g_impl_FoldedBy g_laws_eqFloat32S g_laws_sameFloat g_laws_markFloat32S g_laws_heldFloat32S : FuncId) : VCode :=
  (.seq
   (.region false [
    ⟨some 4, .mv, [.k (.b false)], none⟩])
   (.seq
    (.seq
     (.region false [
      ⟨some 18, .mv, [.t 0], none⟩,
      ⟨some 19, .len, [.t 18], none⟩,
      ⟨some 20, (.bin .gtr), [.t 19, .k (.i .i64 1048576)], none⟩])
     (.cond (.t 20)
      (.seq
       (.region false [
        ⟨some 4, .mv, [.k (.b true)], none⟩])
       .ret)
      .skip))
    (.seq
     (.region false [
      ⟨some 22, .mv, [.t 0], none⟩,
      ⟨some 23, (.call g_laws_toFloat32S), [.t 22], none⟩,
      ⟨some 24, .mv, [.t 1], none⟩,
      ⟨some 25, (.call g_spec_FoldedBy), [.t 23, .t 24], none⟩,
      ⟨some 21, .mv, [.t 25], none⟩,
      ⟨some 26, (.extract 0), [.t 21], none⟩,
      ⟨some 27, (.extract 1), [.t 21], none⟩,
      ⟨some 28, (.extract 2), [.t 21], none⟩,
      ⟨some 5, .mv, [.t 26], none⟩,
      ⟨some 6, .mv, [.t 27], none⟩,
      ⟨some 7, .mv, [.t 28], none⟩])
     (.seq
      (.region false [
       ⟨some 29, .mv, [.t 0], none⟩,
       ⟨some 30, (.call g_laws_toFloat32S), [.t 29], none⟩,
       ⟨some 8, .mv, [.t 30], none⟩])
      (.seq
       (.region false [
        ⟨some 32, .mv, [.t 8], none⟩,
        ⟨some 33, .mv, [.t 1], none⟩,
        ⟨some 34, (.call g_impl_FoldedBy), [.t 32, .t 33], none⟩,
        ⟨some 31, .mv, [.t 34], none⟩,
        ⟨some 35, (.extract 0), [.t 31], none⟩,
        ⟨some 36, (.extract 1), [.t 31], none⟩,
        ⟨some 37, (.extract 2), [.t 31], none⟩,
        ⟨some 9, .mv, [.t 35], none⟩,
        ⟨some 10, .mv, [.t 36], none⟩,
        ⟨some 11, .mv, [.t 37], none⟩])
       (.seq
        (.seq
         (.region false [
          ⟨some 38, .mv, [.t 9], none⟩,
          ⟨some 39, .mv, [.t 5], none⟩,
          ⟨some 40, (.call g_laws_eqFloat32S), [.t 38, .t 39], none⟩,
          ⟨some 41, .not, [.t 40], none⟩,
          ⟨some 42, .mv, [.t 41], none⟩,
          ⟨some 43, .mv, [.t 10], some (42, false)⟩,
          ⟨some 44, (.convF .f64), [.t 43], some (42, false)⟩,
          ⟨some 45, .mv, [.t 6], some (42, false)⟩,
          ⟨some 46, (.convF .f64), [.t 45], some (42, false)⟩,
          ⟨some 47, (.call g_laws_sameFloat), [.t 44, .t 46], some (42, false)⟩,
          ⟨some 48, .not, [.t 47], some (42, false)⟩,
          ⟨some 49, .pick, [.t 42, .k (.b true), .t 48], none⟩,
          ⟨some 50, .mv, [.t 49], none⟩,
          ⟨some 51, .mv, [.t 11], some (50, false)⟩,
          ⟨some 52, .mv, [.t 7], some (50, false)⟩,
          ⟨some 53, (.binb .neq), [.t 51, .t 52], some (50, false)⟩,
          ⟨some 54, .pick, [.t 50, .k (.b true), .t 53], none⟩])
         (.cond (.t 54)
          (.seq
           (.region false [
            ⟨some 4, .mv, [.k (.b false)], none⟩])
           .ret)
          .skip))
        (.seq
         (.seq
          (.region false [
           ⟨some 55, .mv, [.t 8], none⟩,
           ⟨some 56, .mv, [.t 0], none⟩,
           ⟨some 57, (.call g_laws_toFloat32S), [.t 56], none⟩,
           ⟨some 58, (.call g_laws_eqFloat32S), [.t 55, .t 57], none⟩,
           ⟨some 59, .not, [.t 58], none⟩])
          (.cond (.t 59)
           (.seq
            (.region false [
             ⟨some 4, .mv, [.k (.b false)], none⟩])
            .ret)
           .skip))
         (.seq
          (.region false [
           ⟨some 12, .mv, [.k (.i .i64 1)], none⟩])
          (.seq
           (.region false [
            ⟨some 60, .mv, [.t 8], none⟩,
            ⟨some 61, .mv, [.t 12], none⟩,
            ⟨some 62, (.call g_laws_markFloat32S), [.t 60, .t 61], none⟩,
            ⟨some 12, .mv, [.t 62], none⟩])
           (.seq
            (.seq
             (.region false [
              ⟨some 63, .mv, [.t 12], none⟩,
              ⟨some 64, (.bin .lss), [.t 63, .k (.i .i64 0)], none⟩,
              ⟨some 65, .mv, [.t 64], none⟩,
              ⟨some 66, .mv, [.t 9], some (65, false)⟩,
              ⟨some 67, .mv, [.t 5], some (65, false)⟩,
              ⟨some 68, (.call g_laws_eqFloat32S), [.t 66, .t 67], some (65, false)⟩,
              ⟨some 69, .not, [.t 68], some (65, false)⟩,
              ⟨some 70, .pick, [.t 65, .k (.b true), .t 69], none⟩,
              ⟨some 71, .mv, [.t 70], none⟩,
              ⟨some 72, .mv, [.t 10], some (71, false)⟩,
              ⟨some 73, (.convF .f64), [.t 72], some (71, false)⟩,
              ⟨some 74, .mv, [.t 6], some (71, false)⟩,
              ⟨some 75, (.convF .f64), [.t 74], some (71, false)⟩,
              ⟨some 76, (.call g_laws_sameFloat), [.t 73, .t 75], some (71, false)⟩,
              ⟨some 77, .not, [.t 76], some (71, false)⟩,
              ⟨some 78, .pick, [.t 71, .k (.b true), .t 77], none⟩,
              ⟨some 79, .mv, [.t 78], none⟩,
              ⟨some 80, .mv, [.t 11], some (79, false)⟩,
              ⟨some 81, .mv, [.t 7], some (79, false)⟩,
              ⟨some 82, (.binb .neq), [.t 80, .t 81], some (79, false)⟩,
              ⟨some 83, .pick, [.t 79, .k (.b true), .t 82], none⟩])
             (.cond (.t 83)
              (.seq
               (.region false [
                ⟨some 4, .mv, [.k (.b false)], none⟩])
               .ret)
              .skip))
            (.seq
             (.region false [
              ⟨some 13, .mv, [.k (.i .i64 1)], none⟩])
             (.seq
              (.region false [
               ⟨some 84, .mv, [.t 9], none⟩,
               ⟨some 85, .mv, [.t 13], none⟩,
               ⟨some 86, (.call g_laws_markFloat32S), [.t 84, .t 85], none⟩,
               ⟨some 13, .mv, [.t 86], none⟩])
              (.seq
               (.region false [
                ⟨some 14, .mv, [.k (.i .i64 1)], none⟩])
               (.seq
                (.region false [
                 ⟨some 87, .mv, [.t 9], none⟩,
                 ⟨some 88, .mv, [.t 14], none⟩,
                 ⟨some 89, (.call g_laws_heldFloat32S), [.t 87, .t 88], none⟩,
                 ⟨some 14, .mv, [.t 89], none⟩])
                (.seq
                 (.seq
                  (.region false [
                   ⟨some 90, .mv, [.t 14], none⟩,
                   ⟨some 91, (.bin .lss), [.t 90, .k (.i .i64 0)], none⟩])
                  (.cond (.t 91)
                   (.seq
                    (.region false [
                     ⟨some 4, .mv, [.k (.b false)], none⟩])
                    .ret)
                   .skip))
                 (.seq
                  (.seq
                   (.region false [
                    ⟨some 92, .mv, [.t 14], none⟩,
                    ⟨some 93, .mv, [.t 13], none⟩,
                    ⟨some 94, (.bin .neq), [.t 92, .t 93], none⟩])
                   (.cond (.t 94)
                    (.seq
                     (.region false [
                      ⟨some 4, .mv, [.k (.b false)], none⟩])
                     .ret)
                    .skip))
                  (.seq
                   (.region false [
                    ⟨some 96, .mv, [.t 0], none⟩,
                    ⟨some 97, (.call g_laws_toFloat32S), [.t 96], none⟩,
                    ⟨some 98, .mv, [.t 1], none⟩,
                    ⟨some 99, (.call g_impl_FoldedBy), [.t 97, .t 98], none⟩,
                    ⟨some 95, .mv, [.t 99], none⟩,
                    ⟨some 100, (.extract 0), [.t 95], none⟩,
                    ⟨some 101, (.extract 1), [.t 95], none⟩,
                    ⟨some 102, (.extract 2), [.t 95], none⟩,
                    ⟨some 15, .mv, [.t 100], none⟩,
                    ⟨some 16, .mv, [.t 101], none⟩,
                    ⟨some 17, .mv, [.t 102], none⟩])
                   (.seq
                    (.seq
                     (.region false [
                      ⟨some 103, .mv, [.t 15], none⟩,
                      ⟨some 104, .mv, [.t 5], none⟩,
                      ⟨some 105, (.call g_laws_eqFloat32S), [.t 103, .t 104], none⟩,
                      ⟨some 106, .not, [.t 105], none⟩,
                      ⟨some 107, .mv, [.t 106], none⟩,
                      ⟨some 108, .mv, [.t 16], some (107, false)⟩,
                      ⟨some 109, (.convF .f64), [.t 108], some (107, false)⟩,
                      ⟨some 110, .mv, [.t 6], some (107, false)⟩,
                      ⟨some 111, (.convF .f64), [.t 110], some (107, false)⟩,
                      ⟨some 112, (.call g_laws_sameFloat), [.t 109, .t 111], some (107, false)⟩,
                      ⟨some 113, .not, [.t 112], some (107, false)⟩,
                      ⟨some 114, .pick, [.t 107, .k (.b true), .t 113], none⟩,
                      ⟨some 115, .mv, [.t 114], none⟩,
                      ⟨some 116, .mv, [.t 17], some (115, false)⟩,
                      ⟨some 117, .mv, [.t 7], some (115, false)⟩,
                      ⟨some 118, (.binb .neq), [.t 116, .t 117], some (115, false)⟩,
                      ⟨some 119, .pick, [.t 115, .k (.b true), .t 118], none⟩])
                     (.cond (.t 119)
                      (.seq
                       (.region false [
                        ⟨some 4, .mv, [.k (.b false)], none⟩])
                       .ret)
                      .skip))
                    (.seq
                     (.region false [
                      ⟨some 14, .mv, [.k (.i .i64 1)], none⟩])
                     (.seq
                      (.region false [
                       ⟨some 120, .mv, [.t 9], none⟩,
                       ⟨some 121, .mv, [.t 14], none⟩,
                       ⟨some 122, (.call g_laws_heldFloat32S), [.t 120, .t 121], none⟩,
                       ⟨some 14, .mv, [.t 122], none⟩])
                      (.seq
                       (.seq
                        (.region false [
                         ⟨some 123, .mv, [.t 14], none⟩,
                         ⟨some 124, (.bin .lss), [.t 123, .k (.i .i64 0)], none⟩])
                        (.cond (.t 124)
                         (.seq
                          (.region false [
                           ⟨some 4, .mv, [.k (.b false)], none⟩])
                          .ret)
                         .skip))
                       (.seq
                        (.seq
                         (.region false [
                          ⟨some 125, .mv, [.t 14], none⟩,
                          ⟨some 126, .mv, [.t 13], none⟩,
                          ⟨some 127, (.bin .neq), [.t 125, .t 126], none⟩])
                         (.cond (.t 127)
                          (.seq
                           (.region false [
                            ⟨some 4, .mv, [.k (.b false)], none⟩])
                           .ret)
                          .skip))
                        (.seq
                         (.region false [
                          ⟨some 4, .mv, [.k (.b true)], none⟩])
                         .ret)))))))))))))))))))))))

abbrev Is_laws_FnExactFoldedBy (P : Program) (g_f : FuncId) (g_laws_toFloat32S g_spec_FoldedBy g_impl_FoldedBy g_laws_eqFloat32S g_laws_sameFloat g_laws_markFloat32S g_laws_heldFloat32S : FuncId) : Prop := FnIs P g_f 128 [.t 4] (b_laws_FnExactFoldedBy g_laws_toFloat32S g_spec_FoldedBy g_impl_FoldedBy g_laws_eqFloat32S g_laws_sameFloat g_laws_markFloat32S g_laws_heldFloat32S)

abbrev C_laws_FnExactFoldedBy (P : Program) (g_f : FuncId) : Prop := ∀ (xs : List Nat) (per : Int) (hx : xs.length ≤ maxLen), VCall P g_f [PS [0] .f32 xs, .i .i64 per] (.b true)
def oc1_laws_FnExactFoldedBy (as : List AV) : T AV := match as with | [.sl _ _ (.f .f32 xs), .i .i64 per] => .leaf (.b true) | _ => .fail
def oc_laws_FnExactFoldedBy (xs : List Nat) (per : Int) (d : Nat) (as : List AV) : T AV := match d with | 23 => oc1_laws_toFloat32S as | 25 => oc1_spec_FoldedBy as | 30 => oc1_laws_toFloat32S as | 34 => oc1_impl_FoldedBy as | 40 => oc1_laws_eqFloat32S as | 47 => oc1_laws_sameFloat as | 57 => oc1_laws_toFloat32S as | 58 => oc1_laws_eqFloat32S as | 62 => oc1_laws_markFloat32S as | 68 => oc1_laws_eqFloat32S as | 76 => oc1_laws_sameFloat as | 86 => oc1_laws_markFloat32S as | 89 => oc1_laws_heldFloat32S as | 97 => oc1_laws_toFloat32S as | 99 => oc1_impl_FoldedBy as | 105 => oc1_laws_eqFloat32S as | 112 => oc1_laws_sameFloat as | 122 => oc1_laws_heldFloat32S as | _ => .fail



theorem q_laws_FnExactFoldedBy {P : Program} {g_f : FuncId} {g_laws_toFloat32S g_spec_FoldedBy g_impl_FoldedBy g_laws_eqFloat32S g_laws_sameFloat g_laws_markFloat32S g_laws_heldFloat32S : FuncId} (h_ : Is_laws_FnExactFoldedBy P g_f g_laws_toFloat32S g_spec_FoldedBy g_impl_FoldedBy g_laws_eqFloat32S g_laws_sameFloat g_laws_markFloat32S g_laws_heldFloat32S) (xs : List Nat) (per : Int) (ht : T.ok (fun x_ => x_ = .b true) (
      T.ite (decide ((↑(List.length xs) : Int) > 1048576)) (T.leaf (AV.b true))
        (T.ob ((VCall P) g_laws_toFloat32S [AV.sl (Tag.par [0]) 0 (Cont.f FloatKind.f32 xs)] (AV.sl (Tag.own 0) 0 (Cont.f FloatKind.f32 xs)))
          (T.ob
            ((VCall P) g_spec_FoldedBy [AV.sl (Tag.par [0]) 0 (Cont.f FloatKind.f32 xs), AV.i IntKind.i64 per]
              (AV.tup
                [AV.sl (Tag.own 0) 0 (Cont.f FloatKind.f32 (if foldOk xs per = true then foldM xs (Int.toNat per) else [])), AV.f FloatKind.f32 (if foldOk xs per = true then leftM xs (foldM xs (Int.toNat per)) else 0),
                  AV.b (foldOk xs per)]))
            (T.ob ((VCall P) g_laws_toFloat32S [AV.sl (Tag.par [0]) 0 (Cont.f FloatKind.f32 xs)] (AV.sl (Tag.own 0) 0 (Cont.f FloatKind.f32 xs)))
              (T.ob
                ((VCall P) g_impl_FoldedBy [AV.sl (Tag.par [0]) 0 (Cont.f FloatKind.f32 xs), AV.i IntKind.i64 per]
                  (AV.tup
                    [AV.sl (Tag.own 0) 0 (Cont.f FloatKind.f32 (if foldOk xs per = true then foldM xs (Int.toNat per) else [])), AV.f FloatKind.f32 (if foldOk xs per = true then leftM xs (foldM xs (Int.toNat per)) else 0),
                      AV.b (foldOk xs per)]))
                (T.ob
                  ((VCall P) g_laws_eqFloat32S
                    [AV.sl (Tag.par [0]) 0 (Cont.f FloatKind.f32 (if foldOk xs per = true then foldM xs (Int.toNat per) else [])),
                      AV.sl (Tag.par [1]) 0 (Cont.f FloatKind.f32 (if foldOk xs per = true then foldM xs (Int.toNat per) else []))]
                    (AV.b true))
                  (T.ite false (T.leaf (AV.b false))
                    (T.ob (fconvOk FloatKind.f32 FloatKind.f64 (if foldOk xs per = true then leftM xs (foldM xs (Int.toNat per)) else 0) = true)
                      (T.ob (fconvOk FloatKind.f32 FloatKind.f64 (if foldOk xs per = true then leftM xs (foldM xs (Int.toNat per)) else 0) = true)
                        (T.ob
                          ((VCall P) g_laws_sameFloat
                            [AV.f FloatKind.f64 (fconv FloatKind.f32 FloatKind.f64 (if foldOk xs per = true then leftM xs (foldM xs (Int.toNat per)) else 0)),
                              AV.f FloatKind.f64 (fconv FloatKind.f32 FloatKind.f64 (if foldOk xs per = true then leftM xs (foldM xs (Int.toNat per)) else 0))]
                            (AV.b true))
                          (T.ite false (T.leaf (AV.b false))
                            (T.ite (!foldOk xs per == foldOk xs per) (T.leaf (AV.b false))
                              (T.ob ((VCall P) g_laws_toFloat32S [AV.sl (Tag.par [0]) 0 (Cont.f FloatKind.f32 xs)] (AV.sl (Tag.own 0) 0 (Cont.f FloatKind.f32 xs)))
                                (T.ob ((VCall P) g_laws_eqFloat32S [AV.sl (Tag.par [0]) 0 (Cont.f FloatKind.f32 xs), AV.sl (Tag.par [1]) 0 (Cont.f FloatKind.f32 xs)] (AV.b true))
                                  (T.ite false (T.leaf (AV.b false))
                                    (T.ob
                                      ((VCall P) g_laws_markFloat32S [AV.sl (Tag.own 800000) 0 (Cont.f FloatKind.f32 xs), AV.i IntKind.i64 1]
                                          (AV.bx Tag.nil [AV.i IntKind.i64 (1 + (↑(List.length xs) : Int)), AV.tup [AV.sl (Tag.own 800000) 0 (Cont.f FloatKind.f32 (marksM (List.length xs) 1)), AV.i IntKind.i64 1]]) ∧
                                        List.length xs = List.length (marksM (List.length xs) 1) ∧ List.length xs = List.length (marksM (List.length xs) 1) ∧ True)
                                      (T.ite false (T.leaf (AV.b false))
                                        (T.ob
                                          ((VCall P) g_laws_eqFloat32S
                                            [AV.sl (Tag.par [0]) 0 (Cont.f FloatKind.f32 (if foldOk xs per = true then foldM xs (Int.toNat per) else [])),
                                              AV.sl (Tag.par [1]) 0 (Cont.f FloatKind.f32 (if foldOk xs per = true then foldM xs (Int.toNat per) else []))]
                                            (AV.b true))
                                          (T.ite false (T.leaf (AV.b false))
                                            (T.ob (fconvOk FloatKind.f32 FloatKind.f64 (if foldOk xs per = true then leftM xs (foldM xs (Int.toNat per)) else 0) = true)
                                              (T.ob (fconvOk FloatKind.f32 FloatKind.f64 (if foldOk xs per = true then leftM xs (foldM xs (Int.toNat per)) else 0) = true)
                                                (T.ob
                                                  ((VCall P) g_laws_sameFloat
                                                    [AV.f FloatKind.f64 (fconv FloatKind.f32 FloatKind.f64 (if foldOk xs per = true then leftM xs (foldM xs (Int.toNat per)) else 0)),
                                                      AV.f FloatKind.f64 (fconv FloatKind.f32 FloatKind.f64 (if foldOk xs per = true then leftM xs (foldM xs (Int.toNat per)) else 0))]
                                                    (AV.b true))
                                                  (T.ite false (T.leaf (AV.b false))
                                                    (T.ite (!foldOk xs per == foldOk xs per) (T.leaf (AV.b false))
                                                      (T.ob
                                                        ((VCall P) g_laws_markFloat32S [AV.sl (Tag.own 800000) 0 (Cont.f FloatKind.f32 (if foldOk xs per = true then foldM xs (Int.toNat per) else [])), AV.i IntKind.i64 1]
                                                            (AV.bx Tag.nil
                                                              [AV.i IntKind.i64 (1 + (↑(List.length (if foldOk xs per = true then foldM xs (Int.toNat per) else [])) : Int)),
                                                                AV.tup
                                                                  [AV.sl (Tag.own 800000) 0 (Cont.f FloatKind.f32 (marksM (List.length (if foldOk xs per = true then foldM xs (Int.toNat per) else [])) 1)),
                                                                    AV.i IntKind.i64 1]]) ∧
                                                          List.length (if foldOk xs per = true then foldM xs (Int.toNat per) else []) =
                                                              List.length (marksM (List.length (if foldOk xs per = true then foldM xs (Int.toNat per) else [])) 1) ∧
                                                            List.length (if foldOk xs per = true then foldM xs (Int.toNat per) else []) =
                                                                List.length (marksM (List.length (if foldOk xs per = true then foldM xs (Int.toNat per) else [])) 1) ∧
                                                              True)
                                                        (T.ob
                                                          ((VCall P) g_laws_heldFloat32S
                                                            [AV.sl (Tag.par [0]) 0 (Cont.f FloatKind.f32 (marksM (List.length (if foldOk xs per = true then foldM xs (Int.toNat per) else [])) 1)), AV.i IntKind.i64 1]
                                                            (AV.i IntKind.i64 (1 + (↑(List.length (marksM (List.length (if foldOk xs per = true then foldM xs (Int.toNat per) else [])) 1)) : Int))))
                                                          (T.ite false (T.leaf (AV.b false))
                                                            (T.ite
                                                              (1 + (↑(List.length (marksM (List.length (if foldOk xs per = true then foldM xs (Int.toNat per) else [])) 1)) : Int) !=
                                                                1 + (↑(List.length (if foldOk xs per = true then foldM xs (Int.toNat per) else [])) : Int))
                                                              (T.leaf (AV.b false))
                                                              (T.ob ((VCall P) g_laws_toFloat32S [AV.sl (Tag.par [0]) 0 (Cont.f FloatKind.f32 xs)] (AV.sl (Tag.own 0) 0 (Cont.f FloatKind.f32 xs)))
                                                                (T.ob
                                                                  ((VCall P) g_impl_FoldedBy [AV.sl (Tag.par [0]) 0 (Cont.f FloatKind.f32 xs), AV.i IntKind.i64 per]
                                                                    (AV.tup
                                                                      [AV.sl (Tag.own 0) 0 (Cont.f FloatKind.f32 (if foldOk xs per = true then foldM xs (Int.toNat per) else [])),
                                                                        AV.f FloatKind.f32 (if foldOk xs per = true then leftM xs (foldM xs (Int.toNat per)) else 0), AV.b (foldOk xs per)]))
                                                                  (T.ob
                                                                    ((VCall P) g_laws_eqFloat32S
                                                                      [AV.sl (Tag.par [0]) 0 (Cont.f FloatKind.f32 (if foldOk xs per = true then foldM xs (Int.toNat per) else [])),
                                                                        AV.sl (Tag.par [1]) 0 (Cont.f FloatKind.f32 (if foldOk xs per = true then foldM xs (Int.toNat per) else []))]
                                                                      (AV.b true))
                                                                    (T.ite false (T.leaf (AV.b false))
                                                                      (T.ob (fconvOk FloatKind.f32 FloatKind.f64 (if foldOk xs per = true then leftM xs (foldM xs (Int.toNat per)) else 0) = true)
                                                                        (T.ob (fconvOk FloatKind.f32 FloatKind.f64 (if foldOk xs per = true then leftM xs (foldM xs (Int.toNat per)) else 0) = true)
                                                                          (T.ob
                                                                            ((VCall P) g_laws_sameFloat
                                                                              [AV.f FloatKind.f64 (fconv FloatKind.f32 FloatKind.f64 (if foldOk xs per = true then leftM xs (foldM xs (Int.toNat per)) else 0)),
                                                                                AV.f FloatKind.f64 (fconv FloatKind.f32 FloatKind.f64 (if foldOk xs per = true then leftM xs (foldM xs (Int.toNat per)) else 0))]
                                                                              (AV.b true))
                                                                            (T.ite false (T.leaf (AV.b false))
                                                                              (T.ite (!foldOk xs per == foldOk xs per) (T.leaf (AV.b false))
                                                                                (T.ob
                                                                                  ((VCall P) g_laws_heldFloat32S
                                                                                    [AV.sl (Tag.par [0]) 0 (Cont.f FloatKind.f32 (marksM (List.length (if foldOk xs per = true then foldM xs (Int.toNat per) else [])) 1)),
                                                                                      AV.i IntKind.i64 1]
                                                                                    (AV.i IntKind.i64 (1 + (↑(List.length (marksM (List.length (if foldOk xs per = true then foldM xs (Int.toNat per) else [])) 1)) : Int))))
                                                                                  (T.ite false (T.leaf (AV.b false))
                                                                                    (T.ite
                                                                                      (1 + (↑(List.length (marksM (List.length (if foldOk xs per = true then foldM xs (Int.toNat per) else [])) 1)) : Int) !=
                                                                                        1 + (↑(List.length (if foldOk xs per = true then foldM xs (Int.toNat per) else [])) : Int))
                                                                                      (T.leaf (AV.b false)) (T.leaf (AV.b true))))))))))))))))))))))))))))))))))))))))))) :
    VCall P g_f [PS [0] .f32 xs, .i .i64 per] (.b true) := h_.call_of ps_laws_FnExactFoldedBy ⟨oc_laws_FnExactFoldedBy xs per, fun _ _ => none⟩ (by kernel_rfl) ht


/-- laws.FnExactTimesSeason: slots 133, results [.t 6]; calls [25:g_laws_toFloat32S, 28:g_spec_TimesSeason, 33:g_laws_toFloat32S, 38:g_impl_TimesSeason, 44:g_laws_eqFloat32S, 51:g_laws_sameFloat, 61:g_laws_toFloat32S, 62:g_laws_eqFloat32S, 66:g_laws_markFloat32S, 72:g_laws_eqFloat32S, 80:g_laws_sameFloat, 90:g_laws_markFloat32S, 93:g_laws_heldFloat32S, 101:g_laws_toFloat32S, 104:g_impl_TimesSeason, 110:g_laws_eqFloat32S, 117:g_laws_sameFloat, 127:g_laws_heldFloat32S]; names [(aList, 0), (aPeriod, 1), (aShare, 2), (aList, 3), (aPeriod, 4), (aShare, 5), (w0, 7), (w1, 8), (w2, 9), (x0, 10), (g0, 11), (g1, 12), (g2, 13), (k, 14), (m, 15), (q, 16), (h0, 17), (h1, 18), (h2, 19)] -/
def ps_laws_FnExactTimesSeason : List Nat := [0, 1, 2, 6, 7, 8, 9, 10, 11, 12, 13, 14, 15, 16, 17, 18, 19, 22, 58, 63, 87, 95, 98, 124, 129, 132]
def b_laws_FnExactTimesSeason (g_laws_toFloat32S g_spec_TimesSeason g_impl_TimesSeason g_laws_eqFloat32S g_laws_sameFloat g_laws_markFloat32S g_laws_heldFloat32S : FuncId) : VCode :=
  (.seq
   (.region false [
    ⟨some 6, .mv, [.k (.b false)], none⟩])
   (.seq
    (.seq
     (.region false [
      ⟨some 20, .mv, [.t 0], none⟩,
      ⟨some 21, .len, [.t 20], none⟩,
      ⟨some 22, (.bin .gtr), [.t 21, .k (.i .i64 1048576)], none⟩])
     (.cond (.t 22)
      (.seq
       (.region false [
        ⟨some 6, .mv, [.k (.b true)], none⟩])
       .ret)
      .skip))
    (.seq
     (.region false [
      ⟨some 24, .mv, [.t 0], none⟩,
      ⟨some 25, (.call g_laws_toFloat32S), [.t 24], none⟩,
      ⟨some 26, .mv, [.t 1], none⟩,
      ⟨some 27, .mv, [.t 2], none⟩,
      ⟨some 28, (.call g_spec_TimesSeason), [.t 25, .t 26, .t 27], none⟩,
      ⟨some 23, .mv, [.t 28], none⟩,
      ⟨some 29, (.extract 0), [.t 23], none⟩,
      ⟨some 30, (.extract 1), [.t 23], none⟩,
      ⟨some 31, (.extract 2), [.t 23], none⟩,
      ⟨some 7, .mv, [.t 29], none⟩,
      ⟨some 8, .mv, [.t 30], none⟩,
      ⟨some 9, .mv, [.t 31], none⟩])
     (.seq
      (.region false [
       ⟨some 32, .mv, [.t 0], none⟩,
       ⟨some 33, (.call g_laws_toFloat32S), [.t 32], none⟩,
       ⟨some 10, .mv, [.t 33], none⟩])
      (.seq
       (.region false [
        ⟨some 35, .mv, [.t 10], none⟩,
        ⟨some 36, .mv, [.t 1], none⟩,
        ⟨some 37, .mv, [.t 2], none⟩,
        ⟨some 38, (.call g_impl_TimesSeason), [.t 35, .t 36, .t 37], none⟩,
        ⟨some 34, .mv, [.t 38], none⟩,
        ⟨some 39, (.extract 0), [.t 34], none⟩,
        ⟨some 40, (.extract 1), [.t 34], none⟩,
        ⟨some 41, (.extract 2), [.t 34], none⟩,
        ⟨some 11, .mv, [.t 39], none⟩,
        ⟨some 12, .mv, [.t 40], none⟩,
        ⟨some 13, .mv, [.t 41], none⟩])
       (.seq
        (.seq
         (.region false [
          ⟨some 42, .mv, [.t 11], none⟩,
          ⟨some 43, .mv, [.t 7], none⟩,
          ⟨some 44, (.call g_laws_eqFloat32S), [.t 42, .t 43], none⟩,
          ⟨some 45, .not, [.t 44], none⟩,
          ⟨some 46, .mv, [.t 45], none⟩,
          ⟨some 47, .mv, [.t 12], some (46, false)⟩,
          ⟨some 48, (.convF .f64), [.t 47], some (46, false)⟩,
          ⟨some 49, .mv, [.t 8], some (46, false)⟩,
          ⟨some 50, (.convF .f64), [.t 49], some (46, false)⟩,
          ⟨some 51, (.call g_laws_sameFloat), [.t 48, .t 50], some (46, false)⟩,
          ⟨some 52, .not, [.t 51], some (46, false)⟩,
          ⟨some 53, .pick, [.t 46, .k (.b true), .t 52], none⟩,
          ⟨some 54, .mv, [.t 53], none⟩,
          ⟨some 55, .mv, [.t 13], some (54, false)⟩,
          ⟨some 56, .mv, [.t 9], some (54, false)⟩,
          ⟨some 57, (.binb .neq), [.t 55, .t 56], some (54, false)⟩,
          ⟨some 58, .pick, [.t 54, .k (.b true), .t 57], none⟩])
         (.cond (.t 58)
          (.seq
           (.region false [
            ⟨some 6, .mv, [.k (.b false)], none⟩])
           .ret)
          .skip))
        (.seq
         (.seq
          (.region false [
           ⟨some 59, .mv, [.t 10], none⟩,
           ⟨some 60, .mv, [.t 0], none⟩,
           ⟨some 61, (.call g_laws_toFloat32S), [.t 60], none⟩,
           ⟨some 62, (.call g_laws_eqFloat32S), [.t 59, .t 61], none⟩,
           ⟨some 63, .not, [.t 62], none⟩])
          (.cond (.t 63)
           (.seq
            (.region false [
             ⟨some 6, .mv, [.k (.b false)], none⟩])
            .ret)
           .skip))
         (.seq
          (.region false [
           ⟨some 14, .mv, [.k (.i .i64 1)], none⟩])
          (.seq
           (.region false [
            ⟨some 64, .mv, [.t 10], none⟩,
            ⟨some 65, .mv, [.t 14], none⟩,
            ⟨some 66, (.call g_laws_markFloat32S), [.t 64, .t 65], none⟩,
            ⟨some 14, .mv, [.t 66], none⟩])
           (.seq
            (.seq
             (.region false [
              ⟨some 67, .mv, [.t 14], none⟩,
              ⟨some 68, (.bin .lss), [.t 67, .k (.i .i64 0)], none⟩,
              ⟨some 69, .mv, [.t 68], none⟩,
              ⟨some 70, .mv, [.t 11], some (69, false)⟩,
              ⟨some 71, .mv, [.t 7], some (69, false)⟩,
              ⟨some 72, (.call g_laws_eqFloat32S), [.t 70, .t 71], some (69, false)⟩,
              ⟨some 73, .not, [.t 72], some (69, false)⟩,
              ⟨some 74, .pick, [.t 69, .k (.b true), .t 73], none⟩,
              ⟨some 75, .mv, [.t 74], none⟩,
              ⟨some 76, .mv, [.t 12], some (75, false)⟩,
              ⟨some 77, (.convF .f64), [.t 76], some (75, false)⟩,
              ⟨some 78, .mv, [.t 8], some (75, false)⟩,
              ⟨some 79, (.convF .f64), [.t 78], some (75, false)⟩,
              ⟨some 80, (.call g_laws_sameFloat), [.t 77, .t 79], some (75, false)⟩,
              ⟨some 81, .not, [.t 80], some (75, false)⟩,
              ⟨some 82, .pick, [.t 75, .k (.b true), .t 81], none⟩,
              ⟨some 83, .mv, [.t 82], none⟩,
              ⟨some 84, .mv, [.t 13], some (83, false)⟩,
              ⟨some 85, .mv, [.t 9], some (83, false)⟩,
              ⟨some 86, (.binb .neq), [.t 84, .t 85], some (83, false)⟩,
              ⟨some 87, .pick, [.t 83, .k (.b true), .t 86], none⟩])
             (.cond (.t 87)
              (.seq
               (.region false [
                ⟨some 6, .mv, [.k (.b false)], none⟩])
               .ret)
              .skip))
            (.seq
             (.region false [
              ⟨some 15, .mv, [.k (.i .i64 1)], none⟩])
             (.seq
              (.region false [
               ⟨some 88, .mv, [.t 11], none⟩,
               ⟨some 89, .mv, [.t 15], none⟩,
               ⟨some 90, (.call g_laws_markFloat32S), [.t 88, .t 89], none⟩,
               ⟨some 15, .mv, [.t 90], none⟩])
              (.seq
               (.region false [
                ⟨some 16, .mv, [.k (.i .i64 1)], none⟩])
               (.seq
                (.region false [
                 ⟨some 91, .mv, [.t 11], none⟩,
                 ⟨some 92, .mv, [.t 16], none⟩,
                 ⟨some 93, (.call g_laws_heldFloat32S), [.t 91, .t 92], none⟩,
                 ⟨some 16, .mv, [.t 93], none⟩])
                (.seq
                 (.seq
                  (.region false [
                   ⟨some 94, .mv, [.t 16], none⟩,
                   ⟨some 95, (.bin .lss), [.t 94, .k (.i .i64 0)], none⟩])
                  (.cond (.t 95)
                   (.seq
                    (.region false [
                     ⟨some 6, .mv, [.k (.b false)], none⟩])
                    .ret)
                   .skip))
                 (.seq
                  (.seq
                   (.region false [
                    ⟨some 96, .mv, [.t 16], none⟩,
                    ⟨some 97, .mv, [.t 15], none⟩,
                    ⟨some 98, (.bin .neq), [.t 96, .t 97], none⟩])
                   (.cond (.t 98)
                    (.seq
                     (.region false [
                      ⟨some 6, .mv, [.k (.b false)], none⟩])
                     .ret)
                    .skip))
                  (.seq
                   (.region false [
                    ⟨some 100, .mv, [.t 0], none⟩,
                    ⟨some 101, (.call g_laws_toFloat32S), [.t 100], none⟩,
                    ⟨some 102, .mv, [.t 1], none⟩,
                    ⟨some 103, .mv, [.t 2], none⟩,
                    ⟨some 104, (.call g_impl_TimesSeason), [.t 101, .t 102, .t 103], none⟩,
                    ⟨some 99, .mv, [.t 104], none⟩,
                    ⟨some 105, (.extract 0), [.t 99], none⟩,
                    ⟨some 106, (.extract 1), [.t 99], none⟩,
                    ⟨some 107, (.extract 2), [.t 99], none⟩,
                    ⟨some 17, .mv, [.t 105], none⟩,
                    ⟨some 18, .mv, [.t 106], none⟩,
                    ⟨some 19, .mv, [.t 107], none⟩])
                   (.seq
                    (.seq
                     (.region false [
                      ⟨some 108, .mv, [.t 17], none⟩,
                      ⟨some 109, .mv, [.t 7], none⟩,
                      ⟨some 110, (.call g_laws_eqFloat32S), [.t 108, .t 109], none⟩,
                      ⟨some 111, .not, [.t 110], none⟩,
                      ⟨some 112, .mv, [.t 111], none⟩,
                      ⟨some 113, .mv, [.t 18], some (112, false)⟩,
                      ⟨some 114, (.convF .f64), [.t 113], some (112, false)⟩,
                      ⟨some 115, .mv, [.t 8], some (112, false)⟩,
                      ⟨some 116, (.convF .f64), [.t 115], some (112, false)⟩,
                      ⟨some 117, (.call g_laws_sameFloat), [.t 114, .t 116], some (112, false)⟩,
                      ⟨some 118, .not, [.t 117], some (112, false)⟩,
                      ⟨some 119, .pick, [.t 112, .k (.b true), .t 118], none⟩,
                      ⟨some 120, .mv, [.t 119], none⟩,
                      ⟨some 121, .mv, [.t 19], some (120, false)⟩,
                      ⟨some 122, .mv, [.t 9], some (120, false)⟩,
                      ⟨some 123, (.binb .neq), [.t 121, .t 122], some (120, false)⟩,
                      ⟨some 124, .pick, [.t 120, .k (.b true), .t 123], none⟩])
                     (.cond (.t 124)
                      (.seq
                       (.region false [
                        ⟨some 6, .mv, [.k (.b false)], none⟩])
                       .ret)
                      .skip))
                    (.seq
                     (.region false [
                      ⟨some 16, .mv, [.k (.i .i64 1)], none⟩])
                     (.seq
                      (.region false [
                       ⟨some 125, .mv, [.t 11], none⟩,
                       ⟨some 126, .mv, [.t 16], none⟩,
                       ⟨some 127, (.call g_laws_heldFloat32S), [.t 125, .t 126], none⟩,
                       ⟨some 16, .mv, [.t 127], none⟩])
                      (.seq
                       (.seq
                        (.region false [
                         ⟨some 128, .mv, [.t 16], none⟩,
                         ⟨some 129, (.bin .lss), [.t 128, .k (.i .i64 0)], none⟩])
                        (.cond (.t 129)
                         (.seq
                          (.region false [
                           ⟨some 6, .mv, [.k (.b false)], none⟩])
                          .ret)
                         .skip))
                       (.seq
                        (.seq
                         (.region false [
                          ⟨some 130, .mv, [.t 16], none⟩,
                          ⟨some 131, .mv, [.t 15], none⟩,
                          ⟨some 132, (.bin .neq), [.t 130, .t 131], none⟩])
                         (.cond (.t 132)
                          (.seq
                           (.region false [
                            ⟨some 6, .mv, [.k (.b false)], none⟩])
                           .ret)
                          .skip))
                        (.seq
                         (.region false [
                          ⟨some 6, .mv, [.k (.b true)], none⟩])
                         .ret)))))))))))))))))))))))

abbrev Is_laws_FnExactTimesSeason (P : Program) (g_f : FuncId) (g_laws_toFloat32S g_spec_TimesSeason g_impl_TimesSeason g_laws_eqFloat32S g_laws_sameFloat g_laws_markFloat32S g_laws_heldFloat32S : FuncId) : Prop := FnIs P g_f 133 [.t 6] (b_laws_FnExactTimesSeason g_laws_toFloat32S g_spec_TimesSeason g_impl_TimesSeason g_laws_eqFloat32S g_laws_sameFloat g_laws_markFloat32S g_laws_heldFloat32S)

abbrev C_laws_FnExactTimesSeason (P : Program) (g_f : FuncId) : Prop := ∀ (xs : List Nat) (per : Int) (s : Nat) (hx : xs.length ≤ maxLen), VCall P g_f [PS [0] .f32 xs, .i .i64 per, .f .f32 s] (.b true)
def oc1_laws_FnExactTimesSeason (as : List AV) : T AV := match as with | [.sl _ _ (.f .f32 xs), .i .i64 per, .f .f32 s] => .leaf (.b true) | _ => .fail
def oc_laws_FnExactTimesSeason (xs : List Nat) (per : Int) (s : Nat) (d : Nat) (as : List AV) : T AV := match d with | 25 => oc1_laws_toFloat32S as | 28 => oc1_spec_TimesSeason as | 33 => oc1_laws_toFloat32S as | 38 => oc1_impl_TimesSeason as | 44 => oc1_laws_eqFloat32S as | 51 => oc1_laws_sameFloat as | 61 => oc1_laws_toFloat32S as | 62 => oc1_laws_eqFloat32S as | 66 => oc1_laws_markFloat32S as | 72 => oc1_laws_eqFloat32S as | 80 => oc1_laws_sameFloat as | 90 => oc1_laws_markFloat32S as | 93 => oc1_laws_heldFloat32S as | 101 => oc1_laws_toFloat32S as | 104 => oc1_impl_TimesSeason as | 110 => oc1_laws_eqFloat32S as | 117 => oc1_laws_sameFloat as | 127 => oc1_laws_heldFloat32S as | _ => .fail



theorem q_laws_FnExactTimesSeason {P : Program} {g_f : FuncId} {g_laws_toFloat32S g_spec_TimesSeason g_impl_TimesSeason g_laws_eqFloat32S g_laws_sameFloat g_laws_markFloat32S g_laws_heldFloat32S : FuncId} (h_ : Is_laws_FnExactTimesSeason P g_f g_laws_toFloat32S g_spec_TimesSeason g_impl_TimesSeason g_laws_eqFloat32S g_laws_sameFloat g_laws_markFloat32S g_laws_heldFloat32S) (xs : List Nat) (per : Int) (s : Nat) (ht : T.ok (fun x_ => x_ = .b true) (
      T.ite (decide ((↑(List.length xs) : Int) > 1048576)) (T.leaf (AV.b true))
        (T.ob ((VCall P) g_laws_toFloat32S [AV.sl (Tag.par [0]) 0 (Cont.f FloatKind.f32 xs)] (AV.sl (Tag.own 0) 0 (Cont.f FloatKind.f32 xs)))
          (T.ob
            ((VCall P) g_spec_TimesSeason [AV.sl (Tag.par [0]) 0 (Cont.f FloatKind.f32 xs), AV.i IntKind.i64 per, AV.f FloatKind.f32 s]
              (AV.tup
                [AV.sl (Tag.own 0) 0 (Cont.f FloatKind.f32 (if tsOk xs per s = true then Prod.snd (tsEnd xs (Int.toNat per) s) else [])),
                  AV.f FloatKind.f32 (if tsOk xs per s = true then Prod.fst (tsEnd xs (Int.toNat per) s) else 0), AV.b (tsOk xs per s)]))
            (T.ob ((VCall P) g_laws_toFloat32S [AV.sl (Tag.par [0]) 0 (Cont.f FloatKind.f32 xs)] (AV.sl (Tag.own 0) 0 (Cont.f FloatKind.f32 xs)))
              (T.ob
                ((VCall P) g_impl_TimesSeason [AV.sl (Tag.par [0]) 0 (Cont.f FloatKind.f32 xs), AV.i IntKind.i64 per, AV.f FloatKind.f32 s]
                  (AV.tup
                    [AV.sl (Tag.own 0) 0 (Cont.f FloatKind.f32 (if tsOk xs per s = true then Prod.snd (tsEnd xs (Int.toNat per) s) else [])),
                      AV.f FloatKind.f32 (if tsOk xs per s = true then Prod.fst (tsEnd xs (Int.toNat per) s) else 0), AV.b (tsOk xs per s)]))
                (T.ob
                  ((VCall P) g_laws_eqFloat32S
                    [AV.sl (Tag.par [0]) 0 (Cont.f FloatKind.f32 (if tsOk xs per s = true then Prod.snd (tsEnd xs (Int.toNat per) s) else [])),
                      AV.sl (Tag.par [1]) 0 (Cont.f FloatKind.f32 (if tsOk xs per s = true then Prod.snd (tsEnd xs (Int.toNat per) s) else []))]
                    (AV.b true))
                  (T.ite false (T.leaf (AV.b false))
                    (T.ob (fconvOk FloatKind.f32 FloatKind.f64 (if tsOk xs per s = true then Prod.fst (tsEnd xs (Int.toNat per) s) else 0) = true)
                      (T.ob (fconvOk FloatKind.f32 FloatKind.f64 (if tsOk xs per s = true then Prod.fst (tsEnd xs (Int.toNat per) s) else 0) = true)
                        (T.ob
                          ((VCall P) g_laws_sameFloat
                            [AV.f FloatKind.f64 (fconv FloatKind.f32 FloatKind.f64 (if tsOk xs per s = true then Prod.fst (tsEnd xs (Int.toNat per) s) else 0)),
                              AV.f FloatKind.f64 (fconv FloatKind.f32 FloatKind.f64 (if tsOk xs per s = true then Prod.fst (tsEnd xs (Int.toNat per) s) else 0))]
                            (AV.b true))
                          (T.ite false (T.leaf (AV.b false))
                            (T.ite (!tsOk xs per s == tsOk xs per s) (T.leaf (AV.b false))
                              (T.ob ((VCall P) g_laws_toFloat32S [AV.sl (Tag.par [0]) 0 (Cont.f FloatKind.f32 xs)] (AV.sl (Tag.own 0) 0 (Cont.f FloatKind.f32 xs)))
                                (T.ob ((VCall P) g_laws_eqFloat32S [AV.sl (Tag.par [0]) 0 (Cont.f FloatKind.f32 xs), AV.sl (Tag.par [1]) 0 (Cont.f FloatKind.f32 xs)] (AV.b true))
                                  (T.ite false (T.leaf (AV.b false))
                                    (T.ob
                                      ((VCall P) g_laws_markFloat32S [AV.sl (Tag.own 800000) 0 (Cont.f FloatKind.f32 xs), AV.i IntKind.i64 1]
                                          (AV.bx Tag.nil [AV.i IntKind.i64 (1 + (↑(List.length xs) : Int)), AV.tup [AV.sl (Tag.own 800000) 0 (Cont.f FloatKind.f32 (marksM (List.length xs) 1)), AV.i IntKind.i64 1]]) ∧
                                        List.length xs = List.length (marksM (List.length xs) 1) ∧ List.length xs = List.length (marksM (List.length xs) 1) ∧ True)
                                      (T.ite false (T.leaf (AV.b false))
                                        (T.ob
                                          ((VCall P) g_laws_eqFloat32S
                                            [AV.sl (Tag.par [0]) 0 (Cont.f FloatKind.f32 (if tsOk xs per s = true then Prod.snd (tsEnd xs (Int.toNat per) s) else [])),
                                              AV.sl (Tag.par [1]) 0 (Cont.f FloatKind.f32 (if tsOk xs per s = true then Prod.snd (tsEnd xs (Int.toNat per) s) else []))]
                                            (AV.b true))
                                          (T.ite false (T.leaf (AV.b false))
                                            (T.ob (fconvOk FloatKind.f32 FloatKind.f64 (if tsOk xs per s = true then Prod.fst (tsEnd xs (Int.toNat per) s) else 0) = true)
                                              (T.ob (fconvOk FloatKind.f32 FloatKind.f64 (if tsOk xs per s = true then Prod.fst (tsEnd xs (Int.toNat per) s) else 0) = true)
                                                (T.ob
                                                  ((VCall P) g_laws_sameFloat
                                                    [AV.f FloatKind.f64 (fconv FloatKind.f32 FloatKind.f64 (if tsOk xs per s = true then Prod.fst (tsEnd xs (Int.toNat per) s) else 0)),
                                                      AV.f FloatKind.f64 (fconv FloatKind.f32 FloatKind.f64 (if tsOk xs per s = true then Prod.fst (tsEnd xs (Int.toNat per) s) else 0))]
                                                    (AV.b true))
                                                  (T.ite false (T.leaf (AV.b false))
                                                    (T.ite (!tsOk xs per s == tsOk xs per s) (T.leaf (AV.b false))
                                                      (T.ob
                                                        ((VCall P) g_laws_markFloat32S [AV.sl (Tag.own 800000) 0 (Cont.f FloatKind.f32 (if tsOk xs per s = true then Prod.snd (tsEnd xs (Int.toNat per) s) else [])), AV.i IntKind.i64 1]
                                                            (AV.bx Tag.nil
                                                              [AV.i IntKind.i64 (1 + (↑(List.length (if tsOk xs per s = true then Prod.snd (tsEnd xs (Int.toNat per) s) else [])) : Int)),
                                                                AV.tup
                                                                  [AV.sl (Tag.own 800000) 0 (Cont.f FloatKind.f32 (marksM (List.length (if tsOk xs per s = true then Prod.snd (tsEnd xs (Int.toNat per) s) else [])) 1)),
                                                                    AV.i IntKind.i64 1]]) ∧
                                                          List.length (if tsOk xs per s = true then Prod.snd (tsEnd xs (Int.toNat per) s) else []) =
                                                              List.length (marksM (List.length (if tsOk xs per s = true then Prod.snd (tsEnd xs (Int.toNat per) s) else [])) 1) ∧
                                                            List.length (if tsOk xs per s = true then Prod.snd (tsEnd xs (Int.toNat per) s) else []) =
                                                                List.length (marksM (List.length (if tsOk xs per s = true then Prod.snd (tsEnd xs (Int.toNat per) s) else [])) 1) ∧
                                                              True)
                                                        (T.ob
                                                          ((VCall P) g_laws_heldFloat32S
                                                            [AV.sl (Tag.par [0]) 0 (Cont.f FloatKind.f32 (marksM (List.length (if tsOk xs per s = true then Prod.snd (tsEnd xs (Int.toNat per) s) else [])) 1)),
                                                              AV.i IntKind.i64 1]
                                                            (AV.i IntKind.i64 (1 + (↑(List.length (marksM (List.length (if tsOk xs per s = true then Prod.snd (tsEnd xs (Int.toNat per) s) else [])) 1)) : Int))))
                                                          (T.ite false (T.leaf (AV.b false))
                                                            (T.ite
                                                              (1 + (↑(List.length (marksM (List.length (if tsOk xs per s = true then Prod.snd (tsEnd xs (Int.toNat per) s) else [])) 1)) : Int) !=
                                                                1 + (↑(List.length (if tsOk xs per s = true then Prod.snd (tsEnd xs (Int.toNat per) s) else [])) : Int))
                                                              (T.leaf (AV.b false))
                                                              (T.ob ((VCall P) g_laws_toFloat32S [AV.sl (Tag.par [0]) 0 (Cont.f FloatKind.f32 xs)] (AV.sl (Tag.own 0) 0 (Cont.f FloatKind.f32 xs)))
                                                                (T.ob
                                                                  ((VCall P) g_impl_TimesSeason [AV.sl (Tag.par [0]) 0 (Cont.f FloatKind.f32 xs), AV.i IntKind.i64 per, AV.f FloatKind.f32 s]
                                                                    (AV.tup
                                                                      [AV.sl (Tag.own 0) 0 (Cont.f FloatKind.f32 (if tsOk xs per s = true then Prod.snd (tsEnd xs (Int.toNat per) s) else [])),
                                                                        AV.f FloatKind.f32 (if tsOk xs per s = true then Prod.fst (tsEnd xs (Int.toNat per) s) else 0), AV.b (tsOk xs per s)]))
                                                                  (T.ob
                                                                    ((VCall P) g_laws_eqFloat32S
                                                                      [AV.sl (Tag.par [0]) 0 (Cont.f FloatKind.f32 (if tsOk xs per s = true then Prod.snd (tsEnd xs (Int.toNat per) s) else [])),
                                                                        AV.sl (Tag.par [1]) 0 (Cont.f FloatKind.f32 (if tsOk xs per s = true then Prod.snd (tsEnd xs (Int.toNat per) s) else []))]
                                                                      (AV.b true))
                                                                    (T.ite false (T.leaf (AV.b false))
                                                                      (T.ob (fconvOk FloatKind.f32 FloatKind.f64 (if tsOk xs per s = true then Prod.fst (tsEnd xs (Int.toNat per) s) else 0) = true)
                                                                        (T.ob (fconvOk FloatKind.f32 FloatKind.f64 (if tsOk xs per s = true then Prod.fst (tsEnd xs (Int.toNat per) s) else 0) = true)
                                                                          (T.ob
                                                                            ((VCall P) g_laws_sameFloat
                                                                              [AV.f FloatKind.f64 (fconv FloatKind.f32 FloatKind.f64 (if tsOk xs per s = true then Prod.fst (tsEnd xs (Int.toNat per) s) else 0)),
                                                                                AV.f FloatKind.f64 (fconv FloatKind.f32 FloatKind.f64 (if tsOk xs per s = true then Prod.fst (tsEnd xs (Int.toNat per) s) else 0))]
                                                                              (AV.b true))
                                                                            (T.ite false (T.leaf (AV.b false))
                                                                              (T.ite (!tsOk xs per s == tsOk xs per s) (T.leaf (AV.b false))
                                                                                (T.ob
                                                                                  ((VCall P) g_laws_heldFloat32S
                                                                                    [AV.sl (Tag.par [0]) 0
                                                                                        (Cont.f FloatKind.f32 (marksM (List.length (if tsOk xs per s = true then Prod.snd (tsEnd xs (Int.toNat per) s) else [])) 1)),
                                                                                      AV.i IntKind.i64 1]
                                                                                    (AV.i IntKind.i64
                                                                                      (1 + (↑(List.length (marksM (List.length (if tsOk xs per s = true then Prod.snd (tsEnd xs (Int.toNat per) s) else [])) 1)) : Int))))
                                                                                  (T.ite false (T.leaf (AV.b false))
                                                                                    (T.ite
                                                                                      (1 + (↑(List.length (marksM (List.length (if tsOk xs per s = true then Prod.snd (tsEnd xs (Int.toNat per) s) else [])) 1)) : Int) !=
                                                                                        1 + (↑(List.length (if tsOk xs per s = true then Prod.snd (tsEnd xs (Int.toNat per) s) else [])) : Int))
                                                                                      (T.leaf (AV.b false)) (T.leaf (AV.b true))))))))))))))))))))))))))))))))))))))))))) :
    VCall P g_f [PS [0] .f32 xs, .i .i64 per, .f .f32 s] (.b true) := h_.call_of ps_laws_FnExactTimesSeason ⟨oc_laws_FnExactTimesSeason xs per s, fun _ _ => none⟩ (by kernel_rfl) ht


theorem k_laws_FnExactMovingMean {P : Program} {f g_laws_toFloat32S g_spec_MovingMean g_impl_MovingMean g_laws_eqFloat32S g_laws_markFloat32S g_laws_heldFloat32S : FuncId} (h : Is_laws_FnExactMovingMean P f g_laws_toFloat32S g_spec_MovingMean g_impl_MovingMean g_laws_eqFloat32S g_laws_markFloat32S g_laws_heldFloat32S) (c1 : C_laws_toFloat32S P g_laws_toFloat32S) (c2 : C_spec_MovingMean P g_spec_MovingMean) (c3 : C_impl_MovingMean P g_impl_MovingMean) (c4 : C_laws_eqFloat32S P g_laws_eqFloat32S) (c5 : C_laws_markFloat32S P g_laws_markFloat32S) (c6 : C_laws_heldFloat32S P g_laws_heldFloat32S) : C_laws_FnExactMovingMean P f := by
  intro xs side hx
  refine q_laws_FnExactMovingMean h xs side ?_
  have hR : (if mmOk meanM xs side = true then movM meanM xs side.toNat else []).length ≤ xs.length := by
    split
    · rw [mov_len]; exact Nat.le_refl _
    · simp
  have b2 := c2 xs side hx
  have b3 := c3 xs side hx
  generalize (if mmOk meanM xs side = true then movM meanM xs side.toNat else []) = R at *
  repeat' (first | with_reducible refine T.ok_ob ?_ (fun _ => ?_) | with_reducible refine T.ok_ite (fun _ => ?_) (fun _ => ?_) | with_reducible refine T.ok_leaf ?_)
  all_goals (try simp only [decide_eq_true_eq, decide_eq_false_iff_not, sz_lt, gt_iff_lt, Int.not_lt, Bool.not_beq_self, bne_self_eq_false, beq_self_eq_true] at *)
  all_goals (try simp (disch := omega) only [sz_val] at *)
  all_goals first | with_reducible rfl | with_reducible assumption | ((with_reducible refine c1 _ ?_) <;> (first | assumption | omega | with_reducible rfl | (simp [maxLen_eq]; done) | (simp [maxLen_eq]; omega))) | ((with_reducible refine c2 _ _ ?_) <;> (first | assumption | omega | with_reducible rfl | (simp [maxLen_eq]; done) | (simp [maxLen_eq]; omega))) | ((with_reducible refine c3 _ _ ?_) <;> (first | assumption | omega | with_reducible rfl | (simp [maxLen_eq]; done) | (simp [maxLen_eq]; omega))) | ((with_reducible refine c4 _ _ rfl ?_) <;> (first | assumption | omega | with_reducible rfl | (simp [maxLen_eq]; done) | (simp [maxLen_eq]; omega))) | ((with_reducible refine ⟨c5 _ _ ?_ ?_, ?_, ?_, trivial⟩) <;> first | assumption | omega | (simp [marks_len]; done) | (simp [marks_len]; omega)) | ((with_reducible refine c6 _ _ _ rfl ?_ ?_) <;> (first | assumption | omega | with_reducible rfl | (simp [maxLen_eq]; done) | (simp [maxLen_eq]; omega))) | contradiction | exact fconvOk_32_64 _ | assumption | exact rfl | (simp only [marks_len, bne_self_eq_false, Bool.false_eq_true] at *; done) | (simp_all [marks_len]; done) | (simp_all [T.ok, marks_len]; omega)

theorem k_laws_FnExactLineFit {P : Program} {f g_laws_toFloat32S g_spec_LineFit g_impl_LineFit g_laws_sameFloat g_laws_eqFloat32S : FuncId} (h : Is_laws_FnExactLineFit P f g_laws_toFloat32S g_spec_LineFit g_impl_LineFit g_laws_sameFloat g_laws_eqFloat32S) (c1 : C_laws_toFloat32S P g_laws_toFloat32S) (c2 : C_spec_LineFit P g_spec_LineFit) (c3 : C_impl_LineFit P g_impl_LineFit) (c4 : C_laws_sameFloat P g_laws_sameFloat) (c5 : C_laws_eqFloat32S P g_laws_eqFloat32S) : C_laws_FnExactLineFit P f := by
  intro xs hx
  refine q_laws_FnExactLineFit h xs ?_
  repeat' (first | with_reducible refine T.ok_ob ?_ (fun _ => ?_) | with_reducible refine T.ok_ite (fun _ => ?_) (fun _ => ?_) | with_reducible refine T.ok_leaf ?_)
  all_goals (try simp only [decide_eq_true_eq, decide_eq_false_iff_not, sz_lt, gt_iff_lt, Int.not_lt, Bool.not_beq_self, bne_self_eq_false, beq_self_eq_true] at *)
  all_goals (try simp (disch := omega) only [sz_val] at *)
  all_goals first | with_reducible rfl | with_reducible assumption | ((with_reducible refine c1 _ ?_) <;> (first | assumption | omega | with_reducible rfl | (simp [maxLen_eq]; done) | (simp [maxLen_eq]; omega))) | ((with_reducible refine c2 _ ?_) <;> (first | assumption | omega | with_reducible rfl | (simp [maxLen_eq]; done) | (simp [maxLen_eq]; omega))) | ((with_reducible refine c3 _ ?_) <;> (first | assumption | omega | with_reducible rfl | (simp [maxLen_eq]; done) | (simp [maxLen_eq]; omega))) | ((with_reducible refine c4 _ _ ?_) <;> (first | assumption | omega | with_reducible rfl | (simp [maxLen_eq]; done) | (simp [maxLen_eq]; omega))) | ((with_reducible refine c5 _ _ rfl ?_) <;> (first | assumption | omega | with_reducible rfl | (simp [maxLen_eq]; done) | (simp [maxLen_eq]; omega))) | contradiction | exact fconvOk_32_64 _ | assumption | exact rfl | (simp only [marks_len, bne_self_eq_false, Bool.false_eq_true] at *; done) | (simp_all [marks_len]; done) | (simp_all [T.ok, marks_len]; omega)

theorem k_laws_FnExactFoldedBy {P : Program} {f g_laws_toFloat32S g_spec_FoldedBy g_impl_FoldedBy g_laws_eqFloat32S g_laws_sameFloat g_laws_markFloat32S g_laws_heldFloat32S : FuncId} (h : Is_laws_FnExactFoldedBy P f g_laws_toFloat32S g_spec_FoldedBy g_impl_FoldedBy g_laws_eqFloat32S g_laws_sameFloat g_laws_markFloat32S g_laws_heldFloat32S) (c1 : C_laws_toFloat32S P g_laws_toFloat32S) (c2 : C_spec_FoldedBy P g_spec_FoldedBy) (c3 : C_impl_FoldedBy P g_impl_FoldedBy) (c4 : C_laws_eqFloat32S P g_laws_eqFloat32S) (c5 : C_laws_sameFloat P g_laws_sameFloat) (c6 : C_laws_markFloat32S P g_laws_markFloat32S) (c7 : C_laws_heldFloat32S P g_laws_heldFloat32S) : C_laws_FnExactFoldedBy P f := by
  intro xs per hx
  refine q_laws_FnExactFoldedBy h xs per ?_
  have hR : (if foldOk xs per = true then foldM xs per.toNat else []).length ≤ xs.length := by
    split
    · rename_i h
      unfold foldOk at h; simp only [Bool.and_eq_true] at h
      have := in_1 h.2.1
      rw [fold_len]; omega
    · simp
  have b2 := c2 xs per hx
  have b3 := c3 xs per hx
  generalize (if foldOk xs per = true then foldM xs per.toNat else []) = R at *
  repeat' (first | with_reducible refine T.ok_ob ?_ (fun _ => ?_) | with_reducible refine T.ok_ite (fun _ => ?_) (fun _ => ?_) | with_reducible refine T.ok_leaf ?_)
  all_goals (try simp only [decide_eq_true_eq, decide_eq_false_iff_not, sz_lt, gt_iff_lt, Int.not_lt, Bool.not_beq_self, bne_self_eq_false, beq_self_eq_true] at *)
  all_goals (try simp (disch := omega) only [sz_val] at *)
  all_goals first | with_reducible rfl | with_reducible assumption | ((with_reducible refine c1 _ ?_) <;> (first | assumption | omega | with_reducible rfl | (simp [maxLen_eq]; done) | (simp [maxLen_eq]; omega))) | ((with_reducible refine c2 _ _ ?_) <;> (first | assumption | omega | with_reducible rfl | (simp [maxLen_eq]; done) | (simp [maxLen_eq]; omega))) | ((with_reducible refine c3 _ _ ?_) <;> (first | assumption | omega | with_reducible rfl | (simp [maxLen_eq]; done) | (simp [maxLen_eq]; omega))) | ((with_reducible refine c4 _ _ rfl ?_) <;> (first | assumption | omega | with_reducible rfl | (simp [maxLen_eq]; done) | (simp [maxLen_eq]; omega))) | ((with_reducible refine c5 _ _ ?_) <;> (first | assumption | omega | with_reducible rfl | (simp [maxLen_eq]; done) | (simp [maxLen_eq]; omega))) | ((with_reducible refine ⟨c6 _ _ ?_ ?_, ?_, ?_, trivial⟩) <;> first | assumption | omega | (simp [marks_len]; done) | (simp [marks_len]; omega)) | ((with_reducible refine c7 _ _ _ rfl ?_ ?_) <;> (first | assumption | omega | with_reducible rfl | (simp [maxLen_eq]; done) | (simp [maxLen_eq]; omega))) | contradiction | exact fconvOk_32_64 _ | assumption | exact rfl | (simp only [marks_len, bne_self_eq_false, Bool.false_eq_true] at *; done) | (simp_all [marks_len]; done) | (simp_all [T.ok, marks_len]; omega)

theorem k_laws_FnExactTimesSeason {P : Program} {f g_laws_toFloat32S g_spec_TimesSeason g_impl_TimesSeason g_laws_eqFloat32S g_laws_sameFloat g_laws_markFloat32S g_laws_heldFloat32S : FuncId} (h : Is_laws_FnExactTimesSeason P f g_laws_toFloat32S g_spec_TimesSeason g_impl_TimesSeason g_laws_eqFloat32S g_laws_sameFloat g_laws_markFloat32S g_laws_heldFloat32S) (c1 : C_laws_toFloat32S P g_laws_toFloat32S) (c2 : C_spec_TimesSeason P g_spec_TimesSeason) (c3 : C_impl_TimesSeason P g_impl_TimesSeason) (c4 : C_laws_eqFloat32S P g_laws_eqFloat32S) (c5 : C_laws_sameFloat P g_laws_sameFloat) (c6 : C_laws_markFloat32S P g_laws_markFloat32S) (c7 : C_laws_heldFloat32S P g_laws_heldFloat32S) : C_laws_FnExactTimesSeason P f := by
  intro xs per s hx
  refine q_laws_FnExactTimesSeason h xs per s ?_
  have hR : (if tsOk xs per s = true then (tsEnd xs per.toNat s).2 else []).length ≤ 24 := by
    split
    · rename_i h
      unfold tsOk at h; simp [inM] at h
      unfold tsEnd; rw [ts_len]; omega
    · simp
  have b2 := c2 xs per s hx
  have b3 := c3 xs per s hx
  generalize (if tsOk xs per s = true then (tsEnd xs per.toNat s).2 else []) = R at *
  repeat' (first | with_reducible refine T.ok_ob ?_ (fun _ => ?_) | with_reducible refine T.ok_ite (fun _ => ?_) (fun _ => ?_) | with_reducible refine T.ok_leaf ?_)
  all_goals (try simp only [decide_eq_true_eq, decide_eq_false_iff_not, sz_lt, gt_iff_lt, Int.not_lt, Bool.not_beq_self, bne_self_eq_false, beq_self_eq_true] at *)
  all_goals (try simp (disch := omega) only [sz_val] at *)
  all_goals first | with_reducible rfl | with_reducible assumption | ((with_reducible refine c1 _ ?_) <;> (first | assumption | omega | with_reducible rfl | (simp [maxLen_eq]; done) | (simp [maxLen_eq]; omega))) | ((with_reducible refine c2 _ _ _ ?_) <;> (first | assumption | omega | with_reducible rfl | (simp [maxLen_eq]; done) | (simp [maxLen_eq]; omega))) | ((with_reducible refine c3 _ _ _ ?_) <;> (first | assumption | omega | with_reducible rfl | (simp [maxLen_eq]; done) | (simp [maxLen_eq]; omega))) | ((with_reducible refine c4 _ _ rfl ?_) <;> (first | assumption | omega | with_reducible rfl | (simp [maxLen_eq]; done) | (simp [maxLen_eq]; omega))) | ((with_reducible refine c5 _ _ ?_) <;> (first | assumption | omega | with_reducible rfl | (simp [maxLen_eq]; done) | (simp [maxLen_eq]; omega))) | ((with_reducible refine ⟨c6 _ _ ?_ ?_, ?_, ?_, trivial⟩) <;> first | assumption | omega | (simp [marks_len]; done) | (simp [marks_len]; omega)) | ((with_reducible refine c7 _ _ _ rfl ?_ ?_) <;> (first | assumption | omega | with_reducible rfl | (simp [maxLen_eq]; done) | (simp [maxLen_eq]; omega))) | contradiction | exact fconvOk_32_64 _ | assumption | exact rfl | (simp only [marks_len, bne_self_eq_false, Bool.false_eq_true] at *; done) | (simp_all [marks_len]; done) | (simp_all [T.ok, marks_len]; omega)


end Go.Proofs.LV
