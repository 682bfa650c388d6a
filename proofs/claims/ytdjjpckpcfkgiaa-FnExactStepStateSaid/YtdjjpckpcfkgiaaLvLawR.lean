/- The law FnExactStepState. -/
import Derived.Test.YtdjjpckpcfkgiaaLvFnY
import Derived.Test.YtdjjpckpcfkgiaaLvLawG
namespace Go.Proofs.LV
open Go
set_option linter.unusedVariables false
set_option linter.unusedSimpArgs false

-- FN laws_FnExactStepState
/-- laws.FnExactStepState: slots 139, results [.t 6]; calls [23:g_laws_szState, 28:g_laws_toState, 30:g_laws_toShares, 32:g_spec_StepState, 37:g_laws_toState, 41:g_laws_toShares, 43:g_impl_StepState, 49:g_laws_eqState, 56:g_laws_sameFloat, 66:g_laws_toState, 67:g_laws_eqState, 71:g_laws_markState, 77:g_laws_eqState, 85:g_laws_sameFloat, 95:g_laws_markState, 98:g_laws_heldState, 106:g_laws_toState, 108:g_laws_toShares, 110:g_impl_StepState, 116:g_laws_eqState, 123:g_laws_sameFloat, 133:g_laws_heldState]; names [(aS, 0), (aH, 1), (aX, 2), (aS, 3), (aH, 4), (aX, 5), (left, 7), (w0, 8), (w1, 9), (w2, 10), (x0, 11), (g0, 12), (g1, 13), (g2, 14), (k, 15), (m, 16), (q, 17), (h0, 18), (h1, 19), (h2, 20)] -/
def ps_laws_FnExactStepState : List Nat := [0, 1, 2, 3, 4, 6, 7, 8, 9, 10, 11, 12, 13, 14, 15, 16, 17, 18, 19, 20, 25, 63, 68, 92, 100, 103, 130, 135, 138]
def b_laws_FnExactStepState (g_laws_szState g_laws_toState g_laws_toShares g_spec_StepState g_impl_StepState g_laws_eqState g_laws_sameFloat g_laws_markState g_laws_heldState : FuncId) : VCode :=
  (.seq
   (.region false [
    ⟨some 3, .boxN, [.t 0], none⟩,
    ⟨some 4, .boxN, [.t 1], none⟩,
    ⟨some 6, .mv, [.k (.b false)], none⟩])
   (.seq
    (.region false [
     ⟨some 7, .mv, [.k (.i .i64 1048576)], none⟩])
    (.seq
     (.region false [
      ⟨some 21, (.loadN 4), [.t 3], none⟩,
      ⟨some 22, .mv, [.t 7], none⟩,
      ⟨some 23, (.call g_laws_szState), [.t 21, .t 22], none⟩,
      ⟨some 7, .mv, [.t 23], none⟩])
     (.seq
      (.seq
       (.region false [
        ⟨some 24, .mv, [.t 7], none⟩,
        ⟨some 25, (.bin .lss), [.t 24, .k (.i .i64 0)], none⟩])
       (.cond (.t 25)
        (.seq
         (.region false [
          ⟨some 6, .mv, [.k (.b true)], none⟩])
         .ret)
        .skip))
      (.seq
       (.region true [
        ⟨some 27, (.loadN 4), [.t 3], none⟩,
        ⟨some 28, (.call g_laws_toState), [.t 27], none⟩,
        ⟨some 29, (.loadN 4), [.t 4], none⟩,
        ⟨some 30, (.call g_laws_toShares), [.t 29], none⟩,
        ⟨some 31, .mv, [.t 2], none⟩,
        ⟨some 32, (.call g_spec_StepState), [.t 28, .t 30, .t 31], none⟩,
        ⟨some 26, .mv, [.t 32], none⟩,
        ⟨some 33, (.extract 0), [.t 26], none⟩,
        ⟨some 34, (.extract 1), [.t 26], none⟩,
        ⟨some 35, (.extract 2), [.t 26], none⟩,
        ⟨some 8, (.alloc [(.f .f32 0), (.f .f32 0), (.sl .imm 0 (.f .f32 [])), (.i .i64 0)]), [], none⟩,
        ⟨none, (.storeN 4), [.t 8, .t 33], none⟩,
        ⟨some 9, .mv, [.t 34], none⟩,
        ⟨some 10, .mv, [.t 35], none⟩])
       (.seq
        (.region false [
         ⟨some 36, (.loadN 4), [.t 3], none⟩,
         ⟨some 37, (.call g_laws_toState), [.t 36], none⟩,
         ⟨some 11, (.alloc [(.f .f32 0), (.f .f32 0), (.sl .imm 0 (.f .f32 [])), (.i .i64 0)]), [], none⟩,
         ⟨none, (.storeN 4), [.t 11, .t 37], none⟩])
        (.seq
         (.region true [
          ⟨some 39, (.loadN 4), [.t 11], none⟩,
          ⟨some 40, (.loadN 4), [.t 4], none⟩,
          ⟨some 41, (.call g_laws_toShares), [.t 40], none⟩,
          ⟨some 42, .mv, [.t 2], none⟩,
          ⟨some 43, (.call g_impl_StepState), [.t 39, .t 41, .t 42], none⟩,
          ⟨some 38, .mv, [.t 43], none⟩,
          ⟨some 44, (.extract 0), [.t 38], none⟩,
          ⟨some 45, (.extract 1), [.t 38], none⟩,
          ⟨some 46, (.extract 2), [.t 38], none⟩,
          ⟨some 12, (.alloc [(.f .f32 0), (.f .f32 0), (.sl .imm 0 (.f .f32 [])), (.i .i64 0)]), [], none⟩,
          ⟨none, (.storeN 4), [.t 12, .t 44], none⟩,
          ⟨some 13, .mv, [.t 45], none⟩,
          ⟨some 14, .mv, [.t 46], none⟩])
         (.seq
          (.seq
           (.region false [
            ⟨some 47, (.loadN 4), [.t 12], none⟩,
            ⟨some 48, (.loadN 4), [.t 8], none⟩,
            ⟨some 49, (.call g_laws_eqState), [.t 47, .t 48], none⟩,
            ⟨some 50, .not, [.t 49], none⟩,
            ⟨some 51, .mv, [.t 50], none⟩,
            ⟨some 52, .mv, [.t 13], some (51, false)⟩,
            ⟨some 53, (.convF .f64), [.t 52], some (51, false)⟩,
            ⟨some 54, .mv, [.t 9], some (51, false)⟩,
            ⟨some 55, (.convF .f64), [.t 54], some (51, false)⟩,
            ⟨some 56, (.call g_laws_sameFloat), [.t 53, .t 55], some (51, false)⟩,
            ⟨some 57, .not, [.t 56], some (51, false)⟩,
            ⟨some 58, .pick, [.t 51, .k (.b true), .t 57], none⟩,
            ⟨some 59, .mv, [.t 58], none⟩,
            ⟨some 60, .mv, [.t 14], some (59, false)⟩,
            ⟨some 61, .mv, [.t 10], some (59, false)⟩,
            ⟨some 62, (.binb .neq), [.t 60, .t 61], some (59, false)⟩,
            ⟨some 63, .pick, [.t 59, .k (.b true), .t 62], none⟩])
           (.cond (.t 63)
            (.seq
             (.region false [
              ⟨some 6, .mv, [.k (.b false)], none⟩])
             .ret)
            .skip))
          (.seq
           (.seq
            (.region true [
             ⟨some 64, (.loadN 4), [.t 11], none⟩,
             ⟨some 65, (.loadN 4), [.t 3], none⟩,
             ⟨some 66, (.call g_laws_toState), [.t 65], none⟩,
             ⟨some 67, (.call g_laws_eqState), [.t 64, .t 66], none⟩,
             ⟨some 68, .not, [.t 67], none⟩])
            (.cond (.t 68)
             (.seq
              (.region false [
               ⟨some 6, .mv, [.k (.b false)], none⟩])
              .ret)
             .skip))
           (.seq
            (.region false [
             ⟨some 15, .mv, [.k (.i .i64 1)], none⟩])
            (.seq
             (.region false [
              ⟨some 69, (.loadN 4), [.t 11], none⟩,
              ⟨some 70, .mv, [.t 15], none⟩,
              ⟨some 71, (.call g_laws_markState), [.t 69, .t 70], none⟩,
              ⟨some 15, .mv, [.t 71], none⟩])
             (.seq
              (.seq
               (.region false [
                ⟨some 72, .mv, [.t 15], none⟩,
                ⟨some 73, (.bin .lss), [.t 72, .k (.i .i64 0)], none⟩,
                ⟨some 74, .mv, [.t 73], none⟩,
                ⟨some 75, (.loadN 4), [.t 12], some (74, false)⟩,
                ⟨some 76, (.loadN 4), [.t 8], some (74, false)⟩,
                ⟨some 77, (.call g_laws_eqState), [.t 75, .t 76], some (74, false)⟩,
                ⟨some 78, .not, [.t 77], some (74, false)⟩,
                ⟨some 79, .pick, [.t 74, .k (.b true), .t 78], none⟩,
                ⟨some 80, .mv, [.t 79], none⟩,
                ⟨some 81, .mv, [.t 13], some (80, false)⟩,
                ⟨some 82, (.convF .f64), [.t 81], some (80, false)⟩,
                ⟨some 83, .mv, [.t 9], some (80, false)⟩,
                ⟨some 84, (.convF .f64), [.t 83], some (80, false)⟩,
                ⟨some 85, (.call g_laws_sameFloat), [.t 82, .t 84], some (80, false)⟩,
                ⟨some 86, .not, [.t 85], some (80, false)⟩,
                ⟨some 87, .pick, [.t 80, .k (.b true), .t 86], none⟩,
                ⟨some 88, .mv, [.t 87], none⟩,
                ⟨some 89, .mv, [.t 14], some (88, false)⟩,
                ⟨some 90, .mv, [.t 10], some (88, false)⟩,
                ⟨some 91, (.binb .neq), [.t 89, .t 90], some (88, false)⟩,
                ⟨some 92, .pick, [.t 88, .k (.b true), .t 91], none⟩])
               (.cond (.t 92)
                (.seq
                 (.region false [
                  ⟨some 6, .mv, [.k (.b false)], none⟩])
                 .ret)
                .skip))
              (.seq
               (.region false [
                ⟨some 16, .mv, [.k (.i .i64 1)], none⟩])
               (.seq
                (.region false [
                 ⟨some 93, (.loadN 4), [.t 12], none⟩,
                 ⟨some 94, .mv, [.t 16], none⟩,
                 ⟨some 95, (.call g_laws_markState), [.t 93, .t 94], none⟩,
                 ⟨some 16, .mv, [.t 95], none⟩])
                (.seq
                 (.region false [
                  ⟨some 17, .mv, [.k (.i .i64 1)], none⟩])
                 (.seq
                  (.region false [
                   ⟨some 96, (.loadN 4), [.t 12], none⟩,
                   ⟨some 97, .mv, [.t 17], none⟩,
                   ⟨some 98, (.call g_laws_heldState), [.t 96, .t 97], none⟩,
                   ⟨some 17, .mv, [.t 98], none⟩])
                  (.seq
                   (.seq
                    (.region false [
                     ⟨some 99, .mv, [.t 17], none⟩,
                     ⟨some 100, (.bin .lss), [.t 99, .k (.i .i64 0)], none⟩])
                    (.cond (.t 100)
                     (.seq
                      (.region false [
                       ⟨some 6, .mv, [.k (.b false)], none⟩])
                      .ret)
                     .skip))
                   (.seq
                    (.seq
                     (.region false [
                      ⟨some 101, .mv, [.t 17], none⟩,
                      ⟨some 102, .mv, [.t 16], none⟩,
                      ⟨some 103, (.bin .neq), [.t 101, .t 102], none⟩])
                     (.cond (.t 103)
                      (.seq
                       (.region false [
                        ⟨some 6, .mv, [.k (.b false)], none⟩])
                       .ret)
                      .skip))
                    (.seq
                     (.region true [
                      ⟨some 105, (.loadN 4), [.t 3], none⟩,
                      ⟨some 106, (.call g_laws_toState), [.t 105], none⟩,
                      ⟨some 107, (.loadN 4), [.t 4], none⟩,
                      ⟨some 108, (.call g_laws_toShares), [.t 107], none⟩,
                      ⟨some 109, .mv, [.t 2], none⟩,
                      ⟨some 110, (.call g_impl_StepState), [.t 106, .t 108, .t 109], none⟩,
                      ⟨some 104, .mv, [.t 110], none⟩,
                      ⟨some 111, (.extract 0), [.t 104], none⟩,
                      ⟨some 112, (.extract 1), [.t 104], none⟩,
                      ⟨some 113, (.extract 2), [.t 104], none⟩,
                      ⟨some 18, (.alloc [(.f .f32 0), (.f .f32 0), (.sl .imm 0 (.f .f32 [])), (.i .i64 0)]), [], none⟩,
                      ⟨none, (.storeN 4), [.t 18, .t 111], none⟩,
                      ⟨some 19, .mv, [.t 112], none⟩,
                      ⟨some 20, .mv, [.t 113], none⟩])
                     (.seq
                      (.seq
                       (.region false [
                        ⟨some 114, (.loadN 4), [.t 18], none⟩,
                        ⟨some 115, (.loadN 4), [.t 8], none⟩,
                        ⟨some 116, (.call g_laws_eqState), [.t 114, .t 115], none⟩,
                        ⟨some 117, .not, [.t 116], none⟩,
                        ⟨some 118, .mv, [.t 117], none⟩,
                        ⟨some 119, .mv, [.t 19], some (118, false)⟩,
                        ⟨some 120, (.convF .f64), [.t 119], some (118, false)⟩,
                        ⟨some 121, .mv, [.t 9], some (118, false)⟩,
                        ⟨some 122, (.convF .f64), [.t 121], some (118, false)⟩,
                        ⟨some 123, (.call g_laws_sameFloat), [.t 120, .t 122], some (118, false)⟩,
                        ⟨some 124, .not, [.t 123], some (118, false)⟩,
                        ⟨some 125, .pick, [.t 118, .k (.b true), .t 124], none⟩,
                        ⟨some 126, .mv, [.t 125], none⟩,
                        ⟨some 127, .mv, [.t 20], some (126, false)⟩,
                        ⟨some 128, .mv, [.t 10], some (126, false)⟩,
                        ⟨some 129, (.binb .neq), [.t 127, .t 128], some (126, false)⟩,
                        ⟨some 130, .pick, [.t 126, .k (.b true), .t 129], none⟩])
                       (.cond (.t 130)
                        (.seq
                         (.region false [
                          ⟨some 6, .mv, [.k (.b false)], none⟩])
                         .ret)
                        .skip))
                      (.seq
                       (.region false [
                        ⟨some 17, .mv, [.k (.i .i64 1)], none⟩])
                       (.seq
                        (.region false [
                         ⟨some 131, (.loadN 4), [.t 12], none⟩,
                         ⟨some 132, .mv, [.t 17], none⟩,
                         ⟨some 133, (.call g_laws_heldState), [.t 131, .t 132], none⟩,
                         ⟨some 17, .mv, [.t 133], none⟩])
                        (.seq
                         (.seq
                          (.region false [
                           ⟨some 134, .mv, [.t 17], none⟩,
                           ⟨some 135, (.bin .lss), [.t 134, .k (.i .i64 0)], none⟩])
                          (.cond (.t 135)
                           (.seq
                            (.region false [
                             ⟨some 6, .mv, [.k (.b false)], none⟩])
                            .ret)
                           .skip))
                         (.seq
                          (.seq
                           (.region false [
                            ⟨some 136, .mv, [.t 17], none⟩,
                            ⟨some 137, .mv, [.t 16], none⟩,
                            ⟨some 138, (.bin .neq), [.t 136, .t 137], none⟩])
                           (.cond (.t 138)
                            (.seq
                             (.region false [
                              ⟨some 6, .mv, [.k (.b false)], none⟩])
                             .ret)
                            .skip))
                          (.seq
                           (.region false [
                            ⟨some 6, .mv, [.k (.b true)], none⟩])
                           .ret)))))))))))))))))))))))))

abbrev Is_laws_FnExactStepState (P : Program) (g_f : FuncId) (g_laws_szState g_laws_toState g_laws_toShares g_spec_StepState g_impl_StepState g_laws_eqState g_laws_sameFloat g_laws_markState g_laws_heldState : FuncId) : Prop := FnIs P g_f 139 [.t 6] (b_laws_FnExactStepState g_laws_szState g_laws_toState g_laws_toShares g_spec_StepState g_impl_StepState g_laws_eqState g_laws_sameFloat g_laws_markState g_laws_heldState)

abbrev C_laws_FnExactStepState (P : Program) (g_f : FuncId) : Prop := ∀ (l : Nat) (s : Nat) (xs : List Nat) (t : Int) (a : Nat) (b : Nat) (c : Nat) (d : Nat) (x : Nat) (hx : xs.length ≤ maxLen), VCall P g_f [.agg (ST (.par [0, 2]) l s xs t), .agg (F4 a b c d), .f .f32 x] (.b true)
def oc1_laws_FnExactStepState (as : List AV) : T AV := match as with | [.agg [.f _ l, .f _ s, .sl _ _ (.f _ xs), .i _ t], .agg [.f _ a, .f _ b, .f _ c, .f _ d], .f .f32 x] => .leaf (.b true) | _ => .fail
def oc_laws_FnExactStepState (l : Nat) (s : Nat) (xs : List Nat) (t : Int) (a : Nat) (b : Nat) (c : Nat) (d : Nat) (x : Nat) (d : Nat) (as : List AV) : T AV := match d with | 23 => oc1_laws_szState as | 28 => oc1_laws_toState as | 30 => oc1_laws_toShares as | 32 => oc1_spec_StepState as | 37 => oc1_laws_toState as | 41 => oc1_laws_toShares as | 43 => oc1_impl_StepState as | 49 => oc1_laws_eqState as | 56 => oc1_laws_sameFloat as | 66 => oc1_laws_toState as | 67 => oc1_laws_eqState as | 71 => oc1_laws_markState as | 77 => oc1_laws_eqState as | 85 => oc1_laws_sameFloat as | 95 => oc1_laws_markState as | 98 => oc1_laws_heldState as | 106 => oc1_laws_toState as | 108 => oc1_laws_toShares as | 110 => oc1_impl_StepState as | 116 => oc1_laws_eqState as | 123 => oc1_laws_sameFloat as | 133 => oc1_laws_heldState as | _ => .fail



theorem q_laws_FnExactStepState {P : Program} {g_f : FuncId} {g_laws_szState g_laws_toState g_laws_toShares g_spec_StepState g_impl_StepState g_laws_eqState g_laws_sameFloat g_laws_markState g_laws_heldState : FuncId} (h_ : Is_laws_FnExactStepState P g_f g_laws_szState g_laws_toState g_laws_toShares g_spec_StepState g_impl_StepState g_laws_eqState g_laws_sameFloat g_laws_markState g_laws_heldState) (l : Nat) (s : Nat) (xs : List Nat) (t : Int) (a : Nat) (b : Nat) (c : Nat) (d : Nat) (x : Nat) (ht : T.ok (fun x_ => x_ = .b true) (
      T.ob (false = false)
        (T.ob (false = false)
          (T.ob
            ((VCall P) g_laws_szState [AV.agg [AV.f FloatKind.f32 l, AV.f FloatKind.f32 s, AV.sl (Tag.par [0, 2]) 0 (Cont.f FloatKind.f32 xs), AV.i IntKind.i64 t], AV.i IntKind.i64 1048576]
              (AV.i IntKind.i64 (szM (List.length xs) 1048576)))
            (T.ite (decide (szM (List.length xs) 1048576 < 0)) (T.leaf (AV.b true))
              (T.ob
                ((VCall P) g_laws_toState [AV.agg [AV.f FloatKind.f32 l, AV.f FloatKind.f32 s, AV.sl (Tag.par [0, 2]) 0 (Cont.f FloatKind.f32 xs), AV.i IntKind.i64 t]]
                  (AV.agg [AV.f FloatKind.f32 l, AV.f FloatKind.f32 s, AV.sl (Tag.own 0) 0 (Cont.f FloatKind.f32 xs), AV.i IntKind.i64 t]))
                (T.ob
                  ((VCall P) g_laws_toShares [AV.agg [AV.f FloatKind.f32 a, AV.f FloatKind.f32 b, AV.f FloatKind.f32 c, AV.f FloatKind.f32 d]]
                    (AV.agg [AV.f FloatKind.f32 a, AV.f FloatKind.f32 b, AV.f FloatKind.f32 c, AV.f FloatKind.f32 d]))
                  (T.ob
                    ((VCall P) g_spec_StepState
                      [AV.agg [AV.f FloatKind.f32 l, AV.f FloatKind.f32 s, AV.sl (Tag.par [0, 2]) 0 (Cont.f FloatKind.f32 xs), AV.i IntKind.i64 t],
                        AV.agg [AV.f FloatKind.f32 a, AV.f FloatKind.f32 b, AV.f FloatKind.f32 c, AV.f FloatKind.f32 d], AV.f FloatKind.f32 x]
                      (AV.tup
                        [AV.agg
                            [AV.f FloatKind.f32 (iv (ssOk l s xs t a b c d x) (ssL l s xs t a b c d x)), AV.f FloatKind.f32 (iv (ssOk l s xs t a b c d x) (ssS l s xs t a b c d x)),
                              AV.sl (Tag.own 0) 0 (Cont.f FloatKind.f32 (ivl (ssOk l s xs t a b c d x) (ssX l s xs t a b c d x))), AV.i IntKind.i64 (ivi (ssOk l s xs t a b c d x) (ssT xs t))],
                          AV.f FloatKind.f32 (iv (ssOk l s xs t a b c d x) (ssE l s xs t d x)), AV.b (ssOk l s xs t a b c d x)]))
                    (T.ob (false = false)
                      (T.ob
                        ((VCall P) g_laws_toState [AV.agg [AV.f FloatKind.f32 l, AV.f FloatKind.f32 s, AV.sl (Tag.par [0, 2]) 0 (Cont.f FloatKind.f32 xs), AV.i IntKind.i64 t]]
                          (AV.agg [AV.f FloatKind.f32 l, AV.f FloatKind.f32 s, AV.sl (Tag.own 0) 0 (Cont.f FloatKind.f32 xs), AV.i IntKind.i64 t]))
                        (T.ob (false = false)
                          (T.ob
                            ((VCall P) g_laws_toShares [AV.agg [AV.f FloatKind.f32 a, AV.f FloatKind.f32 b, AV.f FloatKind.f32 c, AV.f FloatKind.f32 d]]
                              (AV.agg [AV.f FloatKind.f32 a, AV.f FloatKind.f32 b, AV.f FloatKind.f32 c, AV.f FloatKind.f32 d]))
                            (T.ob
                              ((VCall P) g_impl_StepState
                                [AV.agg [AV.f FloatKind.f32 l, AV.f FloatKind.f32 s, AV.sl (Tag.par [0, 2]) 0 (Cont.f FloatKind.f32 xs), AV.i IntKind.i64 t],
                                  AV.agg [AV.f FloatKind.f32 a, AV.f FloatKind.f32 b, AV.f FloatKind.f32 c, AV.f FloatKind.f32 d], AV.f FloatKind.f32 x]
                                (AV.tup
                                  [AV.agg
                                      [AV.f FloatKind.f32 (iv (ssOk l s xs t a b c d x) (ssL l s xs t a b c d x)), AV.f FloatKind.f32 (iv (ssOk l s xs t a b c d x) (ssS l s xs t a b c d x)),
                                        AV.sl (Tag.own 0) 0 (Cont.f FloatKind.f32 (ivl (ssOk l s xs t a b c d x) (ssX l s xs t a b c d x))), AV.i IntKind.i64 (ivi (ssOk l s xs t a b c d x) (ssT xs t))],
                                    AV.f FloatKind.f32 (iv (ssOk l s xs t a b c d x) (ssE l s xs t d x)), AV.b (ssOk l s xs t a b c d x)]))
                              (T.ob (false = false)
                                (T.ob
                                  ((VCall P) g_laws_eqState
                                    [AV.agg
                                        [AV.f FloatKind.f32 (iv (ssOk l s xs t a b c d x) (ssL l s xs t a b c d x)), AV.f FloatKind.f32 (iv (ssOk l s xs t a b c d x) (ssS l s xs t a b c d x)),
                                          AV.sl (Tag.par [0, 2]) 0 (Cont.f FloatKind.f32 (ivl (ssOk l s xs t a b c d x) (ssX l s xs t a b c d x))), AV.i IntKind.i64 (ivi (ssOk l s xs t a b c d x) (ssT xs t))],
                                      AV.agg
                                        [AV.f FloatKind.f32 (iv (ssOk l s xs t a b c d x) (ssL l s xs t a b c d x)), AV.f FloatKind.f32 (iv (ssOk l s xs t a b c d x) (ssS l s xs t a b c d x)),
                                          AV.sl (Tag.par [1, 2]) 0 (Cont.f FloatKind.f32 (ivl (ssOk l s xs t a b c d x) (ssX l s xs t a b c d x))), AV.i IntKind.i64 (ivi (ssOk l s xs t a b c d x) (ssT xs t))]]
                                    (AV.b true))
                                  (T.ite false (T.leaf (AV.b false))
                                    (T.ob (fconvOk FloatKind.f32 FloatKind.f64 (iv (ssOk l s xs t a b c d x) (ssE l s xs t d x)) = true)
                                      (T.ob (fconvOk FloatKind.f32 FloatKind.f64 (iv (ssOk l s xs t a b c d x) (ssE l s xs t d x)) = true)
                                        (T.ob
                                          ((VCall P) g_laws_sameFloat
                                            [AV.f FloatKind.f64 (fconv FloatKind.f32 FloatKind.f64 (iv (ssOk l s xs t a b c d x) (ssE l s xs t d x))),
                                              AV.f FloatKind.f64 (fconv FloatKind.f32 FloatKind.f64 (iv (ssOk l s xs t a b c d x) (ssE l s xs t d x)))]
                                            (AV.b true))
                                          (T.ite false (T.leaf (AV.b false))
                                            (T.ite (!ssOk l s xs t a b c d x == ssOk l s xs t a b c d x) (T.leaf (AV.b false))
                                              (T.ob
                                                ((VCall P) g_laws_toState [AV.agg [AV.f FloatKind.f32 l, AV.f FloatKind.f32 s, AV.sl (Tag.par [0, 2]) 0 (Cont.f FloatKind.f32 xs), AV.i IntKind.i64 t]]
                                                  (AV.agg [AV.f FloatKind.f32 l, AV.f FloatKind.f32 s, AV.sl (Tag.own 0) 0 (Cont.f FloatKind.f32 xs), AV.i IntKind.i64 t]))
                                                (T.ob
                                                  ((VCall P) g_laws_eqState
                                                    [AV.agg [AV.f FloatKind.f32 l, AV.f FloatKind.f32 s, AV.sl (Tag.par [0, 2]) 0 (Cont.f FloatKind.f32 xs), AV.i IntKind.i64 t],
                                                      AV.agg [AV.f FloatKind.f32 l, AV.f FloatKind.f32 s, AV.sl (Tag.par [1, 2]) 0 (Cont.f FloatKind.f32 xs), AV.i IntKind.i64 t]]
                                                    (AV.b true))
                                                  (T.ite false (T.leaf (AV.b false))
                                                    (T.ob
                                                      ((VCall P) g_laws_markState [AV.agg [AV.f FloatKind.f32 l, AV.f FloatKind.f32 s, AV.sl (Tag.own 800000) 0 (Cont.f FloatKind.f32 xs), AV.i IntKind.i64 t], AV.i IntKind.i64 1]
                                                          (AV.bx Tag.nil
                                                            [AV.i IntKind.i64 (1 + (↑(List.length xs) : Int)),
                                                              AV.tup
                                                                [AV.agg [AV.f FloatKind.f32 l, AV.f FloatKind.f32 s, AV.sl (Tag.own 800000) 0 (Cont.f FloatKind.f32 (marksM (List.length xs) 1)), AV.i IntKind.i64 t],
                                                                  AV.i IntKind.i64 1]]) ∧
                                                        List.length xs = List.length (marksM (List.length xs) 1) ∧ List.length xs = List.length (marksM (List.length xs) 1) ∧ True)
                                                      (T.ite false (T.leaf (AV.b false))
                                                        (T.ob
                                                          ((VCall P) g_laws_eqState
                                                            [AV.agg
                                                                [AV.f FloatKind.f32 (iv (ssOk l s xs t a b c d x) (ssL l s xs t a b c d x)), AV.f FloatKind.f32 (iv (ssOk l s xs t a b c d x) (ssS l s xs t a b c d x)),
                                                                  AV.sl (Tag.par [0, 2]) 0 (Cont.f FloatKind.f32 (ivl (ssOk l s xs t a b c d x) (ssX l s xs t a b c d x))),
                                                                  AV.i IntKind.i64 (ivi (ssOk l s xs t a b c d x) (ssT xs t))],
                                                              AV.agg
                                                                [AV.f FloatKind.f32 (iv (ssOk l s xs t a b c d x) (ssL l s xs t a b c d x)), AV.f FloatKind.f32 (iv (ssOk l s xs t a b c d x) (ssS l s xs t a b c d x)),
                                                                  AV.sl (Tag.par [1, 2]) 0 (Cont.f FloatKind.f32 (ivl (ssOk l s xs t a b c d x) (ssX l s xs t a b c d x))),
                                                                  AV.i IntKind.i64 (ivi (ssOk l s xs t a b c d x) (ssT xs t))]]
                                                            (AV.b true))
                                                          (T.ite false (T.leaf (AV.b false))
                                                            (T.ob (fconvOk FloatKind.f32 FloatKind.f64 (iv (ssOk l s xs t a b c d x) (ssE l s xs t d x)) = true)
                                                              (T.ob (fconvOk FloatKind.f32 FloatKind.f64 (iv (ssOk l s xs t a b c d x) (ssE l s xs t d x)) = true)
                                                                (T.ob
                                                                  ((VCall P) g_laws_sameFloat
                                                                    [AV.f FloatKind.f64 (fconv FloatKind.f32 FloatKind.f64 (iv (ssOk l s xs t a b c d x) (ssE l s xs t d x))),
                                                                      AV.f FloatKind.f64 (fconv FloatKind.f32 FloatKind.f64 (iv (ssOk l s xs t a b c d x) (ssE l s xs t d x)))]
                                                                    (AV.b true))
                                                                  (T.ite false (T.leaf (AV.b false))
                                                                    (T.ite (!ssOk l s xs t a b c d x == ssOk l s xs t a b c d x) (T.leaf (AV.b false))
                                                                      (T.ob
                                                                        ((VCall P) g_laws_markState
                                                                            [AV.agg
                                                                                [AV.f FloatKind.f32 (iv (ssOk l s xs t a b c d x) (ssL l s xs t a b c d x)),
                                                                                  AV.f FloatKind.f32 (iv (ssOk l s xs t a b c d x) (ssS l s xs t a b c d x)),
                                                                                  AV.sl (Tag.own 800000) 0 (Cont.f FloatKind.f32 (ivl (ssOk l s xs t a b c d x) (ssX l s xs t a b c d x))),
                                                                                  AV.i IntKind.i64 (ivi (ssOk l s xs t a b c d x) (ssT xs t))],
                                                                              AV.i IntKind.i64 1]
                                                                            (AV.bx Tag.nil
                                                                              [AV.i IntKind.i64 (1 + (↑(List.length (ivl (ssOk l s xs t a b c d x) (ssX l s xs t a b c d x))) : Int)),
                                                                                AV.tup
                                                                                  [AV.agg
                                                                                      [AV.f FloatKind.f32 (iv (ssOk l s xs t a b c d x) (ssL l s xs t a b c d x)),
                                                                                        AV.f FloatKind.f32 (iv (ssOk l s xs t a b c d x) (ssS l s xs t a b c d x)),
                                                                                        AV.sl (Tag.own 800000) 0 (Cont.f FloatKind.f32 (marksM (List.length (ivl (ssOk l s xs t a b c d x) (ssX l s xs t a b c d x))) 1)),
                                                                                        AV.i IntKind.i64 (ivi (ssOk l s xs t a b c d x) (ssT xs t))],
                                                                                    AV.i IntKind.i64 1]]) ∧
                                                                          List.length (ivl (ssOk l s xs t a b c d x) (ssX l s xs t a b c d x)) =
                                                                              List.length (marksM (List.length (ivl (ssOk l s xs t a b c d x) (ssX l s xs t a b c d x))) 1) ∧
                                                                            List.length (ivl (ssOk l s xs t a b c d x) (ssX l s xs t a b c d x)) =
                                                                                List.length (marksM (List.length (ivl (ssOk l s xs t a b c d x) (ssX l s xs t a b c d x))) 1) ∧
                                                                              True)
                                                                        (T.ob
                                                                          ((VCall P) g_laws_heldState
                                                                            [AV.agg
                                                                                [AV.f FloatKind.f32 (iv (ssOk l s xs t a b c d x) (ssL l s xs t a b c d x)),
                                                                                  AV.f FloatKind.f32 (iv (ssOk l s xs t a b c d x) (ssS l s xs t a b c d x)),
                                                                                  AV.sl (Tag.par [0, 2]) 0 (Cont.f FloatKind.f32 (marksM (List.length (ivl (ssOk l s xs t a b c d x) (ssX l s xs t a b c d x))) 1)),
                                                                                  AV.i IntKind.i64 (ivi (ssOk l s xs t a b c d x) (ssT xs t))],
                                                                              AV.i IntKind.i64 1]
                                                                            (AV.i IntKind.i64 (1 + (↑(List.length (marksM (List.length (ivl (ssOk l s xs t a b c d x) (ssX l s xs t a b c d x))) 1)) : Int))))
                                                                          (T.ite false (T.leaf (AV.b false))
                                                                            (T.ite
                                                                              (1 + (↑(List.length (marksM (List.length (ivl (ssOk l s xs t a b c d x) (ssX l s xs t a b c d x))) 1)) : Int) !=
                                                                                1 + (↑(List.length (ivl (ssOk l s xs t a b c d x) (ssX l s xs t a b c d x))) : Int))
                                                                              (T.leaf (AV.b false))
                                                                              (T.ob
                                                                                ((VCall P) g_laws_toState [AV.agg [AV.f FloatKind.f32 l, AV.f FloatKind.f32 s, AV.sl (Tag.par [0, 2]) 0 (Cont.f FloatKind.f32 xs), AV.i IntKind.i64 t]]
                                                                                  (AV.agg [AV.f FloatKind.f32 l, AV.f FloatKind.f32 s, AV.sl (Tag.own 0) 0 (Cont.f FloatKind.f32 xs), AV.i IntKind.i64 t]))
                                                                                (T.ob
                                                                                  ((VCall P) g_laws_toShares [AV.agg [AV.f FloatKind.f32 a, AV.f FloatKind.f32 b, AV.f FloatKind.f32 c, AV.f FloatKind.f32 d]]
                                                                                    (AV.agg [AV.f FloatKind.f32 a, AV.f FloatKind.f32 b, AV.f FloatKind.f32 c, AV.f FloatKind.f32 d]))
                                                                                  (T.ob
                                                                                    ((VCall P) g_impl_StepState
                                                                                      [AV.agg [AV.f FloatKind.f32 l, AV.f FloatKind.f32 s, AV.sl (Tag.par [0, 2]) 0 (Cont.f FloatKind.f32 xs), AV.i IntKind.i64 t],
                                                                                        AV.agg [AV.f FloatKind.f32 a, AV.f FloatKind.f32 b, AV.f FloatKind.f32 c, AV.f FloatKind.f32 d], AV.f FloatKind.f32 x]
                                                                                      (AV.tup
                                                                                        [AV.agg
                                                                                            [AV.f FloatKind.f32 (iv (ssOk l s xs t a b c d x) (ssL l s xs t a b c d x)),
                                                                                              AV.f FloatKind.f32 (iv (ssOk l s xs t a b c d x) (ssS l s xs t a b c d x)),
                                                                                              AV.sl (Tag.own 0) 0 (Cont.f FloatKind.f32 (ivl (ssOk l s xs t a b c d x) (ssX l s xs t a b c d x))),
                                                                                              AV.i IntKind.i64 (ivi (ssOk l s xs t a b c d x) (ssT xs t))],
                                                                                          AV.f FloatKind.f32 (iv (ssOk l s xs t a b c d x) (ssE l s xs t d x)), AV.b (ssOk l s xs t a b c d x)]))
                                                                                    (T.ob (false = false)
                                                                                      (T.ob
                                                                                        ((VCall P) g_laws_eqState
                                                                                          [AV.agg
                                                                                              [AV.f FloatKind.f32 (iv (ssOk l s xs t a b c d x) (ssL l s xs t a b c d x)),
                                                                                                AV.f FloatKind.f32 (iv (ssOk l s xs t a b c d x) (ssS l s xs t a b c d x)),
                                                                                                AV.sl (Tag.par [0, 2]) 0 (Cont.f FloatKind.f32 (ivl (ssOk l s xs t a b c d x) (ssX l s xs t a b c d x))),
                                                                                                AV.i IntKind.i64 (ivi (ssOk l s xs t a b c d x) (ssT xs t))],
                                                                                            AV.agg
                                                                                              [AV.f FloatKind.f32 (iv (ssOk l s xs t a b c d x) (ssL l s xs t a b c d x)),
                                                                                                AV.f FloatKind.f32 (iv (ssOk l s xs t a b c d x) (ssS l s xs t a b c d x)),
                                                                                                AV.sl (Tag.par [1, 2]) 0 (Cont.f FloatKind.f32 (ivl (ssOk l s xs t a b c d x) (ssX l s xs t a b c d x))),
                                                                                                AV.i IntKind.i64 (ivi (ssOk l s xs t a b c d x) (ssT xs t))]]
                                                                                          (AV.b true))
                                                                                        (T.ite false (T.leaf (AV.b false))
                                                                                          (T.ob (fconvOk FloatKind.f32 FloatKind.f64 (iv (ssOk l s xs t a b c d x) (ssE l s xs t d x)) = true)
                                                                                            (T.ob (fconvOk FloatKind.f32 FloatKind.f64 (iv (ssOk l s xs t a b c d x) (ssE l s xs t d x)) = true)
                                                                                              (T.ob
                                                                                                ((VCall P) g_laws_sameFloat
                                                                                                  [AV.f FloatKind.f64 (fconv FloatKind.f32 FloatKind.f64 (iv (ssOk l s xs t a b c d x) (ssE l s xs t d x))),
                                                                                                    AV.f FloatKind.f64 (fconv FloatKind.f32 FloatKind.f64 (iv (ssOk l s xs t a b c d x) (ssE l s xs t d x)))]
                                                                                                  (AV.b true))
                                                                                                (T.ite false (T.leaf (AV.b false))
                                                                                                  (T.ite (!ssOk l s xs t a b c d x == ssOk l s xs t a b c d x) (T.leaf (AV.b false))
                                                                                                    (T.ob
                                                                                                      ((VCall P) g_laws_heldState
                                                                                                        [AV.agg
                                                                                                            [AV.f FloatKind.f32 (iv (ssOk l s xs t a b c d x) (ssL l s xs t a b c d x)),
                                                                                                              AV.f FloatKind.f32 (iv (ssOk l s xs t a b c d x) (ssS l s xs t a b c d x)),
                                                                                                              AV.sl (Tag.par [0, 2]) 0
                                                                                                                (Cont.f FloatKind.f32 (marksM (List.length (ivl (ssOk l s xs t a b c d x) (ssX l s xs t a b c d x))) 1)),
                                                                                                              AV.i IntKind.i64 (ivi (ssOk l s xs t a b c d x) (ssT xs t))],
                                                                                                          AV.i IntKind.i64 1]
                                                                                                        (AV.i IntKind.i64
                                                                                                          (1 + (↑(List.length (marksM (List.length (ivl (ssOk l s xs t a b c d x) (ssX l s xs t a b c d x))) 1)) : Int))))
                                                                                                      (T.ite false (T.leaf (AV.b false))
                                                                                                        (T.ite
                                                                                                          (1 + (↑(List.length (marksM (List.length (ivl (ssOk l s xs t a b c d x) (ssX l s xs t a b c d x))) 1)) : Int) !=
                                                                                                            1 + (↑(List.length (ivl (ssOk l s xs t a b c d x) (ssX l s xs t a b c d x))) : Int))
                                                                                                          (T.leaf (AV.b false)) (T.leaf (AV.b true))))))))))))))))))))))))))))))))))))))))))))))))))))) :
    VCall P g_f [.agg (ST (.par [0, 2]) l s xs t), .agg (F4 a b c d), .f .f32 x] (.b true) := h_.call_of ps_laws_FnExactStepState ⟨oc_laws_FnExactStepState l s xs t a b c d x, fun _ _ => none⟩ (by kernel_rfl) ht

-- END laws_FnExactStepState

theorem k_laws_FnExactStepState {P : Program} {f g_laws_szState g_laws_toState g_laws_toShares g_spec_StepState g_impl_StepState g_laws_eqState g_laws_sameFloat g_laws_markState g_laws_heldState : FuncId} (h : Is_laws_FnExactStepState P f g_laws_szState g_laws_toState g_laws_toShares g_spec_StepState g_impl_StepState g_laws_eqState g_laws_sameFloat g_laws_markState g_laws_heldState) (c1 : C_laws_szState P g_laws_szState) (c2 : C_laws_toState P g_laws_toState) (c3 : C_laws_toShares P g_laws_toShares) (c4 : C_spec_StepState P g_spec_StepState) (c5 : C_impl_StepState P g_impl_StepState) (c6 : C_laws_eqState P g_laws_eqState) (c7 : C_laws_sameFloat P g_laws_sameFloat) (c8 : C_laws_markState P g_laws_markState) (c9 : C_laws_heldState P g_laws_heldState) : C_laws_FnExactStepState P f := by
  intro l s xs t a b c d x hx
  refine q_laws_FnExactStepState h l s xs t a b c d x ?_
  have hR : (ivl (ssOk l s xs t a b c d x) (ssX l s xs t a b c d x)).length ≤ xs.length := by
    unfold ivl; split
    · rw [ss_len]; exact Nat.le_refl _
    · simp
  have b4 := c4 l s xs t a b c d x hx
  have b5 := c5 l s xs t a b c d x hx
  generalize ivl (ssOk l s xs t a b c d x) (ssX l s xs t a b c d x) = R at *
  generalize iv (ssOk l s xs t a b c d x) (ssL l s xs t a b c d x) = rl at *
  generalize iv (ssOk l s xs t a b c d x) (ssS l s xs t a b c d x) = rs at *
  generalize ivi (ssOk l s xs t a b c d x) (ssT xs t) = rt at *
  generalize iv (ssOk l s xs t a b c d x) (ssE l s xs t d x) = re at *
  generalize ssOk l s xs t a b c d x = rk at *
  repeat' (first | with_reducible refine T.ok_ob ?_ (fun _ => ?_) | with_reducible refine T.ok_ite (fun _ => ?_) (fun _ => ?_) | with_reducible refine T.ok_leaf ?_)
  all_goals (try simp only [decide_eq_true_eq, decide_eq_false_iff_not, sz_lt, gt_iff_lt, Int.not_lt, Bool.not_beq_self, bne_self_eq_false, beq_self_eq_true] at *)
  all_goals (try simp (disch := omega) only [sz_val] at *)
  all_goals first | with_reducible rfl | with_reducible assumption | ((with_reducible refine c1 _ _ _ _ _ ?_ ?_) <;> (first | assumption | omega | with_reducible rfl | (simp [maxLen_eq]; done) | (simp [maxLen_eq]; omega))) | ((with_reducible refine c2 _ _ _ _ ?_) <;> (first | assumption | omega | with_reducible rfl | (simp [maxLen_eq]; done) | (simp [maxLen_eq]; omega))) | with_reducible exact c3 _ _ _ _ | ((with_reducible refine c4 _ _ _ _ _ _ _ _ _ ?_) <;> (first | assumption | omega | with_reducible rfl | (simp [maxLen_eq]; done) | (simp [maxLen_eq]; omega))) | ((with_reducible refine c5 _ _ _ _ _ _ _ _ _ ?_) <;> (first | assumption | omega | with_reducible rfl | (simp [maxLen_eq]; done) | (simp [maxLen_eq]; omega))) | ((with_reducible refine c6 _ _ _ _ _ rfl ?_) <;> (first | assumption | omega | with_reducible rfl | (simp [maxLen_eq]; done) | (simp [maxLen_eq]; omega))) | ((with_reducible refine c7 _ _ ?_) <;> (first | assumption | omega | with_reducible rfl | (simp [maxLen_eq]; done) | (simp [maxLen_eq]; omega))) | ((with_reducible refine ⟨c8 _ _ _ _ _ ?_ ?_, ?_⟩) <;> first | assumption | omega | (simp [marks_len]; done) | (simp [marks_len]; omega)) | ((with_reducible refine c9 _ _ _ _ _ _ rfl ?_ ?_) <;> (first | assumption | omega | with_reducible rfl | (simp [maxLen_eq]; done) | (simp [maxLen_eq]; omega))) | contradiction | exact fconvOk_32_64 _ | assumption | exact rfl | (simp only [marks_len, bne_self_eq_false, Bool.false_eq_true] at *; done) | (simp_all [marks_len]; done) | (simp_all [T.ok, marks_len]; omega)


end Go.Proofs.LV
