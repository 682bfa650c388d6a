/- The laws FnExactPairCount and FnExactBackOfWaves. -/
import Derived.Test.YtplfalnldkbliaaLvFnC
namespace Go.Proofs.LV
open Go
set_option linter.unusedVariables false
set_option linter.unusedSimpArgs false

/-- laws.FnExactPairCount: slots 53, results [.t 4]; calls [19:g_laws_toFloat32S, 21:g_laws_toFloat32S, 22:g_spec_PairCount, 26:g_laws_toFloat32S, 28:g_laws_toFloat32S, 32:g_impl_PairCount, 45:g_laws_toFloat32S, 46:g_laws_eqFloat32S, 50:g_laws_toFloat32S, 51:g_laws_eqFloat32S]; names [(aA, 0), (aB, 1), (aA, 2), (aB, 3), (w0, 5), (w1, 6), (x0, 7), (x1, 8), (g0, 9), (g1, 10)] -/
def ps_laws_FnExactPairCount : List Nat := [0, 1, 4, 5, 6, 7, 8, 9, 10, 13, 16, 42, 47, 52]
def b_laws_FnExactPairCount (g_laws_toFloat32S g_spec_PairCount g_impl_PairCount g_laws_eqFloat32S : FuncId) : VCode :=
  (.seq
   (.region false [
    ⟨some 4, .mv, [.k (.b false)], none⟩])
   (.seq
    (.seq
     (.region false [
      ⟨some 11, .mv, [.t 0], none⟩,
      ⟨some 12, .len, [.t 11], none⟩,
      ⟨some 13, (.bin .gtr), [.t 12, .k (.i .i64 1048576)], none⟩])
     (.cond (.t 13)
      (.seq
       (.region false [
        ⟨some 4, .mv, [.k (.b true)], none⟩])
       .ret)
      .skip))
    (.seq
     (.seq
      (.region false [
       ⟨some 14, .mv, [.t 1], none⟩,
       ⟨some 15, .len, [.t 14], none⟩,
       ⟨some 16, (.bin .gtr), [.t 15, .k (.i .i64 1048576)], none⟩])
      (.cond (.t 16)
       (.seq
        (.region false [
         ⟨some 4, .mv, [.k (.b true)], none⟩])
        .ret)
       .skip))
     (.seq
      (.region false [
       ⟨some 18, .mv, [.t 0], none⟩,
       ⟨some 19, (.call g_laws_toFloat32S), [.t 18], none⟩,
       ⟨some 20, .mv, [.t 1], none⟩,
       ⟨some 21, (.call g_laws_toFloat32S), [.t 20], none⟩,
       ⟨some 22, (.call g_spec_PairCount), [.t 19, .t 21], none⟩,
       ⟨some 17, .mv, [.t 22], none⟩,
       ⟨some 23, (.extract 0), [.t 17], none⟩,
       ⟨some 24, (.extract 1), [.t 17], none⟩,
       ⟨some 5, .mv, [.t 23], none⟩,
       ⟨some 6, .mv, [.t 24], none⟩])
      (.seq
       (.region false [
        ⟨some 25, .mv, [.t 0], none⟩,
        ⟨some 26, (.call g_laws_toFloat32S), [.t 25], none⟩,
        ⟨some 7, .mv, [.t 26], none⟩])
       (.seq
        (.region false [
         ⟨some 27, .mv, [.t 1], none⟩,
         ⟨some 28, (.call g_laws_toFloat32S), [.t 27], none⟩,
         ⟨some 8, .mv, [.t 28], none⟩])
        (.seq
         (.region false [
          ⟨some 30, .mv, [.t 7], none⟩,
          ⟨some 31, .mv, [.t 8], none⟩,
          ⟨some 32, (.call g_impl_PairCount), [.t 30, .t 31], none⟩,
          ⟨some 29, .mv, [.t 32], none⟩,
          ⟨some 33, (.extract 0), [.t 29], none⟩,
          ⟨some 34, (.extract 1), [.t 29], none⟩,
          ⟨some 9, .mv, [.t 33], none⟩,
          ⟨some 10, .mv, [.t 34], none⟩])
         (.seq
          (.seq
           (.region false [
            ⟨some 35, .mv, [.t 9], none⟩,
            ⟨some 36, .mv, [.t 5], none⟩,
            ⟨some 37, (.bin .neq), [.t 35, .t 36], none⟩,
            ⟨some 38, .mv, [.t 37], none⟩,
            ⟨some 39, .mv, [.t 10], some (38, false)⟩,
            ⟨some 40, .mv, [.t 6], some (38, false)⟩,
            ⟨some 41, (.binb .neq), [.t 39, .t 40], some (38, false)⟩,
            ⟨some 42, .pick, [.t 38, .k (.b true), .t 41], none⟩])
           (.cond (.t 42)
            (.seq
             (.region false [
              ⟨some 4, .mv, [.k (.b false)], none⟩])
             .ret)
            .skip))
          (.seq
           (.seq
            (.region false [
             ⟨some 43, .mv, [.t 7], none⟩,
             ⟨some 44, .mv, [.t 0], none⟩,
             ⟨some 45, (.call g_laws_toFloat32S), [.t 44], none⟩,
             ⟨some 46, (.call g_laws_eqFloat32S), [.t 43, .t 45], none⟩,
             ⟨some 47, .not, [.t 46], none⟩])
            (.cond (.t 47)
             (.seq
              (.region false [
               ⟨some 4, .mv, [.k (.b false)], none⟩])
              .ret)
             .skip))
           (.seq
            (.seq
             (.region false [
              ⟨some 48, .mv, [.t 8], none⟩,
              ⟨some 49, .mv, [.t 1], none⟩,
              ⟨some 50, (.call g_laws_toFloat32S), [.t 49], none⟩,
              ⟨some 51, (.call g_laws_eqFloat32S), [.t 48, .t 50], none⟩,
              ⟨some 52, .not, [.t 51], none⟩])
             (.cond (.t 52)
              (.seq
               (.region false [
                ⟨some 4, .mv, [.k (.b false)], none⟩])
               .ret)
              .skip))
            (.seq
             (.region false [
              ⟨some 4, .mv, [.k (.b true)], none⟩])
             .ret)))))))))))

abbrev Is_laws_FnExactPairCount (P : Program) (g_f : FuncId) (g_laws_toFloat32S g_spec_PairCount g_impl_PairCount g_laws_eqFloat32S : FuncId) : Prop := FnIs P g_f 53 [.t 4] (b_laws_FnExactPairCount g_laws_toFloat32S g_spec_PairCount g_impl_PairCount g_laws_eqFloat32S)

abbrev C_laws_FnExactPairCount (P : Program) (g_f : FuncId) : Prop := ∀ (xs : List Nat) (ys : List Nat) (hx : xs.length ≤ maxLen) (hy : ys.length ≤ maxLen), VCall P g_f [PS [0] .f32 xs, PS [1] .f32 ys] (.b true)
def oc1_laws_FnExactPairCount (as : List AV) : T AV := match as with | [.sl _ _ (.f .f32 xs), .sl _ _ (.f .f32 ys)] => .leaf (.b true) | _ => .fail
def oc_laws_FnExactPairCount (xs : List Nat) (ys : List Nat) (d : Nat) (as : List AV) : T AV := match d with | 19 => oc1_laws_toFloat32S as | 21 => oc1_laws_toFloat32S as | 22 => oc1_spec_PairCount as | 26 => oc1_laws_toFloat32S as | 28 => oc1_laws_toFloat32S as | 32 => oc1_impl_PairCount as | 45 => oc1_laws_toFloat32S as | 46 => oc1_laws_eqFloat32S as | 50 => oc1_laws_toFloat32S as | 51 => oc1_laws_eqFloat32S as | _ => .fail



theorem q_laws_FnExactPairCount {P : Program} {g_f : FuncId} {g_laws_toFloat32S g_spec_PairCount g_impl_PairCount g_laws_eqFloat32S : FuncId} (h_ : Is_laws_FnExactPairCount P g_f g_laws_toFloat32S g_spec_PairCount g_impl_PairCount g_laws_eqFloat32S) (xs : List Nat) (ys : List Nat) (ht : T.ok (fun x_ => x_ = .b true) (
      T.ite (decide ((↑(List.length xs) : Int) > 1048576)) (T.leaf (AV.b true))
        (T.ite (decide ((↑(List.length ys) : Int) > 1048576)) (T.leaf (AV.b true))
          (T.ob ((VCall P) g_laws_toFloat32S [AV.sl (Tag.par [0]) 0 (Cont.f FloatKind.f32 xs)] (AV.sl (Tag.own 0) 0 (Cont.f FloatKind.f32 xs)))
            (T.ob ((VCall P) g_laws_toFloat32S [AV.sl (Tag.par [0]) 0 (Cont.f FloatKind.f32 ys)] (AV.sl (Tag.own 0) 0 (Cont.f FloatKind.f32 ys)))
              (T.ob
                ((VCall P) g_spec_PairCount [AV.sl (Tag.par [0]) 0 (Cont.f FloatKind.f32 xs), AV.sl (Tag.par [1]) 0 (Cont.f FloatKind.f32 ys)]
                  (AV.tup [AV.i IntKind.i64 (if twoM xs ys = true then pairsM xs ys else 0), AV.b (twoM xs ys)]))
                (T.ob ((VCall P) g_laws_toFloat32S [AV.sl (Tag.par [0]) 0 (Cont.f FloatKind.f32 xs)] (AV.sl (Tag.own 0) 0 (Cont.f FloatKind.f32 xs)))
                  (T.ob ((VCall P) g_laws_toFloat32S [AV.sl (Tag.par [0]) 0 (Cont.f FloatKind.f32 ys)] (AV.sl (Tag.own 0) 0 (Cont.f FloatKind.f32 ys)))
                    (T.ob
                      ((VCall P) g_impl_PairCount [AV.sl (Tag.par [0]) 0 (Cont.f FloatKind.f32 xs), AV.sl (Tag.par [1]) 0 (Cont.f FloatKind.f32 ys)]
                        (AV.tup [AV.i IntKind.i64 (if twoM xs ys = true then pairsM xs ys else 0), AV.b (twoM xs ys)]))
                      (T.ite ((if twoM xs ys = true then pairsM xs ys else 0) != if twoM xs ys = true then pairsM xs ys else 0) (T.leaf (AV.b false))
                        (T.ite (!twoM xs ys == twoM xs ys) (T.leaf (AV.b false))
                          (T.ob ((VCall P) g_laws_toFloat32S [AV.sl (Tag.par [0]) 0 (Cont.f FloatKind.f32 xs)] (AV.sl (Tag.own 0) 0 (Cont.f FloatKind.f32 xs)))
                            (T.ob ((VCall P) g_laws_eqFloat32S [AV.sl (Tag.par [0]) 0 (Cont.f FloatKind.f32 xs), AV.sl (Tag.par [1]) 0 (Cont.f FloatKind.f32 xs)] (AV.b true))
                              (T.ite false (T.leaf (AV.b false))
                                (T.ob ((VCall P) g_laws_toFloat32S [AV.sl (Tag.par [0]) 0 (Cont.f FloatKind.f32 ys)] (AV.sl (Tag.own 0) 0 (Cont.f FloatKind.f32 ys)))
                                  (T.ob ((VCall P) g_laws_eqFloat32S [AV.sl (Tag.par [0]) 0 (Cont.f FloatKind.f32 ys), AV.sl (Tag.par [1]) 0 (Cont.f FloatKind.f32 ys)] (AV.b true))
                                    (T.ite false (T.leaf (AV.b false)) (T.leaf (AV.b true))))))))))))))))))) :
    VCall P g_f [PS [0] .f32 xs, PS [1] .f32 ys] (.b true) := h_.call_of ps_laws_FnExactPairCount ⟨oc_laws_FnExactPairCount xs ys, fun _ _ => none⟩ (by kernel_rfl) ht


theorem k_laws_FnExactPairCount {P : Program} {f g1 g2 g3 g4 : FuncId} (h : Is_laws_FnExactPairCount P f g1 g2 g3 g4) (hto : C_laws_toFloat32S P g1) (hs : C_spec_PairCount P g2) (hi : C_impl_PairCount P g3) (heq : C_laws_eqFloat32S P g4) :
    C_laws_FnExactPairCount P f := by
  intro xs ys hx hy
  refine q_laws_FnExactPairCount h xs ys ⟨fun _ => rfl, fun h1 => ⟨fun _ => rfl, fun h2 => ?_⟩⟩
  have h1 := of_decide_eq_false h1
  have h2 := of_decide_eq_false h2
  repeat' (first | with_reducible refine T.ok_ob ?_ (fun _ => ?_) | with_reducible refine T.ok_ite (fun _ => ?_) (fun _ => ?_) | with_reducible refine T.ok_leaf ?_)
  all_goals first | with_reducible rfl | with_reducible exact hto _ (by omega) | with_reducible exact heq _ _ rfl (by omega) | with_reducible exact hs _ _ hx hy | with_reducible exact hi _ _ hx hy | contradiction | (exfalso; rename_i hc; revert hc; simp; done)

/-- laws.FnExactBackOfWaves: slots 114, results [.t 4]; calls [24:g_laws_toFloat32S, 26:g_laws_toFloat32S, 27:g_spec_BackOfWaves, 31:g_laws_toFloat32S, 33:g_laws_toFloat32S, 37:g_impl_BackOfWaves, 42:g_laws_eqFloat32S, 51:g_laws_toFloat32S, 52:g_laws_eqFloat32S, 56:g_laws_toFloat32S, 57:g_laws_eqFloat32S, 61:g_laws_markFloat32S, 64:g_laws_markFloat32S, 70:g_laws_eqFloat32S, 80:g_laws_markFloat32S, 83:g_laws_heldFloat32S, 91:g_laws_toFloat32S, 93:g_laws_toFloat32S, 94:g_impl_BackOfWaves, 99:g_laws_eqFloat32S, 108:g_laws_heldFloat32S]; names [(aMeans, 0), (aSteps, 1), (aMeans, 2), (aSteps, 3), (w0, 5), (w1, 6), (x0, 7), (x1, 8), (g0, 9), (g1, 10), (k, 11), (m, 12), (q, 13), (h0, 14), (h1, 15)] -/
def ps_laws_FnExactBackOfWaves : List Nat := [0, 1, 4, 5, 6, 7, 8, 9, 10, 11, 12, 13, 14, 15, 18, 21, 48, 53, 58, 77, 85, 88, 105, 110, 113]
def b_laws_FnExactBackOfWaves (g_laws_toFloat32S g_spec_BackOfWaves g_impl_BackOfWaves g_laws_eqFloat32S g_laws_markFloat32S g_laws_heldFloat32S : FuncId) : VCode :=
  (.seq
   (.region false [
    ⟨some 4, .mv, [.k (.b false)], none⟩])
   (.seq
    (.seq
     (.region false [
      ⟨some 16, .mv, [.t 0], none⟩,
      ⟨some 17, .len, [.t 16], none⟩,
      ⟨some 18, (.bin .gtr), [.t 17, .k (.i .i64 1048576)], none⟩])
     (.cond (.t 18)
      (.seq
       (.region false [
        ⟨some 4, .mv, [.k (.b true)], none⟩])
       .ret)
      .skip))
    (.seq
     (.seq
      (.region false [
       ⟨some 19, .mv, [.t 1], none⟩,
       ⟨some 20, .len, [.t 19], none⟩,
       ⟨some 21, (.bin .gtr), [.t 20, .k (.i .i64 1048576)], none⟩])
      (.cond (.t 21)
       (.seq
        (.region false [
         ⟨some 4, .mv, [.k (.b true)], none⟩])
        .ret)
       .skip))
     (.seq
      (.region false [
       ⟨some 23, .mv, [.t 0], none⟩,
       ⟨some 24, (.call g_laws_toFloat32S), [.t 23], none⟩,
       ⟨some 25, .mv, [.t 1], none⟩,
       ⟨some 26, (.call g_laws_toFloat32S), [.t 25], none⟩,
       ⟨some 27, (.call g_spec_BackOfWaves), [.t 24, .t 26], none⟩,
       ⟨some 22, .mv, [.t 27], none⟩,
       ⟨some 28, (.extract 0), [.t 22], none⟩,
       ⟨some 29, (.extract 1), [.t 22], none⟩,
       ⟨some 5, .mv, [.t 28], none⟩,
       ⟨some 6, .mv, [.t 29], none⟩])
      (.seq
       (.region false [
        ⟨some 30, .mv, [.t 0], none⟩,
        ⟨some 31, (.call g_laws_toFloat32S), [.t 30], none⟩,
        ⟨some 7, .mv, [.t 31], none⟩])
       (.seq
        (.region false [
         ⟨some 32, .mv, [.t 1], none⟩,
         ⟨some 33, (.call g_laws_toFloat32S), [.t 32], none⟩,
         ⟨some 8, .mv, [.t 33], none⟩])
        (.seq
         (.region false [
          ⟨some 35, .mv, [.t 7], none⟩,
          ⟨some 36, .mv, [.t 8], none⟩,
          ⟨some 37, (.call g_impl_BackOfWaves), [.t 35, .t 36], none⟩,
          ⟨some 34, .mv, [.t 37], none⟩,
          ⟨some 38, (.extract 0), [.t 34], none⟩,
          ⟨some 39, (.extract 1), [.t 34], none⟩,
          ⟨some 9, .mv, [.t 38], none⟩,
          ⟨some 10, .mv, [.t 39], none⟩])
         (.seq
          (.seq
           (.region false [
            ⟨some 40, .mv, [.t 9], none⟩,
            ⟨some 41, .mv, [.t 5], none⟩,
            ⟨some 42, (.call g_laws_eqFloat32S), [.t 40, .t 41], none⟩,
            ⟨some 43, .not, [.t 42], none⟩,
            ⟨some 44, .mv, [.t 43], none⟩,
            ⟨some 45, .mv, [.t 10], some (44, false)⟩,
            ⟨some 46, .mv, [.t 6], some (44, false)⟩,
            ⟨some 47, (.binb .neq), [.t 45, .t 46], some (44, false)⟩,
            ⟨some 48, .pick, [.t 44, .k (.b true), .t 47], none⟩])
           (.cond (.t 48)
            (.seq
             (.region false [
              ⟨some 4, .mv, [.k (.b false)], none⟩])
             .ret)
            .skip))
          (.seq
           (.seq
            (.region false [
             ⟨some 49, .mv, [.t 7], none⟩,
             ⟨some 50, .mv, [.t 0], none⟩,
             ⟨some 51, (.call g_laws_toFloat32S), [.t 50], none⟩,
             ⟨some 52, (.call g_laws_eqFloat32S), [.t 49, .t 51], none⟩,
             ⟨some 53, .not, [.t 52], none⟩])
            (.cond (.t 53)
             (.seq
              (.region false [
               ⟨some 4, .mv, [.k (.b false)], none⟩])
              .ret)
             .skip))
           (.seq
            (.seq
             (.region false [
              ⟨some 54, .mv, [.t 8], none⟩,
              ⟨some 55, .mv, [.t 1], none⟩,
              ⟨some 56, (.call g_laws_toFloat32S), [.t 55], none⟩,
              ⟨some 57, (.call g_laws_eqFloat32S), [.t 54, .t 56], none⟩,
              ⟨some 58, .not, [.t 57], none⟩])
             (.cond (.t 58)
              (.seq
               (.region false [
                ⟨some 4, .mv, [.k (.b false)], none⟩])
               .ret)
              .skip))
            (.seq
             (.region false [
              ⟨some 11, .mv, [.k (.i .i64 1)], none⟩])
             (.seq
              (.region false [
               ⟨some 59, .mv, [.t 7], none⟩,
               ⟨some 60, .mv, [.t 11], none⟩,
               ⟨some 61, (.call g_laws_markFloat32S), [.t 59, .t 60], none⟩,
               ⟨some 11, .mv, [.t 61], none⟩])
              (.seq
               (.region false [
                ⟨some 62, .mv, [.t 8], none⟩,
                ⟨some 63, .mv, [.t 11], none⟩,
                ⟨some 64, (.call g_laws_markFloat32S), [.t 62, .t 63], none⟩,
                ⟨some 11, .mv, [.t 64], none⟩])
               (.seq
                (.seq
                 (.region false [
                  ⟨some 65, .mv, [.t 11], none⟩,
                  ⟨some 66, (.bin .lss), [.t 65, .k (.i .i64 0)], none⟩,
                  ⟨some 67, .mv, [.t 66], none⟩,
                  ⟨some 68, .mv, [.t 9], some (67, false)⟩,
                  ⟨some 69, .mv, [.t 5], some (67, false)⟩,
                  ⟨some 70, (.call g_laws_eqFloat32S), [.t 68, .t 69], some (67, false)⟩,
                  ⟨some 71, .not, [.t 70], some (67, false)⟩,
                  ⟨some 72, .pick, [.t 67, .k (.b true), .t 71], none⟩,
                  ⟨some 73, .mv, [.t 72], none⟩,
                  ⟨some 74, .mv, [.t 10], some (73, false)⟩,
                  ⟨some 75, .mv, [.t 6], some (73, false)⟩,
                  ⟨some 76, (.binb .neq), [.t 74, .t 75], some (73, false)⟩,
                  ⟨some 77, .pick, [.t 73, .k (.b true), .t 76], none⟩])
                 (.cond (.t 77)
                  (.seq
                   (.region false [
                    ⟨some 4, .mv, [.k (.b false)], none⟩])
                   .ret)
                  .skip))
                (.seq
                 (.region false [
                  ⟨some 12, .mv, [.k (.i .i64 1)], none⟩])
                 (.seq
                  (.region false [
                   ⟨some 78, .mv, [.t 9], none⟩,
                   ⟨some 79, .mv, [.t 12], none⟩,
                   ⟨some 80, (.call g_laws_markFloat32S), [.t 78, .t 79], none⟩,
                   ⟨some 12, .mv, [.t 80], none⟩])
                  (.seq
                   (.region false [
                    ⟨some 13, .mv, [.k (.i .i64 1)], none⟩])
                   (.seq
                    (.region false [
                     ⟨some 81, .mv, [.t 9], none⟩,
                     ⟨some 82, .mv, [.t 13], none⟩,
                     ⟨some 83, (.call g_laws_heldFloat32S), [.t 81, .t 82], none⟩,
                     ⟨some 13, .mv, [.t 83], none⟩])
                    (.seq
                     (.seq
                      (.region false [
                       ⟨some 84, .mv, [.t 13], none⟩,
                       ⟨some 85, (.bin .lss), [.t 84, .k (.i .i64 0)], none⟩])
                      (.cond (.t 85)
                       (.seq
                        (.region false [
                         ⟨some 4, .mv, [.k (.b false)], none⟩])
                        .ret)
                       .skip))
                     (.seq
                      (.seq
                       (.region false [
                        ⟨some 86, .mv, [.t 13], none⟩,
                        ⟨some 87, .mv, [.t 12], none⟩,
                        ⟨some 88, (.bin .neq), [.t 86, .t 87], none⟩])
                       (.cond (.t 88)
                        (.seq
                         (.region false [
                          ⟨some 4, .mv, [.k (.b false)], none⟩])
                         .ret)
                        .skip))
                      (.seq
                       (.region false [
                        ⟨some 90, .mv, [.t 0], none⟩,
                        ⟨some 91, (.call g_laws_toFloat32S), [.t 90], none⟩,
                        ⟨some 92, .mv, [.t 1], none⟩,
                        ⟨some 93, (.call g_laws_toFloat32S), [.t 92], none⟩,
                        ⟨some 94, (.call g_impl_BackOfWaves), [.t 91, .t 93], none⟩,
                        ⟨some 89, .mv, [.t 94], none⟩,
                        ⟨some 95, (.extract 0), [.t 89], none⟩,
                        ⟨some 96, (.extract 1), [.t 89], none⟩,
                        ⟨some 14, .mv, [.t 95], none⟩,
                        ⟨some 15, .mv, [.t 96], none⟩])
                       (.seq
                        (.seq
                         (.region false [
                          ⟨some 97, .mv, [.t 14], none⟩,
                          ⟨some 98, .mv, [.t 5], none⟩,
                          ⟨some 99, (.call g_laws_eqFloat32S), [.t 97, .t 98], none⟩,
                          ⟨some 100, .not, [.t 99], none⟩,
                          ⟨some 101, .mv, [.t 100], none⟩,
                          ⟨some 102, .mv, [.t 15], some (101, false)⟩,
                          ⟨some 103, .mv, [.t 6], some (101, false)⟩,
                          ⟨some 104, (.binb .neq), [.t 102, .t 103], some (101, false)⟩,
                          ⟨some 105, .pick, [.t 101, .k (.b true), .t 104], none⟩])
                         (.cond (.t 105)
                          (.seq
                           (.region false [
                            ⟨some 4, .mv, [.k (.b false)], none⟩])
                           .ret)
                          .skip))
                        (.seq
                         (.region false [
                          ⟨some 13, .mv, [.k (.i .i64 1)], none⟩])
                         (.seq
                          (.region false [
                           ⟨some 106, .mv, [.t 9], none⟩,
                           ⟨some 107, .mv, [.t 13], none⟩,
                           ⟨some 108, (.call g_laws_heldFloat32S), [.t 106, .t 107], none⟩,
                           ⟨some 13, .mv, [.t 108], none⟩])
                          (.seq
                           (.seq
                            (.region false [
                             ⟨some 109, .mv, [.t 13], none⟩,
                             ⟨some 110, (.bin .lss), [.t 109, .k (.i .i64 0)], none⟩])
                            (.cond (.t 110)
                             (.seq
                              (.region false [
                               ⟨some 4, .mv, [.k (.b false)], none⟩])
                              .ret)
                             .skip))
                           (.seq
                            (.seq
                             (.region false [
                              ⟨some 111, .mv, [.t 13], none⟩,
                              ⟨some 112, .mv, [.t 12], none⟩,
                              ⟨some 113, (.bin .neq), [.t 111, .t 112], none⟩])
                             (.cond (.t 113)
                              (.seq
                               (.region false [
                                ⟨some 4, .mv, [.k (.b false)], none⟩])
                               .ret)
                              .skip))
                            (.seq
                             (.region false [
                              ⟨some 4, .mv, [.k (.b true)], none⟩])
                             .ret)))))))))))))))))))))))))))

abbrev Is_laws_FnExactBackOfWaves (P : Program) (g_f : FuncId) (g_laws_toFloat32S g_spec_BackOfWaves g_impl_BackOfWaves g_laws_eqFloat32S g_laws_markFloat32S g_laws_heldFloat32S : FuncId) : Prop := FnIs P g_f 114 [.t 4] (b_laws_FnExactBackOfWaves g_laws_toFloat32S g_spec_BackOfWaves g_impl_BackOfWaves g_laws_eqFloat32S g_laws_markFloat32S g_laws_heldFloat32S)

abbrev C_laws_FnExactBackOfWaves (P : Program) (g_f : FuncId) : Prop := ∀ (xs : List Nat) (ys : List Nat) (hx : xs.length ≤ maxLen) (hy : ys.length ≤ maxLen), VCall P g_f [PS [0] .f32 xs, PS [1] .f32 ys] (.b true)
def oc1_laws_FnExactBackOfWaves (as : List AV) : T AV := match as with | [.sl _ _ (.f .f32 xs), .sl _ _ (.f .f32 ys)] => .leaf (.b true) | _ => .fail
def oc_laws_FnExactBackOfWaves (xs : List Nat) (ys : List Nat) (d : Nat) (as : List AV) : T AV := match d with | 24 => oc1_laws_toFloat32S as | 26 => oc1_laws_toFloat32S as | 27 => oc1_spec_BackOfWaves as | 31 => oc1_laws_toFloat32S as | 33 => oc1_laws_toFloat32S as | 37 => oc1_impl_BackOfWaves as | 42 => oc1_laws_eqFloat32S as | 51 => oc1_laws_toFloat32S as | 52 => oc1_laws_eqFloat32S as | 56 => oc1_laws_toFloat32S as | 57 => oc1_laws_eqFloat32S as | 61 => oc1_laws_markFloat32S as | 64 => oc1_laws_markFloat32S as | 70 => oc1_laws_eqFloat32S as | 80 => oc1_laws_markFloat32S as | 83 => oc1_laws_heldFloat32S as | 91 => oc1_laws_toFloat32S as | 93 => oc1_laws_toFloat32S as | 94 => oc1_impl_BackOfWaves as | 99 => oc1_laws_eqFloat32S as | 108 => oc1_laws_heldFloat32S as | _ => .fail



theorem q_laws_FnExactBackOfWaves {P : Program} {g_f : FuncId} {g_laws_toFloat32S g_spec_BackOfWaves g_impl_BackOfWaves g_laws_eqFloat32S g_laws_markFloat32S g_laws_heldFloat32S : FuncId} (h_ : Is_laws_FnExactBackOfWaves P g_f g_laws_toFloat32S g_spec_BackOfWaves g_impl_BackOfWaves g_laws_eqFloat32S g_laws_markFloat32S g_laws_heldFloat32S) (xs : List Nat) (ys : List Nat) (ht : T.ok (fun x_ => x_ = .b true) (
      T.ite (decide ((↑(List.length xs) : Int) > 1048576)) (T.leaf (AV.b true))
        (T.ite (decide ((↑(List.length ys) : Int) > 1048576)) (T.leaf (AV.b true))
          (T.ob ((VCall P) g_laws_toFloat32S [AV.sl (Tag.par [0]) 0 (Cont.f FloatKind.f32 xs)] (AV.sl (Tag.own 0) 0 (Cont.f FloatKind.f32 xs)))
            (T.ob ((VCall P) g_laws_toFloat32S [AV.sl (Tag.par [0]) 0 (Cont.f FloatKind.f32 ys)] (AV.sl (Tag.own 0) 0 (Cont.f FloatKind.f32 ys)))
              (T.ob
                ((VCall P) g_spec_BackOfWaves [AV.sl (Tag.par [0]) 0 (Cont.f FloatKind.f32 xs), AV.sl (Tag.par [1]) 0 (Cont.f FloatKind.f32 ys)]
                  (AV.tup [AV.sl (Tag.own 0) 0 (Cont.f FloatKind.f32 (if backOkM xs ys = true then backsM xs ys (List.length xs) else [])), AV.b (backOkM xs ys)]))
                (T.ob ((VCall P) g_laws_toFloat32S [AV.sl (Tag.par [0]) 0 (Cont.f FloatKind.f32 xs)] (AV.sl (Tag.own 0) 0 (Cont.f FloatKind.f32 xs)))
                  (T.ob ((VCall P) g_laws_toFloat32S [AV.sl (Tag.par [0]) 0 (Cont.f FloatKind.f32 ys)] (AV.sl (Tag.own 0) 0 (Cont.f FloatKind.f32 ys)))
                    (T.ob
                      ((VCall P) g_impl_BackOfWaves [AV.sl (Tag.par [0]) 0 (Cont.f FloatKind.f32 xs), AV.sl (Tag.par [1]) 0 (Cont.f FloatKind.f32 ys)]
                        (AV.tup [AV.sl (Tag.own 0) 0 (Cont.f FloatKind.f32 (if backOkM xs ys = true then backsM xs ys (List.length xs) else [])), AV.b (backOkM xs ys)]))
                      (T.ob
                        ((VCall P) g_laws_eqFloat32S
                          [AV.sl (Tag.par [0]) 0 (Cont.f FloatKind.f32 (if backOkM xs ys = true then backsM xs ys (List.length xs) else [])),
                            AV.sl (Tag.par [1]) 0 (Cont.f FloatKind.f32 (if backOkM xs ys = true then backsM xs ys (List.length xs) else []))]
                          (AV.b true))
                        (T.ite false (T.leaf (AV.b false))
                          (T.ite (!backOkM xs ys == backOkM xs ys) (T.leaf (AV.b false))
                            (T.ob ((VCall P) g_laws_toFloat32S [AV.sl (Tag.par [0]) 0 (Cont.f FloatKind.f32 xs)] (AV.sl (Tag.own 0) 0 (Cont.f FloatKind.f32 xs)))
                              (T.ob ((VCall P) g_laws_eqFloat32S [AV.sl (Tag.par [0]) 0 (Cont.f FloatKind.f32 xs), AV.sl (Tag.par [1]) 0 (Cont.f FloatKind.f32 xs)] (AV.b true))
                                (T.ite false (T.leaf (AV.b false))
                                  (T.ob ((VCall P) g_laws_toFloat32S [AV.sl (Tag.par [0]) 0 (Cont.f FloatKind.f32 ys)] (AV.sl (Tag.own 0) 0 (Cont.f FloatKind.f32 ys)))
                                    (T.ob ((VCall P) g_laws_eqFloat32S [AV.sl (Tag.par [0]) 0 (Cont.f FloatKind.f32 ys), AV.sl (Tag.par [1]) 0 (Cont.f FloatKind.f32 ys)] (AV.b true))
                                      (T.ite false (T.leaf (AV.b false))
                                        (T.ob
                                          ((VCall P) g_laws_markFloat32S [AV.sl (Tag.own 800000) 0 (Cont.f FloatKind.f32 xs), AV.i IntKind.i64 1]
                                              (AV.bx Tag.nil [AV.i IntKind.i64 (1 + (↑(List.length xs) : Int)), AV.tup [AV.sl (Tag.own 800000) 0 (Cont.f FloatKind.f32 (marksM (List.length xs) 1)), AV.i IntKind.i64 1]]) ∧
                                            List.length xs = List.length (marksM (List.length xs) 1) ∧ List.length xs = List.length (marksM (List.length xs) 1) ∧ True)
                                          (T.ob
                                            ((VCall P) g_laws_markFloat32S [AV.sl (Tag.own 800000) 0 (Cont.f FloatKind.f32 ys), AV.i IntKind.i64 (1 + (↑(List.length xs) : Int))]
                                                (AV.bx Tag.nil
                                                  [AV.i IntKind.i64 (1 + (↑(List.length xs) : Int) + (↑(List.length ys) : Int)),
                                                    AV.tup [AV.sl (Tag.own 800000) 0 (Cont.f FloatKind.f32 (marksM (List.length ys) (1 + (↑(List.length xs) : Int)))), AV.i IntKind.i64 (1 + (↑(List.length xs) : Int))]]) ∧
                                              List.length ys = List.length (marksM (List.length ys) (1 + (↑(List.length xs) : Int))) ∧
                                                List.length ys = List.length (marksM (List.length ys) (1 + (↑(List.length xs) : Int))) ∧ True)
                                            (T.ite false (T.leaf (AV.b false))
                                              (T.ob
                                                ((VCall P) g_laws_eqFloat32S
                                                  [AV.sl (Tag.par [0]) 0 (Cont.f FloatKind.f32 (if backOkM xs ys = true then backsM xs ys (List.length xs) else [])),
                                                    AV.sl (Tag.par [1]) 0 (Cont.f FloatKind.f32 (if backOkM xs ys = true then backsM xs ys (List.length xs) else []))]
                                                  (AV.b true))
                                                (T.ite false (T.leaf (AV.b false))
                                                  (T.ite (!backOkM xs ys == backOkM xs ys) (T.leaf (AV.b false))
                                                    (T.ob
                                                      ((VCall P) g_laws_markFloat32S [AV.sl (Tag.own 800000) 0 (Cont.f FloatKind.f32 (if backOkM xs ys = true then backsM xs ys (List.length xs) else [])), AV.i IntKind.i64 1]
                                                          (AV.bx Tag.nil
                                                            [AV.i IntKind.i64 (1 + (↑(List.length (if backOkM xs ys = true then backsM xs ys (List.length xs) else [])) : Int)),
                                                              AV.tup
                                                                [AV.sl (Tag.own 800000) 0 (Cont.f FloatKind.f32 (marksM (List.length (if backOkM xs ys = true then backsM xs ys (List.length xs) else [])) 1)),
                                                                  AV.i IntKind.i64 1]]) ∧
                                                        List.length (if backOkM xs ys = true then backsM xs ys (List.length xs) else []) =
                                                            List.length (marksM (List.length (if backOkM xs ys = true then backsM xs ys (List.length xs) else [])) 1) ∧
                                                          List.length (if backOkM xs ys = true then backsM xs ys (List.length xs) else []) =
                                                              List.length (marksM (List.length (if backOkM xs ys = true then backsM xs ys (List.length xs) else [])) 1) ∧
                                                            True)
                                                      (T.ob
                                                        ((VCall P) g_laws_heldFloat32S
                                                          [AV.sl (Tag.par [0]) 0 (Cont.f FloatKind.f32 (marksM (List.length (if backOkM xs ys = true then backsM xs ys (List.length xs) else [])) 1)), AV.i IntKind.i64 1]
                                                          (AV.i IntKind.i64 (1 + (↑(List.length (marksM (List.length (if backOkM xs ys = true then backsM xs ys (List.length xs) else [])) 1)) : Int))))
                                                        (T.ite false (T.leaf (AV.b false))
                                                          (T.ite
                                                            (1 + (↑(List.length (marksM (List.length (if backOkM xs ys = true then backsM xs ys (List.length xs) else [])) 1)) : Int) !=
                                                              1 + (↑(List.length (if backOkM xs ys = true then backsM xs ys (List.length xs) else [])) : Int))
                                                            (T.leaf (AV.b false))
                                                            (T.ob ((VCall P) g_laws_toFloat32S [AV.sl (Tag.par [0]) 0 (Cont.f FloatKind.f32 xs)] (AV.sl (Tag.own 0) 0 (Cont.f FloatKind.f32 xs)))
                                                              (T.ob ((VCall P) g_laws_toFloat32S [AV.sl (Tag.par [0]) 0 (Cont.f FloatKind.f32 ys)] (AV.sl (Tag.own 0) 0 (Cont.f FloatKind.f32 ys)))
                                                                (T.ob
                                                                  ((VCall P) g_impl_BackOfWaves [AV.sl (Tag.par [0]) 0 (Cont.f FloatKind.f32 xs), AV.sl (Tag.par [1]) 0 (Cont.f FloatKind.f32 ys)]
                                                                    (AV.tup [AV.sl (Tag.own 0) 0 (Cont.f FloatKind.f32 (if backOkM xs ys = true then backsM xs ys (List.length xs) else [])), AV.b (backOkM xs ys)]))
                                                                  (T.ob
                                                                    ((VCall P) g_laws_eqFloat32S
                                                                      [AV.sl (Tag.par [0]) 0 (Cont.f FloatKind.f32 (if backOkM xs ys = true then backsM xs ys (List.length xs) else [])),
                                                                        AV.sl (Tag.par [1]) 0 (Cont.f FloatKind.f32 (if backOkM xs ys = true then backsM xs ys (List.length xs) else []))]
                                                                      (AV.b true))
                                                                    (T.ite false (T.leaf (AV.b false))
                                                                      (T.ite (!backOkM xs ys == backOkM xs ys) (T.leaf (AV.b false))
                                                                        (T.ob
                                                                          ((VCall P) g_laws_heldFloat32S
                                                                            [AV.sl (Tag.par [0]) 0 (Cont.f FloatKind.f32 (marksM (List.length (if backOkM xs ys = true then backsM xs ys (List.length xs) else [])) 1)),
                                                                              AV.i IntKind.i64 1]
                                                                            (AV.i IntKind.i64 (1 + (↑(List.length (marksM (List.length (if backOkM xs ys = true then backsM xs ys (List.length xs) else [])) 1)) : Int))))
                                                                          (T.ite false (T.leaf (AV.b false))
                                                                            (T.ite
                                                                              (1 + (↑(List.length (marksM (List.length (if backOkM xs ys = true then backsM xs ys (List.length xs) else [])) 1)) : Int) !=
                                                                                1 + (↑(List.length (if backOkM xs ys = true then backsM xs ys (List.length xs) else [])) : Int))
                                                                              (T.leaf (AV.b false)) (T.leaf (AV.b true))))))))))))))))))))))))))))))))))))))) :
    VCall P g_f [PS [0] .f32 xs, PS [1] .f32 ys] (.b true) := h_.call_of ps_laws_FnExactBackOfWaves ⟨oc_laws_FnExactBackOfWaves xs ys, fun _ _ => none⟩ (by kernel_rfl) ht


theorem k_laws_FnExactBackOfWaves {P : Program} {f g1 g2 g3 g4 g5 g6 : FuncId} (h : Is_laws_FnExactBackOfWaves P f g1 g2 g3 g4 g5 g6) (hto : C_laws_toFloat32S P g1) (hs : C_spec_BackOfWaves P g2) (hi : C_impl_BackOfWaves P g3) (heq : C_laws_eqFloat32S P g4)
    (hmk : C_laws_markFloat32S P g5) (hhd : C_laws_heldFloat32S P g6) : C_laws_FnExactBackOfWaves P f := by
  intro xs ys hx hy
  refine q_laws_FnExactBackOfWaves h xs ys ⟨fun _ => rfl, fun h1 => ⟨fun _ => rfl, fun h2 => ?_⟩⟩
  have h1 := of_decide_eq_false h1
  have h2 := of_decide_eq_false h2
  have hs := hs xs ys hx hy
  have hi := hi xs ys hx hy
  have hR : (if backOkM xs ys = true then backsM xs ys xs.length else []).length ≤ 4294967296 := by
    split
    · rw [backs_len]; omega
    · simp
  generalize (if backOkM xs ys = true then backsM xs ys xs.length else []) = R at *
  repeat' (first | with_reducible refine T.ok_ob ?_ (fun _ => ?_) | with_reducible refine T.ok_ite (fun _ => ?_) (fun _ => ?_) | with_reducible refine T.ok_leaf ?_)
  all_goals first | with_reducible rfl | with_reducible exact hto _ (by omega) | with_reducible exact heq _ _ rfl (by omega) | with_reducible exact hs | with_reducible exact hi | with_reducible exact ⟨hmk _ _ (by omega) (by omega), (marks_len _ _).symm, (marks_len _ _).symm, trivial⟩ | with_reducible exact hhd _ _ _ rfl (by omega) (by omega) | contradiction | (exfalso; rename_i hc; revert hc; simp [marks_len]; done)

end Go.Proofs.LV
