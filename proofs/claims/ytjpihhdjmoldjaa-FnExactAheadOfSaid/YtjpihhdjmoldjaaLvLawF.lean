/- The laws FnExactSelfLikes, AheadOf, LikeSum. -/
import Derived.Test.YtjpihhdjmoldjaaLvFnJ
import Derived.Test.YtjpihhdjmoldjaaLvLawB
namespace Go.Proofs.LV
open Go
set_option linter.unusedVariables false
set_option linter.unusedSimpArgs false

-- FN laws_markState
/-- laws.markState: slots 10, results [.t 4]; calls [8:g_laws_markFloat32S]; names [(a, 0), (k, 1), (a, 2), (k, 3)] -/
def ps_laws_markState : List Nat := [0, 1, 2, 4, 6]
def b_laws_markState (g_laws_markFloat32S : FuncId) : VCode :=
  (.seq
   (.region false [
    ⟨some 2, .boxN, [.t 0], none⟩,
    ⟨some 4, .mv, [.k (.i .i64 0)], none⟩])
   (.seq
    (.region false [
     ⟨some 5, (.faddr 2), [.t 2], none⟩,
     ⟨some 6, .load, [.t 5], none⟩,
     ⟨some 7, .mv, [.t 1], none⟩,
     ⟨some 8, (.call g_laws_markFloat32S), [.t 6, .t 7], none⟩,
     ⟨some 1, .mv, [.t 8], none⟩])
    (.seq
     (.region false [
      ⟨some 9, .mv, [.t 1], none⟩,
      ⟨some 4, .mv, [.t 9], none⟩])
     .ret)))

abbrev Is_laws_markState (P : Program) (g_f : FuncId) (g_laws_markFloat32S : FuncId) : Prop := FnIs P g_f 10 [.t 4] (b_laws_markState g_laws_markFloat32S)

abbrev C_laws_markState (P : Program) (g_f : FuncId) : Prop := ∀ (l : Nat) (s : Nat) (xs : List Nat) (t : Int) (k : Int) (hk : 0 ≤ k ∧ k ≤ 4294967296) (hx : xs.length ≤ 4294967296), VCall P g_f [.agg (ST (.own HI) l s xs t), .i .i64 k] ((AV.M (.i .i64 (k + xs.length)) [.agg (ST (.own HI) l s (marksM xs.length k) t), .i .i64 k]))
def oc1_laws_markState (as : List AV) : T AV := match as with | [.agg [.f _ l, .f _ s, .sl _ _ (.f _ xs), .i _ t], .i .i64 k] => .leaf ((AV.M (.i .i64 (k + xs.length)) [.agg (ST (.own HI) l s (marksM xs.length k) t), .i .i64 k])) | _ => .fail
def oc_laws_markState (l : Nat) (s : Nat) (xs : List Nat) (t : Int) (k : Int) (d : Nat) (as : List AV) : T AV := match d with | 8 => oc1_laws_markFloat32S as | _ => .fail



theorem q_laws_markState {P : Program} {g_f : FuncId} {g_laws_markFloat32S : FuncId} (h_ : Is_laws_markState P g_f g_laws_markFloat32S) (l : Nat) (s : Nat) (xs : List Nat) (t : Int) (k : Int) (ht : T.ok (fun x_ => x_ = (.i .i64 (k + xs.length), [.agg (ST (.own HI) l s (marksM xs.length k) t), .i .i64 k])) (
      T.ob (false = false)
        (T.ob
          ((VCall P) g_laws_markFloat32S [AV.sl (Tag.own 800000) 0 (Cont.f FloatKind.f32 xs), AV.i IntKind.i64 k]
              (AV.bx Tag.nil [AV.i IntKind.i64 (k + (↑(List.length xs) : Int)), AV.tup [AV.sl (Tag.own 800000) 0 (Cont.f FloatKind.f32 (marksM (List.length xs) k)), AV.i IntKind.i64 k]]) ∧
            List.length xs = List.length (marksM (List.length xs) k) ∧
              List.length xs = List.length (marksM (List.length xs) k) ∧ List.length xs = List.length (marksM (List.length xs) k) ∧ List.length xs = List.length (marksM (List.length xs) k) ∧ True)
          (T.ob (List.length xs = List.length (marksM (List.length xs) k) ∧ True)
            (T.leaf
              (AV.i IntKind.i64 (k + (↑(List.length xs) : Int)),
                [AV.agg [AV.f FloatKind.f32 l, AV.f FloatKind.f32 s, AV.sl (Tag.own 800000) 0 (Cont.f FloatKind.f32 (marksM (List.length xs) k)), AV.i IntKind.i64 t], AV.i IntKind.i64 k])))))) :
    VCall P g_f [.agg (ST (.own HI) l s xs t), .i .i64 k] (AV.M (.i .i64 (k + xs.length)) [.agg (ST (.own HI) l s (marksM xs.length k) t), .i .i64 k]) := h_.callM_of ps_laws_markState [6] ⟨oc_laws_markState l s xs t k, fun _ _ => none⟩ (by kernel_rfl) ht

-- END laws_markState

theorem k_laws_markState {P : Program} {f g : FuncId} (h : Is_laws_markState P f g) (c1 : C_laws_markFloat32S P g) : C_laws_markState P f := by
  intro l s xs t k hk hx
  have ml := marks_len xs.length k
  exact q_laws_markState h l s xs t k ⟨rfl, fun _ => ⟨⟨c1 _ _ hk hx, ml.symm, ml.symm, ml.symm, ml.symm, trivial⟩, fun _ => ⟨⟨ml.symm, trivial⟩, fun _ => rfl⟩⟩⟩


-- FN laws_FnExactAheadOf
/-- laws.FnExactAheadOf: slots 109, results [.t 6]; calls [20:g_laws_szState, 25:g_laws_toState, 27:g_laws_toShares, 29:g_spec_AheadOf, 33:g_laws_toState, 37:g_laws_toShares, 39:g_impl_AheadOf, 44:g_laws_eqFloat32S, 53:g_laws_toState, 54:g_laws_eqState, 58:g_laws_markState, 64:g_laws_eqFloat32S, 74:g_laws_markFloat32S, 77:g_laws_heldFloat32S, 85:g_laws_toState, 87:g_laws_toShares, 89:g_impl_AheadOf, 94:g_laws_eqFloat32S, 103:g_laws_heldFloat32S]; names [(aS, 0), (aH, 1), (aCount, 2), (aS, 3), (aH, 4), (aCount, 5), (left, 7), (w0, 8), (w1, 9), (x0, 10), (g0, 11), (g1, 12), (k, 13), (m, 14), (q, 15), (h0, 16), (h1, 17)] -/
def ps_laws_FnExactAheadOf : List Nat := [0, 1, 2, 3, 4, 6, 7, 8, 9, 10, 11, 12, 13, 14, 15, 16, 17, 22, 50, 55, 71, 79, 82, 100, 105, 108]
def b_laws_FnExactAheadOf (g_laws_szState g_laws_toState g_laws_toShares g_spec_AheadOf g_impl_AheadOf g_laws_eqFloat32S g_laws_eqState g_laws_markState g_laws_markFloat32S g_laws_heldFloat32S : FuncId) : VCode :=
  (.seq
   (.region false [
    ⟨some 3, .boxN, [.t 0], none⟩,
    ⟨some 4, .boxN, [.t 1], none⟩,
    ⟨some 6, .mv, [.k (.b false)], none⟩])
   (.seq
    (.region false [
     ⟨some 7, .mv, [.k (.i .i64 1048576)], none⟩])
    (.seq
     (.region false [
      ⟨some 18, (.loadN 4), [.t 3], none⟩,
      ⟨some 19, .mv, [.t 7], none⟩,
      ⟨some 20, (.call g_laws_szState), [.t 18, .t 19], none⟩,
      ⟨some 7, .mv, [.t 20], none⟩])
     (.seq
      (.seq
       (.region false [
        ⟨some 21, .mv, [.t 7], none⟩,
        ⟨some 22, (.bin .lss), [.t 21, .k (.i .i64 0)], none⟩])
       (.cond (.t 22)
        (.seq
         (.region false [
          ⟨some 6, .mv, [.k (.b true)], none⟩])
         .ret)
        .skip))
      (.seq
       (.region true [
        ⟨some 24, (.loadN 4), [.t 3], none⟩,
        ⟨some 25, (.call g_laws_toState), [.t 24], none⟩,
        ⟨some 26, (.loadN 4), [.t 4], none⟩,
        ⟨some 27, (.call g_laws_toShares), [.t 26], none⟩,
        ⟨some 28, .mv, [.t 2], none⟩,
        ⟨some 29, (.call g_spec_AheadOf), [.t 25, .t 27, .t 28], none⟩,
        ⟨some 23, .mv, [.t 29], none⟩,
        ⟨some 30, (.extract 0), [.t 23], none⟩,
        ⟨some 31, (.extract 1), [.t 23], none⟩,
        ⟨some 8, .mv, [.t 30], none⟩,
        ⟨some 9, .mv, [.t 31], none⟩])
       (.seq
        (.region false [
         ⟨some 32, (.loadN 4), [.t 3], none⟩,
         ⟨some 33, (.call g_laws_toState), [.t 32], none⟩,
         ⟨some 10, (.alloc [(.f .f32 0), (.f .f32 0), (.sl .imm 0 (.f .f32 [])), (.i .i64 0)]), [], none⟩,
         ⟨none, (.storeN 4), [.t 10, .t 33], none⟩])
        (.seq
         (.region true [
          ⟨some 35, (.loadN 4), [.t 10], none⟩,
          ⟨some 36, (.loadN 4), [.t 4], none⟩,
          ⟨some 37, (.call g_laws_toShares), [.t 36], none⟩,
          ⟨some 38, .mv, [.t 2], none⟩,
          ⟨some 39, (.call g_impl_AheadOf), [.t 35, .t 37, .t 38], none⟩,
          ⟨some 34, .mv, [.t 39], none⟩,
          ⟨some 40, (.extract 0), [.t 34], none⟩,
          ⟨some 41, (.extract 1), [.t 34], none⟩,
          ⟨some 11, .mv, [.t 40], none⟩,
          ⟨some 12, .mv, [.t 41], none⟩])
         (.seq
          (.seq
           (.region false [
            ⟨some 42, .mv, [.t 11], none⟩,
            ⟨some 43, .mv, [.t 8], none⟩,
            ⟨some 44, (.call g_laws_eqFloat32S), [.t 42, .t 43], none⟩,
            ⟨some 45, .not, [.t 44], none⟩,
            ⟨some 46, .mv, [.t 45], none⟩,
            ⟨some 47, .mv, [.t 12], some (46, false)⟩,
            ⟨some 48, .mv, [.t 9], some (46, false)⟩,
            ⟨some 49, (.binb .neq), [.t 47, .t 48], some (46, false)⟩,
            ⟨some 50, .pick, [.t 46, .k (.b true), .t 49], none⟩])
           (.cond (.t 50)
            (.seq
             (.region false [
              ⟨some 6, .mv, [.k (.b false)], none⟩])
             .ret)
            .skip))
          (.seq
           (.seq
            (.region true [
             ⟨some 51, (.loadN 4), [.t 10], none⟩,
             ⟨some 52, (.loadN 4), [.t 3], none⟩,
             ⟨some 53, (.call g_laws_toState), [.t 52], none⟩,
             ⟨some 54, (.call g_laws_eqState), [.t 51, .t 53], none⟩,
             ⟨some 55, .not, [.t 54], none⟩])
            (.cond (.t 55)
             (.seq
              (.region false [
               ⟨some 6, .mv, [.k (.b false)], none⟩])
              .ret)
             .skip))
           (.seq
            (.region false [
             ⟨some 13, .mv, [.k (.i .i64 1)], none⟩])
            (.seq
             (.region false [
              ⟨some 56, (.loadN 4), [.t 10], none⟩,
              ⟨some 57, .mv, [.t 13], none⟩,
              ⟨some 58, (.call g_laws_markState), [.t 56, .t 57], none⟩,
              ⟨some 13, .mv, [.t 58], none⟩])
             (.seq
              (.seq
               (.region false [
                ⟨some 59, .mv, [.t 13], none⟩,
                ⟨some 60, (.bin .lss), [.t 59, .k (.i .i64 0)], none⟩,
                ⟨some 61, .mv, [.t 60], none⟩,
                ⟨some 62, .mv, [.t 11], some (61, false)⟩,
                ⟨some 63, .mv, [.t 8], some (61, false)⟩,
                ⟨some 64, (.call g_laws_eqFloat32S), [.t 62, .t 63], some (61, false)⟩,
                ⟨some 65, .not, [.t 64], some (61, false)⟩,
                ⟨some 66, .pick, [.t 61, .k (.b true), .t 65], none⟩,
                ⟨some 67, .mv, [.t 66], none⟩,
                ⟨some 68, .mv, [.t 12], some (67, false)⟩,
                ⟨some 69, .mv, [.t 9], some (67, false)⟩,
                ⟨some 70, (.binb .neq), [.t 68, .t 69], some (67, false)⟩,
                ⟨some 71, .pick, [.t 67, .k (.b true), .t 70], none⟩])
               (.cond (.t 71)
                (.seq
                 (.region false [
                  ⟨some 6, .mv, [.k (.b false)], none⟩])
                 .ret)
                .skip))
              (.seq
               (.region false [
                ⟨some 14, .mv, [.k (.i .i64 1)], none⟩])
               (.seq
                (.region false [
                 ⟨some 72, .mv, [.t 11], none⟩,
                 ⟨some 73, .mv, [.t 14], none⟩,
                 ⟨some 74, (.call g_laws_markFloat32S), [.t 72, .t 73], none⟩,
                 ⟨some 14, .mv, [.t 74], none⟩])
                (.seq
                 (.region false [
                  ⟨some 15, .mv, [.k (.i .i64 1)], none⟩])
                 (.seq
                  (.region false [
                   ⟨some 75, .mv, [.t 11], none⟩,
                   ⟨some 76, .mv, [.t 15], none⟩,
                   ⟨some 77, (.call g_laws_heldFloat32S), [.t 75, .t 76], none⟩,
                   ⟨some 15, .mv, [.t 77], none⟩])
                  (.seq
                   (.seq
                    (.region false [
                     ⟨some 78, .mv, [.t 15], none⟩,
                     ⟨some 79, (.bin .lss), [.t 78, .k (.i .i64 0)], none⟩])
                    (.cond (.t 79)
                     (.seq
                      (.region false [
                       ⟨some 6, .mv, [.k (.b false)], none⟩])
                      .ret)
                     .skip))
                   (.seq
                    (.seq
                     (.region false [
                      ⟨some 80, .mv, [.t 15], none⟩,
                      ⟨some 81, .mv, [.t 14], none⟩,
                      ⟨some 82, (.bin .neq), [.t 80, .t 81], none⟩])
                     (.cond (.t 82)
                      (.seq
                       (.region false [
                        ⟨some 6, .mv, [.k (.b false)], none⟩])
                       .ret)
                      .skip))
                    (.seq
                     (.region true [
                      ⟨some 84, (.loadN 4), [.t 3], none⟩,
                      ⟨some 85, (.call g_laws_toState), [.t 84], none⟩,
                      ⟨some 86, (.loadN 4), [.t 4], none⟩,
                      ⟨some 87, (.call g_laws_toShares), [.t 86], none⟩,
                      ⟨some 88, .mv, [.t 2], none⟩,
                      ⟨some 89, (.call g_impl_AheadOf), [.t 85, .t 87, .t 88], none⟩,
                      ⟨some 83, .mv, [.t 89], none⟩,
                      ⟨some 90, (.extract 0), [.t 83], none⟩,
                      ⟨some 91, (.extract 1), [.t 83], none⟩,
                      ⟨some 16, .mv, [.t 90], none⟩,
                      ⟨some 17, .mv, [.t 91], none⟩])
                     (.seq
                      (.seq
                       (.region false [
                        ⟨some 92, .mv, [.t 16], none⟩,
                        ⟨some 93, .mv, [.t 8], none⟩,
                        ⟨some 94, (.call g_laws_eqFloat32S), [.t 92, .t 93], none⟩,
                        ⟨some 95, .not, [.t 94], none⟩,
                        ⟨some 96, .mv, [.t 95], none⟩,
                        ⟨some 97, .mv, [.t 17], some (96, false)⟩,
                        ⟨some 98, .mv, [.t 9], some (96, false)⟩,
                        ⟨some 99, (.binb .neq), [.t 97, .t 98], some (96, false)⟩,
                        ⟨some 100, .pick, [.t 96, .k (.b true), .t 99], none⟩])
                       (.cond (.t 100)
                        (.seq
                         (.region false [
                          ⟨some 6, .mv, [.k (.b false)], none⟩])
                         .ret)
                        .skip))
                      (.seq
                       (.region false [
                        ⟨some 15, .mv, [.k (.i .i64 1)], none⟩])
                       (.seq
                        (.region false [
                         ⟨some 101, .mv, [.t 11], none⟩,
                         ⟨some 102, .mv, [.t 15], none⟩,
                         ⟨some 103, (.call g_laws_heldFloat32S), [.t 101, .t 102], none⟩,
                         ⟨some 15, .mv, [.t 103], none⟩])
                        (.seq
                         (.seq
                          (.region false [
                           ⟨some 104, .mv, [.t 15], none⟩,
                           ⟨some 105, (.bin .lss), [.t 104, .k (.i .i64 0)], none⟩])
                          (.cond (.t 105)
                           (.seq
                            (.region false [
                             ⟨some 6, .mv, [.k (.b false)], none⟩])
                            .ret)
                           .skip))
                         (.seq
                          (.seq
                           (.region false [
                            ⟨some 106, .mv, [.t 15], none⟩,
                            ⟨some 107, .mv, [.t 14], none⟩,
                            ⟨some 108, (.bin .neq), [.t 106, .t 107], none⟩])
                           (.cond (.t 108)
                            (.seq
                             (.region false [
                              ⟨some 6, .mv, [.k (.b false)], none⟩])
                             .ret)
                            .skip))
                          (.seq
                           (.region false [
                            ⟨some 6, .mv, [.k (.b true)], none⟩])
                           .ret)))))))))))))))))))))))))

abbrev Is_laws_FnExactAheadOf (P : Program) (g_f : FuncId) (g_laws_szState g_laws_toState g_laws_toShares g_spec_AheadOf g_impl_AheadOf g_laws_eqFloat32S g_laws_eqState g_laws_markState g_laws_markFloat32S g_laws_heldFloat32S : FuncId) : Prop := FnIs P g_f 109 [.t 6] (b_laws_FnExactAheadOf g_laws_szState g_laws_toState g_laws_toShares g_spec_AheadOf g_impl_AheadOf g_laws_eqFloat32S g_laws_eqState g_laws_markState g_laws_markFloat32S g_laws_heldFloat32S)

abbrev C_laws_FnExactAheadOf (P : Program) (g_f : FuncId) : Prop := ∀ (l : Nat) (s : Nat) (xs : List Nat) (t : Int) (a : Nat) (b : Nat) (c : Nat) (d : Nat) (n : Int) (hx : xs.length ≤ maxLen), VCall P g_f [.agg (ST (.par [0, 2]) l s xs t), .agg (F4 a b c d), .i .i64 n] (.b true)
def oc1_laws_FnExactAheadOf (as : List AV) : T AV := match as with | [.agg [.f _ l, .f _ s, .sl _ _ (.f _ xs), .i _ t], .agg [.f _ a, .f _ b, .f _ c, .f _ d], .i .i64 n] => .leaf (.b true) | _ => .fail
def oc_laws_FnExactAheadOf (l : Nat) (s : Nat) (xs : List Nat) (t : Int) (a : Nat) (b : Nat) (c : Nat) (d : Nat) (n : Int) (d : Nat) (as : List AV) : T AV := match d with | 20 => oc1_laws_szState as | 25 => oc1_laws_toState as | 27 => oc1_laws_toShares as | 29 => oc1_spec_AheadOf as | 33 => oc1_laws_toState as | 37 => oc1_laws_toShares as | 39 => oc1_impl_AheadOf as | 44 => oc1_laws_eqFloat32S as | 53 => oc1_laws_toState as | 54 => oc1_laws_eqState as | 58 => oc1_laws_markState as | 64 => oc1_laws_eqFloat32S as | 74 => oc1_laws_markFloat32S as | 77 => oc1_laws_heldFloat32S as | 85 => oc1_laws_toState as | 87 => oc1_laws_toShares as | 89 => oc1_impl_AheadOf as | 94 => oc1_laws_eqFloat32S as | 103 => oc1_laws_heldFloat32S as | _ => .fail



theorem q_laws_FnExactAheadOf {P : Program} {g_f : FuncId} {g_laws_szState g_laws_toState g_laws_toShares g_spec_AheadOf g_impl_AheadOf g_laws_eqFloat32S g_laws_eqState g_laws_markState g_laws_markFloat32S g_laws_heldFloat32S : FuncId} (h_ : Is_laws_FnExactAheadOf P g_f g_laws_szState g_laws_toState g_laws_toShares g_spec_AheadOf g_impl_AheadOf g_laws_eqFloat32S g_laws_eqState g_laws_markState g_laws_markFloat32S g_laws_heldFloat32S) (l : Nat) (s : Nat) (xs : List Nat) (t : Int) (a : Nat) (b : Nat) (c : Nat) (d : Nat) (n : Int) (ht : T.ok (fun x_ => x_ = .b true) (
      T.ob (false = false)
        (T.ob (false = false)
          (T.ob
            ((VCall P) g_laws_szState [AV.agg [AV.f FloatKind.f32 l, AV.f FloatKind.f32 s, AV.sl (Tag.par [0, 2]) 0 (Cont.f FloatKind.f32 xs), AV.i IntKind.i64 t], AV.i IntKind.i64 1048576]
              (AV.i IntKind.i64 (szM (List.length xs) 1048576)))
            (T.ite (decide (szM (List.length xs) 1048576 < 0)) (T.leaf (AV.b true))
              (T.ob
                ((VCall P) g_laws_toState [AV.agg [AV.f FloatKind.f32 l, AV.f FloatKind.f32 s, AV.sl (Tag.par [0, 2]) 0 (Cont.f FloatKind.f32 xs), AV.i IntKind.i64 t]]
                  (AV.agg [AV.f FloatKind.f32 l, AV.f FloatKind.f32 s, AV.sl (Tag.own 0) 0 (Cont.f FloatKind.f32 xs), AV.i IntKind.i64 t]))
                (T.ob
                  ((VCall P) g_laws_toShares [AV.agg [AV.f FloatKind.f32 a, AV.f FloatKind.f32 b, AV.f FloatKind.f32 c, AV.f FloatKind.f32 d]]
                    (AV.agg [AV.f FloatKind.f32 a, AV.f FloatKind.f32 b, AV.f FloatKind.f32 c, AV.f FloatKind.f32 d]))
                  (T.ob
                    ((VCall P) g_spec_AheadOf
                      [AV.agg [AV.f FloatKind.f32 l, AV.f FloatKind.f32 s, AV.sl (Tag.par [0, 2]) 0 (Cont.f FloatKind.f32 xs), AV.i IntKind.i64 t],
                        AV.agg [AV.f FloatKind.f32 a, AV.f FloatKind.f32 b, AV.f FloatKind.f32 c, AV.f FloatKind.f32 d], AV.i IntKind.i64 n]
                      (AV.tup [AV.sl (Tag.own 0) 0 (Cont.f FloatKind.f32 (if adOk l s xs t a b c d n = true then adM l s xs t d (Int.toNat n) else [])), AV.b (adOk l s xs t a b c d n)]))
                    (T.ob
                      ((VCall P) g_laws_toState [AV.agg [AV.f FloatKind.f32 l, AV.f FloatKind.f32 s, AV.sl (Tag.par [0, 2]) 0 (Cont.f FloatKind.f32 xs), AV.i IntKind.i64 t]]
                        (AV.agg [AV.f FloatKind.f32 l, AV.f FloatKind.f32 s, AV.sl (Tag.own 0) 0 (Cont.f FloatKind.f32 xs), AV.i IntKind.i64 t]))
                      (T.ob (false = false)
                        (T.ob
                          ((VCall P) g_laws_toShares [AV.agg [AV.f FloatKind.f32 a, AV.f FloatKind.f32 b, AV.f FloatKind.f32 c, AV.f FloatKind.f32 d]]
                            (AV.agg [AV.f FloatKind.f32 a, AV.f FloatKind.f32 b, AV.f FloatKind.f32 c, AV.f FloatKind.f32 d]))
                          (T.ob
                            ((VCall P) g_impl_AheadOf
                              [AV.agg [AV.f FloatKind.f32 l, AV.f FloatKind.f32 s, AV.sl (Tag.par [0, 2]) 0 (Cont.f FloatKind.f32 xs), AV.i IntKind.i64 t],
                                AV.agg [AV.f FloatKind.f32 a, AV.f FloatKind.f32 b, AV.f FloatKind.f32 c, AV.f FloatKind.f32 d], AV.i IntKind.i64 n]
                              (AV.tup [AV.sl (Tag.own 0) 0 (Cont.f FloatKind.f32 (if adOk l s xs t a b c d n = true then adM l s xs t d (Int.toNat n) else [])), AV.b (adOk l s xs t a b c d n)]))
                            (T.ob
                              ((VCall P) g_laws_eqFloat32S
                                [AV.sl (Tag.par [0]) 0 (Cont.f FloatKind.f32 (if adOk l s xs t a b c d n = true then adM l s xs t d (Int.toNat n) else [])),
                                  AV.sl (Tag.par [1]) 0 (Cont.f FloatKind.f32 (if adOk l s xs t a b c d n = true then adM l s xs t d (Int.toNat n) else []))]
                                (AV.b true))
                              (T.ite false (T.leaf (AV.b false))
                                (T.ite (!adOk l s xs t a b c d n == adOk l s xs t a b c d n) (T.leaf (AV.b false))
                                  (T.ob
                                    ((VCall P) g_laws_toState [AV.agg [AV.f FloatKind.f32 l, AV.f FloatKind.f32 s, AV.sl (Tag.par [0, 2]) 0 (Cont.f FloatKind.f32 xs), AV.i IntKind.i64 t]]
                                      (AV.agg [AV.f FloatKind.f32 l, AV.f FloatKind.f32 s, AV.sl (Tag.own 0) 0 (Cont.f FloatKind.f32 xs), AV.i IntKind.i64 t]))
                                    (T.ob
                                      ((VCall P) g_laws_eqState
                                        [AV.agg [AV.f FloatKind.f32 l, AV.f FloatKind.f32 s, AV.sl (Tag.par [0, 2]) 0 (Cont.f FloatKind.f32 xs), AV.i IntKind.i64 t],
                                          AV.agg [AV.f FloatKind.f32 l, AV.f FloatKind.f32 s, AV.sl (Tag.par [1, 2]) 0 (Cont.f FloatKind.f32 xs), AV.i IntKind.i64 t]]
                                        (AV.b true))
                                      (T.ite false (T.leaf (AV.b false))
                                        (T.ob
                                          ((VCall P) g_laws_markState [AV.agg [AV.f FloatKind.f32 l, AV.f FloatKind.f32 s, AV.sl (Tag.own 800000) 0 (Cont.f FloatKind.f32 xs), AV.i IntKind.i64 t], AV.i IntKind.i64 1]
                                              (AV.bx Tag.nil
                                                [AV.i IntKind.i64 (1 + (↑(List.length xs) : Int)),
                                                  AV.tup
                                                    [AV.agg [AV.f FloatKind.f32 l, AV.f FloatKind.f32 s, AV.sl (Tag.own 800000) 0 (Cont.f FloatKind.f32 (marksM (List.length xs) 1)), AV.i IntKind.i64 t], AV.i IntKind.i64 1]]) ∧
                                            List.length xs = List.length (marksM (List.length xs) 1) ∧ List.length xs = List.length (marksM (List.length xs) 1) ∧ True)
                                          (T.ite false (T.leaf (AV.b false))
                                            (T.ob
                                              ((VCall P) g_laws_eqFloat32S
                                                [AV.sl (Tag.par [0]) 0 (Cont.f FloatKind.f32 (if adOk l s xs t a b c d n = true then adM l s xs t d (Int.toNat n) else [])),
                                                  AV.sl (Tag.par [1]) 0 (Cont.f FloatKind.f32 (if adOk l s xs t a b c d n = true then adM l s xs t d (Int.toNat n) else []))]
                                                (AV.b true))
                                              (T.ite false (T.leaf (AV.b false))
                                                (T.ite (!adOk l s xs t a b c d n == adOk l s xs t a b c d n) (T.leaf (AV.b false))
                                                  (T.ob
                                                    ((VCall P) g_laws_markFloat32S [AV.sl (Tag.own 800000) 0 (Cont.f FloatKind.f32 (if adOk l s xs t a b c d n = true then adM l s xs t d (Int.toNat n) else [])), AV.i IntKind.i64 1]
                                                        (AV.bx Tag.nil
                                                          [AV.i IntKind.i64 (1 + (↑(List.length (if adOk l s xs t a b c d n = true then adM l s xs t d (Int.toNat n) else [])) : Int)),
                                                            AV.tup
                                                              [AV.sl (Tag.own 800000) 0 (Cont.f FloatKind.f32 (marksM (List.length (if adOk l s xs t a b c d n = true then adM l s xs t d (Int.toNat n) else [])) 1)),
                                                                AV.i IntKind.i64 1]]) ∧
                                                      List.length (if adOk l s xs t a b c d n = true then adM l s xs t d (Int.toNat n) else []) =
                                                          List.length (marksM (List.length (if adOk l s xs t a b c d n = true then adM l s xs t d (Int.toNat n) else [])) 1) ∧
                                                        List.length (if adOk l s xs t a b c d n = true then adM l s xs t d (Int.toNat n) else []) =
                                                            List.length (marksM (List.length (if adOk l s xs t a b c d n = true then adM l s xs t d (Int.toNat n) else [])) 1) ∧
                                                          True)
                                                    (T.ob
                                                      ((VCall P) g_laws_heldFloat32S
                                                        [AV.sl (Tag.par [0]) 0 (Cont.f FloatKind.f32 (marksM (List.length (if adOk l s xs t a b c d n = true then adM l s xs t d (Int.toNat n) else [])) 1)), AV.i IntKind.i64 1]
                                                        (AV.i IntKind.i64 (1 + (↑(List.length (marksM (List.length (if adOk l s xs t a b c d n = true then adM l s xs t d (Int.toNat n) else [])) 1)) : Int))))
                                                      (T.ite false (T.leaf (AV.b false))
                                                        (T.ite
                                                          (1 + (↑(List.length (marksM (List.length (if adOk l s xs t a b c d n = true then adM l s xs t d (Int.toNat n) else [])) 1)) : Int) !=
                                                            1 + (↑(List.length (if adOk l s xs t a b c d n = true then adM l s xs t d (Int.toNat n) else [])) : Int))
                                                          (T.leaf (AV.b false))
                                                          (T.ob
                                                            ((VCall P) g_laws_toState [AV.agg [AV.f FloatKind.f32 l, AV.f FloatKind.f32 s, AV.sl (Tag.par [0, 2]) 0 (Cont.f FloatKind.f32 xs), AV.i IntKind.i64 t]]
                                                              (AV.agg [AV.f FloatKind.f32 l, AV.f FloatKind.f32 s, AV.sl (Tag.own 0) 0 (Cont.f FloatKind.f32 xs), AV.i IntKind.i64 t]))
                                                            (T.ob
                                                              ((VCall P) g_laws_toShares [AV.agg [AV.f FloatKind.f32 a, AV.f FloatKind.f32 b, AV.f FloatKind.f32 c, AV.f FloatKind.f32 d]]
                                                                (AV.agg [AV.f FloatKind.f32 a, AV.f FloatKind.f32 b, AV.f FloatKind.f32 c, AV.f FloatKind.f32 d]))
                                                              (T.ob
                                                                ((VCall P) g_impl_AheadOf
                                                                  [AV.agg [AV.f FloatKind.f32 l, AV.f FloatKind.f32 s, AV.sl (Tag.par [0, 2]) 0 (Cont.f FloatKind.f32 xs), AV.i IntKind.i64 t],
                                                                    AV.agg [AV.f FloatKind.f32 a, AV.f FloatKind.f32 b, AV.f FloatKind.f32 c, AV.f FloatKind.f32 d], AV.i IntKind.i64 n]
                                                                  (AV.tup
                                                                    [AV.sl (Tag.own 0) 0 (Cont.f FloatKind.f32 (if adOk l s xs t a b c d n = true then adM l s xs t d (Int.toNat n) else [])), AV.b (adOk l s xs t a b c d n)]))
                                                                (T.ob
                                                                  ((VCall P) g_laws_eqFloat32S
                                                                    [AV.sl (Tag.par [0]) 0 (Cont.f FloatKind.f32 (if adOk l s xs t a b c d n = true then adM l s xs t d (Int.toNat n) else [])),
                                                                      AV.sl (Tag.par [1]) 0 (Cont.f FloatKind.f32 (if adOk l s xs t a b c d n = true then adM l s xs t d (Int.toNat n) else []))]
                                                                    (AV.b true))
                                                                  (T.ite false (T.leaf (AV.b false))
                                                                    (T.ite (!adOk l s xs t a b c d n == adOk l s xs t a b c d n) (T.leaf (AV.b false))
                                                                      (T.ob
                                                                        ((VCall P) g_laws_heldFloat32S
                                                                          [AV.sl (Tag.par [0]) 0 (Cont.f FloatKind.f32 (marksM (List.length (if adOk l s xs t a b c d n = true then adM l s xs t d (Int.toNat n) else [])) 1)),
                                                                            AV.i IntKind.i64 1]
                                                                          (AV.i IntKind.i64 (1 + (↑(List.length (marksM (List.length (if adOk l s xs t a b c d n = true then adM l s xs t d (Int.toNat n) else [])) 1)) : Int))))
                                                                        (T.ite false (T.leaf (AV.b false))
                                                                          (T.ite
                                                                            (1 + (↑(List.length (marksM (List.length (if adOk l s xs t a b c d n = true then adM l s xs t d (Int.toNat n) else [])) 1)) : Int) !=
                                                                              1 + (↑(List.length (if adOk l s xs t a b c d n = true then adM l s xs t d (Int.toNat n) else [])) : Int))
                                                                            (T.leaf (AV.b false)) (T.leaf (AV.b true)))))))))))))))))))))))))))))))))))))) :
    VCall P g_f [.agg (ST (.par [0, 2]) l s xs t), .agg (F4 a b c d), .i .i64 n] (.b true) := h_.call_of ps_laws_FnExactAheadOf ⟨oc_laws_FnExactAheadOf l s xs t a b c d n, fun _ _ => none⟩ (by kernel_rfl) ht

-- END laws_FnExactAheadOf


theorem k_laws_FnExactAheadOf {P : Program} {f g_laws_szState g_laws_toState g_laws_toShares g_spec_AheadOf g_impl_AheadOf g_laws_eqFloat32S g_laws_eqState g_laws_markState g_laws_markFloat32S g_laws_heldFloat32S : FuncId} (h : Is_laws_FnExactAheadOf P f g_laws_szState g_laws_toState g_laws_toShares g_spec_AheadOf g_impl_AheadOf g_laws_eqFloat32S g_laws_eqState g_laws_markState g_laws_markFloat32S g_laws_heldFloat32S) (c1 : C_laws_szState P g_laws_szState) (c2 : C_laws_toState P g_laws_toState) (c3 : C_laws_toShares P g_laws_toShares) (c4 : C_spec_AheadOf P g_spec_AheadOf) (c5 : C_impl_AheadOf P g_impl_AheadOf) (c6 : C_laws_eqFloat32S P g_laws_eqFloat32S) (c7 : C_laws_eqState P g_laws_eqState) (c8 : C_laws_markState P g_laws_markState) (c9 : C_laws_markFloat32S P g_laws_markFloat32S) (c10 : C_laws_heldFloat32S P g_laws_heldFloat32S) : C_laws_FnExactAheadOf P f := by
  intro l s xs t a b c d n hx
  refine q_laws_FnExactAheadOf h l s xs t a b c d n ?_
  have hR : (if adOk l s xs t a b c d n = true then adM l s xs t d n.toNat else []).length ≤ 32 := by
    split
    · rename_i h
      unfold adOk at h; simp only [Bool.and_eq_true] at h
      have : 1 ≤ n ∧ n ≤ 32 := by simpa [inM] using h.2.2.1
      rw [ad_len]; omega
    · simp
  have b4 := c4 l s xs t a b c d n hx
  have b5 := c5 l s xs t a b c d n hx
  generalize (if adOk l s xs t a b c d n = true then adM l s xs t d n.toNat else []) = R at *
  repeat' (first | with_reducible refine T.ok_ob ?_ (fun _ => ?_) | with_reducible refine T.ok_ite (fun _ => ?_) (fun _ => ?_) | with_reducible refine T.ok_leaf ?_)
  all_goals (try simp only [decide_eq_true_eq, decide_eq_false_iff_not, sz_lt, gt_iff_lt, Int.not_lt, Bool.not_beq_self, bne_self_eq_false, beq_self_eq_true] at *)
  all_goals (try simp (disch := omega) only [sz_val] at *)
  all_goals first | with_reducible rfl | with_reducible assumption | ((with_reducible refine c1 _ _ _ _ _ ?_ ?_) <;> (first | assumption | omega | with_reducible rfl | (simp [maxLen_eq]; done) | (simp [maxLen_eq]; omega))) | ((with_reducible refine c2 _ _ _ _ ?_) <;> (first | assumption | omega | with_reducible rfl | (simp [maxLen_eq]; done) | (simp [maxLen_eq]; omega))) | with_reducible exact c3 _ _ _ _ | ((with_reducible refine c4 _ _ _ _ _ _ _ _ _ ?_) <;> (first | assumption | omega | with_reducible rfl | (simp [maxLen_eq]; done) | (simp [maxLen_eq]; omega))) | ((with_reducible refine c5 _ _ _ _ _ _ _ _ _ ?_) <;> (first | assumption | omega | with_reducible rfl | (simp [maxLen_eq]; done) | (simp [maxLen_eq]; omega))) | ((with_reducible refine c6 _ _ rfl ?_) <;> (first | assumption | omega | with_reducible rfl | (simp [maxLen_eq]; done) | (simp [maxLen_eq]; omega))) | ((with_reducible refine c7 _ _ _ _ _ rfl ?_) <;> (first | assumption | omega | with_reducible rfl | (simp [maxLen_eq]; done) | (simp [maxLen_eq]; omega))) | ((with_reducible refine ⟨c8 _ _ _ _ _ ?_ ?_, ?_⟩) <;> first | assumption | omega | (simp [marks_len]; done) | (simp [marks_len]; omega)) | ((with_reducible refine ⟨c9 _ _ ?_ ?_, ?_⟩) <;> first | assumption | omega | (simp [marks_len]; done) | (simp [marks_len]; omega)) | ((with_reducible refine c10 _ _ _ rfl ?_ ?_) <;> (first | assumption | omega | with_reducible rfl | (simp [maxLen_eq]; done) | (simp [maxLen_eq]; omega))) | contradiction | exact fconvOk_32_64 _ | assumption | exact rfl | (simp only [marks_len, bne_self_eq_false, Bool.false_eq_true] at *; done) | (simp_all [marks_len]; done) | (simp_all [T.ok, marks_len]; omega)

end Go.Proofs.LV
