/- The laws FnExactSameState, SimpleLevels, ChanceNeeds, SeldomNeeds, DoubleLine, GuessOf. -/
import Derived.Test.YtjpihhdjmoldjaaLvFnE
namespace Go.Proofs.LV
open Go
set_option linter.unusedVariables false
set_option linter.unusedSimpArgs false

theorem sz_lt (n : Nat) (i : Int) : (szM n i < 0) = (i < n) := by
  unfold szM; split
  · rename_i h; simp [h]
  · rename_i h; simp; omega
theorem sz_val (n : Nat) (i : Int) (h : (n : Int) ≤ i) : szM n i = i - n := by
  unfold szM; rw [if_neg (by omega)]
/-- laws.FnExactSameState: slots 45, results [.t 4]; calls [12:g_laws_szState, 17:g_laws_szState, 21:g_laws_toState, 23:g_laws_toState, 24:g_spec_SameState, 26:g_laws_toState, 28:g_laws_toState, 31:g_impl_SameState, 37:g_laws_toState, 38:g_laws_eqState, 42:g_laws_toState, 43:g_laws_eqState]; names [(aA, 0), (aB, 1), (aA, 2), (aB, 3), (left, 5), (w0, 6), (x0, 7), (x1, 8), (g0, 9)] -/
def ps_laws_FnExactSameState : List Nat := [0, 1, 2, 3, 4, 5, 6, 7, 8, 9, 14, 19, 34, 39, 44]
def b_laws_FnExactSameState (g_laws_szState g_laws_toState g_spec_SameState g_impl_SameState g_laws_eqState : FuncId) : VCode :=
  (.seq
   (.region false [
    ⟨some 2, .boxN, [.t 0], none⟩,
    ⟨some 3, .boxN, [.t 1], none⟩,
    ⟨some 4, .mv, [.k (.b false)], none⟩])
   (.seq
    (.region false [
     ⟨some 5, .mv, [.k (.i .i64 1048576)], none⟩])
    (.seq
     (.region false [
      ⟨some 10, (.loadN 4), [.t 2], none⟩,
      ⟨some 11, .mv, [.t 5], none⟩,
      ⟨some 12, (.call g_laws_szState), [.t 10, .t 11], none⟩,
      ⟨some 5, .mv, [.t 12], none⟩])
     (.seq
      (.seq
       (.region false [
        ⟨some 13, .mv, [.t 5], none⟩,
        ⟨some 14, (.bin .lss), [.t 13, .k (.i .i64 0)], none⟩])
       (.cond (.t 14)
        (.seq
         (.region false [
          ⟨some 4, .mv, [.k (.b true)], none⟩])
         .ret)
        .skip))
      (.seq
       (.region false [
        ⟨some 15, (.loadN 4), [.t 3], none⟩,
        ⟨some 16, .mv, [.t 5], none⟩,
        ⟨some 17, (.call g_laws_szState), [.t 15, .t 16], none⟩,
        ⟨some 5, .mv, [.t 17], none⟩])
       (.seq
        (.seq
         (.region false [
          ⟨some 18, .mv, [.t 5], none⟩,
          ⟨some 19, (.bin .lss), [.t 18, .k (.i .i64 0)], none⟩])
         (.cond (.t 19)
          (.seq
           (.region false [
            ⟨some 4, .mv, [.k (.b true)], none⟩])
           .ret)
          .skip))
        (.seq
         (.region true [
          ⟨some 20, (.loadN 4), [.t 2], none⟩,
          ⟨some 21, (.call g_laws_toState), [.t 20], none⟩,
          ⟨some 22, (.loadN 4), [.t 3], none⟩,
          ⟨some 23, (.call g_laws_toState), [.t 22], none⟩,
          ⟨some 24, (.call g_spec_SameState), [.t 21, .t 23], none⟩,
          ⟨some 6, .mv, [.t 24], none⟩])
         (.seq
          (.region false [
           ⟨some 25, (.loadN 4), [.t 2], none⟩,
           ⟨some 26, (.call g_laws_toState), [.t 25], none⟩,
           ⟨some 7, (.alloc [(.f .f32 0), (.f .f32 0), (.sl .imm 0 (.f .f32 [])), (.i .i64 0)]), [], none⟩,
           ⟨none, (.storeN 4), [.t 7, .t 26], none⟩])
          (.seq
           (.region false [
            ⟨some 27, (.loadN 4), [.t 3], none⟩,
            ⟨some 28, (.call g_laws_toState), [.t 27], none⟩,
            ⟨some 8, (.alloc [(.f .f32 0), (.f .f32 0), (.sl .imm 0 (.f .f32 [])), (.i .i64 0)]), [], none⟩,
            ⟨none, (.storeN 4), [.t 8, .t 28], none⟩])
           (.seq
            (.region false [
             ⟨some 29, (.loadN 4), [.t 7], none⟩,
             ⟨some 30, (.loadN 4), [.t 8], none⟩,
             ⟨some 31, (.call g_impl_SameState), [.t 29, .t 30], none⟩,
             ⟨some 9, .mv, [.t 31], none⟩])
            (.seq
             (.seq
              (.region false [
               ⟨some 32, .mv, [.t 9], none⟩,
               ⟨some 33, .mv, [.t 6], none⟩,
               ⟨some 34, (.binb .neq), [.t 32, .t 33], none⟩])
              (.cond (.t 34)
               (.seq
                (.region false [
                 ⟨some 4, .mv, [.k (.b false)], none⟩])
                .ret)
               .skip))
             (.seq
              (.seq
               (.region true [
                ⟨some 35, (.loadN 4), [.t 7], none⟩,
                ⟨some 36, (.loadN 4), [.t 2], none⟩,
                ⟨some 37, (.call g_laws_toState), [.t 36], none⟩,
                ⟨some 38, (.call g_laws_eqState), [.t 35, .t 37], none⟩,
                ⟨some 39, .not, [.t 38], none⟩])
               (.cond (.t 39)
                (.seq
                 (.region false [
                  ⟨some 4, .mv, [.k (.b false)], none⟩])
                 .ret)
                .skip))
              (.seq
               (.seq
                (.region true [
                 ⟨some 40, (.loadN 4), [.t 8], none⟩,
                 ⟨some 41, (.loadN 4), [.t 3], none⟩,
                 ⟨some 42, (.call g_laws_toState), [.t 41], none⟩,
                 ⟨some 43, (.call g_laws_eqState), [.t 40, .t 42], none⟩,
                 ⟨some 44, .not, [.t 43], none⟩])
                (.cond (.t 44)
                 (.seq
                  (.region false [
                   ⟨some 4, .mv, [.k (.b false)], none⟩])
                  .ret)
                 .skip))
               (.seq
                (.region false [
                 ⟨some 4, .mv, [.k (.b true)], none⟩])
                .ret))))))))))))))

abbrev Is_laws_FnExactSameState (P : Program) (g_f : FuncId) (g_laws_szState g_laws_toState g_spec_SameState g_impl_SameState g_laws_eqState : FuncId) : Prop := FnIs P g_f 45 [.t 4] (b_laws_FnExactSameState g_laws_szState g_laws_toState g_spec_SameState g_impl_SameState g_laws_eqState)

abbrev C_laws_FnExactSameState (P : Program) (g_f : FuncId) : Prop := ∀ (l : Nat) (s : Nat) (xs : List Nat) (t : Int) (l2 : Nat) (s2 : Nat) (ys : List Nat) (t2 : Int) (hx : xs.length ≤ maxLen) (hy : ys.length ≤ maxLen), VCall P g_f [.agg (ST (.par [0, 2]) l s xs t), .agg (ST (.par [1, 2]) l2 s2 ys t2)] (.b true)
def oc1_laws_FnExactSameState (as : List AV) : T AV := match as with | [.agg [.f _ l, .f _ s, .sl _ _ (.f _ xs), .i _ t], .agg [.f _ l2, .f _ s2, .sl _ _ (.f _ ys), .i _ t2]] => .leaf (.b true) | _ => .fail
def oc_laws_FnExactSameState (l : Nat) (s : Nat) (xs : List Nat) (t : Int) (l2 : Nat) (s2 : Nat) (ys : List Nat) (t2 : Int) (d : Nat) (as : List AV) : T AV := match d with | 12 => oc1_laws_szState as | 17 => oc1_laws_szState as | 21 => oc1_laws_toState as | 23 => oc1_laws_toState as | 24 => oc1_spec_SameState as | 26 => oc1_laws_toState as | 28 => oc1_laws_toState as | 31 => oc1_impl_SameState as | 37 => oc1_laws_toState as | 38 => oc1_laws_eqState as | 42 => oc1_laws_toState as | 43 => oc1_laws_eqState as | _ => .fail



theorem q_laws_FnExactSameState {P : Program} {g_f : FuncId} {g_laws_szState g_laws_toState g_spec_SameState g_impl_SameState g_laws_eqState : FuncId} (h_ : Is_laws_FnExactSameState P g_f g_laws_szState g_laws_toState g_spec_SameState g_impl_SameState g_laws_eqState) (l : Nat) (s : Nat) (xs : List Nat) (t : Int) (l2 : Nat) (s2 : Nat) (ys : List Nat) (t2 : Int) (ht : T.ok (fun x_ => x_ = .b true) (
      T.ob (false = false)
        (T.ob (false = false)
          (T.ob
            ((VCall P) g_laws_szState [AV.agg [AV.f FloatKind.f32 l, AV.f FloatKind.f32 s, AV.sl (Tag.par [0, 2]) 0 (Cont.f FloatKind.f32 xs), AV.i IntKind.i64 t], AV.i IntKind.i64 1048576]
              (AV.i IntKind.i64 (szM (List.length xs) 1048576)))
            (T.ite (decide (szM (List.length xs) 1048576 < 0)) (T.leaf (AV.b true))
              (T.ob
                ((VCall P) g_laws_szState [AV.agg [AV.f FloatKind.f32 l2, AV.f FloatKind.f32 s2, AV.sl (Tag.par [0, 2]) 0 (Cont.f FloatKind.f32 ys), AV.i IntKind.i64 t2], AV.i IntKind.i64 (szM (List.length xs) 1048576)]
                  (AV.i IntKind.i64 (szM (List.length ys) (szM (List.length xs) 1048576))))
                (T.ite (decide (szM (List.length ys) (szM (List.length xs) 1048576) < 0)) (T.leaf (AV.b true))
                  (T.ob
                    ((VCall P) g_laws_toState [AV.agg [AV.f FloatKind.f32 l, AV.f FloatKind.f32 s, AV.sl (Tag.par [0, 2]) 0 (Cont.f FloatKind.f32 xs), AV.i IntKind.i64 t]]
                      (AV.agg [AV.f FloatKind.f32 l, AV.f FloatKind.f32 s, AV.sl (Tag.own 0) 0 (Cont.f FloatKind.f32 xs), AV.i IntKind.i64 t]))
                    (T.ob
                      ((VCall P) g_laws_toState [AV.agg [AV.f FloatKind.f32 l2, AV.f FloatKind.f32 s2, AV.sl (Tag.par [0, 2]) 0 (Cont.f FloatKind.f32 ys), AV.i IntKind.i64 t2]]
                        (AV.agg [AV.f FloatKind.f32 l2, AV.f FloatKind.f32 s2, AV.sl (Tag.own 0) 0 (Cont.f FloatKind.f32 ys), AV.i IntKind.i64 t2]))
                      (T.ob
                        ((VCall P) g_spec_SameState
                          [AV.agg [AV.f FloatKind.f32 l, AV.f FloatKind.f32 s, AV.sl (Tag.par [0, 2]) 0 (Cont.f FloatKind.f32 xs), AV.i IntKind.i64 t],
                            AV.agg [AV.f FloatKind.f32 l2, AV.f FloatKind.f32 s2, AV.sl (Tag.par [1, 2]) 0 (Cont.f FloatKind.f32 ys), AV.i IntKind.i64 t2]]
                          (AV.b (l == l2 && s == s2 && xs == ys && t == t2)))
                        (T.ob
                          ((VCall P) g_laws_toState [AV.agg [AV.f FloatKind.f32 l, AV.f FloatKind.f32 s, AV.sl (Tag.par [0, 2]) 0 (Cont.f FloatKind.f32 xs), AV.i IntKind.i64 t]]
                            (AV.agg [AV.f FloatKind.f32 l, AV.f FloatKind.f32 s, AV.sl (Tag.own 0) 0 (Cont.f FloatKind.f32 xs), AV.i IntKind.i64 t]))
                          (T.ob (false = false)
                            (T.ob
                              ((VCall P) g_laws_toState [AV.agg [AV.f FloatKind.f32 l2, AV.f FloatKind.f32 s2, AV.sl (Tag.par [0, 2]) 0 (Cont.f FloatKind.f32 ys), AV.i IntKind.i64 t2]]
                                (AV.agg [AV.f FloatKind.f32 l2, AV.f FloatKind.f32 s2, AV.sl (Tag.own 0) 0 (Cont.f FloatKind.f32 ys), AV.i IntKind.i64 t2]))
                              (T.ob (false = false)
                                (T.ob
                                  ((VCall P) g_impl_SameState
                                    [AV.agg [AV.f FloatKind.f32 l, AV.f FloatKind.f32 s, AV.sl (Tag.par [0, 2]) 0 (Cont.f FloatKind.f32 xs), AV.i IntKind.i64 t],
                                      AV.agg [AV.f FloatKind.f32 l2, AV.f FloatKind.f32 s2, AV.sl (Tag.par [1, 2]) 0 (Cont.f FloatKind.f32 ys), AV.i IntKind.i64 t2]]
                                    (AV.b (l == l2 && s == s2 && xs == ys && t == t2)))
                                  (T.ite (!(l == l2 && s == s2 && xs == ys && t == t2) == (l == l2 && s == s2 && xs == ys && t == t2)) (T.leaf (AV.b false))
                                    (T.ob
                                      ((VCall P) g_laws_toState [AV.agg [AV.f FloatKind.f32 l, AV.f FloatKind.f32 s, AV.sl (Tag.par [0, 2]) 0 (Cont.f FloatKind.f32 xs), AV.i IntKind.i64 t]]
                                        (AV.agg [AV.f FloatKind.f32 l, AV.f FloatKind.f32 s, AV.sl (Tag.own 0) 0 (Cont.f FloatKind.f32 xs), AV.i IntKind.i64 t]))
                                      (T.ob
                                        ((VCall P) g_laws_eqState
                                          [AV.agg [AV.f FloatKind.f32 l, AV.f FloatKind.f32 s, AV.sl (Tag.par [0, 2]) 0 (Cont.f FloatKind.f32 xs), AV.i IntKind.i64 t],
                                            AV.agg [AV.f FloatKind.f32 l, AV.f FloatKind.f32 s, AV.sl (Tag.par [1, 2]) 0 (Cont.f FloatKind.f32 xs), AV.i IntKind.i64 t]]
                                          (AV.b true))
                                        (T.ite false (T.leaf (AV.b false))
                                          (T.ob
                                            ((VCall P) g_laws_toState [AV.agg [AV.f FloatKind.f32 l2, AV.f FloatKind.f32 s2, AV.sl (Tag.par [0, 2]) 0 (Cont.f FloatKind.f32 ys), AV.i IntKind.i64 t2]]
                                              (AV.agg [AV.f FloatKind.f32 l2, AV.f FloatKind.f32 s2, AV.sl (Tag.own 0) 0 (Cont.f FloatKind.f32 ys), AV.i IntKind.i64 t2]))
                                            (T.ob
                                              ((VCall P) g_laws_eqState
                                                [AV.agg [AV.f FloatKind.f32 l2, AV.f FloatKind.f32 s2, AV.sl (Tag.par [0, 2]) 0 (Cont.f FloatKind.f32 ys), AV.i IntKind.i64 t2],
                                                  AV.agg [AV.f FloatKind.f32 l2, AV.f FloatKind.f32 s2, AV.sl (Tag.par [1, 2]) 0 (Cont.f FloatKind.f32 ys), AV.i IntKind.i64 t2]]
                                                (AV.b true))
                                              (T.ite false (T.leaf (AV.b false)) (T.leaf (AV.b true)))))))))))))))))))))))) :
    VCall P g_f [.agg (ST (.par [0, 2]) l s xs t), .agg (ST (.par [1, 2]) l2 s2 ys t2)] (.b true) := h_.call_of ps_laws_FnExactSameState ⟨oc_laws_FnExactSameState l s xs t l2 s2 ys t2, fun _ _ => none⟩ (by kernel_rfl) ht


/-- laws.FnExactSimpleLevels: slots 98, results [.t 4]; calls [20:g_laws_toFloat32S, 22:g_spec_SimpleLevels, 26:g_laws_toFloat32S, 30:g_impl_SimpleLevels, 35:g_laws_eqFloat32S, 44:g_laws_toFloat32S, 45:g_laws_eqFloat32S, 49:g_laws_markFloat32S, 55:g_laws_eqFloat32S, 65:g_laws_markFloat32S, 68:g_laws_heldFloat32S, 76:g_laws_toFloat32S, 78:g_impl_SimpleLevels, 83:g_laws_eqFloat32S, 92:g_laws_heldFloat32S]; names [(aList, 0), (aShare, 1), (aList, 2), (aShare, 3), (w0, 5), (w1, 6), (x0, 7), (g0, 8), (g1, 9), (k, 10), (m, 11), (q, 12), (h0, 13), (h1, 14)] -/
def ps_laws_FnExactSimpleLevels : List Nat := [0, 1, 4, 5, 6, 7, 8, 9, 10, 11, 12, 13, 14, 17, 41, 46, 62, 70, 73, 89, 94, 97]
def b_laws_FnExactSimpleLevels (g_laws_toFloat32S g_spec_SimpleLevels g_impl_SimpleLevels g_laws_eqFloat32S g_laws_markFloat32S g_laws_heldFloat32S : FuncId) : VCode :=
  (.seq
   (.region false [
    ⟨some 4, .mv, [.k (.b false)], none⟩])
   (.seq
    (.seq
     (.region false [
      ⟨some 15, .mv, [.t 0], none⟩,
      ⟨some 16, .len, [.t 15], none⟩,
      ⟨some 17, (.bin .gtr), [.t 16, .k (.i .i64 1048576)], none⟩])
     (.cond (.t 17)
      (.seq
       (.region false [
        ⟨some 4, .mv, [.k (.b true)], none⟩])
       .ret)
      .skip))
    (.seq
     (.region false [
      ⟨some 19, .mv, [.t 0], none⟩,
      ⟨some 20, (.call g_laws_toFloat32S), [.t 19], none⟩,
      ⟨some 21, .mv, [.t 1], none⟩,
      ⟨some 22, (.call g_spec_SimpleLevels), [.t 20, .t 21], none⟩,
      ⟨some 18, .mv, [.t 22], none⟩,
      ⟨some 23, (.extract 0), [.t 18], none⟩,
      ⟨some 24, (.extract 1), [.t 18], none⟩,
      ⟨some 5, .mv, [.t 23], none⟩,
      ⟨some 6, .mv, [.t 24], none⟩])
     (.seq
      (.region false [
       ⟨some 25, .mv, [.t 0], none⟩,
       ⟨some 26, (.call g_laws_toFloat32S), [.t 25], none⟩,
       ⟨some 7, .mv, [.t 26], none⟩])
      (.seq
       (.region false [
        ⟨some 28, .mv, [.t 7], none⟩,
        ⟨some 29, .mv, [.t 1], none⟩,
        ⟨some 30, (.call g_impl_SimpleLevels), [.t 28, .t 29], none⟩,
        ⟨some 27, .mv, [.t 30], none⟩,
        ⟨some 31, (.extract 0), [.t 27], none⟩,
        ⟨some 32, (.extract 1), [.t 27], none⟩,
        ⟨some 8, .mv, [.t 31], none⟩,
        ⟨some 9, .mv, [.t 32], none⟩])
       (.seq
        (.seq
         (.region false [
          ⟨some 33, .mv, [.t 8], none⟩,
          ⟨some 34, .mv, [.t 5], none⟩,
          ⟨some 35, (.call g_laws_eqFloat32S), [.t 33, .t 34], none⟩,
          ⟨some 36, .not, [.t 35], none⟩,
          ⟨some 37, .mv, [.t 36], none⟩,
          ⟨some 38, .mv, [.t 9], some (37, false)⟩,
          ⟨some 39, .mv, [.t 6], some (37, false)⟩,
          ⟨some 40, (.binb .neq), [.t 38, .t 39], some (37, false)⟩,
          ⟨some 41, .pick, [.t 37, .k (.b true), .t 40], none⟩])
         (.cond (.t 41)
          (.seq
           (.region false [
            ⟨some 4, .mv, [.k (.b false)], none⟩])
           .ret)
          .skip))
        (.seq
         (.seq
          (.region false [
           ⟨some 42, .mv, [.t 7], none⟩,
           ⟨some 43, .mv, [.t 0], none⟩,
           ⟨some 44, (.call g_laws_toFloat32S), [.t 43], none⟩,
           ⟨some 45, (.call g_laws_eqFloat32S), [.t 42, .t 44], none⟩,
           ⟨some 46, .not, [.t 45], none⟩])
          (.cond (.t 46)
           (.seq
            (.region false [
             ⟨some 4, .mv, [.k (.b false)], none⟩])
            .ret)
           .skip))
         (.seq
          (.region false [
           ⟨some 10, .mv, [.k (.i .i64 1)], none⟩])
          (.seq
           (.region false [
            ⟨some 47, .mv, [.t 7], none⟩,
            ⟨some 48, .mv, [.t 10], none⟩,
            ⟨some 49, (.call g_laws_markFloat32S), [.t 47, .t 48], none⟩,
            ⟨some 10, .mv, [.t 49], none⟩])
           (.seq
            (.seq
             (.region false [
              ⟨some 50, .mv, [.t 10], none⟩,
              ⟨some 51, (.bin .lss), [.t 50, .k (.i .i64 0)], none⟩,
              ⟨some 52, .mv, [.t 51], none⟩,
              ⟨some 53, .mv, [.t 8], some (52, false)⟩,
              ⟨some 54, .mv, [.t 5], some (52, false)⟩,
              ⟨some 55, (.call g_laws_eqFloat32S), [.t 53, .t 54], some (52, false)⟩,
              ⟨some 56, .not, [.t 55], some (52, false)⟩,
              ⟨some 57, .pick, [.t 52, .k (.b true), .t 56], none⟩,
              ⟨some 58, .mv, [.t 57], none⟩,
              ⟨some 59, .mv, [.t 9], some (58, false)⟩,
              ⟨some 60, .mv, [.t 6], some (58, false)⟩,
              ⟨some 61, (.binb .neq), [.t 59, .t 60], some (58, false)⟩,
              ⟨some 62, .pick, [.t 58, .k (.b true), .t 61], none⟩])
             (.cond (.t 62)
              (.seq
               (.region false [
                ⟨some 4, .mv, [.k (.b false)], none⟩])
               .ret)
              .skip))
            (.seq
             (.region false [
              ⟨some 11, .mv, [.k (.i .i64 1)], none⟩])
             (.seq
              (.region false [
               ⟨some 63, .mv, [.t 8], none⟩,
               ⟨some 64, .mv, [.t 11], none⟩,
               ⟨some 65, (.call g_laws_markFloat32S), [.t 63, .t 64], none⟩,
               ⟨some 11, .mv, [.t 65], none⟩])
              (.seq
               (.region false [
                ⟨some 12, .mv, [.k (.i .i64 1)], none⟩])
               (.seq
                (.region false [
                 ⟨some 66, .mv, [.t 8], none⟩,
                 ⟨some 67, .mv, [.t 12], none⟩,
                 ⟨some 68, (.call g_laws_heldFloat32S), [.t 66, .t 67], none⟩,
                 ⟨some 12, .mv, [.t 68], none⟩])
                (.seq
                 (.seq
                  (.region false [
                   ⟨some 69, .mv, [.t 12], none⟩,
                   ⟨some 70, (.bin .lss), [.t 69, .k (.i .i64 0)], none⟩])
                  (.cond (.t 70)
                   (.seq
                    (.region false [
                     ⟨some 4, .mv, [.k (.b false)], none⟩])
                    .ret)
                   .skip))
                 (.seq
                  (.seq
                   (.region false [
                    ⟨some 71, .mv, [.t 12], none⟩,
                    ⟨some 72, .mv, [.t 11], none⟩,
                    ⟨some 73, (.bin .neq), [.t 71, .t 72], none⟩])
                   (.cond (.t 73)
                    (.seq
                     (.region false [
                      ⟨some 4, .mv, [.k (.b false)], none⟩])
                     .ret)
                    .skip))
                  (.seq
                   (.region false [
                    ⟨some 75, .mv, [.t 0], none⟩,
                    ⟨some 76, (.call g_laws_toFloat32S), [.t 75], none⟩,
                    ⟨some 77, .mv, [.t 1], none⟩,
                    ⟨some 78, (.call g_impl_SimpleLevels), [.t 76, .t 77], none⟩,
                    ⟨some 74, .mv, [.t 78], none⟩,
                    ⟨some 79, (.extract 0), [.t 74], none⟩,
                    ⟨some 80, (.extract 1), [.t 74], none⟩,
                    ⟨some 13, .mv, [.t 79], none⟩,
                    ⟨some 14, .mv, [.t 80], none⟩])
                   (.seq
                    (.seq
                     (.region false [
                      ⟨some 81, .mv, [.t 13], none⟩,
                      ⟨some 82, .mv, [.t 5], none⟩,
                      ⟨some 83, (.call g_laws_eqFloat32S), [.t 81, .t 82], none⟩,
                      ⟨some 84, .not, [.t 83], none⟩,
                      ⟨some 85, .mv, [.t 84], none⟩,
                      ⟨some 86, .mv, [.t 14], some (85, false)⟩,
                      ⟨some 87, .mv, [.t 6], some (85, false)⟩,
                      ⟨some 88, (.binb .neq), [.t 86, .t 87], some (85, false)⟩,
                      ⟨some 89, .pick, [.t 85, .k (.b true), .t 88], none⟩])
                     (.cond (.t 89)
                      (.seq
                       (.region false [
                        ⟨some 4, .mv, [.k (.b false)], none⟩])
                       .ret)
                      .skip))
                    (.seq
                     (.region false [
                      ⟨some 12, .mv, [.k (.i .i64 1)], none⟩])
                     (.seq
                      (.region false [
                       ⟨some 90, .mv, [.t 8], none⟩,
                       ⟨some 91, .mv, [.t 12], none⟩,
                       ⟨some 92, (.call g_laws_heldFloat32S), [.t 90, .t 91], none⟩,
                       ⟨some 12, .mv, [.t 92], none⟩])
                      (.seq
                       (.seq
                        (.region false [
                         ⟨some 93, .mv, [.t 12], none⟩,
                         ⟨some 94, (.bin .lss), [.t 93, .k (.i .i64 0)], none⟩])
                        (.cond (.t 94)
                         (.seq
                          (.region false [
                           ⟨some 4, .mv, [.k (.b false)], none⟩])
                          .ret)
                         .skip))
                       (.seq
                        (.seq
                         (.region false [
                          ⟨some 95, .mv, [.t 12], none⟩,
                          ⟨some 96, .mv, [.t 11], none⟩,
                          ⟨some 97, (.bin .neq), [.t 95, .t 96], none⟩])
                         (.cond (.t 97)
                          (.seq
                           (.region false [
                            ⟨some 4, .mv, [.k (.b false)], none⟩])
                           .ret)
                          .skip))
                        (.seq
                         (.region false [
                          ⟨some 4, .mv, [.k (.b true)], none⟩])
                         .ret)))))))))))))))))))))))

abbrev Is_laws_FnExactSimpleLevels (P : Program) (g_f : FuncId) (g_laws_toFloat32S g_spec_SimpleLevels g_impl_SimpleLevels g_laws_eqFloat32S g_laws_markFloat32S g_laws_heldFloat32S : FuncId) : Prop := FnIs P g_f 98 [.t 4] (b_laws_FnExactSimpleLevels g_laws_toFloat32S g_spec_SimpleLevels g_impl_SimpleLevels g_laws_eqFloat32S g_laws_markFloat32S g_laws_heldFloat32S)

abbrev C_laws_FnExactSimpleLevels (P : Program) (g_f : FuncId) : Prop := ∀ (xs : List Nat) (s : Nat) (hx : xs.length ≤ maxLen), VCall P g_f [PS [0] .f32 xs, .f .f32 s] (.b true)
def oc1_laws_FnExactSimpleLevels (as : List AV) : T AV := match as with | [.sl _ _ (.f .f32 xs), .f .f32 s] => .leaf (.b true) | _ => .fail
def oc_laws_FnExactSimpleLevels (xs : List Nat) (s : Nat) (d : Nat) (as : List AV) : T AV := match d with | 20 => oc1_laws_toFloat32S as | 22 => oc1_spec_SimpleLevels as | 26 => oc1_laws_toFloat32S as | 30 => oc1_impl_SimpleLevels as | 35 => oc1_laws_eqFloat32S as | 44 => oc1_laws_toFloat32S as | 45 => oc1_laws_eqFloat32S as | 49 => oc1_laws_markFloat32S as | 55 => oc1_laws_eqFloat32S as | 65 => oc1_laws_markFloat32S as | 68 => oc1_laws_heldFloat32S as | 76 => oc1_laws_toFloat32S as | 78 => oc1_impl_SimpleLevels as | 83 => oc1_laws_eqFloat32S as | 92 => oc1_laws_heldFloat32S as | _ => .fail



theorem q_laws_FnExactSimpleLevels {P : Program} {g_f : FuncId} {g_laws_toFloat32S g_spec_SimpleLevels g_impl_SimpleLevels g_laws_eqFloat32S g_laws_markFloat32S g_laws_heldFloat32S : FuncId} (h_ : Is_laws_FnExactSimpleLevels P g_f g_laws_toFloat32S g_spec_SimpleLevels g_impl_SimpleLevels g_laws_eqFloat32S g_laws_markFloat32S g_laws_heldFloat32S) (xs : List Nat) (s : Nat) (ht : T.ok (fun x_ => x_ = .b true) (
      T.ite (decide ((↑(List.length xs) : Int) > 1048576)) (T.leaf (AV.b true))
        (T.ob ((VCall P) g_laws_toFloat32S [AV.sl (Tag.par [0]) 0 (Cont.f FloatKind.f32 xs)] (AV.sl (Tag.own 0) 0 (Cont.f FloatKind.f32 xs)))
          (T.ob ((VCall P) g_spec_SimpleLevels [AV.sl (Tag.par [0]) 0 (Cont.f FloatKind.f32 xs), AV.f FloatKind.f32 s] (AV.tup [AV.sl (Tag.own 0) 0 (Cont.f FloatKind.f32 (levOut xs s)), AV.b (levOk xs s)]))
            (T.ob ((VCall P) g_laws_toFloat32S [AV.sl (Tag.par [0]) 0 (Cont.f FloatKind.f32 xs)] (AV.sl (Tag.own 0) 0 (Cont.f FloatKind.f32 xs)))
              (T.ob ((VCall P) g_impl_SimpleLevels [AV.sl (Tag.par [0]) 0 (Cont.f FloatKind.f32 xs), AV.f FloatKind.f32 s] (AV.tup [AV.sl (Tag.own 0) 0 (Cont.f FloatKind.f32 (levOut xs s)), AV.b (levOk xs s)]))
                (T.ob ((VCall P) g_laws_eqFloat32S [AV.sl (Tag.par [0]) 0 (Cont.f FloatKind.f32 (levOut xs s)), AV.sl (Tag.par [1]) 0 (Cont.f FloatKind.f32 (levOut xs s))] (AV.b true))
                  (T.ite false (T.leaf (AV.b false))
                    (T.ite (!levOk xs s == levOk xs s) (T.leaf (AV.b false))
                      (T.ob ((VCall P) g_laws_toFloat32S [AV.sl (Tag.par [0]) 0 (Cont.f FloatKind.f32 xs)] (AV.sl (Tag.own 0) 0 (Cont.f FloatKind.f32 xs)))
                        (T.ob ((VCall P) g_laws_eqFloat32S [AV.sl (Tag.par [0]) 0 (Cont.f FloatKind.f32 xs), AV.sl (Tag.par [1]) 0 (Cont.f FloatKind.f32 xs)] (AV.b true))
                          (T.ite false (T.leaf (AV.b false))
                            (T.ob
                              ((VCall P) g_laws_markFloat32S [AV.sl (Tag.own 800000) 0 (Cont.f FloatKind.f32 xs), AV.i IntKind.i64 1]
                                  (AV.bx Tag.nil [AV.i IntKind.i64 (1 + (↑(List.length xs) : Int)), AV.tup [AV.sl (Tag.own 800000) 0 (Cont.f FloatKind.f32 (marksM (List.length xs) 1)), AV.i IntKind.i64 1]]) ∧
                                List.length xs = List.length (marksM (List.length xs) 1) ∧ List.length xs = List.length (marksM (List.length xs) 1) ∧ True)
                              (T.ite false (T.leaf (AV.b false))
                                (T.ob ((VCall P) g_laws_eqFloat32S [AV.sl (Tag.par [0]) 0 (Cont.f FloatKind.f32 (levOut xs s)), AV.sl (Tag.par [1]) 0 (Cont.f FloatKind.f32 (levOut xs s))] (AV.b true))
                                  (T.ite false (T.leaf (AV.b false))
                                    (T.ite (!levOk xs s == levOk xs s) (T.leaf (AV.b false))
                                      (T.ob
                                        ((VCall P) g_laws_markFloat32S [AV.sl (Tag.own 800000) 0 (Cont.f FloatKind.f32 (levOut xs s)), AV.i IntKind.i64 1]
                                            (AV.bx Tag.nil
                                              [AV.i IntKind.i64 (1 + (↑(List.length (levOut xs s)) : Int)),
                                                AV.tup [AV.sl (Tag.own 800000) 0 (Cont.f FloatKind.f32 (marksM (List.length (levOut xs s)) 1)), AV.i IntKind.i64 1]]) ∧
                                          List.length (levOut xs s) = List.length (marksM (List.length (levOut xs s)) 1) ∧ List.length (levOut xs s) = List.length (marksM (List.length (levOut xs s)) 1) ∧ True)
                                        (T.ob
                                          ((VCall P) g_laws_heldFloat32S [AV.sl (Tag.par [0]) 0 (Cont.f FloatKind.f32 (marksM (List.length (levOut xs s)) 1)), AV.i IntKind.i64 1]
                                            (AV.i IntKind.i64 (1 + (↑(List.length (marksM (List.length (levOut xs s)) 1)) : Int))))
                                          (T.ite false (T.leaf (AV.b false))
                                            (T.ite (1 + (↑(List.length (marksM (List.length (levOut xs s)) 1)) : Int) != 1 + (↑(List.length (levOut xs s)) : Int)) (T.leaf (AV.b false))
                                              (T.ob ((VCall P) g_laws_toFloat32S [AV.sl (Tag.par [0]) 0 (Cont.f FloatKind.f32 xs)] (AV.sl (Tag.own 0) 0 (Cont.f FloatKind.f32 xs)))
                                                (T.ob
                                                  ((VCall P) g_impl_SimpleLevels [AV.sl (Tag.par [0]) 0 (Cont.f FloatKind.f32 xs), AV.f FloatKind.f32 s]
                                                    (AV.tup [AV.sl (Tag.own 0) 0 (Cont.f FloatKind.f32 (levOut xs s)), AV.b (levOk xs s)]))
                                                  (T.ob ((VCall P) g_laws_eqFloat32S [AV.sl (Tag.par [0]) 0 (Cont.f FloatKind.f32 (levOut xs s)), AV.sl (Tag.par [1]) 0 (Cont.f FloatKind.f32 (levOut xs s))] (AV.b true))
                                                    (T.ite false (T.leaf (AV.b false))
                                                      (T.ite (!levOk xs s == levOk xs s) (T.leaf (AV.b false))
                                                        (T.ob
                                                          ((VCall P) g_laws_heldFloat32S [AV.sl (Tag.par [0]) 0 (Cont.f FloatKind.f32 (marksM (List.length (levOut xs s)) 1)), AV.i IntKind.i64 1]
                                                            (AV.i IntKind.i64 (1 + (↑(List.length (marksM (List.length (levOut xs s)) 1)) : Int))))
                                                          (T.ite false (T.leaf (AV.b false))
                                                            (T.ite (1 + (↑(List.length (marksM (List.length (levOut xs s)) 1)) : Int) != 1 + (↑(List.length (levOut xs s)) : Int)) (T.leaf (AV.b false))
                                                              (T.leaf (AV.b true))))))))))))))))))))))))))))))) :
    VCall P g_f [PS [0] .f32 xs, .f .f32 s] (.b true) := h_.call_of ps_laws_FnExactSimpleLevels ⟨oc_laws_FnExactSimpleLevels xs s, fun _ _ => none⟩ (by kernel_rfl) ht


/-- laws.FnExactChanceNeeds: slots 48, results [.t 6]; calls [17:g_laws_toFloat32S, 20:g_spec_ChanceNeeds, 24:g_laws_toFloat32S, 29:g_impl_ChanceNeeds, 36:g_laws_sameFloat, 45:g_laws_toFloat32S, 46:g_laws_eqFloat32S]; names [(aList, 0), (aShare, 1), (aChance, 2), (aList, 3), (aShare, 4), (aChance, 5), (w0, 7), (w1, 8), (x0, 9), (g0, 10), (g1, 11)] -/
def ps_laws_FnExactChanceNeeds : List Nat := [0, 1, 2, 6, 7, 8, 9, 10, 11, 14, 42, 47]
def b_laws_FnExactChanceNeeds (g_laws_toFloat32S g_spec_ChanceNeeds g_impl_ChanceNeeds g_laws_sameFloat g_laws_eqFloat32S : FuncId) : VCode :=
  (.seq
   (.region false [
    ⟨some 6, .mv, [.k (.b false)], none⟩])
   (.seq
    (.seq
     (.region false [
      ⟨some 12, .mv, [.t 0], none⟩,
      ⟨some 13, .len, [.t 12], none⟩,
      ⟨some 14, (.bin .gtr), [.t 13, .k (.i .i64 1048576)], none⟩])
     (.cond (.t 14)
      (.seq
       (.region false [
        ⟨some 6, .mv, [.k (.b true)], none⟩])
       .ret)
      .skip))
    (.seq
     (.region false [
      ⟨some 16, .mv, [.t 0], none⟩,
      ⟨some 17, (.call g_laws_toFloat32S), [.t 16], none⟩,
      ⟨some 18, .mv, [.t 1], none⟩,
      ⟨some 19, .mv, [.t 2], none⟩,
      ⟨some 20, (.call g_spec_ChanceNeeds), [.t 17, .t 18, .t 19], none⟩,
      ⟨some 15, .mv, [.t 20], none⟩,
      ⟨some 21, (.extract 0), [.t 15], none⟩,
      ⟨some 22, (.extract 1), [.t 15], none⟩,
      ⟨some 7, .mv, [.t 21], none⟩,
      ⟨some 8, .mv, [.t 22], none⟩])
     (.seq
      (.region false [
       ⟨some 23, .mv, [.t 0], none⟩,
       ⟨some 24, (.call g_laws_toFloat32S), [.t 23], none⟩,
       ⟨some 9, .mv, [.t 24], none⟩])
      (.seq
       (.region false [
        ⟨some 26, .mv, [.t 9], none⟩,
        ⟨some 27, .mv, [.t 1], none⟩,
        ⟨some 28, .mv, [.t 2], none⟩,
        ⟨some 29, (.call g_impl_ChanceNeeds), [.t 26, .t 27, .t 28], none⟩,
        ⟨some 25, .mv, [.t 29], none⟩,
        ⟨some 30, (.extract 0), [.t 25], none⟩,
        ⟨some 31, (.extract 1), [.t 25], none⟩,
        ⟨some 10, .mv, [.t 30], none⟩,
        ⟨some 11, .mv, [.t 31], none⟩])
       (.seq
        (.seq
         (.region false [
          ⟨some 32, .mv, [.t 10], none⟩,
          ⟨some 33, (.convF .f64), [.t 32], none⟩,
          ⟨some 34, .mv, [.t 7], none⟩,
          ⟨some 35, (.convF .f64), [.t 34], none⟩,
          ⟨some 36, (.call g_laws_sameFloat), [.t 33, .t 35], none⟩,
          ⟨some 37, .not, [.t 36], none⟩,
          ⟨some 38, .mv, [.t 37], none⟩,
          ⟨some 39, .mv, [.t 11], some (38, false)⟩,
          ⟨some 40, .mv, [.t 8], some (38, false)⟩,
          ⟨some 41, (.binb .neq), [.t 39, .t 40], some (38, false)⟩,
          ⟨some 42, .pick, [.t 38, .k (.b true), .t 41], none⟩])
         (.cond (.t 42)
          (.seq
           (.region false [
            ⟨some 6, .mv, [.k (.b false)], none⟩])
           .ret)
          .skip))
        (.seq
         (.seq
          (.region false [
           ⟨some 43, .mv, [.t 9], none⟩,
           ⟨some 44, .mv, [.t 0], none⟩,
           ⟨some 45, (.call g_laws_toFloat32S), [.t 44], none⟩,
           ⟨some 46, (.call g_laws_eqFloat32S), [.t 43, .t 45], none⟩,
           ⟨some 47, .not, [.t 46], none⟩])
          (.cond (.t 47)
           (.seq
            (.region false [
             ⟨some 6, .mv, [.k (.b false)], none⟩])
            .ret)
           .skip))
         (.seq
          (.region false [
           ⟨some 6, .mv, [.k (.b true)], none⟩])
          .ret))))))))

abbrev Is_laws_FnExactChanceNeeds (P : Program) (g_f : FuncId) (g_laws_toFloat32S g_spec_ChanceNeeds g_impl_ChanceNeeds g_laws_sameFloat g_laws_eqFloat32S : FuncId) : Prop := FnIs P g_f 48 [.t 6] (b_laws_FnExactChanceNeeds g_laws_toFloat32S g_spec_ChanceNeeds g_impl_ChanceNeeds g_laws_sameFloat g_laws_eqFloat32S)

abbrev C_laws_FnExactChanceNeeds (P : Program) (g_f : FuncId) : Prop := ∀ (xs : List Nat) (s : Nat) (c : Nat) (hx : xs.length ≤ maxLen), VCall P g_f [PS [0] .f32 xs, .f .f32 s, .f .f32 c] (.b true)
def oc1_laws_FnExactChanceNeeds (as : List AV) : T AV := match as with | [.sl _ _ (.f .f32 xs), .f .f32 s, .f .f32 c] => .leaf (.b true) | _ => .fail
def oc_laws_FnExactChanceNeeds (xs : List Nat) (s : Nat) (c : Nat) (d : Nat) (as : List AV) : T AV := match d with | 17 => oc1_laws_toFloat32S as | 20 => oc1_spec_ChanceNeeds as | 24 => oc1_laws_toFloat32S as | 29 => oc1_impl_ChanceNeeds as | 36 => oc1_laws_sameFloat as | 45 => oc1_laws_toFloat32S as | 46 => oc1_laws_eqFloat32S as | _ => .fail



theorem q_laws_FnExactChanceNeeds {P : Program} {g_f : FuncId} {g_laws_toFloat32S g_spec_ChanceNeeds g_impl_ChanceNeeds g_laws_sameFloat g_laws_eqFloat32S : FuncId} (h_ : Is_laws_FnExactChanceNeeds P g_f g_laws_toFloat32S g_spec_ChanceNeeds g_impl_ChanceNeeds g_laws_sameFloat g_laws_eqFloat32S) (xs : List Nat) (s : Nat) (c : Nat) (ht : T.ok (fun x_ => x_ = .b true) (
      T.ite (decide ((↑(List.length xs) : Int) > 1048576)) (T.leaf (AV.b true))
        (T.ob ((VCall P) g_laws_toFloat32S [AV.sl (Tag.par [0]) 0 (Cont.f FloatKind.f32 xs)] (AV.sl (Tag.own 0) 0 (Cont.f FloatKind.f32 xs)))
          (T.ob
            ((VCall P) g_spec_ChanceNeeds [AV.sl (Tag.par [0]) 0 (Cont.f FloatKind.f32 xs), AV.f FloatKind.f32 s, AV.f FloatKind.f32 c]
              (AV.tup [AV.f FloatKind.f32 (if chanceOk xs s c = true then chanceM xs s c else 0), AV.b (chanceOk xs s c)]))
            (T.ob ((VCall P) g_laws_toFloat32S [AV.sl (Tag.par [0]) 0 (Cont.f FloatKind.f32 xs)] (AV.sl (Tag.own 0) 0 (Cont.f FloatKind.f32 xs)))
              (T.ob
                ((VCall P) g_impl_ChanceNeeds [AV.sl (Tag.par [0]) 0 (Cont.f FloatKind.f32 xs), AV.f FloatKind.f32 s, AV.f FloatKind.f32 c]
                  (AV.tup [AV.f FloatKind.f32 (if chanceOk xs s c = true then chanceM xs s c else 0), AV.b (chanceOk xs s c)]))
                (T.ob (fconvOk FloatKind.f32 FloatKind.f64 (if chanceOk xs s c = true then chanceM xs s c else 0) = true)
                  (T.ob (fconvOk FloatKind.f32 FloatKind.f64 (if chanceOk xs s c = true then chanceM xs s c else 0) = true)
                    (T.ob
                      ((VCall P) g_laws_sameFloat
                        [AV.f FloatKind.f64 (fconv FloatKind.f32 FloatKind.f64 (if chanceOk xs s c = true then chanceM xs s c else 0)),
                          AV.f FloatKind.f64 (fconv FloatKind.f32 FloatKind.f64 (if chanceOk xs s c = true then chanceM xs s c else 0))]
                        (AV.b true))
                      (T.ite false (T.leaf (AV.b false))
                        (T.ite (!chanceOk xs s c == chanceOk xs s c) (T.leaf (AV.b false))
                          (T.ob ((VCall P) g_laws_toFloat32S [AV.sl (Tag.par [0]) 0 (Cont.f FloatKind.f32 xs)] (AV.sl (Tag.own 0) 0 (Cont.f FloatKind.f32 xs)))
                            (T.ob ((VCall P) g_laws_eqFloat32S [AV.sl (Tag.par [0]) 0 (Cont.f FloatKind.f32 xs), AV.sl (Tag.par [1]) 0 (Cont.f FloatKind.f32 xs)] (AV.b true))
                              (T.ite false (T.leaf (AV.b false)) (T.leaf (AV.b true)))))))))))))))) :
    VCall P g_f [PS [0] .f32 xs, .f .f32 s, .f .f32 c] (.b true) := h_.call_of ps_laws_FnExactChanceNeeds ⟨oc_laws_FnExactChanceNeeds xs s c, fun _ _ => none⟩ (by kernel_rfl) ht


/-- laws.FnExactSeldomNeeds: slots 44, results [.t 4]; calls [15:g_laws_toFloat32S, 17:g_spec_SeldomNeeds, 21:g_laws_toFloat32S, 25:g_impl_SeldomNeeds, 32:g_laws_sameFloat, 41:g_laws_toFloat32S, 42:g_laws_eqFloat32S]; names [(aList, 0), (aShare, 1), (aList, 2), (aShare, 3), (w0, 5), (w1, 6), (x0, 7), (g0, 8), (g1, 9)] -/
def ps_laws_FnExactSeldomNeeds : List Nat := [0, 1, 4, 5, 6, 7, 8, 9, 12, 38, 43]
def b_laws_FnExactSeldomNeeds (g_laws_toFloat32S g_spec_SeldomNeeds g_impl_SeldomNeeds g_laws_sameFloat g_laws_eqFloat32S : FuncId) : VCode :=
  (.seq
   (.region false [
    ⟨some 4, .mv, [.k (.b false)], none⟩])
   (.seq
    (.seq
     (.region false [
      ⟨some 10, .mv, [.t 0], none⟩,
      ⟨some 11, .len, [.t 10], none⟩,
      ⟨some 12, (.bin .gtr), [.t 11, .k (.i .i64 1048576)], none⟩])
     (.cond (.t 12)
      (.seq
       (.region false [
        ⟨some 4, .mv, [.k (.b true)], none⟩])
       .ret)
      .skip))
    (.seq
     (.region false [
      ⟨some 14, .mv, [.t 0], none⟩,
      ⟨some 15, (.call g_laws_toFloat32S), [.t 14], none⟩,
      ⟨some 16, .mv, [.t 1], none⟩,
      ⟨some 17, (.call g_spec_SeldomNeeds), [.t 15, .t 16], none⟩,
      ⟨some 13, .mv, [.t 17], none⟩,
      ⟨some 18, (.extract 0), [.t 13], none⟩,
      ⟨some 19, (.extract 1), [.t 13], none⟩,
      ⟨some 5, .mv, [.t 18], none⟩,
      ⟨some 6, .mv, [.t 19], none⟩])
     (.seq
      (.region false [
       ⟨some 20, .mv, [.t 0], none⟩,
       ⟨some 21, (.call g_laws_toFloat32S), [.t 20], none⟩,
       ⟨some 7, .mv, [.t 21], none⟩])
      (.seq
       (.region false [
        ⟨some 23, .mv, [.t 7], none⟩,
        ⟨some 24, .mv, [.t 1], none⟩,
        ⟨some 25, (.call g_impl_SeldomNeeds), [.t 23, .t 24], none⟩,
        ⟨some 22, .mv, [.t 25], none⟩,
        ⟨some 26, (.extract 0), [.t 22], none⟩,
        ⟨some 27, (.extract 1), [.t 22], none⟩,
        ⟨some 8, .mv, [.t 26], none⟩,
        ⟨some 9, .mv, [.t 27], none⟩])
       (.seq
        (.seq
         (.region false [
          ⟨some 28, .mv, [.t 8], none⟩,
          ⟨some 29, (.convF .f64), [.t 28], none⟩,
          ⟨some 30, .mv, [.t 5], none⟩,
          ⟨some 31, (.convF .f64), [.t 30], none⟩,
          ⟨some 32, (.call g_laws_sameFloat), [.t 29, .t 31], none⟩,
          ⟨some 33, .not, [.t 32], none⟩,
          ⟨some 34, .mv, [.t 33], none⟩,
          ⟨some 35, .mv, [.t 9], some (34, false)⟩,
          ⟨some 36, .mv, [.t 6], some (34, false)⟩,
          ⟨some 37, (.binb .neq), [.t 35, .t 36], some (34, false)⟩,
          ⟨some 38, .pick, [.t 34, .k (.b true), .t 37], none⟩])
         (.cond (.t 38)
          (.seq
           (.region false [
            ⟨some 4, .mv, [.k (.b false)], none⟩])
           .ret)
          .skip))
        (.seq
         (.seq
          (.region false [
           ⟨some 39, .mv, [.t 7], none⟩,
           ⟨some 40, .mv, [.t 0], none⟩,
           ⟨some 41, (.call g_laws_toFloat32S), [.t 40], none⟩,
           ⟨some 42, (.call g_laws_eqFloat32S), [.t 39, .t 41], none⟩,
           ⟨some 43, .not, [.t 42], none⟩])
          (.cond (.t 43)
           (.seq
            (.region false [
             ⟨some 4, .mv, [.k (.b false)], none⟩])
            .ret)
           .skip))
         (.seq
          (.region false [
           ⟨some 4, .mv, [.k (.b true)], none⟩])
          .ret))))))))

abbrev Is_laws_FnExactSeldomNeeds (P : Program) (g_f : FuncId) (g_laws_toFloat32S g_spec_SeldomNeeds g_impl_SeldomNeeds g_laws_sameFloat g_laws_eqFloat32S : FuncId) : Prop := FnIs P g_f 44 [.t 4] (b_laws_FnExactSeldomNeeds g_laws_toFloat32S g_spec_SeldomNeeds g_impl_SeldomNeeds g_laws_sameFloat g_laws_eqFloat32S)

abbrev C_laws_FnExactSeldomNeeds (P : Program) (g_f : FuncId) : Prop := ∀ (xs : List Nat) (s : Nat) (hx : xs.length ≤ maxLen), VCall P g_f [PS [0] .f32 xs, .f .f32 s] (.b true)
def oc1_laws_FnExactSeldomNeeds (as : List AV) : T AV := match as with | [.sl _ _ (.f .f32 xs), .f .f32 s] => .leaf (.b true) | _ => .fail
def oc_laws_FnExactSeldomNeeds (xs : List Nat) (s : Nat) (d : Nat) (as : List AV) : T AV := match d with | 15 => oc1_laws_toFloat32S as | 17 => oc1_spec_SeldomNeeds as | 21 => oc1_laws_toFloat32S as | 25 => oc1_impl_SeldomNeeds as | 32 => oc1_laws_sameFloat as | 41 => oc1_laws_toFloat32S as | 42 => oc1_laws_eqFloat32S as | _ => .fail



theorem q_laws_FnExactSeldomNeeds {P : Program} {g_f : FuncId} {g_laws_toFloat32S g_spec_SeldomNeeds g_impl_SeldomNeeds g_laws_sameFloat g_laws_eqFloat32S : FuncId} (h_ : Is_laws_FnExactSeldomNeeds P g_f g_laws_toFloat32S g_spec_SeldomNeeds g_impl_SeldomNeeds g_laws_sameFloat g_laws_eqFloat32S) (xs : List Nat) (s : Nat) (ht : T.ok (fun x_ => x_ = .b true) (
      T.ite (decide ((↑(List.length xs) : Int) > 1048576)) (T.leaf (AV.b true))
        (T.ob ((VCall P) g_laws_toFloat32S [AV.sl (Tag.par [0]) 0 (Cont.f FloatKind.f32 xs)] (AV.sl (Tag.own 0) 0 (Cont.f FloatKind.f32 xs)))
          (T.ob ((VCall P) g_spec_SeldomNeeds [AV.sl (Tag.par [0]) 0 (Cont.f FloatKind.f32 xs), AV.f FloatKind.f32 s] (AV.tup [AV.f FloatKind.f32 (if seldomOk xs s = true then seldomM xs s else 0), AV.b (seldomOk xs s)]))
            (T.ob ((VCall P) g_laws_toFloat32S [AV.sl (Tag.par [0]) 0 (Cont.f FloatKind.f32 xs)] (AV.sl (Tag.own 0) 0 (Cont.f FloatKind.f32 xs)))
              (T.ob ((VCall P) g_impl_SeldomNeeds [AV.sl (Tag.par [0]) 0 (Cont.f FloatKind.f32 xs), AV.f FloatKind.f32 s] (AV.tup [AV.f FloatKind.f32 (if seldomOk xs s = true then seldomM xs s else 0), AV.b (seldomOk xs s)]))
                (T.ob (fconvOk FloatKind.f32 FloatKind.f64 (if seldomOk xs s = true then seldomM xs s else 0) = true)
                  (T.ob (fconvOk FloatKind.f32 FloatKind.f64 (if seldomOk xs s = true then seldomM xs s else 0) = true)
                    (T.ob
                      ((VCall P) g_laws_sameFloat
                        [AV.f FloatKind.f64 (fconv FloatKind.f32 FloatKind.f64 (if seldomOk xs s = true then seldomM xs s else 0)),
                          AV.f FloatKind.f64 (fconv FloatKind.f32 FloatKind.f64 (if seldomOk xs s = true then seldomM xs s else 0))]
                        (AV.b true))
                      (T.ite false (T.leaf (AV.b false))
                        (T.ite (!seldomOk xs s == seldomOk xs s) (T.leaf (AV.b false))
                          (T.ob ((VCall P) g_laws_toFloat32S [AV.sl (Tag.par [0]) 0 (Cont.f FloatKind.f32 xs)] (AV.sl (Tag.own 0) 0 (Cont.f FloatKind.f32 xs)))
                            (T.ob ((VCall P) g_laws_eqFloat32S [AV.sl (Tag.par [0]) 0 (Cont.f FloatKind.f32 xs), AV.sl (Tag.par [1]) 0 (Cont.f FloatKind.f32 xs)] (AV.b true))
                              (T.ite false (T.leaf (AV.b false)) (T.leaf (AV.b true)))))))))))))))) :
    VCall P g_f [PS [0] .f32 xs, .f .f32 s] (.b true) := h_.call_of ps_laws_FnExactSeldomNeeds ⟨oc_laws_FnExactSeldomNeeds xs s, fun _ _ => none⟩ (by kernel_rfl) ht


/-- laws.FnExactDoubleLine: slots 56, results [.t 4]; calls [17:g_laws_toFloat32S, 19:g_spec_DoubleLine, 24:g_laws_toFloat32S, 28:g_impl_DoubleLine, 36:g_laws_sameFloat, 43:g_laws_sameFloat, 53:g_laws_toFloat32S, 54:g_laws_eqFloat32S]; names [(aList, 0), (aShare, 1), (aList, 2), (aShare, 3), (w0, 5), (w1, 6), (w2, 7), (x0, 8), (g0, 9), (g1, 10), (g2, 11)] -/
def ps_laws_FnExactDoubleLine : List Nat := [0, 1, 4, 5, 6, 7, 8, 9, 10, 11, 14, 50, 55]
def b_laws_FnExactDoubleLine (g_laws_toFloat32S g_spec_DoubleLine g_impl_DoubleLine g_laws_sameFloat g_laws_eqFloat32S : FuncId) : VCode :=
  (.seq
   (.region false [
    ⟨some 4, .mv, [.k (.b false)], none⟩])
   (.seq
    (.seq
     (.region false [
      ⟨some 12, .mv, [.t 0], none⟩,
      ⟨some 13, .len, [.t 12], none⟩,
      ⟨some 14, (.bin .gtr), [.t 13, .k (.i .i64 1048576)], none⟩])
     (.cond (.t 14)
      (.seq
       (.region false [
        ⟨some 4, .mv, [.k (.b true)], none⟩])
       .ret)
      .skip))
    (.seq
     (.region false [
      ⟨some 16, .mv, [.t 0], none⟩,
      ⟨some 17, (.call g_laws_toFloat32S), [.t 16], none⟩,
      ⟨some 18, .mv, [.t 1], none⟩,
      ⟨some 19, (.call g_spec_DoubleLine), [.t 17, .t 18], none⟩,
      ⟨some 15, .mv, [.t 19], none⟩,
      ⟨some 20, (.extract 0), [.t 15], none⟩,
      ⟨some 21, (.extract 1), [.t 15], none⟩,
      ⟨some 22, (.extract 2), [.t 15], none⟩,
      ⟨some 5, .mv, [.t 20], none⟩,
      ⟨some 6, .mv, [.t 21], none⟩,
      ⟨some 7, .mv, [.t 22], none⟩])
     (.seq
      (.region false [
       ⟨some 23, .mv, [.t 0], none⟩,
       ⟨some 24, (.call g_laws_toFloat32S), [.t 23], none⟩,
       ⟨some 8, .mv, [.t 24], none⟩])
      (.seq
       (.region false [
        ⟨some 26, .mv, [.t 8], none⟩,
        ⟨some 27, .mv, [.t 1], none⟩,
        ⟨some 28, (.call g_impl_DoubleLine), [.t 26, .t 27], none⟩,
        ⟨some 25, .mv, [.t 28], none⟩,
        ⟨some 29, (.extract 0), [.t 25], none⟩,
        ⟨some 30, (.extract 1), [.t 25], none⟩,
        ⟨some 31, (.extract 2), [.t 25], none⟩,
        ⟨some 9, .mv, [.t 29], none⟩,
        ⟨some 10, .mv, [.t 30], none⟩,
        ⟨some 11, .mv, [.t 31], none⟩])
       (.seq
        (.seq
         (.region false [
          ⟨some 32, .mv, [.t 9], none⟩,
          ⟨some 33, (.convF .f64), [.t 32], none⟩,
          ⟨some 34, .mv, [.t 5], none⟩,
          ⟨some 35, (.convF .f64), [.t 34], none⟩,
          ⟨some 36, (.call g_laws_sameFloat), [.t 33, .t 35], none⟩,
          ⟨some 37, .not, [.t 36], none⟩,
          ⟨some 38, .mv, [.t 37], none⟩,
          ⟨some 39, .mv, [.t 10], some (38, false)⟩,
          ⟨some 40, (.convF .f64), [.t 39], some (38, false)⟩,
          ⟨some 41, .mv, [.t 6], some (38, false)⟩,
          ⟨some 42, (.convF .f64), [.t 41], some (38, false)⟩,
          ⟨some 43, (.call g_laws_sameFloat), [.t 40, .t 42], some (38, false)⟩,
          ⟨some 44, .not, [.t 43], some (38, false)⟩,
          ⟨some 45, .pick, [.t 38, .k (.b true), .t 44], none⟩,
          ⟨some 46, .mv, [.t 45], none⟩,
          ⟨some 47, .mv, [.t 11], some (46, false)⟩,
          ⟨some 48, .mv, [.t 7], some (46, false)⟩,
          ⟨some 49, (.binb .neq), [.t 47, .t 48], some (46, false)⟩,
          ⟨some 50, .pick, [.t 46, .k (.b true), .t 49], none⟩])
         (.cond (.t 50)
          (.seq
           (.region false [
            ⟨some 4, .mv, [.k (.b false)], none⟩])
           .ret)
          .skip))
        (.seq
         (.seq
          (.region false [
           ⟨some 51, .mv, [.t 8], none⟩,
           ⟨some 52, .mv, [.t 0], none⟩,
           ⟨some 53, (.call g_laws_toFloat32S), [.t 52], none⟩,
           ⟨some 54, (.call g_laws_eqFloat32S), [.t 51, .t 53], none⟩,
           ⟨some 55, .not, [.t 54], none⟩])
          (.cond (.t 55)
           (.seq
            (.region false [
             ⟨some 4, .mv, [.k (.b false)], none⟩])
            .ret)
           .skip))
         (.seq
          (.region false [
           ⟨some 4, .mv, [.k (.b true)], none⟩])
          .ret))))))))

abbrev Is_laws_FnExactDoubleLine (P : Program) (g_f : FuncId) (g_laws_toFloat32S g_spec_DoubleLine g_impl_DoubleLine g_laws_sameFloat g_laws_eqFloat32S : FuncId) : Prop := FnIs P g_f 56 [.t 4] (b_laws_FnExactDoubleLine g_laws_toFloat32S g_spec_DoubleLine g_impl_DoubleLine g_laws_sameFloat g_laws_eqFloat32S)

abbrev C_laws_FnExactDoubleLine (P : Program) (g_f : FuncId) : Prop := ∀ (xs : List Nat) (s : Nat) (hx : xs.length ≤ maxLen), VCall P g_f [PS [0] .f32 xs, .f .f32 s] (.b true)
def oc1_laws_FnExactDoubleLine (as : List AV) : T AV := match as with | [.sl _ _ (.f .f32 xs), .f .f32 s] => .leaf (.b true) | _ => .fail
def oc_laws_FnExactDoubleLine (xs : List Nat) (s : Nat) (d : Nat) (as : List AV) : T AV := match d with | 17 => oc1_laws_toFloat32S as | 19 => oc1_spec_DoubleLine as | 24 => oc1_laws_toFloat32S as | 28 => oc1_impl_DoubleLine as | 36 => oc1_laws_sameFloat as | 43 => oc1_laws_sameFloat as | 53 => oc1_laws_toFloat32S as | 54 => oc1_laws_eqFloat32S as | _ => .fail



theorem q_laws_FnExactDoubleLine {P : Program} {g_f : FuncId} {g_laws_toFloat32S g_spec_DoubleLine g_impl_DoubleLine g_laws_sameFloat g_laws_eqFloat32S : FuncId} (h_ : Is_laws_FnExactDoubleLine P g_f g_laws_toFloat32S g_spec_DoubleLine g_impl_DoubleLine g_laws_sameFloat g_laws_eqFloat32S) (xs : List Nat) (s : Nat) (ht : T.ok (fun x_ => x_ = .b true) (
      T.ite (decide ((↑(List.length xs) : Int) > 1048576)) (T.leaf (AV.b true))
        (T.ob ((VCall P) g_laws_toFloat32S [AV.sl (Tag.par [0]) 0 (Cont.f FloatKind.f32 xs)] (AV.sl (Tag.own 0) 0 (Cont.f FloatKind.f32 xs)))
          (T.ob
            ((VCall P) g_spec_DoubleLine [AV.sl (Tag.par [0]) 0 (Cont.f FloatKind.f32 xs), AV.f FloatKind.f32 s]
              (AV.tup [AV.f FloatKind.f32 (if dlGood xs s = true then dlA xs s else 0), AV.f FloatKind.f32 (if dlGood xs s = true then dlB xs s else 0), AV.b (dlGood xs s)]))
            (T.ob ((VCall P) g_laws_toFloat32S [AV.sl (Tag.par [0]) 0 (Cont.f FloatKind.f32 xs)] (AV.sl (Tag.own 0) 0 (Cont.f FloatKind.f32 xs)))
              (T.ob
                ((VCall P) g_impl_DoubleLine [AV.sl (Tag.par [0]) 0 (Cont.f FloatKind.f32 xs), AV.f FloatKind.f32 s]
                  (AV.tup [AV.f FloatKind.f32 (if dlGood xs s = true then dlA xs s else 0), AV.f FloatKind.f32 (if dlGood xs s = true then dlB xs s else 0), AV.b (dlGood xs s)]))
                (T.ob (fconvOk FloatKind.f32 FloatKind.f64 (if dlGood xs s = true then dlA xs s else 0) = true)
                  (T.ob (fconvOk FloatKind.f32 FloatKind.f64 (if dlGood xs s = true then dlA xs s else 0) = true)
                    (T.ob
                      ((VCall P) g_laws_sameFloat
                        [AV.f FloatKind.f64 (fconv FloatKind.f32 FloatKind.f64 (if dlGood xs s = true then dlA xs s else 0)), AV.f FloatKind.f64 (fconv FloatKind.f32 FloatKind.f64 (if dlGood xs s = true then dlA xs s else 0))]
                        (AV.b true))
                      (T.ite false (T.leaf (AV.b false))
                        (T.ob (fconvOk FloatKind.f32 FloatKind.f64 (if dlGood xs s = true then dlB xs s else 0) = true)
                          (T.ob (fconvOk FloatKind.f32 FloatKind.f64 (if dlGood xs s = true then dlB xs s else 0) = true)
                            (T.ob
                              ((VCall P) g_laws_sameFloat
                                [AV.f FloatKind.f64 (fconv FloatKind.f32 FloatKind.f64 (if dlGood xs s = true then dlB xs s else 0)),
                                  AV.f FloatKind.f64 (fconv FloatKind.f32 FloatKind.f64 (if dlGood xs s = true then dlB xs s else 0))]
                                (AV.b true))
                              (T.ite false (T.leaf (AV.b false))
                                (T.ite (!dlGood xs s == dlGood xs s) (T.leaf (AV.b false))
                                  (T.ob ((VCall P) g_laws_toFloat32S [AV.sl (Tag.par [0]) 0 (Cont.f FloatKind.f32 xs)] (AV.sl (Tag.own 0) 0 (Cont.f FloatKind.f32 xs)))
                                    (T.ob ((VCall P) g_laws_eqFloat32S [AV.sl (Tag.par [0]) 0 (Cont.f FloatKind.f32 xs), AV.sl (Tag.par [1]) 0 (Cont.f FloatKind.f32 xs)] (AV.b true))
                                      (T.ite false (T.leaf (AV.b false)) (T.leaf (AV.b true)))))))))))))))))))) :
    VCall P g_f [PS [0] .f32 xs, .f .f32 s] (.b true) := h_.call_of ps_laws_FnExactDoubleLine ⟨oc_laws_FnExactDoubleLine xs s, fun _ _ => none⟩ (by kernel_rfl) ht


/-- laws.FnExactGuessOf: slots 49, results [.t 4]; calls [13:g_laws_szState, 18:g_laws_toState, 20:g_laws_toShares, 21:g_spec_GuessOf, 25:g_laws_toState, 29:g_laws_toShares, 30:g_impl_GuessOf, 37:g_laws_sameFloat, 46:g_laws_toState, 47:g_laws_eqState]; names [(aS, 0), (aH, 1), (aS, 2), (aH, 3), (left, 5), (w0, 6), (w1, 7), (x0, 8), (g0, 9), (g1, 10)] -/
def ps_laws_FnExactGuessOf : List Nat := [0, 1, 2, 3, 4, 5, 6, 7, 8, 9, 10, 15, 43, 48]
def b_laws_FnExactGuessOf (g_laws_szState g_laws_toState g_laws_toShares g_spec_GuessOf g_impl_GuessOf g_laws_sameFloat g_laws_eqState : FuncId) : VCode :=
  (.seq
   (.region false [
    ⟨some 2, .boxN, [.t 0], none⟩,
    ⟨some 3, .boxN, [.t 1], none⟩,
    ⟨some 4, .mv, [.k (.b false)], none⟩])
   (.seq
    (.region false [
     ⟨some 5, .mv, [.k (.i .i64 1048576)], none⟩])
    (.seq
     (.region false [
      ⟨some 11, (.loadN 4), [.t 2], none⟩,
      ⟨some 12, .mv, [.t 5], none⟩,
      ⟨some 13, (.call g_laws_szState), [.t 11, .t 12], none⟩,
      ⟨some 5, .mv, [.t 13], none⟩])
     (.seq
      (.seq
       (.region false [
        ⟨some 14, .mv, [.t 5], none⟩,
        ⟨some 15, (.bin .lss), [.t 14, .k (.i .i64 0)], none⟩])
       (.cond (.t 15)
        (.seq
         (.region false [
          ⟨some 4, .mv, [.k (.b true)], none⟩])
         .ret)
        .skip))
      (.seq
       (.region true [
        ⟨some 17, (.loadN 4), [.t 2], none⟩,
        ⟨some 18, (.call g_laws_toState), [.t 17], none⟩,
        ⟨some 19, (.loadN 4), [.t 3], none⟩,
        ⟨some 20, (.call g_laws_toShares), [.t 19], none⟩,
        ⟨some 21, (.call g_spec_GuessOf), [.t 18, .t 20], none⟩,
        ⟨some 16, .mv, [.t 21], none⟩,
        ⟨some 22, (.extract 0), [.t 16], none⟩,
        ⟨some 23, (.extract 1), [.t 16], none⟩,
        ⟨some 6, .mv, [.t 22], none⟩,
        ⟨some 7, .mv, [.t 23], none⟩])
       (.seq
        (.region false [
         ⟨some 24, (.loadN 4), [.t 2], none⟩,
         ⟨some 25, (.call g_laws_toState), [.t 24], none⟩,
         ⟨some 8, (.alloc [(.f .f32 0), (.f .f32 0), (.sl .imm 0 (.f .f32 [])), (.i .i64 0)]), [], none⟩,
         ⟨none, (.storeN 4), [.t 8, .t 25], none⟩])
        (.seq
         (.region true [
          ⟨some 27, (.loadN 4), [.t 8], none⟩,
          ⟨some 28, (.loadN 4), [.t 3], none⟩,
          ⟨some 29, (.call g_laws_toShares), [.t 28], none⟩,
          ⟨some 30, (.call g_impl_GuessOf), [.t 27, .t 29], none⟩,
          ⟨some 26, .mv, [.t 30], none⟩,
          ⟨some 31, (.extract 0), [.t 26], none⟩,
          ⟨some 32, (.extract 1), [.t 26], none⟩,
          ⟨some 9, .mv, [.t 31], none⟩,
          ⟨some 10, .mv, [.t 32], none⟩])
         (.seq
          (.seq
           (.region false [
            ⟨some 33, .mv, [.t 9], none⟩,
            ⟨some 34, (.convF .f64), [.t 33], none⟩,
            ⟨some 35, .mv, [.t 6], none⟩,
            ⟨some 36, (.convF .f64), [.t 35], none⟩,
            ⟨some 37, (.call g_laws_sameFloat), [.t 34, .t 36], none⟩,
            ⟨some 38, .not, [.t 37], none⟩,
            ⟨some 39, .mv, [.t 38], none⟩,
            ⟨some 40, .mv, [.t 10], some (39, false)⟩,
            ⟨some 41, .mv, [.t 7], some (39, false)⟩,
            ⟨some 42, (.binb .neq), [.t 40, .t 41], some (39, false)⟩,
            ⟨some 43, .pick, [.t 39, .k (.b true), .t 42], none⟩])
           (.cond (.t 43)
            (.seq
             (.region false [
              ⟨some 4, .mv, [.k (.b false)], none⟩])
             .ret)
            .skip))
          (.seq
           (.seq
            (.region true [
             ⟨some 44, (.loadN 4), [.t 8], none⟩,
             ⟨some 45, (.loadN 4), [.t 2], none⟩,
             ⟨some 46, (.call g_laws_toState), [.t 45], none⟩,
             ⟨some 47, (.call g_laws_eqState), [.t 44, .t 46], none⟩,
             ⟨some 48, .not, [.t 47], none⟩])
            (.cond (.t 48)
             (.seq
              (.region false [
               ⟨some 4, .mv, [.k (.b false)], none⟩])
              .ret)
             .skip))
           (.seq
            (.region false [
             ⟨some 4, .mv, [.k (.b true)], none⟩])
            .ret))))))))))

abbrev Is_laws_FnExactGuessOf (P : Program) (g_f : FuncId) (g_laws_szState g_laws_toState g_laws_toShares g_spec_GuessOf g_impl_GuessOf g_laws_sameFloat g_laws_eqState : FuncId) : Prop := FnIs P g_f 49 [.t 4] (b_laws_FnExactGuessOf g_laws_szState g_laws_toState g_laws_toShares g_spec_GuessOf g_impl_GuessOf g_laws_sameFloat g_laws_eqState)

abbrev C_laws_FnExactGuessOf (P : Program) (g_f : FuncId) : Prop := ∀ (l : Nat) (s : Nat) (xs : List Nat) (t : Int) (a : Nat) (b : Nat) (c : Nat) (d : Nat) (hx : xs.length ≤ maxLen), VCall P g_f [.agg (ST (.par [0, 2]) l s xs t), .agg (F4 a b c d)] (.b true)
def oc1_laws_FnExactGuessOf (as : List AV) : T AV := match as with | [.agg [.f _ l, .f _ s, .sl _ _ (.f _ xs), .i _ t], .agg [.f _ a, .f _ b, .f _ c, .f _ d]] => .leaf (.b true) | _ => .fail
def oc_laws_FnExactGuessOf (l : Nat) (s : Nat) (xs : List Nat) (t : Int) (a : Nat) (b : Nat) (c : Nat) (d : Nat) (d : Nat) (as : List AV) : T AV := match d with | 13 => oc1_laws_szState as | 18 => oc1_laws_toState as | 20 => oc1_laws_toShares as | 21 => oc1_spec_GuessOf as | 25 => oc1_laws_toState as | 29 => oc1_laws_toShares as | 30 => oc1_impl_GuessOf as | 37 => oc1_laws_sameFloat as | 46 => oc1_laws_toState as | 47 => oc1_laws_eqState as | _ => .fail



theorem q_laws_FnExactGuessOf {P : Program} {g_f : FuncId} {g_laws_szState g_laws_toState g_laws_toShares g_spec_GuessOf g_impl_GuessOf g_laws_sameFloat g_laws_eqState : FuncId} (h_ : Is_laws_FnExactGuessOf P g_f g_laws_szState g_laws_toState g_laws_toShares g_spec_GuessOf g_impl_GuessOf g_laws_sameFloat g_laws_eqState) (l : Nat) (s : Nat) (xs : List Nat) (t : Int) (a : Nat) (b : Nat) (c : Nat) (d : Nat) (ht : T.ok (fun x_ => x_ = .b true) (
      T.ob (false = false)
        (T.ob (false = false)
          (T.ob
            ((VCall P) g_laws_szState [AV.agg [AV.f FloatKind.f32 l, AV.f FloatKind.f32 s, AV.sl (Tag.par [0, 2]) 0 (Cont.f FloatKind.f32 xs), AV.i IntKind.i64 t], AV.i IntKind.i64 1048576]
              (AV.i IntKind.i64 (szM (List.length xs) 1048576)))
            (T.ite (decide (szM (List.length xs) 1048576 < 0)) (T.leaf (AV.b true))
              (T.ob
                ((VCall P) g_laws_toState [AV.agg [AV.f FloatKind.f32 l, AV.f FloatKind.f32 s, AV.sl (Tag.par [0, 2]) 0 (Cont.f FloatKind.f32 xs), AV.i IntKind.i64 t]]
                  (AV.agg [AV.f FloatKind.f32 l, AV.f FloatKind.f32 s, AV.sl (Tag.own 0) 0 (Cont.f FloatKind.f32 xs), AV.i IntKind.i64 t]))
                (T.ob
                  ((VCall P) g_laws_toShares [AV.agg [AV.f FloatKind.f32 a, AV.f FloatKind.f32 b, AV.f FloatKind.f32 c, AV.f FloatKind.f32 d]]
                    (AV.agg [AV.f FloatKind.f32 a, AV.f FloatKind.f32 b, AV.f FloatKind.f32 c, AV.f FloatKind.f32 d]))
                  (T.ob
                    ((VCall P) g_spec_GuessOf
                      [AV.agg [AV.f FloatKind.f32 l, AV.f FloatKind.f32 s, AV.sl (Tag.par [0, 2]) 0 (Cont.f FloatKind.f32 xs), AV.i IntKind.i64 t],
                        AV.agg [AV.f FloatKind.f32 a, AV.f FloatKind.f32 b, AV.f FloatKind.f32 c, AV.f FloatKind.f32 d]]
                      (AV.tup [AV.f FloatKind.f32 (if guessOk l s xs t a b c d = true then guessM l s xs t d else 0), AV.b (guessOk l s xs t a b c d)]))
                    (T.ob
                      ((VCall P) g_laws_toState [AV.agg [AV.f FloatKind.f32 l, AV.f FloatKind.f32 s, AV.sl (Tag.par [0, 2]) 0 (Cont.f FloatKind.f32 xs), AV.i IntKind.i64 t]]
                        (AV.agg [AV.f FloatKind.f32 l, AV.f FloatKind.f32 s, AV.sl (Tag.own 0) 0 (Cont.f FloatKind.f32 xs), AV.i IntKind.i64 t]))
                      (T.ob (false = false)
                        (T.ob
                          ((VCall P) g_laws_toShares [AV.agg [AV.f FloatKind.f32 a, AV.f FloatKind.f32 b, AV.f FloatKind.f32 c, AV.f FloatKind.f32 d]]
                            (AV.agg [AV.f FloatKind.f32 a, AV.f FloatKind.f32 b, AV.f FloatKind.f32 c, AV.f FloatKind.f32 d]))
                          (T.ob
                            ((VCall P) g_impl_GuessOf
                              [AV.agg [AV.f FloatKind.f32 l, AV.f FloatKind.f32 s, AV.sl (Tag.par [0, 2]) 0 (Cont.f FloatKind.f32 xs), AV.i IntKind.i64 t],
                                AV.agg [AV.f FloatKind.f32 a, AV.f FloatKind.f32 b, AV.f FloatKind.f32 c, AV.f FloatKind.f32 d]]
                              (AV.tup [AV.f FloatKind.f32 (if guessOk l s xs t a b c d = true then guessM l s xs t d else 0), AV.b (guessOk l s xs t a b c d)]))
                            (T.ob (fconvOk FloatKind.f32 FloatKind.f64 (if guessOk l s xs t a b c d = true then guessM l s xs t d else 0) = true)
                              (T.ob (fconvOk FloatKind.f32 FloatKind.f64 (if guessOk l s xs t a b c d = true then guessM l s xs t d else 0) = true)
                                (T.ob
                                  ((VCall P) g_laws_sameFloat
                                    [AV.f FloatKind.f64 (fconv FloatKind.f32 FloatKind.f64 (if guessOk l s xs t a b c d = true then guessM l s xs t d else 0)),
                                      AV.f FloatKind.f64 (fconv FloatKind.f32 FloatKind.f64 (if guessOk l s xs t a b c d = true then guessM l s xs t d else 0))]
                                    (AV.b true))
                                  (T.ite false (T.leaf (AV.b false))
                                    (T.ite (!guessOk l s xs t a b c d == guessOk l s xs t a b c d) (T.leaf (AV.b false))
                                      (T.ob
                                        ((VCall P) g_laws_toState [AV.agg [AV.f FloatKind.f32 l, AV.f FloatKind.f32 s, AV.sl (Tag.par [0, 2]) 0 (Cont.f FloatKind.f32 xs), AV.i IntKind.i64 t]]
                                          (AV.agg [AV.f FloatKind.f32 l, AV.f FloatKind.f32 s, AV.sl (Tag.own 0) 0 (Cont.f FloatKind.f32 xs), AV.i IntKind.i64 t]))
                                        (T.ob
                                          ((VCall P) g_laws_eqState
                                            [AV.agg [AV.f FloatKind.f32 l, AV.f FloatKind.f32 s, AV.sl (Tag.par [0, 2]) 0 (Cont.f FloatKind.f32 xs), AV.i IntKind.i64 t],
                                              AV.agg [AV.f FloatKind.f32 l, AV.f FloatKind.f32 s, AV.sl (Tag.par [1, 2]) 0 (Cont.f FloatKind.f32 xs), AV.i IntKind.i64 t]]
                                            (AV.b true))
                                          (T.ite false (T.leaf (AV.b false)) (T.leaf (AV.b true)))))))))))))))))))))) :
    VCall P g_f [.agg (ST (.par [0, 2]) l s xs t), .agg (F4 a b c d)] (.b true) := h_.call_of ps_laws_FnExactGuessOf ⟨oc_laws_FnExactGuessOf l s xs t a b c d, fun _ _ => none⟩ (by kernel_rfl) ht

theorem k_laws_FnExactSameState {P : Program} {f g_laws_szState g_laws_toState g_spec_SameState g_impl_SameState g_laws_eqState : FuncId} (h : Is_laws_FnExactSameState P f g_laws_szState g_laws_toState g_spec_SameState g_impl_SameState g_laws_eqState) (c1 : C_laws_szState P g_laws_szState) (c2 : C_laws_toState P g_laws_toState) (c3 : C_spec_SameState P g_spec_SameState) (c4 : C_impl_SameState P g_impl_SameState) (c5 : C_laws_eqState P g_laws_eqState) : C_laws_FnExactSameState P f := by
  intro l s xs t l2 s2 ys t2 hx hy
  refine q_laws_FnExactSameState h l s xs t l2 s2 ys t2 ?_
  repeat' (first | with_reducible refine T.ok_ob ?_ (fun _ => ?_) | with_reducible refine T.ok_ite (fun _ => ?_) (fun _ => ?_) | with_reducible refine T.ok_leaf ?_)
  all_goals (try simp only [decide_eq_true_eq, decide_eq_false_iff_not, sz_lt, gt_iff_lt, Int.not_lt, Bool.not_beq_self, bne_self_eq_false, beq_self_eq_true] at *)
  all_goals (try simp (disch := omega) only [sz_val] at *)
  all_goals first | with_reducible rfl | with_reducible assumption | ((with_reducible refine c1 _ _ _ _ _ ?_ ?_) <;> (first | assumption | omega | with_reducible rfl | (simp [maxLen_eq]; done) | (simp [maxLen_eq]; omega))) | ((with_reducible refine c2 _ _ _ _ ?_) <;> (first | assumption | omega | with_reducible rfl | (simp [maxLen_eq]; done) | (simp [maxLen_eq]; omega))) | ((with_reducible refine c3 _ _ _ _ _ _ _ _ ?_ ?_) <;> (first | assumption | omega | with_reducible rfl | (simp [maxLen_eq]; done) | (simp [maxLen_eq]; omega))) | ((with_reducible refine c4 _ _ _ _ _ _ _ _ ?_ ?_) <;> (first | assumption | omega | with_reducible rfl | (simp [maxLen_eq]; done) | (simp [maxLen_eq]; omega))) | ((with_reducible refine c5 _ _ _ _ _ rfl ?_) <;> (first | assumption | omega | with_reducible rfl | (simp [maxLen_eq]; done) | (simp [maxLen_eq]; omega))) | contradiction | exact fconvOk_32_64 _ | assumption | exact rfl | (simp only [marks_len, bne_self_eq_false, Bool.false_eq_true] at *; done) | (simp_all [marks_len]; done) | (simp_all [T.ok, marks_len]; omega)

theorem k_laws_FnExactSimpleLevels {P : Program} {f g_laws_toFloat32S g_spec_SimpleLevels g_impl_SimpleLevels g_laws_eqFloat32S g_laws_markFloat32S g_laws_heldFloat32S : FuncId} (h : Is_laws_FnExactSimpleLevels P f g_laws_toFloat32S g_spec_SimpleLevels g_impl_SimpleLevels g_laws_eqFloat32S g_laws_markFloat32S g_laws_heldFloat32S) (c1 : C_laws_toFloat32S P g_laws_toFloat32S) (c2 : C_spec_SimpleLevels P g_spec_SimpleLevels) (c3 : C_impl_SimpleLevels P g_impl_SimpleLevels) (c4 : C_laws_eqFloat32S P g_laws_eqFloat32S) (c5 : C_laws_markFloat32S P g_laws_markFloat32S) (c6 : C_laws_heldFloat32S P g_laws_heldFloat32S) : C_laws_FnExactSimpleLevels P f := by
  intro xs s hx
  refine q_laws_FnExactSimpleLevels h xs s ?_
  have hR : (levOut xs s).length ≤ xs.length := by
    unfold levOut; split
    · rw [levs_len]; exact Nat.le_refl _
    · simp
  have b2 := c2 xs s hx
  have b3 := c3 xs s hx
  generalize levOut xs s = R at *
  repeat' (first | with_reducible refine T.ok_ob ?_ (fun _ => ?_) | with_reducible refine T.ok_ite (fun _ => ?_) (fun _ => ?_) | with_reducible refine T.ok_leaf ?_)
  all_goals (try simp only [decide_eq_true_eq, decide_eq_false_iff_not, sz_lt, gt_iff_lt, Int.not_lt, Bool.not_beq_self, bne_self_eq_false, beq_self_eq_true] at *)
  all_goals (try simp (disch := omega) only [sz_val] at *)
  all_goals first | with_reducible rfl | with_reducible assumption | ((with_reducible refine c1 _ ?_) <;> (first | assumption | omega | with_reducible rfl | (simp [maxLen_eq]; done) | (simp [maxLen_eq]; omega))) | ((with_reducible refine c2 _ _ ?_) <;> (first | assumption | omega | with_reducible rfl | (simp [maxLen_eq]; done) | (simp [maxLen_eq]; omega))) | ((with_reducible refine c3 _ _ ?_) <;> (first | assumption | omega | with_reducible rfl | (simp [maxLen_eq]; done) | (simp [maxLen_eq]; omega))) | ((with_reducible refine c4 _ _ rfl ?_) <;> (first | assumption | omega | with_reducible rfl | (simp [maxLen_eq]; done) | (simp [maxLen_eq]; omega))) | ((with_reducible refine ⟨c5 _ _ ?_ ?_, ?_, ?_, trivial⟩) <;> first | assumption | omega | (simp [marks_len]; done) | (simp [marks_len]; omega)) | ((with_reducible refine c6 _ _ _ rfl ?_ ?_) <;> (first | assumption | omega | with_reducible rfl | (simp [maxLen_eq]; done) | (simp [maxLen_eq]; omega))) | contradiction | exact fconvOk_32_64 _ | assumption | exact rfl | (simp only [marks_len, bne_self_eq_false, Bool.false_eq_true] at *; done) | (simp_all [marks_len]; done) | (simp_all [T.ok, marks_len]; omega)

theorem k_laws_FnExactChanceNeeds {P : Program} {f g_laws_toFloat32S g_spec_ChanceNeeds g_impl_ChanceNeeds g_laws_sameFloat g_laws_eqFloat32S : FuncId} (h : Is_laws_FnExactChanceNeeds P f g_laws_toFloat32S g_spec_ChanceNeeds g_impl_ChanceNeeds g_laws_sameFloat g_laws_eqFloat32S) (c1 : C_laws_toFloat32S P g_laws_toFloat32S) (c2 : C_spec_ChanceNeeds P g_spec_ChanceNeeds) (c3 : C_impl_ChanceNeeds P g_impl_ChanceNeeds) (c4 : C_laws_sameFloat P g_laws_sameFloat) (c5 : C_laws_eqFloat32S P g_laws_eqFloat32S) : C_laws_FnExactChanceNeeds P f := by
  intro xs s c hx
  refine q_laws_FnExactChanceNeeds h xs s c ?_
  repeat' (first | with_reducible refine T.ok_ob ?_ (fun _ => ?_) | with_reducible refine T.ok_ite (fun _ => ?_) (fun _ => ?_) | with_reducible refine T.ok_leaf ?_)
  all_goals (try simp only [decide_eq_true_eq, decide_eq_false_iff_not, sz_lt, gt_iff_lt, Int.not_lt, Bool.not_beq_self, bne_self_eq_false, beq_self_eq_true] at *)
  all_goals (try simp (disch := omega) only [sz_val] at *)
  all_goals first | with_reducible rfl | with_reducible assumption | ((with_reducible refine c1 _ ?_) <;> (first | assumption | omega | with_reducible rfl | (simp [maxLen_eq]; done) | (simp [maxLen_eq]; omega))) | ((with_reducible refine c2 _ _ _ ?_) <;> (first | assumption | omega | with_reducible rfl | (simp [maxLen_eq]; done) | (simp [maxLen_eq]; omega))) | ((with_reducible refine c3 _ _ _ ?_) <;> (first | assumption | omega | with_reducible rfl | (simp [maxLen_eq]; done) | (simp [maxLen_eq]; omega))) | ((with_reducible refine c4 _ _ ?_) <;> (first | assumption | omega | with_reducible rfl | (simp [maxLen_eq]; done) | (simp [maxLen_eq]; omega))) | ((with_reducible refine c5 _ _ rfl ?_) <;> (first | assumption | omega | with_reducible rfl | (simp [maxLen_eq]; done) | (simp [maxLen_eq]; omega))) | contradiction | exact fconvOk_32_64 _ | assumption | exact rfl | (simp only [marks_len, bne_self_eq_false, Bool.false_eq_true] at *; done) | (simp_all [marks_len]; done) | (simp_all [T.ok, marks_len]; omega)

theorem k_laws_FnExactSeldomNeeds {P : Program} {f g_laws_toFloat32S g_spec_SeldomNeeds g_impl_SeldomNeeds g_laws_sameFloat g_laws_eqFloat32S : FuncId} (h : Is_laws_FnExactSeldomNeeds P f g_laws_toFloat32S g_spec_SeldomNeeds g_impl_SeldomNeeds g_laws_sameFloat g_laws_eqFloat32S) (c1 : C_laws_toFloat32S P g_laws_toFloat32S) (c2 : C_spec_SeldomNeeds P g_spec_SeldomNeeds) (c3 : C_impl_SeldomNeeds P g_impl_SeldomNeeds) (c4 : C_laws_sameFloat P g_laws_sameFloat) (c5 : C_laws_eqFloat32S P g_laws_eqFloat32S) : C_laws_FnExactSeldomNeeds P f := by
  intro xs s hx
  refine q_laws_FnExactSeldomNeeds h xs s ?_
  repeat' (first | with_reducible refine T.ok_ob ?_ (fun _ => ?_) | with_reducible refine T.ok_ite (fun _ => ?_) (fun _ => ?_) | with_reducible refine T.ok_leaf ?_)
  all_goals (try simp only [decide_eq_true_eq, decide_eq_false_iff_not, sz_lt, gt_iff_lt, Int.not_lt, Bool.not_beq_self, bne_self_eq_false, beq_self_eq_true] at *)
  all_goals (try simp (disch := omega) only [sz_val] at *)
  all_goals first | with_reducible rfl | with_reducible assumption | ((with_reducible refine c1 _ ?_) <;> (first | assumption | omega | with_reducible rfl | (simp [maxLen_eq]; done) | (simp [maxLen_eq]; omega))) | ((with_reducible refine c2 _ _ ?_) <;> (first | assumption | omega | with_reducible rfl | (simp [maxLen_eq]; done) | (simp [maxLen_eq]; omega))) | ((with_reducible refine c3 _ _ ?_) <;> (first | assumption | omega | with_reducible rfl | (simp [maxLen_eq]; done) | (simp [maxLen_eq]; omega))) | ((with_reducible refine c4 _ _ ?_) <;> (first | assumption | omega | with_reducible rfl | (simp [maxLen_eq]; done) | (simp [maxLen_eq]; omega))) | ((with_reducible refine c5 _ _ rfl ?_) <;> (first | assumption | omega | with_reducible rfl | (simp [maxLen_eq]; done) | (simp [maxLen_eq]; omega))) | contradiction | exact fconvOk_32_64 _ | assumption | exact rfl | (simp only [marks_len, bne_self_eq_false, Bool.false_eq_true] at *; done) | (simp_all [marks_len]; done) | (simp_all [T.ok, marks_len]; omega)

theorem k_laws_FnExactDoubleLine {P : Program} {f g_laws_toFloat32S g_spec_DoubleLine g_impl_DoubleLine g_laws_sameFloat g_laws_eqFloat32S : FuncId} (h : Is_laws_FnExactDoubleLine P f g_laws_toFloat32S g_spec_DoubleLine g_impl_DoubleLine g_laws_sameFloat g_laws_eqFloat32S) (c1 : C_laws_toFloat32S P g_laws_toFloat32S) (c2 : C_spec_DoubleLine P g_spec_DoubleLine) (c3 : C_impl_DoubleLine P g_impl_DoubleLine) (c4 : C_laws_sameFloat P g_laws_sameFloat) (c5 : C_laws_eqFloat32S P g_laws_eqFloat32S) : C_laws_FnExactDoubleLine P f := by
  intro xs s hx
  refine q_laws_FnExactDoubleLine h xs s ?_
  repeat' (first | with_reducible refine T.ok_ob ?_ (fun _ => ?_) | with_reducible refine T.ok_ite (fun _ => ?_) (fun _ => ?_) | with_reducible refine T.ok_leaf ?_)
  all_goals (try simp only [decide_eq_true_eq, decide_eq_false_iff_not, sz_lt, gt_iff_lt, Int.not_lt, Bool.not_beq_self, bne_self_eq_false, beq_self_eq_true] at *)
  all_goals (try simp (disch := omega) only [sz_val] at *)
  all_goals first | with_reducible rfl | with_reducible assumption | ((with_reducible refine c1 _ ?_) <;> (first | assumption | omega | with_reducible rfl | (simp [maxLen_eq]; done) | (simp [maxLen_eq]; omega))) | ((with_reducible refine c2 _ _ ?_) <;> (first | assumption | omega | with_reducible rfl | (simp [maxLen_eq]; done) | (simp [maxLen_eq]; omega))) | ((with_reducible refine c3 _ _ ?_) <;> (first | assumption | omega | with_reducible rfl | (simp [maxLen_eq]; done) | (simp [maxLen_eq]; omega))) | ((with_reducible refine c4 _ _ ?_) <;> (first | assumption | omega | with_reducible rfl | (simp [maxLen_eq]; done) | (simp [maxLen_eq]; omega))) | ((with_reducible refine c5 _ _ rfl ?_) <;> (first | assumption | omega | with_reducible rfl | (simp [maxLen_eq]; done) | (simp [maxLen_eq]; omega))) | contradiction | exact fconvOk_32_64 _ | assumption | exact rfl | (simp only [marks_len, bne_self_eq_false, Bool.false_eq_true] at *; done) | (simp_all [marks_len]; done) | (simp_all [T.ok, marks_len]; omega)

theorem k_laws_FnExactGuessOf {P : Program} {f g_laws_szState g_laws_toState g_laws_toShares g_spec_GuessOf g_impl_GuessOf g_laws_sameFloat g_laws_eqState : FuncId} (h : Is_laws_FnExactGuessOf P f g_laws_szState g_laws_toState g_laws_toShares g_spec_GuessOf g_impl_GuessOf g_laws_sameFloat g_laws_eqState) (c1 : C_laws_szState P g_laws_szState) (c2 : C_laws_toState P g_laws_toState) (c3 : C_laws_toShares P g_laws_toShares) (c4 : C_spec_GuessOf P g_spec_GuessOf) (c5 : C_impl_GuessOf P g_impl_GuessOf) (c6 : C_laws_sameFloat P g_laws_sameFloat) (c7 : C_laws_eqState P g_laws_eqState) : C_laws_FnExactGuessOf P f := by
  intro l s xs t a b c d hx
  refine q_laws_FnExactGuessOf h l s xs t a b c d ?_
  repeat' (first | with_reducible refine T.ok_ob ?_ (fun _ => ?_) | with_reducible refine T.ok_ite (fun _ => ?_) (fun _ => ?_) | with_reducible refine T.ok_leaf ?_)
  all_goals (try simp only [decide_eq_true_eq, decide_eq_false_iff_not, sz_lt, gt_iff_lt, Int.not_lt, Bool.not_beq_self, bne_self_eq_false, beq_self_eq_true] at *)
  all_goals (try simp (disch := omega) only [sz_val] at *)
  all_goals first | with_reducible rfl | with_reducible assumption | ((with_reducible refine c1 _ _ _ _ _ ?_ ?_) <;> (first | assumption | omega | with_reducible rfl | (simp [maxLen_eq]; done) | (simp [maxLen_eq]; omega))) | ((with_reducible refine c2 _ _ _ _ ?_) <;> (first | assumption | omega | with_reducible rfl | (simp [maxLen_eq]; done) | (simp [maxLen_eq]; omega))) | with_reducible exact c3 _ _ _ _ | ((with_reducible refine c4 _ _ _ _ _ _ _ _ ?_) <;> (first | assumption | omega | with_reducible rfl | (simp [maxLen_eq]; done) | (simp [maxLen_eq]; omega))) | ((with_reducible refine c5 _ _ _ _ _ _ _ _ ?_) <;> (first | assumption | omega | with_reducible rfl | (simp [maxLen_eq]; done) | (simp [maxLen_eq]; omega))) | ((with_reducible refine c6 _ _ ?_) <;> (first | assumption | omega | with_reducible rfl | (simp [maxLen_eq]; done) | (simp [maxLen_eq]; omega))) | ((with_reducible refine c7 _ _ _ _ _ rfl ?_) <;> (first | assumption | omega | with_reducible rfl | (simp [maxLen_eq]; done) | (simp [maxLen_eq]; omega))) | contradiction | exact fconvOk_32_64 _ | assumption | exact rfl | (simp only [marks_len, bne_self_eq_false, Bool.false_eq_true] at *; done) | (simp_all [marks_len]; done) | (simp_all [T.ok, marks_len]; omega)


end Go.Proofs.LV
