/- The laws FnExactCrossLikes, RankLike. -/
import Derived.Test.YtdjjpckpcfkgiaaLvFnN
import Derived.Test.YtdjjpckpcfkgiaaLvLawB
namespace Go.Proofs.LV
open Go
set_option linter.unusedVariables false
set_option linter.unusedSimpArgs false

-- FN laws_FnExactCrossLikes
/-- laws.FnExactCrossLikes: slots 119, results [.t 6]; calls [26:g_laws_toFloat32S, 28:g_laws_toFloat32S, 30:g_spec_CrossLikes, 34:g_laws_toFloat32S, 36:g_laws_toFloat32S, 41:g_impl_CrossLikes, 46:g_laws_eqFloat32S, 55:g_laws_toFloat32S, 56:g_laws_eqFloat32S, 60:g_laws_toFloat32S, 61:g_laws_eqFloat32S, 65:g_laws_markFloat32S, 68:g_laws_markFloat32S, 74:g_laws_eqFloat32S, 84:g_laws_markFloat32S, 87:g_laws_heldFloat32S, 95:g_laws_toFloat32S, 97:g_laws_toFloat32S, 99:g_impl_CrossLikes, 104:g_laws_eqFloat32S, 113:g_laws_heldFloat32S]; names [(aA, 0), (aB, 1), (aMost, 2), (aA, 3), (aB, 4), (aMost, 5), (w0, 7), (w1, 8), (x0, 9), (x1, 10), (g0, 11), (g1, 12), (k, 13), (m, 14), (q, 15), (h0, 16), (h1, 17)] -/
def ps_laws_FnExactCrossLikes : List Nat := [0, 1, 2, 6, 7, 8, 9, 10, 11, 12, 13, 14, 15, 16, 17, 20, 23, 52, 57, 62, 81, 89, 92, 110, 115, 118]
def b_laws_FnExactCrossLikes (g_laws_toFloat32S g_spec_CrossLikes g_impl_CrossLikes g_laws_eqFloat32S g_laws_markFloat32S g_laws_heldFloat32S : FuncId) : VCode :=
  (.seq
   (.region false [
    ⟨some 6, .mv, [.k (.b false)], none⟩])
   (.seq
    (.seq
     (.region false [
      ⟨some 18, .mv, [.t 0], none⟩,
      ⟨some 19, .len, [.t 18], none⟩,
      ⟨some 20, (.bin .gtr), [.t 19, .k (.i .i64 1048576)], none⟩])
     (.cond (.t 20)
      (.seq
       (.region false [
        ⟨some 6, .mv, [.k (.b true)], none⟩])
       .ret)
      .skip))
    (.seq
     (.seq
      (.region false [
       ⟨some 21, .mv, [.t 1], none⟩,
       ⟨some 22, .len, [.t 21], none⟩,
       ⟨some 23, (.bin .gtr), [.t 22, .k (.i .i64 1048576)], none⟩])
      (.cond (.t 23)
       (.seq
        (.region false [
         ⟨some 6, .mv, [.k (.b true)], none⟩])
        .ret)
       .skip))
     (.seq
      (.region false [
       ⟨some 25, .mv, [.t 0], none⟩,
       ⟨some 26, (.call g_laws_toFloat32S), [.t 25], none⟩,
       ⟨some 27, .mv, [.t 1], none⟩,
       ⟨some 28, (.call g_laws_toFloat32S), [.t 27], none⟩,
       ⟨some 29, .mv, [.t 2], none⟩,
       ⟨some 30, (.call g_spec_CrossLikes), [.t 26, .t 28, .t 29], none⟩,
       ⟨some 24, .mv, [.t 30], none⟩,
       ⟨some 31, (.extract 0), [.t 24], none⟩,
       ⟨some 32, (.extract 1), [.t 24], none⟩,
       ⟨some 7, .mv, [.t 31], none⟩,
       ⟨some 8, .mv, [.t 32], none⟩])
      (.seq
       (.region false [
        ⟨some 33, .mv, [.t 0], none⟩,
        ⟨some 34, (.call g_laws_toFloat32S), [.t 33], none⟩,
        ⟨some 9, .mv, [.t 34], none⟩])
       (.seq
        (.region false [
         ⟨some 35, .mv, [.t 1], none⟩,
         ⟨some 36, (.call g_laws_toFloat32S), [.t 35], none⟩,
         ⟨some 10, .mv, [.t 36], none⟩])
        (.seq
         (.region false [
          ⟨some 38, .mv, [.t 9], none⟩,
          ⟨some 39, .mv, [.t 10], none⟩,
          ⟨some 40, .mv, [.t 2], none⟩,
          ⟨some 41, (.call g_impl_CrossLikes), [.t 38, .t 39, .t 40], none⟩,
          ⟨some 37, .mv, [.t 41], none⟩,
          ⟨some 42, (.extract 0), [.t 37], none⟩,
          ⟨some 43, (.extract 1), [.t 37], none⟩,
          ⟨some 11, .mv, [.t 42], none⟩,
          ⟨some 12, .mv, [.t 43], none⟩])
         (.seq
          (.seq
           (.region false [
            ⟨some 44, .mv, [.t 11], none⟩,
            ⟨some 45, .mv, [.t 7], none⟩,
            ⟨some 46, (.call g_laws_eqFloat32S), [.t 44, .t 45], none⟩,
            ⟨some 47, .not, [.t 46], none⟩,
            ⟨some 48, .mv, [.t 47], none⟩,
            ⟨some 49, .mv, [.t 12], some (48, false)⟩,
            ⟨some 50, .mv, [.t 8], some (48, false)⟩,
            ⟨some 51, (.binb .neq), [.t 49, .t 50], some (48, false)⟩,
            ⟨some 52, .pick, [.t 48, .k (.b true), .t 51], none⟩])
           (.cond (.t 52)
            (.seq
             (.region false [
              ⟨some 6, .mv, [.k (.b false)], none⟩])
             .ret)
            .skip))
          (.seq
           (.seq
            (.region false [
             ⟨some 53, .mv, [.t 9], none⟩,
             ⟨some 54, .mv, [.t 0], none⟩,
             ⟨some 55, (.call g_laws_toFloat32S), [.t 54], none⟩,
             ⟨some 56, (.call g_laws_eqFloat32S), [.t 53, .t 55], none⟩,
             ⟨some 57, .not, [.t 56], none⟩])
            (.cond (.t 57)
             (.seq
              (.region false [
               ⟨some 6, .mv, [.k (.b false)], none⟩])
              .ret)
             .skip))
           (.seq
            (.seq
             (.region false [
              ⟨some 58, .mv, [.t 10], none⟩,
              ⟨some 59, .mv, [.t 1], none⟩,
              ⟨some 60, (.call g_laws_toFloat32S), [.t 59], none⟩,
              ⟨some 61, (.call g_laws_eqFloat32S), [.t 58, .t 60], none⟩,
              ⟨some 62, .not, [.t 61], none⟩])
             (.cond (.t 62)
              (.seq
               (.region false [
                ⟨some 6, .mv, [.k (.b false)], none⟩])
               .ret)
              .skip))
            (.seq
             (.region false [
              ⟨some 13, .mv, [.k (.i .i64 1)], none⟩])
             (.seq
              (.region false [
               ⟨some 63, .mv, [.t 9], none⟩,
               ⟨some 64, .mv, [.t 13], none⟩,
               ⟨some 65, (.call g_laws_markFloat32S), [.t 63, .t 64], none⟩,
               ⟨some 13, .mv, [.t 65], none⟩])
              (.seq
               (.region false [
                ⟨some 66, .mv, [.t 10], none⟩,
                ⟨some 67, .mv, [.t 13], none⟩,
                ⟨some 68, (.call g_laws_markFloat32S), [.t 66, .t 67], none⟩,
                ⟨some 13, .mv, [.t 68], none⟩])
               (.seq
                (.seq
                 (.region false [
                  ⟨some 69, .mv, [.t 13], none⟩,
                  ⟨some 70, (.bin .lss), [.t 69, .k (.i .i64 0)], none⟩,
                  ⟨some 71, .mv, [.t 70], none⟩,
                  ⟨some 72, .mv, [.t 11], some (71, false)⟩,
                  ⟨some 73, .mv, [.t 7], some (71, false)⟩,
                  ⟨some 74, (.call g_laws_eqFloat32S), [.t 72, .t 73], some (71, false)⟩,
                  ⟨some 75, .not, [.t 74], some (71, false)⟩,
                  ⟨some 76, .pick, [.t 71, .k (.b true), .t 75], none⟩,
                  ⟨some 77, .mv, [.t 76], none⟩,
                  ⟨some 78, .mv, [.t 12], some (77, false)⟩,
                  ⟨some 79, .mv, [.t 8], some (77, false)⟩,
                  ⟨some 80, (.binb .neq), [.t 78, .t 79], some (77, false)⟩,
                  ⟨some 81, .pick, [.t 77, .k (.b true), .t 80], none⟩])
                 (.cond (.t 81)
                  (.seq
                   (.region false [
                    ⟨some 6, .mv, [.k (.b false)], none⟩])
                   .ret)
                  .skip))
                (.seq
                 (.region false [
                  ⟨some 14, .mv, [.k (.i .i64 1)], none⟩])
                 (.seq
                  (.region false [
                   ⟨some 82, .mv, [.t 11], none⟩,
                   ⟨some 83, .mv, [.t 14], none⟩,
                   ⟨some 84, (.call g_laws_markFloat32S), [.t 82, .t 83], none⟩,
                   ⟨some 14, .mv, [.t 84], none⟩])
                  (.seq
                   (.region false [
                    ⟨some 15, .mv, [.k (.i .i64 1)], none⟩])
                   (.seq
                    (.region false [
                     ⟨some 85, .mv, [.t 11], none⟩,
                     ⟨some 86, .mv, [.t 15], none⟩,
                     ⟨some 87, (.call g_laws_heldFloat32S), [.t 85, .t 86], none⟩,
                     ⟨some 15, .mv, [.t 87], none⟩])
                    (.seq
                     (.seq
                      (.region false [
                       ⟨some 88, .mv, [.t 15], none⟩,
                       ⟨some 89, (.bin .lss), [.t 88, .k (.i .i64 0)], none⟩])
                      (.cond (.t 89)
                       (.seq
                        (.region false [
                         ⟨some 6, .mv, [.k (.b false)], none⟩])
                        .ret)
                       .skip))
                     (.seq
                      (.seq
                       (.region false [
                        ⟨some 90, .mv, [.t 15], none⟩,
                        ⟨some 91, .mv, [.t 14], none⟩,
                        ⟨some 92, (.bin .neq), [.t 90, .t 91], none⟩])
                       (.cond (.t 92)
                        (.seq
                         (.region false [
                          ⟨some 6, .mv, [.k (.b false)], none⟩])
                         .ret)
                        .skip))
                      (.seq
                       (.region false [
                        ⟨some 94, .mv, [.t 0], none⟩,
                        ⟨some 95, (.call g_laws_toFloat32S), [.t 94], none⟩,
                        ⟨some 96, .mv, [.t 1], none⟩,
                        ⟨some 97, (.call g_laws_toFloat32S), [.t 96], none⟩,
                        ⟨some 98, .mv, [.t 2], none⟩,
                        ⟨some 99, (.call g_impl_CrossLikes), [.t 95, .t 97, .t 98], none⟩,
                        ⟨some 93, .mv, [.t 99], none⟩,
                        ⟨some 100, (.extract 0), [.t 93], none⟩,
                        ⟨some 101, (.extract 1), [.t 93], none⟩,
                        ⟨some 16, .mv, [.t 100], none⟩,
                        ⟨some 17, .mv, [.t 101], none⟩])
                       (.seq
                        (.seq
                         (.region false [
                          ⟨some 102, .mv, [.t 16], none⟩,
                          ⟨some 103, .mv, [.t 7], none⟩,
                          ⟨some 104, (.call g_laws_eqFloat32S), [.t 102, .t 103], none⟩,
                          ⟨some 105, .not, [.t 104], none⟩,
                          ⟨some 106, .mv, [.t 105], none⟩,
                          ⟨some 107, .mv, [.t 17], some (106, false)⟩,
                          ⟨some 108, .mv, [.t 8], some (106, false)⟩,
                          ⟨some 109, (.binb .neq), [.t 107, .t 108], some (106, false)⟩,
                          ⟨some 110, .pick, [.t 106, .k (.b true), .t 109], none⟩])
                         (.cond (.t 110)
                          (.seq
                           (.region false [
                            ⟨some 6, .mv, [.k (.b false)], none⟩])
                           .ret)
                          .skip))
                        (.seq
                         (.region false [
                          ⟨some 15, .mv, [.k (.i .i64 1)], none⟩])
                         (.seq
                          (.region false [
                           ⟨some 111, .mv, [.t 11], none⟩,
                           ⟨some 112, .mv, [.t 15], none⟩,
                           ⟨some 113, (.call g_laws_heldFloat32S), [.t 111, .t 112], none⟩,
                           ⟨some 15, .mv, [.t 113], none⟩])
                          (.seq
                           (.seq
                            (.region false [
                             ⟨some 114, .mv, [.t 15], none⟩,
                             ⟨some 115, (.bin .lss), [.t 114, .k (.i .i64 0)], none⟩])
                            (.cond (.t 115)
                             (.seq
                              (.region false [
                               ⟨some 6, .mv, [.k (.b false)], none⟩])
                              .ret)
                             .skip))
                           (.seq
                            (.seq
                             (.region false [
                              ⟨some 116, .mv, [.t 15], none⟩,
                              ⟨some 117, .mv, [.t 14], none⟩,
                              ⟨some 118, (.bin .neq), [.t 116, .t 117], none⟩])
                             (.cond (.t 118)
                              (.seq
                               (.region false [
                                ⟨some 6, .mv, [.k (.b false)], none⟩])
                               .ret)
                              .skip))
                            (.seq
                             (.region false [
                              ⟨some 6, .mv, [.k (.b true)], none⟩])
                             .ret)))))))))))))))))))))))))))

abbrev Is_laws_FnExactCrossLikes (P : Program) (g_f : FuncId) (g_laws_toFloat32S g_spec_CrossLikes g_impl_CrossLikes g_laws_eqFloat32S g_laws_markFloat32S g_laws_heldFloat32S : FuncId) : Prop := FnIs P g_f 119 [.t 6] (b_laws_FnExactCrossLikes g_laws_toFloat32S g_spec_CrossLikes g_impl_CrossLikes g_laws_eqFloat32S g_laws_markFloat32S g_laws_heldFloat32S)

abbrev C_laws_FnExactCrossLikes (P : Program) (g_f : FuncId) : Prop := ∀ (a : List Nat) (b : List Nat) (most : Int) (hx : a.length ≤ maxLen) (hy : b.length ≤ maxLen), VCall P g_f [PS [0] .f32 a, PS [1] .f32 b, .i .i64 most] (.b true)
def oc1_laws_FnExactCrossLikes (as : List AV) : T AV := match as with | [.sl _ _ (.f .f32 a), .sl _ _ (.f .f32 b), .i .i64 most] => .leaf (.b true) | _ => .fail
def oc_laws_FnExactCrossLikes (a : List Nat) (b : List Nat) (most : Int) (d : Nat) (as : List AV) : T AV := match d with | 26 => oc1_laws_toFloat32S as | 28 => oc1_laws_toFloat32S as | 30 => oc1_spec_CrossLikes as | 34 => oc1_laws_toFloat32S as | 36 => oc1_laws_toFloat32S as | 41 => oc1_impl_CrossLikes as | 46 => oc1_laws_eqFloat32S as | 55 => oc1_laws_toFloat32S as | 56 => oc1_laws_eqFloat32S as | 60 => oc1_laws_toFloat32S as | 61 => oc1_laws_eqFloat32S as | 65 => oc1_laws_markFloat32S as | 68 => oc1_laws_markFloat32S as | 74 => oc1_laws_eqFloat32S as | 84 => oc1_laws_markFloat32S as | 87 => oc1_laws_heldFloat32S as | 95 => oc1_laws_toFloat32S as | 97 => oc1_laws_toFloat32S as | 99 => oc1_impl_CrossLikes as | 104 => oc1_laws_eqFloat32S as | 113 => oc1_laws_heldFloat32S as | _ => .fail



theorem q_laws_FnExactCrossLikes {P : Program} {g_f : FuncId} {g_laws_toFloat32S g_spec_CrossLikes g_impl_CrossLikes g_laws_eqFloat32S g_laws_markFloat32S g_laws_heldFloat32S : FuncId} (h_ : Is_laws_FnExactCrossLikes P g_f g_laws_toFloat32S g_spec_CrossLikes g_impl_CrossLikes g_laws_eqFloat32S g_laws_markFloat32S g_laws_heldFloat32S) (a : List Nat) (b : List Nat) (most : Int) (ht : T.ok (fun x_ => x_ = .b true) (
      T.ite (decide ((↑(List.length a) : Int) > 1048576)) (T.leaf (AV.b true))
        (T.ite (decide ((↑(List.length b) : Int) > 1048576)) (T.leaf (AV.b true))
          (T.ob ((VCall P) g_laws_toFloat32S [AV.sl (Tag.par [0]) 0 (Cont.f FloatKind.f32 a)] (AV.sl (Tag.own 0) 0 (Cont.f FloatKind.f32 a)))
            (T.ob ((VCall P) g_laws_toFloat32S [AV.sl (Tag.par [0]) 0 (Cont.f FloatKind.f32 b)] (AV.sl (Tag.own 0) 0 (Cont.f FloatKind.f32 b)))
              (T.ob
                ((VCall P) g_spec_CrossLikes [AV.sl (Tag.par [0]) 0 (Cont.f FloatKind.f32 a), AV.sl (Tag.par [1]) 0 (Cont.f FloatKind.f32 b), AV.i IntKind.i64 most]
                  (AV.tup [AV.sl (Tag.own 0) 0 (Cont.f FloatKind.f32 (if crossOk a b most = true then crossM a b (Int.toNat most) else [])), AV.b (crossOk a b most)]))
                (T.ob ((VCall P) g_laws_toFloat32S [AV.sl (Tag.par [0]) 0 (Cont.f FloatKind.f32 a)] (AV.sl (Tag.own 0) 0 (Cont.f FloatKind.f32 a)))
                  (T.ob ((VCall P) g_laws_toFloat32S [AV.sl (Tag.par [0]) 0 (Cont.f FloatKind.f32 b)] (AV.sl (Tag.own 0) 0 (Cont.f FloatKind.f32 b)))
                    (T.ob
                      ((VCall P) g_impl_CrossLikes [AV.sl (Tag.par [0]) 0 (Cont.f FloatKind.f32 a), AV.sl (Tag.par [1]) 0 (Cont.f FloatKind.f32 b), AV.i IntKind.i64 most]
                        (AV.tup [AV.sl (Tag.own 0) 0 (Cont.f FloatKind.f32 (if crossOk a b most = true then crossM a b (Int.toNat most) else [])), AV.b (crossOk a b most)]))
                      (T.ob
                        ((VCall P) g_laws_eqFloat32S
                          [AV.sl (Tag.par [0]) 0 (Cont.f FloatKind.f32 (if crossOk a b most = true then crossM a b (Int.toNat most) else [])),
                            AV.sl (Tag.par [1]) 0 (Cont.f FloatKind.f32 (if crossOk a b most = true then crossM a b (Int.toNat most) else []))]
                          (AV.b true))
                        (T.ite false (T.leaf (AV.b false))
                          (T.ite (!crossOk a b most == crossOk a b most) (T.leaf (AV.b false))
                            (T.ob ((VCall P) g_laws_toFloat32S [AV.sl (Tag.par [0]) 0 (Cont.f FloatKind.f32 a)] (AV.sl (Tag.own 0) 0 (Cont.f FloatKind.f32 a)))
                              (T.ob ((VCall P) g_laws_eqFloat32S [AV.sl (Tag.par [0]) 0 (Cont.f FloatKind.f32 a), AV.sl (Tag.par [1]) 0 (Cont.f FloatKind.f32 a)] (AV.b true))
                                (T.ite false (T.leaf (AV.b false))
                                  (T.ob ((VCall P) g_laws_toFloat32S [AV.sl (Tag.par [0]) 0 (Cont.f FloatKind.f32 b)] (AV.sl (Tag.own 0) 0 (Cont.f FloatKind.f32 b)))
                                    (T.ob ((VCall P) g_laws_eqFloat32S [AV.sl (Tag.par [0]) 0 (Cont.f FloatKind.f32 b), AV.sl (Tag.par [1]) 0 (Cont.f FloatKind.f32 b)] (AV.b true))
                                      (T.ite false (T.leaf (AV.b false))
                                        (T.ob
                                          ((VCall P) g_laws_markFloat32S [AV.sl (Tag.own 800000) 0 (Cont.f FloatKind.f32 a), AV.i IntKind.i64 1]
                                              (AV.bx Tag.nil [AV.i IntKind.i64 (1 + (↑(List.length a) : Int)), AV.tup [AV.sl (Tag.own 800000) 0 (Cont.f FloatKind.f32 (marksM (List.length a) 1)), AV.i IntKind.i64 1]]) ∧
                                            List.length a = List.length (marksM (List.length a) 1) ∧ List.length a = List.length (marksM (List.length a) 1) ∧ True)
                                          (T.ob
                                            ((VCall P) g_laws_markFloat32S [AV.sl (Tag.own 800000) 0 (Cont.f FloatKind.f32 b), AV.i IntKind.i64 (1 + (↑(List.length a) : Int))]
                                                (AV.bx Tag.nil
                                                  [AV.i IntKind.i64 (1 + (↑(List.length a) : Int) + (↑(List.length b) : Int)),
                                                    AV.tup [AV.sl (Tag.own 800000) 0 (Cont.f FloatKind.f32 (marksM (List.length b) (1 + (↑(List.length a) : Int)))), AV.i IntKind.i64 (1 + (↑(List.length a) : Int))]]) ∧
                                              List.length b = List.length (marksM (List.length b) (1 + (↑(List.length a) : Int))) ∧ List.length b = List.length (marksM (List.length b) (1 + (↑(List.length a) : Int))) ∧ True)
                                            (T.ite false (T.leaf (AV.b false))
                                              (T.ob
                                                ((VCall P) g_laws_eqFloat32S
                                                  [AV.sl (Tag.par [0]) 0 (Cont.f FloatKind.f32 (if crossOk a b most = true then crossM a b (Int.toNat most) else [])),
                                                    AV.sl (Tag.par [1]) 0 (Cont.f FloatKind.f32 (if crossOk a b most = true then crossM a b (Int.toNat most) else []))]
                                                  (AV.b true))
                                                (T.ite false (T.leaf (AV.b false))
                                                  (T.ite (!crossOk a b most == crossOk a b most) (T.leaf (AV.b false))
                                                    (T.ob
                                                      ((VCall P) g_laws_markFloat32S [AV.sl (Tag.own 800000) 0 (Cont.f FloatKind.f32 (if crossOk a b most = true then crossM a b (Int.toNat most) else [])), AV.i IntKind.i64 1]
                                                          (AV.bx Tag.nil
                                                            [AV.i IntKind.i64 (1 + (↑(List.length (if crossOk a b most = true then crossM a b (Int.toNat most) else [])) : Int)),
                                                              AV.tup
                                                                [AV.sl (Tag.own 800000) 0 (Cont.f FloatKind.f32 (marksM (List.length (if crossOk a b most = true then crossM a b (Int.toNat most) else [])) 1)),
                                                                  AV.i IntKind.i64 1]]) ∧
                                                        List.length (if crossOk a b most = true then crossM a b (Int.toNat most) else []) =
                                                            List.length (marksM (List.length (if crossOk a b most = true then crossM a b (Int.toNat most) else [])) 1) ∧
                                                          List.length (if crossOk a b most = true then crossM a b (Int.toNat most) else []) =
                                                              List.length (marksM (List.length (if crossOk a b most = true then crossM a b (Int.toNat most) else [])) 1) ∧
                                                            True)
                                                      (T.ob
                                                        ((VCall P) g_laws_heldFloat32S
                                                          [AV.sl (Tag.par [0]) 0 (Cont.f FloatKind.f32 (marksM (List.length (if crossOk a b most = true then crossM a b (Int.toNat most) else [])) 1)), AV.i IntKind.i64 1]
                                                          (AV.i IntKind.i64 (1 + (↑(List.length (marksM (List.length (if crossOk a b most = true then crossM a b (Int.toNat most) else [])) 1)) : Int))))
                                                        (T.ite false (T.leaf (AV.b false))
                                                          (T.ite
                                                            (1 + (↑(List.length (marksM (List.length (if crossOk a b most = true then crossM a b (Int.toNat most) else [])) 1)) : Int) !=
                                                              1 + (↑(List.length (if crossOk a b most = true then crossM a b (Int.toNat most) else [])) : Int))
                                                            (T.leaf (AV.b false))
                                                            (T.ob ((VCall P) g_laws_toFloat32S [AV.sl (Tag.par [0]) 0 (Cont.f FloatKind.f32 a)] (AV.sl (Tag.own 0) 0 (Cont.f FloatKind.f32 a)))
                                                              (T.ob ((VCall P) g_laws_toFloat32S [AV.sl (Tag.par [0]) 0 (Cont.f FloatKind.f32 b)] (AV.sl (Tag.own 0) 0 (Cont.f FloatKind.f32 b)))
                                                                (T.ob
                                                                  ((VCall P) g_impl_CrossLikes [AV.sl (Tag.par [0]) 0 (Cont.f FloatKind.f32 a), AV.sl (Tag.par [1]) 0 (Cont.f FloatKind.f32 b), AV.i IntKind.i64 most]
                                                                    (AV.tup [AV.sl (Tag.own 0) 0 (Cont.f FloatKind.f32 (if crossOk a b most = true then crossM a b (Int.toNat most) else [])), AV.b (crossOk a b most)]))
                                                                  (T.ob
                                                                    ((VCall P) g_laws_eqFloat32S
                                                                      [AV.sl (Tag.par [0]) 0 (Cont.f FloatKind.f32 (if crossOk a b most = true then crossM a b (Int.toNat most) else [])),
                                                                        AV.sl (Tag.par [1]) 0 (Cont.f FloatKind.f32 (if crossOk a b most = true then crossM a b (Int.toNat most) else []))]
                                                                      (AV.b true))
                                                                    (T.ite false (T.leaf (AV.b false))
                                                                      (T.ite (!crossOk a b most == crossOk a b most) (T.leaf (AV.b false))
                                                                        (T.ob
                                                                          ((VCall P) g_laws_heldFloat32S
                                                                            [AV.sl (Tag.par [0]) 0 (Cont.f FloatKind.f32 (marksM (List.length (if crossOk a b most = true then crossM a b (Int.toNat most) else [])) 1)),
                                                                              AV.i IntKind.i64 1]
                                                                            (AV.i IntKind.i64 (1 + (↑(List.length (marksM (List.length (if crossOk a b most = true then crossM a b (Int.toNat most) else [])) 1)) : Int))))
                                                                          (T.ite false (T.leaf (AV.b false))
                                                                            (T.ite
                                                                              (1 + (↑(List.length (marksM (List.length (if crossOk a b most = true then crossM a b (Int.toNat most) else [])) 1)) : Int) !=
                                                                                1 + (↑(List.length (if crossOk a b most = true then crossM a b (Int.toNat most) else [])) : Int))
                                                                              (T.leaf (AV.b false)) (T.leaf (AV.b true))))))))))))))))))))))))))))))))))))))) :
    VCall P g_f [PS [0] .f32 a, PS [1] .f32 b, .i .i64 most] (.b true) := h_.call_of ps_laws_FnExactCrossLikes ⟨oc_laws_FnExactCrossLikes a b most, fun _ _ => none⟩ (by kernel_rfl) ht

-- END laws_FnExactCrossLikes


theorem k_laws_FnExactCrossLikes {P : Program} {f g_laws_toFloat32S g_spec_CrossLikes g_impl_CrossLikes g_laws_eqFloat32S g_laws_markFloat32S g_laws_heldFloat32S : FuncId} (h : Is_laws_FnExactCrossLikes P f g_laws_toFloat32S g_spec_CrossLikes g_impl_CrossLikes g_laws_eqFloat32S g_laws_markFloat32S g_laws_heldFloat32S) (c1 : C_laws_toFloat32S P g_laws_toFloat32S) (c2 : C_spec_CrossLikes P g_spec_CrossLikes) (c3 : C_impl_CrossLikes P g_impl_CrossLikes) (c4 : C_laws_eqFloat32S P g_laws_eqFloat32S) (c5 : C_laws_markFloat32S P g_laws_markFloat32S) (c6 : C_laws_heldFloat32S P g_laws_heldFloat32S) : C_laws_FnExactCrossLikes P f := by
  intro a b most hx hy
  refine q_laws_FnExactCrossLikes h a b most ?_
  have hR : (if crossOk a b most = true then crossM a b most.toNat else []).length ≤ 33 := by
    split
    · rename_i h
      unfold crossOk at h; simp only [Bool.and_eq_true, decide_eq_true_eq] at h
      have : 0 ≤ most ∧ most ≤ 16 := by simpa [inM] using h.2.1
      rw [cross_len]; omega
    · simp
  have b3 := c2 a b most hx hy
  have b4 := c3 a b most hx hy
  generalize (if crossOk a b most = true then crossM a b most.toNat else []) = R at *
  repeat' (first | with_reducible refine T.ok_ob ?_ (fun _ => ?_) | with_reducible refine T.ok_ite (fun _ => ?_) (fun _ => ?_) | with_reducible refine T.ok_leaf ?_)
  all_goals (try simp only [decide_eq_true_eq, decide_eq_false_iff_not, sz_lt, gt_iff_lt, Int.not_lt, Bool.not_beq_self, bne_self_eq_false, beq_self_eq_true] at *)
  all_goals (try simp (disch := omega) only [sz_val] at *)
  all_goals first | with_reducible rfl | with_reducible assumption | ((with_reducible refine c1 _ ?_) <;> (first | assumption | omega | with_reducible rfl | (simp [maxLen_eq]; done) | (simp [maxLen_eq]; omega))) | ((with_reducible refine c2 _ _ _ ?_ ?_) <;> (first | assumption | omega | with_reducible rfl | (simp [maxLen_eq]; done) | (simp [maxLen_eq]; omega))) | ((with_reducible refine c3 _ _ _ ?_ ?_) <;> (first | assumption | omega | with_reducible rfl | (simp [maxLen_eq]; done) | (simp [maxLen_eq]; omega))) | ((with_reducible refine c4 _ _ rfl ?_) <;> (first | assumption | omega | with_reducible rfl | (simp [maxLen_eq]; done) | (simp [maxLen_eq]; omega))) | ((with_reducible refine ⟨c5 _ _ ?_ ?_, ?_⟩) <;> first | assumption | omega | (simp [marks_len]; done) | (simp [marks_len]; omega)) | ((with_reducible refine c6 _ _ _ rfl ?_ ?_) <;> (first | assumption | omega | with_reducible rfl | (simp [maxLen_eq]; done) | (simp [maxLen_eq]; omega))) | contradiction | exact fconvOk_32_64 _ | assumption | exact rfl | (simp only [marks_len, bne_self_eq_false, Bool.false_eq_true] at *; done) | (simp_all [marks_len]; done) | (simp_all [T.ok, marks_len]; omega)

end Go.Proofs.LV
