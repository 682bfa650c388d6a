/- The laws FnExactHarmonicAt and FnExactTapered. -/
import Derived.Test.YtdjjpckpcfkgiaaLvFnBB
import Derived.Test.YtdjjpckpcfkgiaaLvLawG
namespace Go.Proofs.LV
open Go
set_option linter.unusedVariables false
set_option linter.unusedSimpArgs false

-- FN laws_FnExactTapered
/-- laws.FnExactTapered: slots 98, results [.t 4]; calls [20:g_laws_toFloat32S, 22:g_spec_Tapered, 26:g_laws_toFloat32S, 30:g_impl_Tapered, 35:g_laws_eqFloat32S, 44:g_laws_toFloat32S, 45:g_laws_eqFloat32S, 49:g_laws_markFloat32S, 55:g_laws_eqFloat32S, 65:g_laws_markFloat32S, 68:g_laws_heldFloat32S, 76:g_laws_toFloat32S, 78:g_impl_Tapered, 83:g_laws_eqFloat32S, 92:g_laws_heldFloat32S]; names [(aA, 0), (aKind, 1), (aA, 2), (aKind, 3), (w0, 5), (w1, 6), (x0, 7), (g0, 8), (g1, 9), (k, 10), (m, 11), (q, 12), (h0, 13), (h1, 14)] -/
def ps_laws_FnExactTapered : List Nat := [0, 1, 4, 5, 6, 7, 8, 9, 10, 11, 12, 13, 14, 17, 41, 46, 62, 70, 73, 89, 94, 97]
def b_laws_FnExactTapered (g_laws_toFloat32S g_spec_Tapered g_impl_Tapered g_laws_eqFloat32S g_laws_markFloat32S g_laws_heldFloat32S : FuncId) : VCode :=
  (.seq
   (.region false [
    ⟨some 4, .mv, [.k (.b false)], none⟩])
   (.seq
    (.seq
     (.region false [
      ⟨some 15, .mv, [.t 0], none⟩,
      ⟨some 16, .len, [.t 15], none⟩,
      ⟨some 17, (.bin .gtr), [.t 16, .k (.i .i64 1048576)], none⟩])
     (.cond (.t 17)
      (.seq
       (.region false [
        ⟨some 4, .mv, [.k (.b true)], none⟩])
       .ret)
      .skip))
    (.seq
     (.region false [
      ⟨some 19, .mv, [.t 0], none⟩,
      ⟨some 20, (.call g_laws_toFloat32S), [.t 19], none⟩,
      ⟨some 21, .mv, [.t 1], none⟩,
      ⟨some 22, (.call g_spec_Tapered), [.t 20, .t 21], none⟩,
      ⟨some 18, .mv, [.t 22], none⟩,
      ⟨some 23, (.extract 0), [.t 18], none⟩,
      ⟨some 24, (.extract 1), [.t 18], none⟩,
      ⟨some 5, .mv, [.t 23], none⟩,
      ⟨some 6, .mv, [.t 24], none⟩])
     (.seq
      (.region false [
       ⟨some 25, .mv, [.t 0], none⟩,
       ⟨some 26, (.call g_laws_toFloat32S), [.t 25], none⟩,
       ⟨some 7, .mv, [.t 26], none⟩])
      (.seq
       (.region false [
        ⟨some 28, .mv, [.t 7], none⟩,
        ⟨some 29, .mv, [.t 1], none⟩,
        ⟨some 30, (.call g_impl_Tapered), [.t 28, .t 29], none⟩,
        ⟨some 27, .mv, [.t 30], none⟩,
        ⟨some 31, (.extract 0), [.t 27], none⟩,
        ⟨some 32, (.extract 1), [.t 27], none⟩,
        ⟨some 8, .mv, [.t 31], none⟩,
        ⟨some 9, .mv, [.t 32], none⟩])
       (.seq
        (.seq
         (.region false [
          ⟨some 33, .mv, [.t 8], none⟩,
          ⟨some 34, .mv, [.t 5], none⟩,
          ⟨some 35, (.call g_laws_eqFloat32S), [.t 33, .t 34], none⟩,
          ⟨some 36, .not, [.t 35], none⟩,
          ⟨some 37, .mv, [.t 36], none⟩,
          ⟨some 38, .mv, [.t 9], some (37, false)⟩,
          ⟨some 39, .mv, [.t 6], some (37, false)⟩,
          ⟨some 40, (.binb .neq), [.t 38, .t 39], some (37, false)⟩,
          ⟨some 41, .pick, [.t 37, .k (.b true), .t 40], none⟩])
         (.cond (.t 41)
          (.seq
           (.region false [
            ⟨some 4, .mv, [.k (.b false)], none⟩])
           .ret)
          .skip))
        (.seq
         (.seq
          (.region false [
           ⟨some 42, .mv, [.t 7], none⟩,
           ⟨some 43, .mv, [.t 0], none⟩,
           ⟨some 44, (.call g_laws_toFloat32S), [.t 43], none⟩,
           ⟨some 45, (.call g_laws_eqFloat32S), [.t 42, .t 44], none⟩,
           ⟨some 46, .not, [.t 45], none⟩])
          (.cond (.t 46)
           (.seq
            (.region false [
             ⟨some 4, .mv, [.k (.b false)], none⟩])
            .ret)
           .skip))
         (.seq
          (.region false [
           ⟨some 10, .mv, [.k (.i .i64 1)], none⟩])
          (.seq
           (.region false [
            ⟨some 47, .mv, [.t 7], none⟩,
            ⟨some 48, .mv, [.t 10], none⟩,
            ⟨some 49, (.call g_laws_markFloat32S), [.t 47, .t 48], none⟩,
            ⟨some 10, .mv, [.t 49], none⟩])
           (.seq
            (.seq
             (.region false [
              ⟨some 50, .mv, [.t 10], none⟩,
              ⟨some 51, (.bin .lss), [.t 50, .k (.i .i64 0)], none⟩,
              ⟨some 52, .mv, [.t 51], none⟩,
              ⟨some 53, .mv, [.t 8], some (52, false)⟩,
              ⟨some 54, .mv, [.t 5], some (52, false)⟩,
              ⟨some 55, (.call g_laws_eqFloat32S), [.t 53, .t 54], some (52, false)⟩,
              ⟨some 56, .not, [.t 55], some (52, false)⟩,
              ⟨some 57, .pick, [.t 52, .k (.b true), .t 56], none⟩,
              ⟨some 58, .mv, [.t 57], none⟩,
              ⟨some 59, .mv, [.t 9], some (58, false)⟩,
              ⟨some 60, .mv, [.t 6], some (58, false)⟩,
              ⟨some 61, (.binb .neq), [.t 59, .t 60], some (58, false)⟩,
              ⟨some 62, .pick, [.t 58, .k (.b true), .t 61], none⟩])
             (.cond (.t 62)
              (.seq
               (.region false [
                ⟨some 4, .mv, [.k (.b false)], none⟩])
               .ret)
              .skip))
            (.seq
             (.region false [
              ⟨some 11, .mv, [.k (.i .i64 1)], none⟩])
             (.seq
              (.region false [
               ⟨some 63, .mv, [.t 8], none⟩,
               ⟨some 64, .mv, [.t 11], none⟩,
               ⟨some 65, (.call g_laws_markFloat32S), [.t 63, .t 64], none⟩,
               ⟨some 11, .mv, [.t 65], none⟩])
              (.seq
               (.region false [
                ⟨some 12, .mv, [.k (.i .i64 1)], none⟩])
               (.seq
                (.region false [
                 ⟨some 66, .mv, [.t 8], none⟩,
                 ⟨some 67, .mv, [.t 12], none⟩,
                 ⟨some 68, (.call g_laws_heldFloat32S), [.t 66, .t 67], none⟩,
                 ⟨some 12, .mv, [.t 68], none⟩])
                (.seq
                 (.seq
                  (.region false [
                   ⟨some 69, .mv, [.t 12], none⟩,
                   ⟨some 70, (.bin .lss), [.t 69, .k (.i .i64 0)], none⟩])
                  (.cond (.t 70)
                   (.seq
                    (.region false [
                     ⟨some 4, .mv, [.k (.b false)], none⟩])
                    .ret)
                   .skip))
                 (.seq
                  (.seq
                   (.region false [
                    ⟨some 71, .mv, [.t 12], none⟩,
                    ⟨some 72, .mv, [.t 11], none⟩,
                    ⟨some 73, (.bin .neq), [.t 71, .t 72], none⟩])
                   (.cond (.t 73)
                    (.seq
                     (.region false [
                      ⟨some 4, .mv, [.k (.b false)], none⟩])
                     .ret)
                    .skip))
                  (.seq
                   (.region false [
                    ⟨some 75, .mv, [.t 0], none⟩,
                    ⟨some 76, (.call g_laws_toFloat32S), [.t 75], none⟩,
                    ⟨some 77, .mv, [.t 1], none⟩,
                    ⟨some 78, (.call g_impl_Tapered), [.t 76, .t 77], none⟩,
                    ⟨some 74, .mv, [.t 78], none⟩,
                    ⟨some 79, (.extract 0), [.t 74], none⟩,
                    ⟨some 80, (.extract 1), [.t 74], none⟩,
                    ⟨some 13, .mv, [.t 79], none⟩,
                    ⟨some 14, .mv, [.t 80], none⟩])
                   (.seq
                    (.seq
                     (.region false [
                      ⟨some 81, .mv, [.t 13], none⟩,
                      ⟨some 82, .mv, [.t 5], none⟩,
                      ⟨some 83, (.call g_laws_eqFloat32S), [.t 81, .t 82], none⟩,
                      ⟨some 84, .not, [.t 83], none⟩,
                      ⟨some 85, .mv, [.t 84], none⟩,
                      ⟨some 86, .mv, [.t 14], some (85, false)⟩,
                      ⟨some 87, .mv, [.t 6], some (85, false)⟩,
                      ⟨some 88, (.binb .neq), [.t 86, .t 87], some (85, false)⟩,
                      ⟨some 89, .pick, [.t 85, .k (.b true), .t 88], none⟩])
                     (.cond (.t 89)
                      (.seq
                       (.region false [
                        ⟨some 4, .mv, [.k (.b false)], none⟩])
                       .ret)
                      .skip))
                    (.seq
                     (.region false [
                      ⟨some 12, .mv, [.k (.i .i64 1)], none⟩])
                     (.seq
                      (.region false [
                       ⟨some 90, .mv, [.t 8], none⟩,
                       ⟨some 91, .mv, [.t 12], none⟩,
                       ⟨some 92, (.call g_laws_heldFloat32S), [.t 90, .t 91], none⟩,
                       ⟨some 12, .mv, [.t 92], none⟩])
                      (.seq
                       (.seq
                        (.region false [
                         ⟨some 93, .mv, [.t 12], none⟩,
                         ⟨some 94, (.bin .lss), [.t 93, .k (.i .i64 0)], none⟩])
                        (.cond (.t 94)
                         (.seq
                          (.region false [
                           ⟨some 4, .mv, [.k (.b false)], none⟩])
                          .ret)
                         .skip))
                       (.seq
                        (.seq
                         (.region false [
                          ⟨some 95, .mv, [.t 12], none⟩,
                          ⟨some 96, .mv, [.t 11], none⟩,
                          ⟨some 97, (.bin .neq), [.t 95, .t 96], none⟩])
                         (.cond (.t 97)
                          (.seq
                           (.region false [
                            ⟨some 4, .mv, [.k (.b false)], none⟩])
                           .ret)
                          .skip))
                        (.seq
                         (.region false [
                          ⟨some 4, .mv, [.k (.b true)], none⟩])
                         .ret)))))))))))))))))))))))

abbrev Is_laws_FnExactTapered (P : Program) (g_f : FuncId) (g_laws_toFloat32S g_spec_Tapered g_impl_Tapered g_laws_eqFloat32S g_laws_markFloat32S g_laws_heldFloat32S : FuncId) : Prop := FnIs P g_f 98 [.t 4] (b_laws_FnExactTapered g_laws_toFloat32S g_spec_Tapered g_impl_Tapered g_laws_eqFloat32S g_laws_markFloat32S g_laws_heldFloat32S)

abbrev C_laws_FnExactTapered (P : Program) (g_f : FuncId) : Prop := ∀ (a : List Nat) (kind : Int) (hx : a.length ≤ maxLen), VCall P g_f [PS [0] .f32 a, .i .i64 kind] (.b true)
def oc1_laws_FnExactTapered (as : List AV) : T AV := match as with | [.sl _ _ (.f .f32 a), .i .i64 kind] => .leaf (.b true) | _ => .fail
def oc_laws_FnExactTapered (a : List Nat) (kind : Int) (d : Nat) (as : List AV) : T AV := match d with | 20 => oc1_laws_toFloat32S as | 22 => oc1_spec_Tapered as | 26 => oc1_laws_toFloat32S as | 30 => oc1_impl_Tapered as | 35 => oc1_laws_eqFloat32S as | 44 => oc1_laws_toFloat32S as | 45 => oc1_laws_eqFloat32S as | 49 => oc1_laws_markFloat32S as | 55 => oc1_laws_eqFloat32S as | 65 => oc1_laws_markFloat32S as | 68 => oc1_laws_heldFloat32S as | 76 => oc1_laws_toFloat32S as | 78 => oc1_impl_Tapered as | 83 => oc1_laws_eqFloat32S as | 92 => oc1_laws_heldFloat32S as | _ => .fail



theorem q_laws_FnExactTapered {P : Program} {g_f : FuncId} {g_laws_toFloat32S g_spec_Tapered g_impl_Tapered g_laws_eqFloat32S g_laws_markFloat32S g_laws_heldFloat32S : FuncId} (h_ : Is_laws_FnExactTapered P g_f g_laws_toFloat32S g_spec_Tapered g_impl_Tapered g_laws_eqFloat32S g_laws_markFloat32S g_laws_heldFloat32S) (a : List Nat) (kind : Int) (ht : T.ok (fun x_ => x_ = .b true) (
      T.ite (decide ((↑(List.length a) : Int) > 1048576)) (T.leaf (AV.b true))
        (T.ob ((VCall P) g_laws_toFloat32S [AV.sl (Tag.par [0]) 0 (Cont.f FloatKind.f32 a)] (AV.sl (Tag.own 0) 0 (Cont.f FloatKind.f32 a)))
          (T.ob
            ((VCall P) g_spec_Tapered [AV.sl (Tag.par [0]) 0 (Cont.f FloatKind.f32 a), AV.i IntKind.i64 kind]
              (AV.tup [AV.sl (Tag.own 0) 0 (Cont.f FloatKind.f32 (if tpOk a kind = true then tpM a kind (List.length a) else [])), AV.b (tpOk a kind)]))
            (T.ob ((VCall P) g_laws_toFloat32S [AV.sl (Tag.par [0]) 0 (Cont.f FloatKind.f32 a)] (AV.sl (Tag.own 0) 0 (Cont.f FloatKind.f32 a)))
              (T.ob
                ((VCall P) g_impl_Tapered [AV.sl (Tag.par [0]) 0 (Cont.f FloatKind.f32 a), AV.i IntKind.i64 kind]
                  (AV.tup [AV.sl (Tag.own 0) 0 (Cont.f FloatKind.f32 (if tpOk a kind = true then tpM a kind (List.length a) else [])), AV.b (tpOk a kind)]))
                (T.ob
                  ((VCall P) g_laws_eqFloat32S
                    [AV.sl (Tag.par [0]) 0 (Cont.f FloatKind.f32 (if tpOk a kind = true then tpM a kind (List.length a) else [])),
                      AV.sl (Tag.par [1]) 0 (Cont.f FloatKind.f32 (if tpOk a kind = true then tpM a kind (List.length a) else []))]
                    (AV.b true))
                  (T.ite false (T.leaf (AV.b false))
                    (T.ite (!tpOk a kind == tpOk a kind) (T.leaf (AV.b false))
                      (T.ob ((VCall P) g_laws_toFloat32S [AV.sl (Tag.par [0]) 0 (Cont.f FloatKind.f32 a)] (AV.sl (Tag.own 0) 0 (Cont.f FloatKind.f32 a)))
                        (T.ob ((VCall P) g_laws_eqFloat32S [AV.sl (Tag.par [0]) 0 (Cont.f FloatKind.f32 a), AV.sl (Tag.par [1]) 0 (Cont.f FloatKind.f32 a)] (AV.b true))
                          (T.ite false (T.leaf (AV.b false))
                            (T.ob
                              ((VCall P) g_laws_markFloat32S [AV.sl (Tag.own 800000) 0 (Cont.f FloatKind.f32 a), AV.i IntKind.i64 1]
                                  (AV.bx Tag.nil [AV.i IntKind.i64 (1 + (↑(List.length a) : Int)), AV.tup [AV.sl (Tag.own 800000) 0 (Cont.f FloatKind.f32 (marksM (List.length a) 1)), AV.i IntKind.i64 1]]) ∧
                                List.length a = List.length (marksM (List.length a) 1) ∧ List.length a = List.length (marksM (List.length a) 1) ∧ True)
                              (T.ite false (T.leaf (AV.b false))
                                (T.ob
                                  ((VCall P) g_laws_eqFloat32S
                                    [AV.sl (Tag.par [0]) 0 (Cont.f FloatKind.f32 (if tpOk a kind = true then tpM a kind (List.length a) else [])),
                                      AV.sl (Tag.par [1]) 0 (Cont.f FloatKind.f32 (if tpOk a kind = true then tpM a kind (List.length a) else []))]
                                    (AV.b true))
                                  (T.ite false (T.leaf (AV.b false))
                                    (T.ite (!tpOk a kind == tpOk a kind) (T.leaf (AV.b false))
                                      (T.ob
                                        ((VCall P) g_laws_markFloat32S [AV.sl (Tag.own 800000) 0 (Cont.f FloatKind.f32 (if tpOk a kind = true then tpM a kind (List.length a) else [])), AV.i IntKind.i64 1]
                                            (AV.bx Tag.nil
                                              [AV.i IntKind.i64 (1 + (↑(List.length (if tpOk a kind = true then tpM a kind (List.length a) else [])) : Int)),
                                                AV.tup [AV.sl (Tag.own 800000) 0 (Cont.f FloatKind.f32 (marksM (List.length (if tpOk a kind = true then tpM a kind (List.length a) else [])) 1)), AV.i IntKind.i64 1]]) ∧
                                          List.length (if tpOk a kind = true then tpM a kind (List.length a) else []) = List.length (marksM (List.length (if tpOk a kind = true then tpM a kind (List.length a) else [])) 1) ∧
                                            List.length (if tpOk a kind = true then tpM a kind (List.length a) else []) = List.length (marksM (List.length (if tpOk a kind = true then tpM a kind (List.length a) else [])) 1) ∧
                                              True)
                                        (T.ob
                                          ((VCall P) g_laws_heldFloat32S [AV.sl (Tag.par [0]) 0 (Cont.f FloatKind.f32 (marksM (List.length (if tpOk a kind = true then tpM a kind (List.length a) else [])) 1)), AV.i IntKind.i64 1]
                                            (AV.i IntKind.i64 (1 + (↑(List.length (marksM (List.length (if tpOk a kind = true then tpM a kind (List.length a) else [])) 1)) : Int))))
                                          (T.ite false (T.leaf (AV.b false))
                                            (T.ite
                                              (1 + (↑(List.length (marksM (List.length (if tpOk a kind = true then tpM a kind (List.length a) else [])) 1)) : Int) !=
                                                1 + (↑(List.length (if tpOk a kind = true then tpM a kind (List.length a) else [])) : Int))
                                              (T.leaf (AV.b false))
                                              (T.ob ((VCall P) g_laws_toFloat32S [AV.sl (Tag.par [0]) 0 (Cont.f FloatKind.f32 a)] (AV.sl (Tag.own 0) 0 (Cont.f FloatKind.f32 a)))
                                                (T.ob
                                                  ((VCall P) g_impl_Tapered [AV.sl (Tag.par [0]) 0 (Cont.f FloatKind.f32 a), AV.i IntKind.i64 kind]
                                                    (AV.tup [AV.sl (Tag.own 0) 0 (Cont.f FloatKind.f32 (if tpOk a kind = true then tpM a kind (List.length a) else [])), AV.b (tpOk a kind)]))
                                                  (T.ob
                                                    ((VCall P) g_laws_eqFloat32S
                                                      [AV.sl (Tag.par [0]) 0 (Cont.f FloatKind.f32 (if tpOk a kind = true then tpM a kind (List.length a) else [])),
                                                        AV.sl (Tag.par [1]) 0 (Cont.f FloatKind.f32 (if tpOk a kind = true then tpM a kind (List.length a) else []))]
                                                      (AV.b true))
                                                    (T.ite false (T.leaf (AV.b false))
                                                      (T.ite (!tpOk a kind == tpOk a kind) (T.leaf (AV.b false))
                                                        (T.ob
                                                          ((VCall P) g_laws_heldFloat32S
                                                            [AV.sl (Tag.par [0]) 0 (Cont.f FloatKind.f32 (marksM (List.length (if tpOk a kind = true then tpM a kind (List.length a) else [])) 1)), AV.i IntKind.i64 1]
                                                            (AV.i IntKind.i64 (1 + (↑(List.length (marksM (List.length (if tpOk a kind = true then tpM a kind (List.length a) else [])) 1)) : Int))))
                                                          (T.ite false (T.leaf (AV.b false))
                                                            (T.ite
                                                              (1 + (↑(List.length (marksM (List.length (if tpOk a kind = true then tpM a kind (List.length a) else [])) 1)) : Int) !=
                                                                1 + (↑(List.length (if tpOk a kind = true then tpM a kind (List.length a) else [])) : Int))
                                                              (T.leaf (AV.b false)) (T.leaf (AV.b true))))))))))))))))))))))))))))))) :
    VCall P g_f [PS [0] .f32 a, .i .i64 kind] (.b true) := h_.call_of ps_laws_FnExactTapered ⟨oc_laws_FnExactTapered a kind, fun _ _ => none⟩ (by kernel_rfl) ht

-- END laws_FnExactTapered

theorem k_laws_FnExactTapered {P : Program} {f g_laws_toFloat32S g_spec_Tapered g_impl_Tapered g_laws_eqFloat32S g_laws_markFloat32S g_laws_heldFloat32S : FuncId} (h : Is_laws_FnExactTapered P f g_laws_toFloat32S g_spec_Tapered g_impl_Tapered g_laws_eqFloat32S g_laws_markFloat32S g_laws_heldFloat32S) (c1 : C_laws_toFloat32S P g_laws_toFloat32S) (c2 : C_spec_Tapered P g_spec_Tapered) (c3 : C_impl_Tapered P g_impl_Tapered) (c4 : C_laws_eqFloat32S P g_laws_eqFloat32S) (c5 : C_laws_markFloat32S P g_laws_markFloat32S) (c6 : C_laws_heldFloat32S P g_laws_heldFloat32S) : C_laws_FnExactTapered P f := by
  intro a kind hx
  refine q_laws_FnExactTapered h a kind ?_
  have hR : (if tpOk a kind = true then tpM a kind a.length else []).length ≤ a.length := by split <;> simp [tp_len]
  have b4 := c2 a kind hx
  have b5 := c3 a kind hx
  generalize (if tpOk a kind = true then tpM a kind a.length else []) = R at *
  generalize tpOk a kind = rk at *
  repeat' (first | with_reducible refine T.ok_ob ?_ (fun _ => ?_) | with_reducible refine T.ok_ite (fun _ => ?_) (fun _ => ?_) | with_reducible refine T.ok_leaf ?_)
  all_goals (try simp only [decide_eq_true_eq, decide_eq_false_iff_not, sz_lt, gt_iff_lt, Int.not_lt, Bool.not_beq_self, bne_self_eq_false, beq_self_eq_true] at *)
  all_goals (try simp (disch := omega) only [sz_val] at *)
  all_goals first | with_reducible rfl | with_reducible assumption | ((with_reducible refine c1 _ ?_) <;> (first | assumption | omega | with_reducible rfl | (simp [maxLen_eq]; done) | (simp [maxLen_eq]; omega))) | ((with_reducible refine c2 _ _ ?_) <;> (first | assumption | omega | with_reducible rfl | (simp [maxLen_eq]; done) | (simp [maxLen_eq]; omega))) | ((with_reducible refine c3 _ _ ?_) <;> (first | assumption | omega | with_reducible rfl | (simp [maxLen_eq]; done) | (simp [maxLen_eq]; omega))) | ((with_reducible refine c4 _ _ rfl ?_) <;> (first | assumption | omega | with_reducible rfl | (simp [maxLen_eq]; done) | (simp [maxLen_eq]; omega))) | ((with_reducible refine ⟨c5 _ _ ?_ ?_, ?_⟩) <;> first | assumption | omega | (simp [marks_len]; done) | (simp [marks_len]; omega)) | ((with_reducible refine c6 _ _ _ rfl ?_ ?_) <;> (first | assumption | omega | with_reducible rfl | (simp [maxLen_eq]; done) | (simp [maxLen_eq]; omega))) | contradiction | exact fconvOk_32_64 _ | assumption | exact rfl | (simp only [marks_len, bne_self_eq_false, Bool.false_eq_true] at *; done) | (simp_all [marks_len]; done) | (simp_all [T.ok, marks_len]; omega)


end Go.Proofs.LV
