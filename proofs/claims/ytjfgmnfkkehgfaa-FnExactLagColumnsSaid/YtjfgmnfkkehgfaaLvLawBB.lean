/- The law FnExactLagColumns. -/
import Derived.Test.YtjfgmnfkkehgfaaLvLawBX
import Derived.Test.YtjfgmnfkkehgfaaLvFnII
namespace Go.Proofs.LV
open Go
set_option linter.unusedVariables false
set_option linter.unusedSimpArgs false

theorem tot_cons (r : List Nat) (xss : LL) : ∀ n, totN (r :: xss) (n + 1) = r.length + totN xss n
  | 0 => by simp [totN, accN]
  | n + 1 => by rw [totN_succ, tot_cons r xss n, totN_succ]; simp; omega
theorem tot_le (xss : LL) (k : Nat) (h : ∀ r ∈ xss, r.length ≤ k) : totN xss xss.length ≤ k * xss.length := by
  induction xss with
  | nil => simp [totN, accN]
  | cons r xss ih =>
    have := ih (fun r' h' => h r' (by simp [h']))
    have h0 := h r (by simp)
    rw [List.length_cons, tot_cons, Nat.mul_succ]; omega

-- FN laws_FnExactLagColumns
/-- laws.FnExactLagColumns: slots 135, results [.t 4]; calls [23:g_laws_toFloat32S, 25:g_spec_LagColumns, 30:g_laws_toFloat32S, 34:g_impl_LagColumns, 40:g_laws_eqFloat32SS, 45:g_laws_eqFloat32S, 55:g_laws_toFloat32S, 56:g_laws_eqFloat32S, 60:g_laws_markFloat32S, 66:g_laws_eqFloat32SS, 72:g_laws_eqFloat32S, 82:g_laws_markFloat32SS, 85:g_laws_markFloat32S, 88:g_laws_heldFloat32SS, 93:g_laws_heldFloat32S, 101:g_laws_toFloat32S, 103:g_impl_LagColumns, 109:g_laws_eqFloat32SS, 114:g_laws_eqFloat32S, 124:g_laws_heldFloat32SS, 129:g_laws_heldFloat32S]; names [(aA, 0), (aLags, 1), (aA, 2), (aLags, 3), (w0, 5), (w1, 6), (w2, 7), (x0, 8), (g0, 9), (g1, 10), (g2, 11), (k, 12), (m, 13), (q, 14), (h0, 15), (h1, 16), (h2, 17)] -/
def ps_laws_FnExactLagColumns : List Nat := [0, 1, 4, 5, 6, 7, 8, 9, 10, 11, 12, 13, 14, 15, 16, 17, 20, 52, 57, 79, 90, 95, 98, 121, 126, 131, 134]
def b_laws_FnExactLagColumns (g_laws_toFloat32S g_spec_LagColumns g_impl_LagColumns g_laws_eqFloat32SS g_laws_eqFloat32S g_laws_markFloat32S g_laws_markFloat32SS g_laws_heldFloat32SS g_laws_heldFloat32S : FuncId) : VCode :=
  (.seq
   (.region false [
    ⟨some 4, .mv, [.k (.b false)], none⟩])
   (.seq
    (.seq
     (.region false [
      ⟨some 18, .mv, [.t 0], none⟩,
      ⟨some 19, .len, [.t 18], none⟩,
      ⟨some 20, (.bin .gtr), [.t 19, .k (.i .i64 1048576)], none⟩])
     (.cond (.t 20)
      (.seq
       (.region false [
        ⟨some 4, .mv, [.k (.b true)], none⟩])
       .ret)
      .skip))
    (.seq
     (.region false [
      ⟨some 22, .mv, [.t 0], none⟩,
      ⟨some 23, (.call g_laws_toFloat32S), [.t 22], none⟩,
      ⟨some 24, .mv, [.t 1], none⟩,
      ⟨some 25, (.call g_spec_LagColumns), [.t 23, .t 24], none⟩,
      ⟨some 21, .mv, [.t 25], none⟩,
      ⟨some 26, (.extract 0), [.t 21], none⟩,
      ⟨some 27, (.extract 1), [.t 21], none⟩,
      ⟨some 28, (.extract 2), [.t 21], none⟩,
      ⟨some 5, .mv, [.t 26], none⟩,
      ⟨some 6, .mv, [.t 27], none⟩,
      ⟨some 7, .mv, [.t 28], none⟩])
     (.seq
      (.region false [
       ⟨some 29, .mv, [.t 0], none⟩,
       ⟨some 30, (.call g_laws_toFloat32S), [.t 29], none⟩,
       ⟨some 8, .mv, [.t 30], none⟩])
      (.seq
       (.region false [
        ⟨some 32, .mv, [.t 8], none⟩,
        ⟨some 33, .mv, [.t 1], none⟩,
        ⟨some 34, (.call g_impl_LagColumns), [.t 32, .t 33], none⟩,
        ⟨some 31, .mv, [.t 34], none⟩,
        ⟨some 35, (.extract 0), [.t 31], none⟩,
        ⟨some 36, (.extract 1), [.t 31], none⟩,
        ⟨some 37, (.extract 2), [.t 31], none⟩,
        ⟨some 9, .mv, [.t 35], none⟩,
        ⟨some 10, .mv, [.t 36], none⟩,
        ⟨some 11, .mv, [.t 37], none⟩])
       (.seq
        (.seq
         (.region false [
          ⟨some 38, .mv, [.t 9], none⟩,
          ⟨some 39, .mv, [.t 5], none⟩,
          ⟨some 40, (.call g_laws_eqFloat32SS), [.t 38, .t 39], none⟩,
          ⟨some 41, .not, [.t 40], none⟩,
          ⟨some 42, .mv, [.t 41], none⟩,
          ⟨some 43, .mv, [.t 10], some (42, false)⟩,
          ⟨some 44, .mv, [.t 6], some (42, false)⟩,
          ⟨some 45, (.call g_laws_eqFloat32S), [.t 43, .t 44], some (42, false)⟩,
          ⟨some 46, .not, [.t 45], some (42, false)⟩,
          ⟨some 47, .pick, [.t 42, .k (.b true), .t 46], none⟩,
          ⟨some 48, .mv, [.t 47], none⟩,
          ⟨some 49, .mv, [.t 11], some (48, false)⟩,
          ⟨some 50, .mv, [.t 7], some (48, false)⟩,
          ⟨some 51, (.binb .neq), [.t 49, .t 50], some (48, false)⟩,
          ⟨some 52, .pick, [.t 48, .k (.b true), .t 51], none⟩])
         (.cond (.t 52)
          (.seq
           (.region false [
            ⟨some 4, .mv, [.k (.b false)], none⟩])
           .ret)
          .skip))
        (.seq
         (.seq
          (.region false [
           ⟨some 53, .mv, [.t 8], none⟩,
           ⟨some 54, .mv, [.t 0], none⟩,
           ⟨some 55, (.call g_laws_toFloat32S), [.t 54], none⟩,
           ⟨some 56, (.call g_laws_eqFloat32S), [.t 53, .t 55], none⟩,
           ⟨some 57, .not, [.t 56], none⟩])
          (.cond (.t 57)
           (.seq
            (.region false [
             ⟨some 4, .mv, [.k (.b false)], none⟩])
            .ret)
           .skip))
         (.seq
          (.region false [
           ⟨some 12, .mv, [.k (.i .i64 1)], none⟩])
          (.seq
           (.region false [
            ⟨some 58, .mv, [.t 8], none⟩,
            ⟨some 59, .mv, [.t 12], none⟩,
            ⟨some 60, (.call g_laws_markFloat32S), [.t 58, .t 59], none⟩,
            ⟨some 12, .mv, [.t 60], none⟩])
           (.seq
            (.seq
             (.region false [
              ⟨some 61, .mv, [.t 12], none⟩,
              ⟨some 62, (.bin .lss), [.t 61, .k (.i .i64 0)], none⟩,
              ⟨some 63, .mv, [.t 62], none⟩,
              ⟨some 64, .mv, [.t 9], some (63, false)⟩,
              ⟨some 65, .mv, [.t 5], some (63, false)⟩,
              ⟨some 66, (.call g_laws_eqFloat32SS), [.t 64, .t 65], some (63, false)⟩,
              ⟨some 67, .not, [.t 66], some (63, false)⟩,
              ⟨some 68, .pick, [.t 63, .k (.b true), .t 67], none⟩,
              ⟨some 69, .mv, [.t 68], none⟩,
              ⟨some 70, .mv, [.t 10], some (69, false)⟩,
              ⟨some 71, .mv, [.t 6], some (69, false)⟩,
              ⟨some 72, (.call g_laws_eqFloat32S), [.t 70, .t 71], some (69, false)⟩,
              ⟨some 73, .not, [.t 72], some (69, false)⟩,
              ⟨some 74, .pick, [.t 69, .k (.b true), .t 73], none⟩,
              ⟨some 75, .mv, [.t 74], none⟩,
              ⟨some 76, .mv, [.t 11], some (75, false)⟩,
              ⟨some 77, .mv, [.t 7], some (75, false)⟩,
              ⟨some 78, (.binb .neq), [.t 76, .t 77], some (75, false)⟩,
              ⟨some 79, .pick, [.t 75, .k (.b true), .t 78], none⟩])
             (.cond (.t 79)
              (.seq
               (.region false [
                ⟨some 4, .mv, [.k (.b false)], none⟩])
               .ret)
              .skip))
            (.seq
             (.region false [
              ⟨some 13, .mv, [.k (.i .i64 1)], none⟩])
             (.seq
              (.region false [
               ⟨some 80, .mv, [.t 9], none⟩,
               ⟨some 81, .mv, [.t 13], none⟩,
               ⟨some 82, (.call g_laws_markFloat32SS), [.t 80, .t 81], none⟩,
               ⟨some 13, .mv, [.t 82], none⟩])
              (.seq
               (.region false [
                ⟨some 83, .mv, [.t 10], none⟩,
                ⟨some 84, .mv, [.t 13], none⟩,
                ⟨some 85, (.call g_laws_markFloat32S), [.t 83, .t 84], none⟩,
                ⟨some 13, .mv, [.t 85], none⟩])
               (.seq
                (.region false [
                 ⟨some 14, .mv, [.k (.i .i64 1)], none⟩])
                (.seq
                 (.region false [
                  ⟨some 86, .mv, [.t 9], none⟩,
                  ⟨some 87, .mv, [.t 14], none⟩,
                  ⟨some 88, (.call g_laws_heldFloat32SS), [.t 86, .t 87], none⟩,
                  ⟨some 14, .mv, [.t 88], none⟩])
                 (.seq
                  (.seq
                   (.region false [
                    ⟨some 89, .mv, [.t 14], none⟩,
                    ⟨some 90, (.bin .lss), [.t 89, .k (.i .i64 0)], none⟩])
                   (.cond (.t 90)
                    (.seq
                     (.region false [
                      ⟨some 4, .mv, [.k (.b false)], none⟩])
                     .ret)
                    .skip))
                  (.seq
                   (.region false [
                    ⟨some 91, .mv, [.t 10], none⟩,
                    ⟨some 92, .mv, [.t 14], none⟩,
                    ⟨some 93, (.call g_laws_heldFloat32S), [.t 91, .t 92], none⟩,
                    ⟨some 14, .mv, [.t 93], none⟩])
                   (.seq
                    (.seq
                     (.region false [
                      ⟨some 94, .mv, [.t 14], none⟩,
                      ⟨some 95, (.bin .lss), [.t 94, .k (.i .i64 0)], none⟩])
                     (.cond (.t 95)
                      (.seq
                       (.region false [
                        ⟨some 4, .mv, [.k (.b false)], none⟩])
                       .ret)
                      .skip))
                    (.seq
                     (.seq
                      (.region false [
                       ⟨some 96, .mv, [.t 14], none⟩,
                       ⟨some 97, .mv, [.t 13], none⟩,
                       ⟨some 98, (.bin .neq), [.t 96, .t 97], none⟩])
                      (.cond (.t 98)
                       (.seq
                        (.region false [
                         ⟨some 4, .mv, [.k (.b false)], none⟩])
                        .ret)
                       .skip))
                     (.seq
                      (.region false [
                       ⟨some 100, .mv, [.t 0], none⟩,
                       ⟨some 101, (.call g_laws_toFloat32S), [.t 100], none⟩,
                       ⟨some 102, .mv, [.t 1], none⟩,
                       ⟨some 103, (.call g_impl_LagColumns), [.t 101, .t 102], none⟩,
                       ⟨some 99, .mv, [.t 103], none⟩,
                       ⟨some 104, (.extract 0), [.t 99], none⟩,
                       ⟨some 105, (.extract 1), [.t 99], none⟩,
                       ⟨some 106, (.extract 2), [.t 99], none⟩,
                       ⟨some 15, .mv, [.t 104], none⟩,
                       ⟨some 16, .mv, [.t 105], none⟩,
                       ⟨some 17, .mv, [.t 106], none⟩])
                      (.seq
                       (.seq
                        (.region false [
                         ⟨some 107, .mv, [.t 15], none⟩,
                         ⟨some 108, .mv, [.t 5], none⟩,
                         ⟨some 109, (.call g_laws_eqFloat32SS), [.t 107, .t 108], none⟩,
                         ⟨some 110, .not, [.t 109], none⟩,
                         ⟨some 111, .mv, [.t 110], none⟩,
                         ⟨some 112, .mv, [.t 16], some (111, false)⟩,
                         ⟨some 113, .mv, [.t 6], some (111, false)⟩,
                         ⟨some 114, (.call g_laws_eqFloat32S), [.t 112, .t 113], some (111, false)⟩,
                         ⟨some 115, .not, [.t 114], some (111, false)⟩,
                         ⟨some 116, .pick, [.t 111, .k (.b true), .t 115], none⟩,
                         ⟨some 117, .mv, [.t 116], none⟩,
                         ⟨some 118, .mv, [.t 17], some (117, false)⟩,
                         ⟨some 119, .mv, [.t 7], some (117, false)⟩,
                         ⟨some 120, (.binb .neq), [.t 118, .t 119], some (117, false)⟩,
                         ⟨some 121, .pick, [.t 117, .k (.b true), .t 120], none⟩])
                        (.cond (.t 121)
                         (.seq
                          (.region false [
                           ⟨some 4, .mv, [.k (.b false)], none⟩])
                          .ret)
                         .skip))
                       (.seq
                        (.region false [
                         ⟨some 14, .mv, [.k (.i .i64 1)], none⟩])
                        (.seq
                         (.region false [
                          ⟨some 122, .mv, [.t 9], none⟩,
                          ⟨some 123, .mv, [.t 14], none⟩,
                          ⟨some 124, (.call g_laws_heldFloat32SS), [.t 122, .t 123], none⟩,
                          ⟨some 14, .mv, [.t 124], none⟩])
                         (.seq
                          (.seq
                           (.region false [
                            ⟨some 125, .mv, [.t 14], none⟩,
                            ⟨some 126, (.bin .lss), [.t 125, .k (.i .i64 0)], none⟩])
                           (.cond (.t 126)
                            (.seq
                             (.region false [
                              ⟨some 4, .mv, [.k (.b false)], none⟩])
                             .ret)
                            .skip))
                          (.seq
                           (.region false [
                            ⟨some 127, .mv, [.t 10], none⟩,
                            ⟨some 128, .mv, [.t 14], none⟩,
                            ⟨some 129, (.call g_laws_heldFloat32S), [.t 127, .t 128], none⟩,
                            ⟨some 14, .mv, [.t 129], none⟩])
                           (.seq
                            (.seq
                             (.region false [
                              ⟨some 130, .mv, [.t 14], none⟩,
                              ⟨some 131, (.bin .lss), [.t 130, .k (.i .i64 0)], none⟩])
                             (.cond (.t 131)
                              (.seq
                               (.region false [
                                ⟨some 4, .mv, [.k (.b false)], none⟩])
                               .ret)
                              .skip))
                            (.seq
                             (.seq
                              (.region false [
                               ⟨some 132, .mv, [.t 14], none⟩,
                               ⟨some 133, .mv, [.t 13], none⟩,
                               ⟨some 134, (.bin .neq), [.t 132, .t 133], none⟩])
                              (.cond (.t 134)
                               (.seq
                                (.region false [
                                 ⟨some 4, .mv, [.k (.b false)], none⟩])
                                .ret)
                               .skip))
                             (.seq
                              (.region false [
                               ⟨some 4, .mv, [.k (.b true)], none⟩])
                              .ret))))))))))))))))))))))))))))

abbrev Is_laws_FnExactLagColumns (P : Program) (g_f : FuncId) (g_laws_toFloat32S g_spec_LagColumns g_impl_LagColumns g_laws_eqFloat32SS g_laws_eqFloat32S g_laws_markFloat32S g_laws_markFloat32SS g_laws_heldFloat32SS g_laws_heldFloat32S : FuncId) : Prop := FnIs P g_f 135 [.t 4] (b_laws_FnExactLagColumns g_laws_toFloat32S g_spec_LagColumns g_impl_LagColumns g_laws_eqFloat32SS g_laws_eqFloat32S g_laws_markFloat32S g_laws_markFloat32SS g_laws_heldFloat32SS g_laws_heldFloat32S)

abbrev C_laws_FnExactLagColumns (P : Program) (g_f : FuncId) : Prop := ∀ (a : List Nat) (n : Int) (ha : a.length ≤ maxLen), VCall P g_f [PS [0] .f32 a, .i .i64 n] (.b true)
def oc1_laws_FnExactLagColumns (as : List AV) : T AV := match as with | [.sl _ _ (.f .f32 a), .i .i64 n] => .leaf (.b true) | _ => .fail
def oc_laws_FnExactLagColumns (a : List Nat) (n : Int) (d : Nat) (as : List AV) : T AV := match d with | 23 => oc1_laws_toFloat32S as | 25 => oc1_spec_LagColumns as | 30 => oc1_laws_toFloat32S as | 34 => oc1_impl_LagColumns as | 40 => oc1_laws_eqFloat32SS as | 45 => oc1_laws_eqFloat32S as | 55 => oc1_laws_toFloat32S as | 56 => oc1_laws_eqFloat32S as | 60 => oc1_laws_markFloat32S as | 66 => oc1_laws_eqFloat32SS as | 72 => oc1_laws_eqFloat32S as | 82 => oc1_laws_markFloat32SS as | 85 => oc1_laws_markFloat32S as | 88 => oc1_laws_heldFloat32SS as | 93 => oc1_laws_heldFloat32S as | 101 => oc1_laws_toFloat32S as | 103 => oc1_impl_LagColumns as | 109 => oc1_laws_eqFloat32SS as | 114 => oc1_laws_eqFloat32S as | 124 => oc1_laws_heldFloat32SS as | 129 => oc1_laws_heldFloat32S as | _ => .fail



theorem q_laws_FnExactLagColumns {P : Program} {g_f : FuncId} {g_laws_toFloat32S g_spec_LagColumns g_impl_LagColumns g_laws_eqFloat32SS g_laws_eqFloat32S g_laws_markFloat32S g_laws_markFloat32SS g_laws_heldFloat32SS g_laws_heldFloat32S : FuncId} (h_ : Is_laws_FnExactLagColumns P g_f g_laws_toFloat32S g_spec_LagColumns g_impl_LagColumns g_laws_eqFloat32SS g_laws_eqFloat32S g_laws_markFloat32S g_laws_markFloat32SS g_laws_heldFloat32SS g_laws_heldFloat32S) (a : List Nat) (n : Int) (ht : T.ok (fun x_ => x_ = .b true) (
      T.ite (decide ((↑(List.length a) : Int) > 1048576)) (T.leaf (AV.b true))
        (T.ob ((VCall P) g_laws_toFloat32S [AV.sl (Tag.par [0]) 0 (Cont.f FloatKind.f32 a)] (AV.sl (Tag.own 0) 0 (Cont.f FloatKind.f32 a)))
          (T.ob
            ((VCall P) g_spec_LagColumns [AV.sl (Tag.par [0]) 0 (Cont.f FloatKind.f32 a), AV.i IntKind.i64 n]
              (AV.tup
                [AV.nw 0 0 FloatKind.f32 (if lagOk a n = true then lagM a (Int.toNat n) (Int.toNat n) else []) none, AV.sl (Tag.own 1) 0 (Cont.f FloatKind.f32 (if lagOk a n = true then List.drop (Int.toNat n) a else [])),
                  AV.b (lagOk a n)]))
            (T.ob ((VCall P) g_laws_toFloat32S [AV.sl (Tag.par [0]) 0 (Cont.f FloatKind.f32 a)] (AV.sl (Tag.own 0) 0 (Cont.f FloatKind.f32 a)))
              (T.ob
                ((VCall P) g_impl_LagColumns [AV.sl (Tag.par [0]) 0 (Cont.f FloatKind.f32 a), AV.i IntKind.i64 n]
                  (AV.tup
                    [AV.nw 0 0 FloatKind.f32 (if lagOk a n = true then lagM a (Int.toNat n) (Int.toNat n) else []) none, AV.sl (Tag.own 1) 0 (Cont.f FloatKind.f32 (if lagOk a n = true then List.drop (Int.toNat n) a else [])),
                      AV.b (lagOk a n)]))
                (T.ob
                  ((VCall P) g_laws_eqFloat32SS
                    [AV.sl (Tag.par [0]) 0 (Cont.ff FloatKind.f32 (if lagOk a n = true then lagM a (Int.toNat n) (Int.toNat n) else [])),
                      AV.sl (Tag.par [1]) 0 (Cont.ff FloatKind.f32 (if lagOk a n = true then lagM a (Int.toNat n) (Int.toNat n) else []))]
                    (AV.b true))
                  (T.ite false (T.leaf (AV.b false))
                    (T.ob
                      ((VCall P) g_laws_eqFloat32S
                        [AV.sl (Tag.par [0]) 0 (Cont.f FloatKind.f32 (if lagOk a n = true then List.drop (Int.toNat n) a else [])),
                          AV.sl (Tag.par [1]) 0 (Cont.f FloatKind.f32 (if lagOk a n = true then List.drop (Int.toNat n) a else []))]
                        (AV.b true))
                      (T.ite false (T.leaf (AV.b false))
                        (T.ite (!lagOk a n == lagOk a n) (T.leaf (AV.b false))
                          (T.ob ((VCall P) g_laws_toFloat32S [AV.sl (Tag.par [0]) 0 (Cont.f FloatKind.f32 a)] (AV.sl (Tag.own 0) 0 (Cont.f FloatKind.f32 a)))
                            (T.ob ((VCall P) g_laws_eqFloat32S [AV.sl (Tag.par [0]) 0 (Cont.f FloatKind.f32 a), AV.sl (Tag.par [1]) 0 (Cont.f FloatKind.f32 a)] (AV.b true))
                              (T.ite false (T.leaf (AV.b false))
                                (T.ob
                                  ((VCall P) g_laws_markFloat32S [AV.sl (Tag.own 800000) 0 (Cont.f FloatKind.f32 a), AV.i IntKind.i64 1]
                                      (AV.bx Tag.nil [AV.i IntKind.i64 (1 + (↑(List.length a) : Int)), AV.tup [AV.sl (Tag.own 800000) 0 (Cont.f FloatKind.f32 (marksM (List.length a) 1)), AV.i IntKind.i64 1]]) ∧
                                    List.length a = List.length (marksM (List.length a) 1) ∧ List.length a = List.length (marksM (List.length a) 1) ∧ True)
                                  (T.ite false (T.leaf (AV.b false))
                                    (T.ob
                                      ((VCall P) g_laws_eqFloat32SS
                                        [AV.sl (Tag.par [0]) 0 (Cont.ff FloatKind.f32 (if lagOk a n = true then lagM a (Int.toNat n) (Int.toNat n) else [])),
                                          AV.sl (Tag.par [1]) 0 (Cont.ff FloatKind.f32 (if lagOk a n = true then lagM a (Int.toNat n) (Int.toNat n) else []))]
                                        (AV.b true))
                                      (T.ite false (T.leaf (AV.b false))
                                        (T.ob
                                          ((VCall P) g_laws_eqFloat32S
                                            [AV.sl (Tag.par [0]) 0 (Cont.f FloatKind.f32 (if lagOk a n = true then List.drop (Int.toNat n) a else [])),
                                              AV.sl (Tag.par [1]) 0 (Cont.f FloatKind.f32 (if lagOk a n = true then List.drop (Int.toNat n) a else []))]
                                            (AV.b true))
                                          (T.ite false (T.leaf (AV.b false))
                                            (T.ite (!lagOk a n == lagOk a n) (T.leaf (AV.b false))
                                              (T.ob
                                                ((VCall P) g_laws_markFloat32SS [AV.nw 800000 0 FloatKind.f32 (if lagOk a n = true then lagM a (Int.toNat n) (Int.toNat n) else []) none, AV.i IntKind.i64 1]
                                                    (AV.bx Tag.nil
                                                      [AV.i IntKind.i64
                                                          (1 +
                                                            (↑(totN (if lagOk a n = true then lagM a (Int.toNat n) (Int.toNat n) else []) (List.length (if lagOk a n = true then lagM a (Int.toNat n) (Int.toNat n) else []))) :
                                                              Int)),
                                                        AV.tup [AV.nw 800000 0 FloatKind.f32 (marksSS (if lagOk a n = true then lagM a (Int.toNat n) (Int.toNat n) else []) 1) none, AV.i IntKind.i64 1]]) ∧
                                                  List.length (if lagOk a n = true then lagM a (Int.toNat n) (Int.toNat n) else []) =
                                                      List.length (marksSS (if lagOk a n = true then lagM a (Int.toNat n) (Int.toNat n) else []) 1) ∧
                                                    List.length (if lagOk a n = true then lagM a (Int.toNat n) (Int.toNat n) else []) =
                                                        List.length (marksSS (if lagOk a n = true then lagM a (Int.toNat n) (Int.toNat n) else []) 1) ∧
                                                      True)
                                                (T.ob
                                                  ((VCall P) g_laws_markFloat32S
                                                      [AV.sl (Tag.own 800000) 0 (Cont.f FloatKind.f32 (if lagOk a n = true then List.drop (Int.toNat n) a else [])),
                                                        AV.i IntKind.i64
                                                          (1 +
                                                            (↑(totN (if lagOk a n = true then lagM a (Int.toNat n) (Int.toNat n) else []) (List.length (if lagOk a n = true then lagM a (Int.toNat n) (Int.toNat n) else []))) :
                                                              Int))]
                                                      (AV.bx Tag.nil
                                                        [AV.i IntKind.i64
                                                            (1 +
                                                                (↑(totN (if lagOk a n = true then lagM a (Int.toNat n) (Int.toNat n) else [])
                                                                      (List.length (if lagOk a n = true then lagM a (Int.toNat n) (Int.toNat n) else []))) :
                                                                  Int) +
                                                              (↑(List.length (if lagOk a n = true then List.drop (Int.toNat n) a else [])) : Int)),
                                                          AV.tup
                                                            [AV.sl (Tag.own 800000) 0
                                                                (Cont.f FloatKind.f32
                                                                  (marksM (List.length (if lagOk a n = true then List.drop (Int.toNat n) a else []))
                                                                    (1 +
                                                                      (↑(totN (if lagOk a n = true then lagM a (Int.toNat n) (Int.toNat n) else [])
                                                                            (List.length (if lagOk a n = true then lagM a (Int.toNat n) (Int.toNat n) else []))) :
                                                                        Int)))),
                                                              AV.i IntKind.i64
                                                                (1 +
                                                                  (↑(totN (if lagOk a n = true then lagM a (Int.toNat n) (Int.toNat n) else [])
                                                                        (List.length (if lagOk a n = true then lagM a (Int.toNat n) (Int.toNat n) else []))) :
                                                                    Int))]]) ∧
                                                    List.length (if lagOk a n = true then List.drop (Int.toNat n) a else []) =
                                                        List.length
                                                          (marksM (List.length (if lagOk a n = true then List.drop (Int.toNat n) a else []))
                                                            (1 +
                                                              (↑(totN (if lagOk a n = true then lagM a (Int.toNat n) (Int.toNat n) else []) (List.length (if lagOk a n = true then lagM a (Int.toNat n) (Int.toNat n) else []))) :
                                                                Int))) ∧
                                                      List.length (if lagOk a n = true then List.drop (Int.toNat n) a else []) =
                                                          List.length
                                                            (marksM (List.length (if lagOk a n = true then List.drop (Int.toNat n) a else []))
                                                              (1 +
                                                                (↑(totN (if lagOk a n = true then lagM a (Int.toNat n) (Int.toNat n) else [])
                                                                      (List.length (if lagOk a n = true then lagM a (Int.toNat n) (Int.toNat n) else []))) :
                                                                  Int))) ∧
                                                        True)
                                                  (T.ob
                                                    ((VCall P) g_laws_heldFloat32SS [AV.sl (Tag.par [0]) 0 (Cont.ff FloatKind.f32 (marksSS (if lagOk a n = true then lagM a (Int.toNat n) (Int.toNat n) else []) 1)), AV.i IntKind.i64 1]
                                                      (AV.i IntKind.i64
                                                        (1 +
                                                          (↑(totN (marksSS (if lagOk a n = true then lagM a (Int.toNat n) (Int.toNat n) else []) 1)
                                                                (List.length (marksSS (if lagOk a n = true then lagM a (Int.toNat n) (Int.toNat n) else []) 1))) :
                                                            Int))))
                                                    (T.ite false (T.leaf (AV.b false))
                                                      (T.ob
                                                        ((VCall P) g_laws_heldFloat32S
                                                          [AV.sl (Tag.par [0]) 0
                                                              (Cont.f FloatKind.f32
                                                                (marksM (List.length (if lagOk a n = true then List.drop (Int.toNat n) a else []))
                                                                  (1 +
                                                                    (↑(totN (if lagOk a n = true then lagM a (Int.toNat n) (Int.toNat n) else [])
                                                                          (List.length (if lagOk a n = true then lagM a (Int.toNat n) (Int.toNat n) else []))) :
                                                                      Int)))),
                                                            AV.i IntKind.i64
                                                              (1 +
                                                                (↑(totN (marksSS (if lagOk a n = true then lagM a (Int.toNat n) (Int.toNat n) else []) 1)
                                                                      (List.length (marksSS (if lagOk a n = true then lagM a (Int.toNat n) (Int.toNat n) else []) 1))) :
                                                                  Int))]
                                                          (AV.i IntKind.i64
                                                            (1 +
                                                                (↑(totN (marksSS (if lagOk a n = true then lagM a (Int.toNat n) (Int.toNat n) else []) 1)
                                                                      (List.length (marksSS (if lagOk a n = true then lagM a (Int.toNat n) (Int.toNat n) else []) 1))) :
                                                                  Int) +
                                                              (↑(List.length
                                                                    (marksM (List.length (if lagOk a n = true then List.drop (Int.toNat n) a else []))
                                                                      (1 +
                                                                        (↑(totN (if lagOk a n = true then lagM a (Int.toNat n) (Int.toNat n) else [])
                                                                              (List.length (if lagOk a n = true then lagM a (Int.toNat n) (Int.toNat n) else []))) :
                                                                          Int)))) :
                                                                Int))))
                                                        (T.ite false (T.leaf (AV.b false))
                                                          (T.ite
                                                            (1 +
                                                                  (↑(totN (marksSS (if lagOk a n = true then lagM a (Int.toNat n) (Int.toNat n) else []) 1)
                                                                        (List.length (marksSS (if lagOk a n = true then lagM a (Int.toNat n) (Int.toNat n) else []) 1))) :
                                                                    Int) +
                                                                (↑(List.length
                                                                      (marksM (List.length (if lagOk a n = true then List.drop (Int.toNat n) a else []))
                                                                        (1 +
                                                                          (↑(totN (if lagOk a n = true then lagM a (Int.toNat n) (Int.toNat n) else [])
                                                                                (List.length (if lagOk a n = true then lagM a (Int.toNat n) (Int.toNat n) else []))) :
                                                                            Int)))) :
                                                                  Int) !=
                                                              1 +
                                                                  (↑(totN (if lagOk a n = true then lagM a (Int.toNat n) (Int.toNat n) else [])
                                                                        (List.length (if lagOk a n = true then lagM a (Int.toNat n) (Int.toNat n) else []))) :
                                                                    Int) +
                                                                (↑(List.length (if lagOk a n = true then List.drop (Int.toNat n) a else [])) : Int))
                                                            (T.leaf (AV.b false))
                                                            (T.ob ((VCall P) g_laws_toFloat32S [AV.sl (Tag.par [0]) 0 (Cont.f FloatKind.f32 a)] (AV.sl (Tag.own 0) 0 (Cont.f FloatKind.f32 a)))
                                                              (T.ob
                                                                ((VCall P) g_impl_LagColumns [AV.sl (Tag.par [0]) 0 (Cont.f FloatKind.f32 a), AV.i IntKind.i64 n]
                                                                  (AV.tup
                                                                    [AV.nw 0 0 FloatKind.f32 (if lagOk a n = true then lagM a (Int.toNat n) (Int.toNat n) else []) none,
                                                                      AV.sl (Tag.own 1) 0 (Cont.f FloatKind.f32 (if lagOk a n = true then List.drop (Int.toNat n) a else [])), AV.b (lagOk a n)]))
                                                                (T.ob
                                                                  ((VCall P) g_laws_eqFloat32SS
                                                                    [AV.sl (Tag.par [0]) 0 (Cont.ff FloatKind.f32 (if lagOk a n = true then lagM a (Int.toNat n) (Int.toNat n) else [])),
                                                                      AV.sl (Tag.par [1]) 0 (Cont.ff FloatKind.f32 (if lagOk a n = true then lagM a (Int.toNat n) (Int.toNat n) else []))]
                                                                    (AV.b true))
                                                                  (T.ite false (T.leaf (AV.b false))
                                                                    (T.ob
                                                                      ((VCall P) g_laws_eqFloat32S
                                                                        [AV.sl (Tag.par [0]) 0 (Cont.f FloatKind.f32 (if lagOk a n = true then List.drop (Int.toNat n) a else [])),
                                                                          AV.sl (Tag.par [1]) 0 (Cont.f FloatKind.f32 (if lagOk a n = true then List.drop (Int.toNat n) a else []))]
                                                                        (AV.b true))
                                                                      (T.ite false (T.leaf (AV.b false))
                                                                        (T.ite (!lagOk a n == lagOk a n) (T.leaf (AV.b false))
                                                                          (T.ob
                                                                            ((VCall P) g_laws_heldFloat32SS
                                                                              [AV.sl (Tag.par [0]) 0 (Cont.ff FloatKind.f32 (marksSS (if lagOk a n = true then lagM a (Int.toNat n) (Int.toNat n) else []) 1)),
                                                                                AV.i IntKind.i64 1]
                                                                              (AV.i IntKind.i64
                                                                                (1 +
                                                                                  (↑(totN (marksSS (if lagOk a n = true then lagM a (Int.toNat n) (Int.toNat n) else []) 1)
                                                                                        (List.length (marksSS (if lagOk a n = true then lagM a (Int.toNat n) (Int.toNat n) else []) 1))) :
                                                                                    Int))))
                                                                            (T.ite false (T.leaf (AV.b false))
                                                                              (T.ob
                                                                                ((VCall P) g_laws_heldFloat32S
                                                                                  [AV.sl (Tag.par [0]) 0
                                                                                      (Cont.f FloatKind.f32
                                                                                        (marksM (List.length (if lagOk a n = true then List.drop (Int.toNat n) a else []))
                                                                                          (1 +
                                                                                            (↑(totN (if lagOk a n = true then lagM a (Int.toNat n) (Int.toNat n) else [])
                                                                                                  (List.length (if lagOk a n = true then lagM a (Int.toNat n) (Int.toNat n) else []))) :
                                                                                              Int)))),
                                                                                    AV.i IntKind.i64
                                                                                      (1 +
                                                                                        (↑(totN (marksSS (if lagOk a n = true then lagM a (Int.toNat n) (Int.toNat n) else []) 1)
                                                                                              (List.length (marksSS (if lagOk a n = true then lagM a (Int.toNat n) (Int.toNat n) else []) 1))) :
                                                                                          Int))]
                                                                                  (AV.i IntKind.i64
                                                                                    (1 +
                                                                                        (↑(totN (marksSS (if lagOk a n = true then lagM a (Int.toNat n) (Int.toNat n) else []) 1)
                                                                                              (List.length (marksSS (if lagOk a n = true then lagM a (Int.toNat n) (Int.toNat n) else []) 1))) :
                                                                                          Int) +
                                                                                      (↑(List.length
                                                                                            (marksM (List.length (if lagOk a n = true then List.drop (Int.toNat n) a else []))
                                                                                              (1 +
                                                                                                (↑(totN (if lagOk a n = true then lagM a (Int.toNat n) (Int.toNat n) else [])
                                                                                                      (List.length (if lagOk a n = true then lagM a (Int.toNat n) (Int.toNat n) else []))) :
                                                                                                  Int)))) :
                                                                                        Int))))
                                                                                (T.ite false (T.leaf (AV.b false))
                                                                                  (T.ite
                                                                                    (1 +
                                                                                          (↑(totN (marksSS (if lagOk a n = true then lagM a (Int.toNat n) (Int.toNat n) else []) 1)
                                                                                                (List.length (marksSS (if lagOk a n = true then lagM a (Int.toNat n) (Int.toNat n) else []) 1))) :
                                                                                            Int) +
                                                                                        (↑(List.length
                                                                                              (marksM (List.length (if lagOk a n = true then List.drop (Int.toNat n) a else []))
                                                                                                (1 +
                                                                                                  (↑(totN (if lagOk a n = true then lagM a (Int.toNat n) (Int.toNat n) else [])
                                                                                                        (List.length (if lagOk a n = true then lagM a (Int.toNat n) (Int.toNat n) else []))) :
                                                                                                    Int)))) :
                                                                                          Int) !=
                                                                                      1 +
                                                                                          (↑(totN (if lagOk a n = true then lagM a (Int.toNat n) (Int.toNat n) else [])
                                                                                                (List.length (if lagOk a n = true then lagM a (Int.toNat n) (Int.toNat n) else []))) :
                                                                                            Int) +
                                                                                        (↑(List.length (if lagOk a n = true then List.drop (Int.toNat n) a else [])) : Int))
                                                                                    (T.leaf (AV.b false)) (T.leaf (AV.b true)))))))))))))))))))))))))))))))))))))))))) :
    VCall P g_f [PS [0] .f32 a, .i .i64 n] (.b true) := h_.call_of ps_laws_FnExactLagColumns ⟨oc_laws_FnExactLagColumns a n, fun _ _ => none⟩ (by kernel_rfl) ht

-- END laws_FnExactLagColumns

theorem lag_out (a : List Nat) (n : Int) : ((if lagOk a n = true then lagM a n.toNat n.toNat else []).length ≤ 6 ∧ ∀ r ∈ (if lagOk a n = true then lagM a n.toNat n.toNat else []), r.length ≤ 96) ∧ (if lagOk a n = true then a.drop n.toNat else []).length ≤ 96 := by
  split
  · rename_i h
    unfold lagOk at h
    simp only [Bool.and_eq_true, decide_eq_true_eq] at h
    have hl := series_len h.1
    have hi : 1 ≤ n ∧ n ≤ 5 := by simpa [inM] using h.2.1
    refine ⟨⟨by rw [lagM_len]; omega, fun r hr => ?_⟩, by simp; omega⟩
    unfold lagM at hr
    rcases List.mem_cons.1 hr with rfl | hr
    · simp; omega
    · simp only [tab, List.mem_map, List.mem_range] at hr
      obtain ⟨i, _, rfl⟩ := hr
      have := lagRow_len (a := a) (n := n.toNat) (i + 1) (by omega)
      omega
  · simp
theorem k_laws_FnExactLagColumns {P : Program} {f g_laws_toFloat32S g_spec_LagColumns g_impl_LagColumns g_laws_eqFloat32SS g_laws_eqFloat32S g_laws_markFloat32S g_laws_markFloat32SS g_laws_heldFloat32SS g_laws_heldFloat32S : FuncId} (h : Is_laws_FnExactLagColumns P f g_laws_toFloat32S g_spec_LagColumns g_impl_LagColumns g_laws_eqFloat32SS g_laws_eqFloat32S g_laws_markFloat32S g_laws_markFloat32SS g_laws_heldFloat32SS g_laws_heldFloat32S) (c1 : C_laws_toFloat32S P g_laws_toFloat32S) (c2 : C_spec_LagColumns P g_spec_LagColumns) (c3 : C_impl_LagColumns P g_impl_LagColumns) (c4 : C_laws_eqFloat32SS P g_laws_eqFloat32SS) (c5 : C_laws_eqFloat32S P g_laws_eqFloat32S) (c6 : C_laws_markFloat32S P g_laws_markFloat32S) (c7 : C_laws_markFloat32SS P g_laws_markFloat32SS) (c8 : C_laws_heldFloat32SS P g_laws_heldFloat32SS) (c9 : C_laws_heldFloat32S P g_laws_heldFloat32S) : C_laws_FnExactLagColumns P f := by
  intro a n ha
  refine q_laws_FnExactLagColumns h a n ?_
  have hR := lag_out a n
  have b2 := c2 a n ha
  have b3 := c3 a n ha
  generalize (if lagOk a n = true then lagM a n.toNat n.toNat else []) = R at *
  generalize (if lagOk a n = true then a.drop n.toNat else []) = S at *
  have ht := tot_le R 96 hR.1.2
  have hmk := fun k => marksSS_len R k
  have hrw : ∀ r ∈ R, r.length ≤ 4294967296 := fun r h => by have := hR.1.2 r h; omega
  have htm := fun k => totN_marks R k (Nat.le_refl _)
  have b8 : ∀ k : Int, 0 ≤ k ∧ k ≤ 16 → VCall P g_laws_heldFloat32SS [PF [0] (marksSS R k), .i .i64 k] (.i .i64 (k + totN R R.length)) := fun k hk => by
    have := c8 R (marksSS R k) k rfl hk (by omega) (by omega)
    rw [hmk, htm] at this; exact this
  have b7 : ∀ k : Int, 0 ≤ k ∧ k ≤ 16 → _ := fun k hk => c7 R k hk (by omega) (by omega)
  have b9 : ∀ (xs : List Nat) (k : Int), 0 ≤ k ∧ k ≤ 4294967296 → xs.length ≤ 4294967296 → VCall P g_laws_heldFloat32S [PS [0] .f32 (marksM xs.length k), .i .i64 k] (.i .i64 (k + xs.length)) := fun xs k hk hx => by
    have := c9 _ k xs.length rfl hk hx
    rw [marks_len] at this; exact this
  simp only [hmk, htm, marks_len]
  clear hmk htm
  repeat' (first | with_reducible refine T.ok_ob ?_ (fun _ => ?_) | with_reducible refine T.ok_ite (fun _ => ?_) (fun _ => ?_) | with_reducible refine T.ok_leaf ?_)
  all_goals (try simp only [decide_eq_true_eq, decide_eq_false_iff_not, sz_lt, gt_iff_lt, Int.not_lt, Bool.not_beq_self, bne_self_eq_false, beq_self_eq_true] at *)
  all_goals first | with_reducible rfl | with_reducible assumption | exact c1 _ (by omega) | exact c4 _ _ rfl (by omega) hrw | exact c5 _ _ rfl (by omega) | exact ⟨c6 _ _ (by omega) (by omega), trivial, trivial, trivial⟩ | exact ⟨b7 _ (by omega), trivial, trivial, trivial⟩ | exact b8 _ (by omega) | exact b9 _ _ (by omega) (by omega) | contradiction | (exfalso; omega) | skip
  all_goals trace_state

end Go.Proofs.LV
