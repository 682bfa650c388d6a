/- The laws FnExactCrossLikes, RankLike. -/
import Derived.Test.YtdjjpckpcfkgiaaLvFnN
import Derived.Test.YtdjjpckpcfkgiaaLvLawB
namespace Go.Proofs.LV
open Go
set_option linter.unusedVariables false
set_option linter.unusedSimpArgs false


-- FN laws_FnExactRankLike
/-- laws.FnExactRankLike: slots 56, results [.t 4]; calls [19:g_laws_toFloat32S, 21:g_laws_toFloat32S, 22:g_spec_RankLike, 26:g_laws_toFloat32S, 28:g_laws_toFloat32S, 32:g_impl_RankLike, 39:g_laws_sameFloat, 48:g_laws_toFloat32S, 49:g_laws_eqFloat32S, 53:g_laws_toFloat32S, 54:g_laws_eqFloat32S]; names [(aA, 0), (aB, 1), (aA, 2), (aB, 3), (w0, 5), (w1, 6), (x0, 7), (x1, 8), (g0, 9), (g1, 10)] -/
def ps_laws_FnExactRankLike : List Nat := [0, 1, 4, 5, 6, 7, 8, 9, 10, 13, 16, 45, 50, 55]
def b_laws_FnExactRankLike (g_laws_toFloat32S g_spec_RankLike g_impl_RankLike g_laws_sameFloat g_laws_eqFloat32S : FuncId) : VCode :=
  (.seq
   (.region false [
    ⟨some 4, .mv, [.k (.b false)], none⟩])
   (.seq
    (.seq
     (.region false [
      ⟨some 11, .mv, [.t 0], none⟩,
      ⟨some 12, .len, [.t 11], none⟩,
      ⟨some 13, (.bin .gtr), [.t 12, .k (.i .i64 1048576)], none⟩])
     (.cond (.t 13)
      (.seq
       (.region false [
        ⟨some 4, .mv, [.k (.b true)], none⟩])
       .ret)
      .skip))
    (.seq
     (.seq
      (.region false [
       ⟨some 14, .mv, [.t 1], none⟩,
       ⟨some 15, .len, [.t 14], none⟩,
       ⟨some 16, (.bin .gtr), [.t 15, .k (.i .i64 1048576)], none⟩])
      (.cond (.t 16)
       (.seq
        (.region false [
         ⟨some 4, .mv, [.k (.b true)], none⟩])
        .ret)
       .skip))
     (.seq
      (.region false [
       ⟨some 18, .mv, [.t 0], none⟩,
       ⟨some 19, (.call g_laws_toFloat32S), [.t 18], none⟩,
       ⟨some 20, .mv, [.t 1], none⟩,
       ⟨some 21, (.call g_laws_toFloat32S), [.t 20], none⟩,
       ⟨some 22, (.call g_spec_RankLike), [.t 19, .t 21], none⟩,
       ⟨some 17, .mv, [.t 22], none⟩,
       ⟨some 23, (.extract 0), [.t 17], none⟩,
       ⟨some 24, (.extract 1), [.t 17], none⟩,
       ⟨some 5, .mv, [.t 23], none⟩,
       ⟨some 6, .mv, [.t 24], none⟩])
      (.seq
       (.region false [
        ⟨some 25, .mv, [.t 0], none⟩,
        ⟨some 26, (.call g_laws_toFloat32S), [.t 25], none⟩,
        ⟨some 7, .mv, [.t 26], none⟩])
       (.seq
        (.region false [
         ⟨some 27, .mv, [.t 1], none⟩,
         ⟨some 28, (.call g_laws_toFloat32S), [.t 27], none⟩,
         ⟨some 8, .mv, [.t 28], none⟩])
        (.seq
         (.region false [
          ⟨some 30, .mv, [.t 7], none⟩,
          ⟨some 31, .mv, [.t 8], none⟩,
          ⟨some 32, (.call g_impl_RankLike), [.t 30, .t 31], none⟩,
          ⟨some 29, .mv, [.t 32], none⟩,
          ⟨some 33, (.extract 0), [.t 29], none⟩,
          ⟨some 34, (.extract 1), [.t 29], none⟩,
          ⟨some 9, .mv, [.t 33], none⟩,
          ⟨some 10, .mv, [.t 34], none⟩])
         (.seq
          (.seq
           (.region false [
            ⟨some 35, .mv, [.t 9], none⟩,
            ⟨some 36, (.convF .f64), [.t 35], none⟩,
            ⟨some 37, .mv, [.t 5], none⟩,
            ⟨some 38, (.convF .f64), [.t 37], none⟩,
            ⟨some 39, (.call g_laws_sameFloat), [.t 36, .t 38], none⟩,
            ⟨some 40, .not, [.t 39], none⟩,
            ⟨some 41, .mv, [.t 40], none⟩,
            ⟨some 42, .mv, [.t 10], some (41, false)⟩,
            ⟨some 43, .mv, [.t 6], some (41, false)⟩,
            ⟨some 44, (.binb .neq), [.t 42, .t 43], some (41, false)⟩,
            ⟨some 45, .pick, [.t 41, .k (.b true), .t 44], none⟩])
           (.cond (.t 45)
            (.seq
             (.region false [
              ⟨some 4, .mv, [.k (.b false)], none⟩])
             .ret)
            .skip))
          (.seq
           (.seq
            (.region false [
             ⟨some 46, .mv, [.t 7], none⟩,
             ⟨some 47, .mv, [.t 0], none⟩,
             ⟨some 48, (.call g_laws_toFloat32S), [.t 47], none⟩,
             ⟨some 49, (.call g_laws_eqFloat32S), [.t 46, .t 48], none⟩,
             ⟨some 50, .not, [.t 49], none⟩])
            (.cond (.t 50)
             (.seq
              (.region false [
               ⟨some 4, .mv, [.k (.b false)], none⟩])
              .ret)
             .skip))
           (.seq
            (.seq
             (.region false [
              ⟨some 51, .mv, [.t 8], none⟩,
              ⟨some 52, .mv, [.t 1], none⟩,
              ⟨some 53, (.call g_laws_toFloat32S), [.t 52], none⟩,
              ⟨some 54, (.call g_laws_eqFloat32S), [.t 51, .t 53], none⟩,
              ⟨some 55, .not, [.t 54], none⟩])
             (.cond (.t 55)
              (.seq
               (.region false [
                ⟨some 4, .mv, [.k (.b false)], none⟩])
               .ret)
              .skip))
            (.seq
             (.region false [
              ⟨some 4, .mv, [.k (.b true)], none⟩])
             .ret)))))))))))

abbrev Is_laws_FnExactRankLike (P : Program) (g_f : FuncId) (g_laws_toFloat32S g_spec_RankLike g_impl_RankLike g_laws_sameFloat g_laws_eqFloat32S : FuncId) : Prop := FnIs P g_f 56 [.t 4] (b_laws_FnExactRankLike g_laws_toFloat32S g_spec_RankLike g_impl_RankLike g_laws_sameFloat g_laws_eqFloat32S)

abbrev C_laws_FnExactRankLike (P : Program) (g_f : FuncId) : Prop := ∀ (a : List Nat) (b : List Nat) (hx : a.length ≤ maxLen) (hy : b.length ≤ maxLen), VCall P g_f [PS [0] .f32 a, PS [1] .f32 b] (.b true)
def oc1_laws_FnExactRankLike (as : List AV) : T AV := match as with | [.sl _ _ (.f .f32 a), .sl _ _ (.f .f32 b)] => .leaf (.b true) | _ => .fail
def oc_laws_FnExactRankLike (a : List Nat) (b : List Nat) (d : Nat) (as : List AV) : T AV := match d with | 19 => oc1_laws_toFloat32S as | 21 => oc1_laws_toFloat32S as | 22 => oc1_spec_RankLike as | 26 => oc1_laws_toFloat32S as | 28 => oc1_laws_toFloat32S as | 32 => oc1_impl_RankLike as | 39 => oc1_laws_sameFloat as | 48 => oc1_laws_toFloat32S as | 49 => oc1_laws_eqFloat32S as | 53 => oc1_laws_toFloat32S as | 54 => oc1_laws_eqFloat32S as | _ => .fail



theorem q_laws_FnExactRankLike {P : Program} {g_f : FuncId} {g_laws_toFloat32S g_spec_RankLike g_impl_RankLike g_laws_sameFloat g_laws_eqFloat32S : FuncId} (h_ : Is_laws_FnExactRankLike P g_f g_laws_toFloat32S g_spec_RankLike g_impl_RankLike g_laws_sameFloat g_laws_eqFloat32S) (a : List Nat) (b : List Nat) (ht : T.ok (fun x_ => x_ = .b true) (
      T.ite (decide ((↑(List.length a) : Int) > 1048576)) (T.leaf (AV.b true))
        (T.ite (decide ((↑(List.length b) : Int) > 1048576)) (T.leaf (AV.b true))
          (T.ob ((VCall P) g_laws_toFloat32S [AV.sl (Tag.par [0]) 0 (Cont.f FloatKind.f32 a)] (AV.sl (Tag.own 0) 0 (Cont.f FloatKind.f32 a)))
            (T.ob ((VCall P) g_laws_toFloat32S [AV.sl (Tag.par [0]) 0 (Cont.f FloatKind.f32 b)] (AV.sl (Tag.own 0) 0 (Cont.f FloatKind.f32 b)))
              (T.ob ((VCall P) g_spec_RankLike [AV.sl (Tag.par [0]) 0 (Cont.f FloatKind.f32 a), AV.sl (Tag.par [1]) 0 (Cont.f FloatKind.f32 b)] (AV.tup [AV.f FloatKind.f32 (if rlOk a b = true then rlM a b else 0), AV.b (rlOk a b)]))
                (T.ob ((VCall P) g_laws_toFloat32S [AV.sl (Tag.par [0]) 0 (Cont.f FloatKind.f32 a)] (AV.sl (Tag.own 0) 0 (Cont.f FloatKind.f32 a)))
                  (T.ob ((VCall P) g_laws_toFloat32S [AV.sl (Tag.par [0]) 0 (Cont.f FloatKind.f32 b)] (AV.sl (Tag.own 0) 0 (Cont.f FloatKind.f32 b)))
                    (T.ob
                      ((VCall P) g_impl_RankLike [AV.sl (Tag.par [0]) 0 (Cont.f FloatKind.f32 a), AV.sl (Tag.par [1]) 0 (Cont.f FloatKind.f32 b)]
                        (AV.tup [AV.f FloatKind.f32 (if rlOk a b = true then rlM a b else 0), AV.b (rlOk a b)]))
                      (T.ob (fconvOk FloatKind.f32 FloatKind.f64 (if rlOk a b = true then rlM a b else 0) = true)
                        (T.ob (fconvOk FloatKind.f32 FloatKind.f64 (if rlOk a b = true then rlM a b else 0) = true)
                          (T.ob
                            ((VCall P) g_laws_sameFloat
                              [AV.f FloatKind.f64 (fconv FloatKind.f32 FloatKind.f64 (if rlOk a b = true then rlM a b else 0)), AV.f FloatKind.f64 (fconv FloatKind.f32 FloatKind.f64 (if rlOk a b = true then rlM a b else 0))]
                              (AV.b true))
                            (T.ite false (T.leaf (AV.b false))
                              (T.ite (!rlOk a b == rlOk a b) (T.leaf (AV.b false))
                                (T.ob ((VCall P) g_laws_toFloat32S [AV.sl (Tag.par [0]) 0 (Cont.f FloatKind.f32 a)] (AV.sl (Tag.own 0) 0 (Cont.f FloatKind.f32 a)))
                                  (T.ob ((VCall P) g_laws_eqFloat32S [AV.sl (Tag.par [0]) 0 (Cont.f FloatKind.f32 a), AV.sl (Tag.par [1]) 0 (Cont.f FloatKind.f32 a)] (AV.b true))
                                    (T.ite false (T.leaf (AV.b false))
                                      (T.ob ((VCall P) g_laws_toFloat32S [AV.sl (Tag.par [0]) 0 (Cont.f FloatKind.f32 b)] (AV.sl (Tag.own 0) 0 (Cont.f FloatKind.f32 b)))
                                        (T.ob ((VCall P) g_laws_eqFloat32S [AV.sl (Tag.par [0]) 0 (Cont.f FloatKind.f32 b), AV.sl (Tag.par [1]) 0 (Cont.f FloatKind.f32 b)] (AV.b true))
                                          (T.ite false (T.leaf (AV.b false)) (T.leaf (AV.b true)))))))))))))))))))))) :
    VCall P g_f [PS [0] .f32 a, PS [1] .f32 b] (.b true) := h_.call_of ps_laws_FnExactRankLike ⟨oc_laws_FnExactRankLike a b, fun _ _ => none⟩ (by kernel_rfl) ht

-- END laws_FnExactRankLike

theorem k_laws_FnExactRankLike {P : Program} {f g_laws_toFloat32S g_spec_RankLike g_impl_RankLike g_laws_sameFloat g_laws_eqFloat32S : FuncId} (h : Is_laws_FnExactRankLike P f g_laws_toFloat32S g_spec_RankLike g_impl_RankLike g_laws_sameFloat g_laws_eqFloat32S) (c1 : C_laws_toFloat32S P g_laws_toFloat32S) (c2 : C_spec_RankLike P g_spec_RankLike) (c3 : C_impl_RankLike P g_impl_RankLike) (c4 : C_laws_sameFloat P g_laws_sameFloat) (c5 : C_laws_eqFloat32S P g_laws_eqFloat32S) : C_laws_FnExactRankLike P f := by
  intro a b hx hy
  refine q_laws_FnExactRankLike h a b ?_
  repeat' (first | with_reducible refine T.ok_ob ?_ (fun _ => ?_) | with_reducible refine T.ok_ite (fun _ => ?_) (fun _ => ?_) | with_reducible refine T.ok_leaf ?_)
  all_goals (try simp only [decide_eq_true_eq, decide_eq_false_iff_not, sz_lt, gt_iff_lt, Int.not_lt, Bool.not_beq_self, bne_self_eq_false, beq_self_eq_true] at *)
  all_goals (try simp (disch := omega) only [sz_val] at *)
  all_goals first | with_reducible rfl | with_reducible assumption | ((with_reducible refine c1 _ ?_) <;> (first | assumption | omega | with_reducible rfl | (simp [maxLen_eq]; done) | (simp [maxLen_eq]; omega))) | ((with_reducible refine c2 _ _ ?_ ?_) <;> (first | assumption | omega | with_reducible rfl | (simp [maxLen_eq]; done) | (simp [maxLen_eq]; omega))) | ((with_reducible refine c3 _ _ ?_ ?_) <;> (first | assumption | omega | with_reducible rfl | (simp [maxLen_eq]; done) | (simp [maxLen_eq]; omega))) | ((with_reducible refine c4 _ _ ?_) <;> (first | assumption | omega | with_reducible rfl | (simp [maxLen_eq]; done) | (simp [maxLen_eq]; omega))) | ((with_reducible refine c5 _ _ rfl ?_) <;> (first | assumption | omega | with_reducible rfl | (simp [maxLen_eq]; done) | (simp [maxLen_eq]; omega))) | contradiction | exact fconvOk_32_64 _ | assumption | exact rfl | (simp only [marks_len, bne_self_eq_false, Bool.false_eq_true] at *; done) | (simp_all [marks_len]; done) | (simp_all [T.ok, marks_len]; omega)


end Go.Proofs.LV
