/- Functions of the program and of the reference that look at shares: what each gives. -/
import Derived.Test.YtplfalnldkbliaaLvEv
import Derived.KernelRfl
namespace Go.Proofs.LV
open Go
set_option linter.unusedVariables false
set_option linter.unusedSimpArgs false

/-- laws.FnExactValidShares: slots 14, results [.t 2], kept [0, 1, 2, 3, 4, 13]; calls [6:g_laws_toShares, 7:g_spec_ValidShares, 9:g_laws_toShares, 10:g_impl_ValidShares]; names [(aH, 0), (aH, 1), (w0, 3), (g0, 4)] -/
def b_laws_FnExactValidShares (g_laws_toShares g_spec_ValidShares g_impl_ValidShares : FuncId) : VCode :=
  (.seq
   (.region false [
    ⟨some 1, .boxN, [.t 0], none⟩,
    ⟨some 2, .mv, [.k (.b false)], none⟩])
   (.seq
    (.region false [
     ⟨some 5, (.loadN 4), [.t 1], none⟩,
     ⟨some 6, (.call g_laws_toShares), [.t 5], none⟩,
     ⟨some 7, (.call g_spec_ValidShares), [.t 6], none⟩,
     ⟨some 3, .mv, [.t 7], none⟩])
    (.seq
     (.region false [
      ⟨some 8, (.loadN 4), [.t 1], none⟩,
      ⟨some 9, (.call g_laws_toShares), [.t 8], none⟩,
      ⟨some 10, (.call g_impl_ValidShares), [.t 9], none⟩,
      ⟨some 4, .mv, [.t 10], none⟩])
     (.seq
      (.seq
       (.region false [
        ⟨some 11, .mv, [.t 4], none⟩,
        ⟨some 12, .mv, [.t 3], none⟩,
        ⟨some 13, (.binb .neq), [.t 11, .t 12], none⟩])
       (.cond (.t 13)
        (.seq
         (.region false [
          ⟨some 2, .mv, [.k (.b false)], none⟩])
         .ret)
        .skip))
      (.seq
       (.region false [
        ⟨some 2, .mv, [.k (.b true)], none⟩])
       .ret)))))

/-- spec.ValidShares: slots 4, results [.t 2], kept [0, 1, 2]; calls [3:g_spec_l04Shares]; names [(h, 0), (h, 1)] -/
def b_spec_ValidShares (g_spec_l04Shares : FuncId) : VCode :=
  (.seq
   (.region false [
    ⟨some 1, .boxN, [.t 0], none⟩,
    ⟨some 2, .mv, [.k (.b false)], none⟩])
   (.seq
    (.region false [
     ⟨some 3, (.call g_spec_l04Shares), [.t 1], none⟩,
     ⟨some 2, .mv, [.t 3], none⟩])
    .ret))

/-- laws.toShares: slots 17, results [.row 2 4], kept [0, 1, 2, 3]; calls []; names [(a, 0), (a, 1), (out, 3)] -/
def b_laws_toShares : VCode :=
  (.seq
   (.region false [
    ⟨some 1, .boxN, [.t 0], none⟩,
    ⟨some 2, (.alloc [(.f .f32 0), (.f .f32 0), (.f .f32 0), (.f .f32 0)]), [], none⟩])
   (.seq
    (.region false [
     ⟨some 3, (.alloc [(.f .f32 0), (.f .f32 0), (.f .f32 0), (.f .f32 0)]), [], none⟩])
    (.seq
     (.region false [
      ⟨some 4, (.faddr 0), [.t 1], none⟩,
      ⟨some 5, .load, [.t 4], none⟩,
      ⟨some 6, (.faddr 0), [.t 3], none⟩,
      ⟨none, .store, [.t 6, .t 5], none⟩])
     (.seq
      (.region false [
       ⟨some 7, (.faddr 1), [.t 1], none⟩,
       ⟨some 8, .load, [.t 7], none⟩,
       ⟨some 9, (.faddr 1), [.t 3], none⟩,
       ⟨none, .store, [.t 9, .t 8], none⟩])
      (.seq
       (.region false [
        ⟨some 10, (.faddr 2), [.t 1], none⟩,
        ⟨some 11, .load, [.t 10], none⟩,
        ⟨some 12, (.faddr 2), [.t 3], none⟩,
        ⟨none, .store, [.t 12, .t 11], none⟩])
       (.seq
        (.region false [
         ⟨some 13, (.faddr 3), [.t 1], none⟩,
         ⟨some 14, .load, [.t 13], none⟩,
         ⟨some 15, (.faddr 3), [.t 3], none⟩,
         ⟨none, .store, [.t 15, .t 14], none⟩])
        (.seq
         (.region false [
          ⟨some 16, (.loadN 4), [.t 3], none⟩,
          ⟨none, (.storeN 4), [.t 2, .t 16], none⟩])
         .ret)))))))

/-- impl.ValidShares: slots 21, results [.t 2], kept [0, 1, 2]; calls [5:g_impl_isShare, 9:g_impl_isShare, 14:g_impl_isShare, 19:g_impl_isShare]; names [(h, 0), (h, 1)] -/
def b_impl_ValidShares (g_impl_isShare : FuncId) : VCode :=
  (.seq
   (.region false [
    ⟨some 1, .boxN, [.t 0], none⟩,
    ⟨some 2, .mv, [.k (.b false)], none⟩])
   (.seq
    (.region false [
     ⟨some 3, (.faddr 0), [.t 1], none⟩,
     ⟨some 4, .load, [.t 3], none⟩,
     ⟨some 5, (.call g_impl_isShare), [.t 4], none⟩,
     ⟨some 6, .mv, [.t 5], none⟩,
     ⟨some 7, (.faddr 1), [.t 1], some (6, true)⟩,
     ⟨some 8, .load, [.t 7], some (6, true)⟩,
     ⟨some 9, (.call g_impl_isShare), [.t 8], some (6, true)⟩,
     ⟨some 10, .pick, [.t 6, .t 9, .k (.b false)], none⟩,
     ⟨some 11, .mv, [.t 10], none⟩,
     ⟨some 12, (.faddr 2), [.t 1], some (11, true)⟩,
     ⟨some 13, .load, [.t 12], some (11, true)⟩,
     ⟨some 14, (.call g_impl_isShare), [.t 13], some (11, true)⟩,
     ⟨some 15, .pick, [.t 11, .t 14, .k (.b false)], none⟩,
     ⟨some 16, .mv, [.t 15], none⟩,
     ⟨some 17, (.faddr 3), [.t 1], some (16, true)⟩,
     ⟨some 18, .load, [.t 17], some (16, true)⟩,
     ⟨some 19, (.call g_impl_isShare), [.t 18], some (16, true)⟩,
     ⟨some 20, .pick, [.t 16, .t 19, .k (.b false)], none⟩,
     ⟨some 2, .mv, [.t 20], none⟩])
    .ret))

/-- spec.l04Shares: slots 29, results [.t 2], kept [0, 2]; calls [7:g_spec_l02Share, 13:g_spec_l02Share, 20:g_spec_l02Share, 27:g_spec_l02Share]; names [(h, 0), (h, 1)] -/
def b_spec_l04Shares (g_spec_l02Share : FuncId) : VCode :=
  (.seq
   (.region false [
    ⟨some 2, .mv, [.k (.b false)], none⟩])
   (.seq
    (.region false [
     ⟨some 3, .mv, [.t 0], none⟩,
     ⟨some 4, .nilck, [.t 3], none⟩,
     ⟨some 5, (.faddr 0), [.t 4], none⟩,
     ⟨some 6, .load, [.t 5], none⟩,
     ⟨some 7, (.call g_spec_l02Share), [.t 6], none⟩,
     ⟨some 8, .mv, [.t 7], none⟩,
     ⟨some 9, .mv, [.t 0], some (8, true)⟩,
     ⟨some 10, .nilck, [.t 9], some (8, true)⟩,
     ⟨some 11, (.faddr 1), [.t 10], some (8, true)⟩,
     ⟨some 12, .load, [.t 11], some (8, true)⟩,
     ⟨some 13, (.call g_spec_l02Share), [.t 12], some (8, true)⟩,
     ⟨some 14, .pick, [.t 8, .t 13, .k (.b false)], none⟩,
     ⟨some 15, .mv, [.t 14], none⟩,
     ⟨some 16, .mv, [.t 0], some (15, true)⟩,
     ⟨some 17, .nilck, [.t 16], some (15, true)⟩,
     ⟨some 18, (.faddr 2), [.t 17], some (15, true)⟩,
     ⟨some 19, .load, [.t 18], some (15, true)⟩,
     ⟨some 20, (.call g_spec_l02Share), [.t 19], some (15, true)⟩,
     ⟨some 21, .pick, [.t 15, .t 20, .k (.b false)], none⟩,
     ⟨some 22, .mv, [.t 21], none⟩,
     ⟨some 23, .mv, [.t 0], some (22, true)⟩,
     ⟨some 24, .nilck, [.t 23], some (22, true)⟩,
     ⟨some 25, (.faddr 3), [.t 24], some (22, true)⟩,
     ⟨some 26, .load, [.t 25], some (22, true)⟩,
     ⟨some 27, (.call g_spec_l02Share), [.t 26], some (22, true)⟩,
     ⟨some 28, .pick, [.t 22, .t 27, .k (.b false)], none⟩,
     ⟨some 2, .mv, [.t 28], none⟩])
    .ret))

/-- impl.isShare: slots 9, results [.t 2], kept [0, 2]; calls []; names [(x, 0), (x, 1)] -/
def b_impl_isShare : VCode :=
  (.seq
   (.region false [
    ⟨some 2, .mv, [.k (.b false)], none⟩])
   (.seq
    (.region false [
     ⟨some 3, .mv, [.t 0], none⟩,
     ⟨some 4, (.bin .geq), [.t 3, .k (.f .f32 0)], none⟩,
     ⟨some 5, .mv, [.t 4], none⟩,
     ⟨some 6, .mv, [.t 0], some (5, true)⟩,
     ⟨some 7, (.bin .leq), [.t 6, .k (.f .f32 1065353216)], some (5, true)⟩,
     ⟨some 8, .pick, [.t 5, .t 7, .k (.b false)], none⟩,
     ⟨some 2, .mv, [.t 8], none⟩])
    .ret))

section
variable {P : Program}
def isShareM (x : Nat) : Bool := fge .f32 x 0 && fle .f32 x 1065353216
def validSharesM (x y z u : Nat) : Bool := isShareM x && isShareM y && isShareM z && isShareM u
abbrev F4 (x y z u : Nat) : List AV := [.f .f32 x, .f .f32 y, .f .f32 z, .f .f32 u]
def oShare : Orc := { call := fun _ xs => match xs with | [.f .f32 x] => some (.b (isShareM x)) | _ => none }

theorem isShare_ok {f : FuncId} (h : FnIs P f 9 [.t 2] b_impl_isShare) (x : Nat) : VCall P f [.f .f32 x] (.b (isShareM x)) := by
  refine h.call [0, 2] [] {} (by simp) ?_
  have e : evF (VCall P) 9 [.t 2] b_impl_isShare [0, 2] [] {} [.f .f32 x] = T.ite (fge .f32 x 0) (T.leaf (AV.b (fle .f32 x 1065353216))) (T.leaf (AV.b false)) := by kernel_rfl
  rw [e]
  refine ⟨fun h => ?_, fun h => ?_⟩ <;> simp [T.ok, isShareM, h]

theorem implValidShares_ok {f g : FuncId} (h : FnIs P f 21 [.t 2] (b_impl_ValidShares g)) (hg : ∀ x, VCall P g [.f .f32 x] (.b (isShareM x))) (x y z u : Nat) :
    VCall P f [.agg (F4 x y z u)] (.b (validSharesM x y z u)) := by
  refine h.call [0, 1, 2] [] oShare (by simp) ?_
  have e : evF (VCall P) 21 [.t 2] (b_impl_ValidShares g) [0, 1, 2] [] oShare [.agg (F4 x y z u)] =
        T.ob (false = false)
      (T.ob (VCall P g [AV.f FloatKind.f32 x] (AV.b (isShareM x)))
        (T.ite (isShareM x)
          (T.ob (VCall P g [AV.f FloatKind.f32 y] (AV.b (isShareM y)))
            (T.ite (isShareM y)
              (T.ob (VCall P g [AV.f FloatKind.f32 z] (AV.b (isShareM z)))
                (T.ite (isShareM z) (T.ob (VCall P g [AV.f FloatKind.f32 u] (AV.b (isShareM u))) (T.leaf (AV.b (isShareM u)))) (T.leaf (AV.b false))))
              (T.leaf (AV.b false))))
          (T.leaf (AV.b false)))) := by kernel_rfl
  rw [e]
  simp +contextual [T.ok, validSharesM, hg]

theorem specShares_ok {f g : FuncId} (h : FnIs P f 29 [.t 2] (b_spec_l04Shares g)) (hg : ∀ x, VCall P g [.f .f32 x] (.b (isShareM x))) (x y z u : Nat) :
    VCall P f [.bx (.par [0]) (F4 x y z u)] (.b (validSharesM x y z u)) := by
  refine h.call [0, 2] [] oShare (by simp) ?_
  have e : evF (VCall P) 29 [.t 2] (b_spec_l04Shares g) [0, 2] [] oShare [.bx (.par [0]) (F4 x y z u)] =
      (T.ob (VCall P g [AV.f FloatKind.f32 x] (AV.b (isShareM x)))
        (T.ite (isShareM x)
          (T.ob (VCall P g [AV.f FloatKind.f32 y] (AV.b (isShareM y)))
            (T.ite (isShareM y)
              (T.ob (VCall P g [AV.f FloatKind.f32 z] (AV.b (isShareM z)))
                (T.ite (isShareM z) (T.ob (VCall P g [AV.f FloatKind.f32 u] (AV.b (isShareM u))) (T.leaf (AV.b (isShareM u)))) (T.leaf (AV.b false))))
              (T.leaf (AV.b false))))
          (T.leaf (AV.b false)))) := by kernel_rfl
  rw [e]
  simp +contextual [T.ok, validSharesM, hg]

theorem specValidShares_ok {f g : FuncId} (h : FnIs P f 4 [.t 2] (b_spec_ValidShares g)) (hg : ∀ x y z u, VCall P g [.bx (.par [0]) (F4 x y z u)] (.b (validSharesM x y z u))) (x y z u : Nat) :
    VCall P f [.agg (F4 x y z u)] (.b (validSharesM x y z u)) := by
  refine h.call [0, 1, 2] [] { call := fun _ xs => match xs with | [.bx _ [.f .f32 x, .f .f32 y, .f .f32 z, .f .f32 u]] => some (.b (validSharesM x y z u)) | _ => none } (by simp) ?_
  have e : evF (VCall P) 4 [.t 2] (b_spec_ValidShares g) [0, 1, 2] [] { call := fun _ xs => match xs with | [.bx _ [.f .f32 x, .f .f32 y, .f .f32 z, .f .f32 u]] => some (.b (validSharesM x y z u)) | _ => none } [.agg (F4 x y z u)] =
        T.ob (false = false) (T.ob (VCall P g [.bx (.par [0]) (F4 x y z u)] (.b (validSharesM x y z u))) (T.leaf (.b (validSharesM x y z u)))) := by kernel_rfl
  rw [e]
  simp +contextual [T.ok, hg]

theorem toShares_ok {f : FuncId} (h : FnIs P f 17 [.row 2 4] b_laws_toShares) (x y z u : Nat) : VCall P f [.agg (F4 x y z u)] (.agg (F4 x y z u)) := by
  refine h.call [0, 1, 2, 3] [] {} (by simp) ?_
  have e : evF (VCall P) 17 [.row 2 4] b_laws_toShares [0, 1, 2, 3] [] {} [.agg (F4 x y z u)] =
        T.ob (false = false)
      (T.ob (false = false)
        (T.ob (false = false)
          (T.ob (false = false)
            (T.ob (false = false)
              (T.ob (false = false)
                (T.leaf
                  (AV.agg [AV.f FloatKind.f32 x, AV.f FloatKind.f32 y, AV.f FloatKind.f32 z, AV.f FloatKind.f32 u]))))))) := by kernel_rfl
  rw [e]
  simp [T.ok]

theorem lawValidShares_ok {f g1 g2 g3 : FuncId} (h : FnIs P f 14 [.t 2] (b_laws_FnExactValidShares g1 g2 g3)) (h1 : ∀ x y z u, VCall P g1 [.agg (F4 x y z u)] (.agg (F4 x y z u)))
    (h2 : ∀ x y z u, VCall P g2 [.agg (F4 x y z u)] (.b (validSharesM x y z u))) (h3 : ∀ x y z u, VCall P g3 [.agg (F4 x y z u)] (.b (validSharesM x y z u))) (x y z u : Nat) :
    VCall P f [.agg (F4 x y z u)] (.b true) := by
  refine h.call [0, 1, 2, 3, 4, 13] [] { call := fun d xs => match d, xs with | 6, [x] => some x | 9, [x] => some x | _, [.agg [.f .f32 x, .f .f32 y, .f .f32 z, .f .f32 u]] => some (.b (validSharesM x y z u)) | _, _ => none } (by simp) ?_
  have e : evF (VCall P) 14 [.t 2] (b_laws_FnExactValidShares g1 g2 g3) [0, 1, 2, 3, 4, 13] [] { call := fun d xs => match d, xs with | 6, [x] => some x | 9, [x] => some x | _, [.agg [.f .f32 x, .f .f32 y, .f .f32 z, .f .f32 u]] => some (.b (validSharesM x y z u)) | _, _ => none } [.agg (F4 x y z u)] =
        T.ob (false = false) (T.ob (VCall P g1 [.agg (F4 x y z u)] (.agg (F4 x y z u))) (T.ob (VCall P g2 [.agg (F4 x y z u)] (.b (validSharesM x y z u)))
          (T.ob (VCall P g1 [.agg (F4 x y z u)] (.agg (F4 x y z u))) (T.ob (VCall P g3 [.agg (F4 x y z u)] (.b (validSharesM x y z u)))
            (T.ite (!(validSharesM x y z u == validSharesM x y z u)) (T.leaf (.b false)) (T.leaf (.b true))))))) := by kernel_rfl
  rw [e]
  simp +contextual [T.ok, h1, h2, h3]
end
end Go.Proofs.LV
