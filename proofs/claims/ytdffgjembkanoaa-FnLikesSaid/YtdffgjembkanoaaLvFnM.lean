/- Roots, spreads, a series made even. -/
import Derived.Test.YtdffgjembkanoaaLvFnJ
import Derived.Test.YtdffgjembkanoaaLvBad
namespace Go.Proofs.LV
open Go
set_option linter.unusedVariables false
set_option linter.unusedSimpArgs false

abbrev C_math_sqrt (P : Program) (f : FuncId) : Prop := ∀ x : Nat, VCall P f [.f .f64 x] (.f .f64 (fsqrt x))
theorem k_math_sqrt {P : Program} {f : FuncId} (h : ExtIs P f Extern.MathSqrt.sqrt) : C_math_sqrt P f := fun x => sqrt_ok h x
def oc1_math_sqrt (as : List AV) : T AV := match as with | [.f _ x] => .leaf (.f .f64 (fsqrt x)) | _ => .fail

-- FN math_Sqrt
/-- math.Sqrt: slots 5, results [.t 2]; calls [4:g_math_sqrt]; names [(x, 0), (x, 1)] -/
def ps_math_Sqrt : List Nat := [0, 2]
def b_math_Sqrt (g_math_sqrt : FuncId) : VCode :=
  (.seq
   (.region false [
    ⟨some 2, .mv, [.k (.f .f64 0)], none⟩])
   (.seq
    (.region false [
     ⟨some 3, .mv, [.t 0], none⟩,
     ⟨some 4, (.call g_math_sqrt), [.t 3], none⟩,
     ⟨some 2, .mv, [.t 4], none⟩])
    .ret))

abbrev Is_math_Sqrt (P : Program) (g_f : FuncId) (g_math_sqrt : FuncId) : Prop := FnIs P g_f 5 [.t 2] (b_math_Sqrt g_math_sqrt)

abbrev C_math_Sqrt (P : Program) (g_f : FuncId) : Prop := ∀ (x : Nat), VCall P g_f [.f .f64 x] (.f .f64 (fsqrt x))
def oc1_math_Sqrt (as : List AV) : T AV := match as with | [.f .f64 x] => .leaf (.f .f64 (fsqrt x)) | _ => .fail
def oc_math_Sqrt (x : Nat) (d : Nat) (as : List AV) : T AV := match d with | 4 => oc1_math_sqrt as | _ => .fail



theorem q_math_Sqrt {P : Program} {g_f : FuncId} {g_math_sqrt : FuncId} (h_ : Is_math_Sqrt P g_f g_math_sqrt) (x : Nat) (ht : T.ok (fun x_ => x_ = .f .f64 (fsqrt x)) (
      T.ob ((VCall P) g_math_sqrt [AV.f FloatKind.f64 x] (AV.f FloatKind.f64 (fsqrt x))) (T.leaf (AV.f FloatKind.f64 (fsqrt x))))) :
    VCall P g_f [.f .f64 x] (.f .f64 (fsqrt x)) := h_.call_of ps_math_Sqrt ⟨oc_math_Sqrt x, fun _ _ => none⟩ (by kernel_rfl) ht

-- END math_Sqrt

-- FN impl_RootNumber
/-- impl.RootNumber: slots 7, results [.t 2]; calls [5:g_math_Sqrt]; names [(x, 0), (x, 1)] -/
def ps_impl_RootNumber : List Nat := [0, 2]
def b_impl_RootNumber (g_math_Sqrt : FuncId) : VCode :=
  (.seq
   (.region false [
    ⟨some 2, .mv, [.k (.f .f32 0)], none⟩])
   (.seq
    (.region false [
     ⟨some 3, .mv, [.t 0], none⟩,
     ⟨some 4, (.convF .f64), [.t 3], none⟩,
     ⟨some 5, (.call g_math_Sqrt), [.t 4], none⟩,
     ⟨some 6, (.convF .f32), [.t 5], none⟩,
     ⟨some 2, .mv, [.t 6], none⟩])
    .ret))

abbrev Is_impl_RootNumber (P : Program) (g_f : FuncId) (g_math_Sqrt : FuncId) : Prop := FnIs P g_f 7 [.t 2] (b_impl_RootNumber g_math_Sqrt)

abbrev C_impl_RootNumber (P : Program) (g_f : FuncId) : Prop := ∀ (x : Nat), VCall P g_f [.f .f32 x] (.f .f32 (rootM x))
def oc1_impl_RootNumber (as : List AV) : T AV := match as with | [.f .f32 x] => .leaf (.f .f32 (rootM x)) | _ => .fail
def oc_impl_RootNumber (x : Nat) (d : Nat) (as : List AV) : T AV := match d with | 5 => oc1_math_Sqrt as | _ => .fail



theorem q_impl_RootNumber {P : Program} {g_f : FuncId} {g_math_Sqrt : FuncId} (h_ : Is_impl_RootNumber P g_f g_math_Sqrt) (x : Nat) (ht : T.ok (fun x_ => x_ = .f .f32 (rootM x)) (
      T.ob (fconvOk FloatKind.f32 FloatKind.f64 x = true)
        (T.ob ((VCall P) g_math_Sqrt [AV.f FloatKind.f64 (fconv FloatKind.f32 FloatKind.f64 x)] (AV.f FloatKind.f64 (fsqrt (fconv FloatKind.f32 FloatKind.f64 x))))
          (T.ob (fconvOk FloatKind.f64 FloatKind.f32 (fsqrt (fconv FloatKind.f32 FloatKind.f64 x)) = true) (T.leaf (AV.f FloatKind.f32 (fconv FloatKind.f64 FloatKind.f32 (fsqrt (fconv FloatKind.f32 FloatKind.f64 x))))))))) :
    VCall P g_f [.f .f32 x] (.f .f32 (rootM x)) := h_.call_of ps_impl_RootNumber ⟨oc_impl_RootNumber x, fun _ _ => none⟩ (by kernel_rfl) ht

-- END impl_RootNumber

-- FN spec_l01Narrow
/-- spec.l01Narrow: slots 5, results [.t 2]; calls []; names [(x, 0), (x, 1)] -/
def ps_spec_l01Narrow : List Nat := [0, 2]
def b_spec_l01Narrow : VCode :=
  (.seq
   (.region false [
    ⟨some 2, .mv, [.k (.f .f32 0)], none⟩])
   (.seq
    (.region false [
     ⟨some 3, .mv, [.t 0], none⟩,
     ⟨some 4, (.convF .f32), [.t 3], none⟩,
     ⟨some 2, .mv, [.t 4], none⟩])
    .ret))

abbrev Is_spec_l01Narrow (P : Program) (g_f : FuncId) : Prop := FnIs P g_f 5 [.t 2] (b_spec_l01Narrow)

abbrev C_spec_l01Narrow (P : Program) (g_f : FuncId) : Prop := ∀ (x : Nat) (hx : fconvOk .f64 .f32 x = true), VCall P g_f [.f .f64 x] (.f .f32 (fconv .f64 .f32 x))
def oc1_spec_l01Narrow (as : List AV) : T AV := match as with | [.f .f64 x] => .leaf (.f .f32 (fconv .f64 .f32 x)) | _ => .fail



theorem q_spec_l01Narrow {P : Program} {g_f : FuncId} (h_ : Is_spec_l01Narrow P g_f) (x : Nat) (ht : T.ok (fun x_ => x_ = .f .f32 (fconv .f64 .f32 x)) (
      T.ob (fconvOk FloatKind.f64 FloatKind.f32 x = true) (T.leaf (AV.f FloatKind.f32 (fconv FloatKind.f64 FloatKind.f32 x))))) :
    VCall P g_f [.f .f64 x] (.f .f32 (fconv .f64 .f32 x)) := h_.call_of ps_spec_l01Narrow ⟨fun _ _ => .fail, fun _ _ => none⟩ (by kernel_rfl) ht

-- END spec_l01Narrow

-- FN spec_l01Sqrt
/-- spec.l01Sqrt: slots 7, results [.t 2]; calls [5:g_math_Sqrt, 6:g_spec_l01Narrow]; names [(x, 0), (x, 1)] -/
def ps_spec_l01Sqrt : List Nat := [0, 2]
def b_spec_l01Sqrt (g_math_Sqrt g_spec_l01Narrow : FuncId) : VCode :=
  (.seq
   (.region false [
    ⟨some 2, .mv, [.k (.f .f32 0)], none⟩])
   (.seq
    (.region false [
     ⟨some 3, .mv, [.t 0], none⟩,
     ⟨some 4, (.convF .f64), [.t 3], none⟩,
     ⟨some 5, (.call g_math_Sqrt), [.t 4], none⟩,
     ⟨some 6, (.call g_spec_l01Narrow), [.t 5], none⟩,
     ⟨some 2, .mv, [.t 6], none⟩])
    .ret))

abbrev Is_spec_l01Sqrt (P : Program) (g_f : FuncId) (g_math_Sqrt g_spec_l01Narrow : FuncId) : Prop := FnIs P g_f 7 [.t 2] (b_spec_l01Sqrt g_math_Sqrt g_spec_l01Narrow)

abbrev C_spec_l01Sqrt (P : Program) (g_f : FuncId) : Prop := ∀ (x : Nat), VCall P g_f [.f .f32 x] (.f .f32 (rootM x))
def oc1_spec_l01Sqrt (as : List AV) : T AV := match as with | [.f .f32 x] => .leaf (.f .f32 (rootM x)) | _ => .fail
def oc_spec_l01Sqrt (x : Nat) (d : Nat) (as : List AV) : T AV := match d with | 5 => oc1_math_Sqrt as | 6 => oc1_spec_l01Narrow as | _ => .fail



theorem q_spec_l01Sqrt {P : Program} {g_f : FuncId} {g_math_Sqrt g_spec_l01Narrow : FuncId} (h_ : Is_spec_l01Sqrt P g_f g_math_Sqrt g_spec_l01Narrow) (x : Nat) (ht : T.ok (fun x_ => x_ = .f .f32 (rootM x)) (
      T.ob (fconvOk FloatKind.f32 FloatKind.f64 x = true)
        (T.ob ((VCall P) g_math_Sqrt [AV.f FloatKind.f64 (fconv FloatKind.f32 FloatKind.f64 x)] (AV.f FloatKind.f64 (fsqrt (fconv FloatKind.f32 FloatKind.f64 x))))
          (T.ob ((VCall P) g_spec_l01Narrow [AV.f FloatKind.f64 (fsqrt (fconv FloatKind.f32 FloatKind.f64 x))] (AV.f FloatKind.f32 (fconv FloatKind.f64 FloatKind.f32 (fsqrt (fconv FloatKind.f32 FloatKind.f64 x)))))
            (T.leaf (AV.f FloatKind.f32 (fconv FloatKind.f64 FloatKind.f32 (fsqrt (fconv FloatKind.f32 FloatKind.f64 x))))))))) :
    VCall P g_f [.f .f32 x] (.f .f32 (rootM x)) := h_.call_of ps_spec_l01Sqrt ⟨oc_spec_l01Sqrt x, fun _ _ => none⟩ (by kernel_rfl) ht

-- END spec_l01Sqrt

def spreadM (xs : List Nat) : Nat := rootM (fdiv .f32 (squaresM xs) (fofi .f32 xs.length))
def spOk (xs : List Nat) : Bool := seriesM xs && finM (spreadM xs)




def evenM (xs : List Nat) : List Nat := tab xs.length fun i => fdiv .f32 (fsub .f32 (xs.getD i 0) (meanM xs)) (spreadM xs)
def evenOk (xs : List Nat) : Bool := seriesM xs && ((finM (spreadM xs) && fgt .f32 (spreadM xs) 0) && finAllM (evenM xs))



theorem root_unfold (x : Nat) : fconv .f64 .f32 (fsqrt (fconv .f32 .f64 x)) = rootM x := rfl
theorem k_math_Sqrt {P : Program} {f g_math_sqrt : FuncId} (h : Is_math_Sqrt P f g_math_sqrt) (c1 : C_math_sqrt P g_math_sqrt) : C_math_Sqrt P f := by
  intro x
  refine q_math_Sqrt h x ?_
  repeat' (first | with_reducible refine T.ok_ob ?_ (fun _ => ?_) | with_reducible refine T.ok_ite (fun _ => ?_) (fun _ => ?_) | with_reducible refine T.ok_leaf ?_)
  all_goals first | with_reducible rfl | with_reducible assumption | with_reducible exact c1 _ | contradiction | exact fconvOk_32_64 _ | assumption | exact rfl | (simp_all []; done) | (simp_all [T.ok]; omega)

theorem k_impl_RootNumber {P : Program} {f g : FuncId} (h : Is_impl_RootNumber P f g) (c1 : C_math_Sqrt P g) : C_impl_RootNumber P f := by
  intro x
  exact q_impl_RootNumber h x ⟨fconvOk_32_64 _, fun _ => ⟨c1 _, fun _ => ⟨root_narrow x, fun _ => rfl⟩⟩⟩
theorem k_spec_l01Narrow {P : Program} {f : FuncId} (h : Is_spec_l01Narrow P f) : C_spec_l01Narrow P f := by
  intro x hx
  exact q_spec_l01Narrow h x ⟨hx, fun _ => rfl⟩
theorem k_spec_l01Sqrt {P : Program} {f g1 g2 : FuncId} (h : Is_spec_l01Sqrt P f g1 g2) (c1 : C_math_Sqrt P g1) (c2 : C_spec_l01Narrow P g2) : C_spec_l01Sqrt P f := by
  intro x
  exact q_spec_l01Sqrt h x ⟨fconvOk_32_64 _, fun _ => ⟨c1 _, fun _ => ⟨c2 _ (root_narrow x), fun _ => rfl⟩⟩⟩
theorem series_fin {xs : List Nat} (h : seriesM xs = true) {i : Nat} (hi : i < xs.length) : finM (xs.getD i 0) = true := by
  simp only [seriesM, Bool.and_eq_true, finAllM, List.all_eq_true] at h
  refine h.2.2 _ ?_
  rw [List.getD_eq_getElem?_getD, List.getElem?_eq_getElem hi]
  exact List.getElem_mem hi
theorem acc_bad {f : Nat → Nat → Nat} {a : Nat} : ∀ n : Nat, 1 ≤ n → (∀ i s, finM (f i s) = false) → finM (accN f n a) = false
  | 0, h, _ => by omega
  | n + 1, _, hf => hf n _
/-- a spread that is finite comes of a mean that is -/
theorem mean_of_spread {xs : List Nat} (hs : seriesM xs = true) (h : finM (spreadM xs) = true) : finM (meanM xs) = true := by
  cases hm : finM (meanM xs) with
  | true => rfl
  | false =>
    exfalso
    have hl := series_len hs
    have hsq : finM (squaresM xs) = false := by
      unfold squaresM dotM
      have e : (lessOneM xs (meanM xs)).length = (xs.length - 1) + 1 := by rw [lessOne_len]; omega
      rw [e]
      simp only [accN]
      refine bad_add (bad_square ?_)
      rw [lessOne_get _ _ _ (by omega)]
      exact bad_sub (series_fin hs (by omega)) hm
    have hd : finM (fdiv .f32 (squaresM xs) (fofi .f32 xs.length)) = false := bad_div hsq (small_fin ⟨xs.length, by omega⟩)
    have := bad_root hd
    unfold spreadM at h
    rw [this] at h; cases h
theorem even_get (xs : List Nat) (i : Nat) (h : i < xs.length) : (evenM xs).getD i 0 = fdiv .f32 (fsub .f32 (xs.getD i 0) (meanM xs)) (spreadM xs) := tab_get _ _ _ _ h
theorem even_len (xs : List Nat) : (evenM xs).length = xs.length := tab_len _ _
end Go.Proofs.LV
