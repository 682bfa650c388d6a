/- Roots, spreads, a series made even. -/
import Derived.Test.YtaehhnldcnhiiaaLvFnJ
import Derived.Test.YtaehhnldcnhiiaaLvBad
namespace Go.Proofs.LV
open Go
set_option linter.unusedVariables false
set_option linter.unusedSimpArgs false

abbrev C_math_sqrt (P : Program) (f : FuncId) : Prop := ∀ x : Nat, VCall P f [.f .f64 x] (.f .f64 (fsqrt x))
theorem k_math_sqrt {P : Program} {f : FuncId} (h : ExtIs P f Extern.MathSqrt.sqrt) : C_math_sqrt P f := fun x => sqrt_ok h x
def oc1_math_sqrt (as : List AV) : T AV := match as with | [.f _ x] => .leaf (.f .f64 (fsqrt x)) | _ => .fail



-- FN spec_l01Narrow
/-- spec.l01Narrow: slots 5, results [.t 2]; calls []; names [(x, 0), (x, 1)] -/
def ps_spec_l01Narrow : List Nat := [0, 2]
def b_spec_l01Narrow : VCode :=
  (.seq
   (.region false [
    ⟨some 2, .mv, [.k (.f .f32 0)], none⟩])
   (.seq
    (.region false [
     ⟨some 3, .mv, [.t 0], none⟩,
     ⟨some 4, (.convF .f32), [.t 3], none⟩,
     ⟨some 2, .mv, [.t 4], none⟩])
    .ret))

abbrev Is_spec_l01Narrow (P : Program) (g_f : FuncId) : Prop := FnIs P g_f 5 [.t 2] (b_spec_l01Narrow)

abbrev C_spec_l01Narrow (P : Program) (g_f : FuncId) : Prop := ∀ (x : Nat) (hx : fconvOk .f64 .f32 x = true), VCall P g_f [.f .f64 x] (.f .f32 (fconv .f64 .f32 x))
def oc1_spec_l01Narrow (as : List AV) : T AV := match as with | [.f .f64 x] => .leaf (.f .f32 (fconv .f64 .f32 x)) | _ => .fail



theorem q_spec_l01Narrow {P : Program} {g_f : FuncId} (h_ : Is_spec_l01Narrow P g_f) (x : Nat) (ht : T.ok (fun x_ => x_ = .f .f32 (fconv .f64 .f32 x)) (
      T.ob (fconvOk FloatKind.f64 FloatKind.f32 x = true) (T.leaf (AV.f FloatKind.f32 (fconv FloatKind.f64 FloatKind.f32 x))))) :
    VCall P g_f [.f .f64 x] (.f .f32 (fconv .f64 .f32 x)) := h_.call_of ps_spec_l01Narrow ⟨fun _ _ => .fail, fun _ _ => none⟩ (by kernel_rfl) ht

-- END spec_l01Narrow


def spreadM (xs : List Nat) : Nat := rootM (fdiv .f32 (squaresM xs) (fofi .f32 xs.length))
def spOk (xs : List Nat) : Bool := seriesM xs && finM (spreadM xs)




def evenM (xs : List Nat) : List Nat := tab xs.length fun i => fdiv .f32 (fsub .f32 (xs.getD i 0) (meanM xs)) (spreadM xs)
def evenOk (xs : List Nat) : Bool := seriesM xs && ((finM (spreadM xs) && fgt .f32 (spreadM xs) 0) && finAllM (evenM xs))



theorem root_unfold (x : Nat) : fconv .f64 .f32 (fsqrt (fconv .f32 .f64 x)) = rootM x := rfl
theorem k_spec_l01Narrow {P : Program} {f : FuncId} (h : Is_spec_l01Narrow P f) : C_spec_l01Narrow P f := by
  intro x hx
  exact q_spec_l01Narrow h x ⟨hx, fun _ => rfl⟩
theorem series_fin {xs : List Nat} (h : seriesM xs = true) {i : Nat} (hi : i < xs.length) : finM (xs.getD i 0) = true := by
  simp only [seriesM, Bool.and_eq_true, finAllM, List.all_eq_true] at h
  refine h.2.2 _ ?_
  rw [List.getD_eq_getElem?_getD, List.getElem?_eq_getElem hi]
  exact List.getElem_mem hi
theorem acc_bad {f : Nat → Nat → Nat} {a : Nat} : ∀ n : Nat, 1 ≤ n → (∀ i s, finM (f i s) = false) → finM (accN f n a) = false
  | 0, h, _ => by omega
  | n + 1, _, hf => hf n _
/-- a spread that is finite comes of a mean that is -/
theorem mean_of_spread {xs : List Nat} (hs : seriesM xs = true) (h : finM (spreadM xs) = true) : finM (meanM xs) = true := by
  cases hm : finM (meanM xs) with
  | true => rfl
  | false =>
    exfalso
    have hl := series_len hs
    have hsq : finM (squaresM xs) = false := by
      unfold squaresM dotM
      have e : (lessOneM xs (meanM xs)).length = (xs.length - 1) + 1 := by rw [lessOne_len]; omega
      rw [e]
      simp only [accN]
      refine bad_add (bad_square ?_)
      rw [lessOne_get _ _ _ (by omega)]
      exact bad_sub (series_fin hs (by omega)) hm
    have hd : finM (fdiv .f32 (squaresM xs) (fofi .f32 xs.length)) = false := bad_div hsq (small_fin ⟨xs.length, by omega⟩)
    have := bad_root hd
    unfold spreadM at h
    rw [this] at h; cases h
theorem even_get (xs : List Nat) (i : Nat) (h : i < xs.length) : (evenM xs).getD i 0 = fdiv .f32 (fsub .f32 (xs.getD i 0) (meanM xs)) (spreadM xs) := tab_get _ _ _ _ h
theorem even_len (xs : List Nat) : (evenM xs).length = xs.length := tab_len _ _
end Go.Proofs.LV
