/- Texts that belong together. -/
import Derived.Test.YtjfgmnfkkehgfaaLvFnIX
import Derived.Test.YtjfgmnfkkehgfaaLvBad
namespace Go.Proofs.LV
open Go
set_option linter.unusedVariables false
set_option linter.unusedSimpArgs false

abbrev C_math_sqrt (P : Program) (f : FuncId) : Prop := ∀ x : Nat, VCall P f [.f .f64 x] (.f .f64 (fsqrt x))
theorem k_math_sqrt {P : Program} {f : FuncId} (h : ExtIs P f Extern.MathSqrt.sqrt) : C_math_sqrt P f := fun x => sqrt_ok h x
def oc1_math_sqrt (as : List AV) : T AV := match as with | [.f _ x] => .leaf (.f .f64 (fsqrt x)) | _ => .fail





def spreadM (xs : List Nat) : Nat := rootM (fdiv .f32 (squaresM xs) (fofi .f32 xs.length))
def spOk (xs : List Nat) : Bool := seriesM xs && finM (spreadM xs)




def evenM (xs : List Nat) : List Nat := tab xs.length fun i => fdiv .f32 (fsub .f32 (xs.getD i 0) (meanM xs)) (spreadM xs)
def evenOk (xs : List Nat) : Bool := seriesM xs && ((finM (spreadM xs) && fgt .f32 (spreadM xs) 0) && finAllM (evenM xs))



theorem root_unfold (x : Nat) : fconv .f64 .f32 (fsqrt (fconv .f32 .f64 x)) = rootM x := rfl
theorem series_fin {xs : List Nat} (h : seriesM xs = true) {i : Nat} (hi : i < xs.length) : finM (xs.getD i 0) = true := by
  simp only [seriesM, Bool.and_eq_true, finAllM, List.all_eq_true] at h
  refine h.2.2 _ ?_
  rw [List.getD_eq_getElem?_getD, List.getElem?_eq_getElem hi]
  exact List.getElem_mem hi
theorem acc_bad {f : Nat → Nat → Nat} {a : Nat} : ∀ n : Nat, 1 ≤ n → (∀ i s, finM (f i s) = false) → finM (accN f n a) = false
  | 0, h, _ => by omega
  | n + 1, _, hf => hf n _
/-- a spread that is finite comes of a mean that is -/
theorem mean_of_spread {xs : List Nat} (hs : seriesM xs = true) (h : finM (spreadM xs) = true) : finM (meanM xs) = true := by
  cases hm : finM (meanM xs) with
  | true => rfl
  | false =>
    exfalso
    have hl := series_len hs
    have hsq : finM (squaresM xs) = false := by
      unfold squaresM dotM
      have e : (lessOneM xs (meanM xs)).length = (xs.length - 1) + 1 := by rw [lessOne_len]; omega
      rw [e]
      simp only [accN]
      refine bad_add (bad_square ?_)
      rw [lessOne_get _ _ _ (by omega)]
      exact bad_sub (series_fin hs (by omega)) hm
    have hd : finM (fdiv .f32 (squaresM xs) (fofi .f32 xs.length)) = false := bad_div hsq (small_fin ⟨xs.length, by omega⟩)
    have := bad_root hd
    unfold spreadM at h
    rw [this] at h; cases h
theorem even_get (xs : List Nat) (i : Nat) (h : i < xs.length) : (evenM xs).getD i 0 = fdiv .f32 (fsub .f32 (xs.getD i 0) (meanM xs)) (spreadM xs) := tab_get _ _ _ _ h
theorem even_len (xs : List Nat) : (evenM xs).length = xs.length := tab_len _ _
end Go.Proofs.LV

namespace Go.Proofs.LV
open Go
set_option linter.unusedVariables false
set_option linter.unusedSimpArgs false

-- FN slices_Clone___float32_float32_
/-- slices.Clone[[]float32,float32]: slots 8, results [.t 2]; calls []; names [(s, 0), (s, 1)] -/
def ps_slices_Clone___float32_float32_ : List Nat := [0, 2, 4]
def b_slices_Clone___float32_float32_ : VCode :=
  (.seq
   (.region false [
    ⟨some 2, (.nilsl (.f .f32 [])), [], none⟩])
   (.seq
    (.seq
     (.region false [
      ⟨some 3, .mv, [.t 0], none⟩,
      ⟨some 4, .isnil, [.t 3], none⟩])
     (.cond (.t 4)
      (.seq
       (.region false [
        ⟨some 2, (.nilsl (.f .f32 [])), [], none⟩])
       .ret)
      .skip))
    (.seq
     (.region false [
      ⟨some 5, (.nilsl (.f .f32 [])), [], none⟩,
      ⟨some 6, .mv, [.t 0], none⟩,
      ⟨some 7, .arr, [.t 5, .t 6], none⟩,
      ⟨some 2, .mv, [.t 7], none⟩])
     .ret)))

abbrev Is_slices_Clone___float32_float32_ (P : Program) (g_f : FuncId) : Prop := FnIs P g_f 8 [.t 2] (b_slices_Clone___float32_float32_)

abbrev C_slices_Clone___float32_float32_ (P : Program) (g_f : FuncId) : Prop := ∀ (xs : List Nat) (hn : 1 ≤ xs.length) (hx : xs.length ≤ 5000), VCall P g_f [PS [0] .f32 xs] (OS 0 .f32 xs)
def oc1_slices_Clone___float32_float32_ (as : List AV) : T AV := match as with | [.sl _ _ (.f .f32 xs)] => .leaf (OS 0 .f32 xs) | _ => .fail



theorem q_slices_Clone___float32_float32_ {P : Program} {g_f : FuncId} (h_ : Is_slices_Clone___float32_float32_ P g_f) (xs : List Nat) (ht : T.ok (fun x_ => x_ = OS 0 .f32 xs) (
      T.ob (1 ≤ List.length xs) (T.ite false (T.leaf (AV.sl (Tag.own 0) 0 (Cont.f FloatKind.f32 []))) (T.ob (List.length xs ≤ 4294967296) (T.leaf (AV.sl (Tag.own 0) 0 (Cont.f FloatKind.f32 xs))))))) :
    VCall P g_f [PS [0] .f32 xs] (OS 0 .f32 xs) := h_.call_of ps_slices_Clone___float32_float32_ ⟨fun _ _ => .fail, fun _ _ => none⟩ (by kernel_rfl) ht

-- END slices_Clone___float32_float32_

theorem k_slices_Clone___float32_float32_ {P : Program} {f : FuncId} (h : Is_slices_Clone___float32_float32_ P f) : C_slices_Clone___float32_float32_ P f := by
  intro xs hn hx
  refine q_slices_Clone___float32_float32_ h xs ?_
  repeat' (first | with_reducible refine T.ok_ob ?_ (fun _ => ?_) | with_reducible refine T.ok_ite (fun _ => ?_) (fun _ => ?_) | with_reducible refine T.ok_leaf ?_)
  all_goals first | with_reducible rfl | with_reducible assumption | contradiction | exact fconvOk_32_64 _ | assumption | exact rfl | (simp_all []; done) | (simp_all [T.ok]; omega)

/-! ### what is left of a likeness -/
def plUp (r q : List Nat) (k : Nat) : Nat := accN (fun j s => fadd .f32 s (fmul .f32 (q.getD j 0) (r.getD (k - (j + 1)) 0))) (k - 1) 0
def plDown (r q : List Nat) (k : Nat) : Nat := accN (fun j s => fadd .f32 s (fmul .f32 (q.getD j 0) (r.getD (j + 1) 0))) (k - 1) 0
def plBot (r q : List Nat) (k : Nat) : Nat := fsub .f32 1065353216 (plDown r q k)
def plX (r q : List Nat) (k : Nat) : Nat := fdiv .f32 (fsub .f32 (r.getD k 0) (plUp r q k)) (plBot r q k)
def upP (r p : List Nat) (k : Nat) : Nat := accN (fun j s => fadd .f32 s (fmul .f32 (p.getD (j + 1) 0) (r.getD (k - (j + 1)) 0))) (k - 1) 0
def dnP (r p : List Nat) (k : Nat) : Nat := accN (fun j s => fadd .f32 s (fmul .f32 (p.getD (j + 1) 0) (r.getD (j + 1) 0))) (k - 1) 0
def xP (r p : List Nat) (k : Nat) : Nat := fdiv .f32 (fsub .f32 (r.getD k 0) (upP r p k)) (fsub .f32 1065353216 (dnP r p k))
def plQ (r : List Nat) : Nat → List Nat
  | 0 => []
  | k + 1 => (tab k fun j => fsub .f32 ((plQ r k).getD j 0) (fmul .f32 (plX r (plQ r k) (k + 1)) ((plQ r k).getD (k - 1 - j) 0))) ++ [plX r (plQ r k) (k + 1)]
def plM (r : List Nat) (m : Nat) : List Nat := tab m fun k => plX r (plQ r k) (k + 1)
def plFin (r : List Nat) (m : Nat) : Bool := allN m fun k => !feq .f32 (plBot r (plQ r k) (k + 1)) 0
def plOk (a : List Nat) (most : Int) : Bool := likesOk a most && (plFin (likesM a most.toNat) most.toNat && finAllM (plM (likesM a most.toNat) most.toNat))



end Go.Proofs.LV
