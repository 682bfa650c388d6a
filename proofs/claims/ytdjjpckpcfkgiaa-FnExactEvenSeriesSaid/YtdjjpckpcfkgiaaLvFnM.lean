/- Roots, spreads, a series made even. -/
import Derived.Test.YtdjjpckpcfkgiaaLvFnJ
import Derived.Test.YtdjjpckpcfkgiaaLvBad
namespace Go.Proofs.LV
open Go
set_option linter.unusedVariables false
set_option linter.unusedSimpArgs false

abbrev C_math_sqrt (P : Program) (f : FuncId) : Prop := ∀ x : Nat, VCall P f [.f .f64 x] (.f .f64 (fsqrt x))
theorem k_math_sqrt {P : Program} {f : FuncId} (h : ExtIs P f Extern.MathSqrt.sqrt) : C_math_sqrt P f := fun x => sqrt_ok h x
def oc1_math_sqrt (as : List AV) : T AV := match as with | [.f _ x] => .leaf (.f .f64 (fsqrt x)) | _ => .fail

-- FN math_Sqrt
/-- math.Sqrt: slots 5, results [.t 2]; calls [4:g_math_sqrt]; names [(x, 0), (x, 1)] -/
def ps_math_Sqrt : List Nat := [0, 2]
def b_math_Sqrt (g_math_sqrt : FuncId) : VCode :=
  (.seq
   (.region false [
    ⟨some 2, .mv, [.k (.f .f64 0)], none⟩])
   (.seq
    (.region false [
     ⟨some 3, .mv, [.t 0], none⟩,
     ⟨some 4, (.call g_math_sqrt), [.t 3], none⟩,
     ⟨some 2, .mv, [.t 4], none⟩])
    .ret))

abbrev Is_math_Sqrt (P : Program) (g_f : FuncId) (g_math_sqrt : FuncId) : Prop := FnIs P g_f 5 [.t 2] (b_math_Sqrt g_math_sqrt)

abbrev C_math_Sqrt (P : Program) (g_f : FuncId) : Prop := ∀ (x : Nat), VCall P g_f [.f .f64 x] (.f .f64 (fsqrt x))
def oc1_math_Sqrt (as : List AV) : T AV := match as with | [.f .f64 x] => .leaf (.f .f64 (fsqrt x)) | _ => .fail
def oc_math_Sqrt (x : Nat) (d : Nat) (as : List AV) : T AV := match d with | 4 => oc1_math_sqrt as | _ => .fail



theorem q_math_Sqrt {P : Program} {g_f : FuncId} {g_math_sqrt : FuncId} (h_ : Is_math_Sqrt P g_f g_math_sqrt) (x : Nat) (ht : T.ok (fun x_ => x_ = .f .f64 (fsqrt x)) (
      T.ob ((VCall P) g_math_sqrt [AV.f FloatKind.f64 x] (AV.f FloatKind.f64 (fsqrt x))) (T.leaf (AV.f FloatKind.f64 (fsqrt x))))) :
    VCall P g_f [.f .f64 x] (.f .f64 (fsqrt x)) := h_.call_of ps_math_Sqrt ⟨oc_math_Sqrt x, fun _ _ => none⟩ (by kernel_rfl) ht

-- END math_Sqrt

-- FN impl_RootNumber
/-- impl.RootNumber: slots 7, results [.t 2]; calls [5:g_math_Sqrt]; names [(x, 0), (x, 1)] -/
def ps_impl_RootNumber : List Nat := [0, 2]
def b_impl_RootNumber (g_math_Sqrt : FuncId) : VCode :=
  (.seq
   (.region false [
    ⟨some 2, .mv, [.k (.f .f32 0)], none⟩])
   (.seq
    (.region false [
     ⟨some 3, .mv, [.t 0], none⟩,
     ⟨some 4, (.convF .f64), [.t 3], none⟩,
     ⟨some 5, (.call g_math_Sqrt), [.t 4], none⟩,
     ⟨some 6, (.convF .f32), [.t 5], none⟩,
     ⟨some 2, .mv, [.t 6], none⟩])
    .ret))

abbrev Is_impl_RootNumber (P : Program) (g_f : FuncId) (g_math_Sqrt : FuncId) : Prop := FnIs P g_f 7 [.t 2] (b_impl_RootNumber g_math_Sqrt)

abbrev C_impl_RootNumber (P : Program) (g_f : FuncId) : Prop := ∀ (x : Nat), VCall P g_f [.f .f32 x] (.f .f32 (rootM x))
def oc1_impl_RootNumber (as : List AV) : T AV := match as with | [.f .f32 x] => .leaf (.f .f32 (rootM x)) | _ => .fail
def oc_impl_RootNumber (x : Nat) (d : Nat) (as : List AV) : T AV := match d with | 5 => oc1_math_Sqrt as | _ => .fail



theorem q_impl_RootNumber {P : Program} {g_f : FuncId} {g_math_Sqrt : FuncId} (h_ : Is_impl_RootNumber P g_f g_math_Sqrt) (x : Nat) (ht : T.ok (fun x_ => x_ = .f .f32 (rootM x)) (
      T.ob (fconvOk FloatKind.f32 FloatKind.f64 x = true)
        (T.ob ((VCall P) g_math_Sqrt [AV.f FloatKind.f64 (fconv FloatKind.f32 FloatKind.f64 x)] (AV.f FloatKind.f64 (fsqrt (fconv FloatKind.f32 FloatKind.f64 x))))
          (T.ob (fconvOk FloatKind.f64 FloatKind.f32 (fsqrt (fconv FloatKind.f32 FloatKind.f64 x)) = true) (T.leaf (AV.f FloatKind.f32 (fconv FloatKind.f64 FloatKind.f32 (fsqrt (fconv FloatKind.f32 FloatKind.f64 x))))))))) :
    VCall P g_f [.f .f32 x] (.f .f32 (rootM x)) := h_.call_of ps_impl_RootNumber ⟨oc_impl_RootNumber x, fun _ _ => none⟩ (by kernel_rfl) ht

-- END impl_RootNumber

-- FN spec_l01Narrow
/-- spec.l01Narrow: slots 5, results [.t 2]; calls []; names [(x, 0), (x, 1)] -/
def ps_spec_l01Narrow : List Nat := [0, 2]
def b_spec_l01Narrow : VCode :=
  (.seq
   (.region false [
    ⟨some 2, .mv, [.k (.f .f32 0)], none⟩])
   (.seq
    (.region false [
     ⟨some 3, .mv, [.t 0], none⟩,
     ⟨some 4, (.convF .f32), [.t 3], none⟩,
     ⟨some 2, .mv, [.t 4], none⟩])
    .ret))

abbrev Is_spec_l01Narrow (P : Program) (g_f : FuncId) : Prop := FnIs P g_f 5 [.t 2] (b_spec_l01Narrow)

abbrev C_spec_l01Narrow (P : Program) (g_f : FuncId) : Prop := ∀ (x : Nat) (hx : fconvOk .f64 .f32 x = true), VCall P g_f [.f .f64 x] (.f .f32 (fconv .f64 .f32 x))
def oc1_spec_l01Narrow (as : List AV) : T AV := match as with | [.f .f64 x] => .leaf (.f .f32 (fconv .f64 .f32 x)) | _ => .fail



theorem q_spec_l01Narrow {P : Program} {g_f : FuncId} (h_ : Is_spec_l01Narrow P g_f) (x : Nat) (ht : T.ok (fun x_ => x_ = .f .f32 (fconv .f64 .f32 x)) (
      T.ob (fconvOk FloatKind.f64 FloatKind.f32 x = true) (T.leaf (AV.f FloatKind.f32 (fconv FloatKind.f64 FloatKind.f32 x))))) :
    VCall P g_f [.f .f64 x] (.f .f32 (fconv .f64 .f32 x)) := h_.call_of ps_spec_l01Narrow ⟨fun _ _ => .fail, fun _ _ => none⟩ (by kernel_rfl) ht

-- END spec_l01Narrow

-- FN spec_l01Sqrt
/-- spec.l01Sqrt: slots 7, results [.t 2]; calls [5:g_math_Sqrt, 6:g_spec_l01Narrow]; names [(x, 0), (x, 1)] -/
def ps_spec_l01Sqrt : List Nat := [0, 2]
def b_spec_l01Sqrt (g_math_Sqrt g_spec_l01Narrow : FuncId) : VCode :=
  (.seq
   (.region false [
    ⟨some 2, .mv, [.k (.f .f32 0)], none⟩])
   (.seq
    (.region false [
     ⟨some 3, .mv, [.t 0], none⟩,
     ⟨some 4, (.convF .f64), [.t 3], none⟩,
     ⟨some 5, (.call g_math_Sqrt), [.t 4], none⟩,
     ⟨some 6, (.call g_spec_l01Narrow), [.t 5], none⟩,
     ⟨some 2, .mv, [.t 6], none⟩])
    .ret))

abbrev Is_spec_l01Sqrt (P : Program) (g_f : FuncId) (g_math_Sqrt g_spec_l01Narrow : FuncId) : Prop := FnIs P g_f 7 [.t 2] (b_spec_l01Sqrt g_math_Sqrt g_spec_l01Narrow)

abbrev C_spec_l01Sqrt (P : Program) (g_f : FuncId) : Prop := ∀ (x : Nat), VCall P g_f [.f .f32 x] (.f .f32 (rootM x))
def oc1_spec_l01Sqrt (as : List AV) : T AV := match as with | [.f .f32 x] => .leaf (.f .f32 (rootM x)) | _ => .fail
def oc_spec_l01Sqrt (x : Nat) (d : Nat) (as : List AV) : T AV := match d with | 5 => oc1_math_Sqrt as | 6 => oc1_spec_l01Narrow as | _ => .fail



theorem q_spec_l01Sqrt {P : Program} {g_f : FuncId} {g_math_Sqrt g_spec_l01Narrow : FuncId} (h_ : Is_spec_l01Sqrt P g_f g_math_Sqrt g_spec_l01Narrow) (x : Nat) (ht : T.ok (fun x_ => x_ = .f .f32 (rootM x)) (
      T.ob (fconvOk FloatKind.f32 FloatKind.f64 x = true)
        (T.ob ((VCall P) g_math_Sqrt [AV.f FloatKind.f64 (fconv FloatKind.f32 FloatKind.f64 x)] (AV.f FloatKind.f64 (fsqrt (fconv FloatKind.f32 FloatKind.f64 x))))
          (T.ob ((VCall P) g_spec_l01Narrow [AV.f FloatKind.f64 (fsqrt (fconv FloatKind.f32 FloatKind.f64 x))] (AV.f FloatKind.f32 (fconv FloatKind.f64 FloatKind.f32 (fsqrt (fconv FloatKind.f32 FloatKind.f64 x)))))
            (T.leaf (AV.f FloatKind.f32 (fconv FloatKind.f64 FloatKind.f32 (fsqrt (fconv FloatKind.f32 FloatKind.f64 x))))))))) :
    VCall P g_f [.f .f32 x] (.f .f32 (rootM x)) := h_.call_of ps_spec_l01Sqrt ⟨oc_spec_l01Sqrt x, fun _ _ => none⟩ (by kernel_rfl) ht

-- END spec_l01Sqrt

def spreadM (xs : List Nat) : Nat := rootM (fdiv .f32 (squaresM xs) (fofi .f32 xs.length))
def spOk (xs : List Nat) : Bool := seriesM xs && finM (spreadM xs)

-- FN spec_l02Spread
/-- spec.l02Spread: slots 16, results [.t 2]; calls [6:g_spec_l02Mean, 7:g_spec_l02Less, 10:g_spec_l02Dot, 15:g_spec_l01Sqrt]; names [(list, 0), (list, 1), (rest, 3)] -/
def ps_spec_l02Spread : List Nat := [0, 2, 3]
def b_spec_l02Spread (g_spec_l02Mean g_spec_l02Less g_spec_l02Dot g_spec_l01Sqrt : FuncId) : VCode :=
  (.seq
   (.region false [
    ⟨some 2, .mv, [.k (.f .f32 0)], none⟩])
   (.seq
    (.region false [
     ⟨some 4, .mv, [.t 0], none⟩,
     ⟨some 5, .mv, [.t 0], none⟩,
     ⟨some 6, (.call g_spec_l02Mean), [.t 5], none⟩,
     ⟨some 7, (.call g_spec_l02Less), [.t 4, .t 6], none⟩,
     ⟨some 3, .mv, [.t 7], none⟩])
    (.seq
     (.region false [
      ⟨some 8, .mv, [.t 3], none⟩,
      ⟨some 9, .mv, [.t 3], none⟩,
      ⟨some 10, (.call g_spec_l02Dot), [.t 8, .t 9], none⟩,
      ⟨some 11, .mv, [.t 0], none⟩,
      ⟨some 12, .len, [.t 11], none⟩,
      ⟨some 13, (.convF .f32), [.t 12], none⟩,
      ⟨some 14, (.bin .quo), [.t 10, .t 13], none⟩,
      ⟨some 15, (.call g_spec_l01Sqrt), [.t 14], none⟩,
      ⟨some 2, .mv, [.t 15], none⟩])
     .ret)))

abbrev Is_spec_l02Spread (P : Program) (g_f : FuncId) (g_spec_l02Mean g_spec_l02Less g_spec_l02Dot g_spec_l01Sqrt : FuncId) : Prop := FnIs P g_f 16 [.t 2] (b_spec_l02Spread g_spec_l02Mean g_spec_l02Less g_spec_l02Dot g_spec_l01Sqrt)

abbrev C_spec_l02Spread (P : Program) (g_f : FuncId) : Prop := ∀ (xs : List Nat) (hx : xs.length ≤ 96), VCall P g_f [PS [0] .f32 xs] (.f .f32 (spreadM xs))
def oc1_spec_l02Spread (as : List AV) : T AV := match as with | [.sl _ _ (.f .f32 xs)] => .leaf (.f .f32 (spreadM xs)) | _ => .fail
def oc_spec_l02Spread (xs : List Nat) (d : Nat) (as : List AV) : T AV := match d with | 6 => oc1_spec_l02Mean as | 7 => oc1_spec_l02Less as | 10 => oc1_spec_l02Dot as | 15 => oc1_spec_l01Sqrt as | _ => .fail



theorem q_spec_l02Spread {P : Program} {g_f : FuncId} {g_spec_l02Mean g_spec_l02Less g_spec_l02Dot g_spec_l01Sqrt : FuncId} (h_ : Is_spec_l02Spread P g_f g_spec_l02Mean g_spec_l02Less g_spec_l02Dot g_spec_l01Sqrt) (xs : List Nat) (ht : T.ok (fun x_ => x_ = .f .f32 (spreadM xs)) (
      T.ob ((VCall P) g_spec_l02Mean [AV.sl (Tag.par [0]) 0 (Cont.f FloatKind.f32 xs)] (AV.f FloatKind.f32 (meanM xs)))
        (T.ob ((VCall P) g_spec_l02Less [AV.sl (Tag.par [0]) 0 (Cont.f FloatKind.f32 xs), AV.f FloatKind.f32 (meanM xs)] (AV.sl (Tag.own 0) 0 (Cont.f FloatKind.f32 (lessOneM xs (meanM xs)))))
          (T.ob
            ((VCall P) g_spec_l02Dot [AV.sl (Tag.par [0]) 0 (Cont.f FloatKind.f32 (lessOneM xs (meanM xs))), AV.sl (Tag.par [1]) 0 (Cont.f FloatKind.f32 (lessOneM xs (meanM xs)))]
              (AV.f FloatKind.f32 (dotM (lessOneM xs (meanM xs)) (lessOneM xs (meanM xs)))))
            (T.ob True
              (T.ob True
                (T.ob
                  ((VCall P) g_spec_l01Sqrt [AV.f FloatKind.f32 (fdiv FloatKind.f32 (dotM (lessOneM xs (meanM xs)) (lessOneM xs (meanM xs))) (fofi FloatKind.f32 (↑(List.length xs) : Int)))]
                    (AV.f FloatKind.f32 (rootM (fdiv FloatKind.f32 (dotM (lessOneM xs (meanM xs)) (lessOneM xs (meanM xs))) (fofi FloatKind.f32 (↑(List.length xs) : Int))))))
                  (T.leaf (AV.f FloatKind.f32 (rootM (fdiv FloatKind.f32 (dotM (lessOneM xs (meanM xs)) (lessOneM xs (meanM xs))) (fofi FloatKind.f32 (↑(List.length xs) : Int))))))))))))) :
    VCall P g_f [PS [0] .f32 xs] (.f .f32 (spreadM xs)) := h_.call_of ps_spec_l02Spread ⟨oc_spec_l02Spread xs, fun _ _ => none⟩ (by kernel_rfl) ht

-- END spec_l02Spread

-- FN impl_SpreadOf
/-- impl.SpreadOf: slots 17, results [.t 2, .t 3]; calls [5:g_impl_IsSeries, 8:g_impl_squares, 13:g_impl_RootNumber, 14:g_impl_ifFinite]; names [(list, 0), (list, 1)] -/
def ps_impl_SpreadOf : List Nat := [0, 2, 3, 6]
def b_impl_SpreadOf (g_impl_IsSeries g_impl_squares g_impl_RootNumber g_impl_ifFinite : FuncId) : VCode :=
  (.seq
   (.region false [
    ⟨some 2, .mv, [.k (.f .f32 0)], none⟩,
    ⟨some 3, .mv, [.k (.b false)], none⟩])
   (.seq
    (.seq
     (.region false [
      ⟨some 4, .mv, [.t 0], none⟩,
      ⟨some 5, (.call g_impl_IsSeries), [.t 4], none⟩,
      ⟨some 6, .not, [.t 5], none⟩])
     (.cond (.t 6)
      (.seq
       (.region false [
        ⟨some 2, .mv, [.k (.f .f32 0)], none⟩,
        ⟨some 3, .mv, [.k (.b false)], none⟩])
       .ret)
      .skip))
    (.seq
     (.region false [
      ⟨some 7, .mv, [.t 0], none⟩,
      ⟨some 8, (.call g_impl_squares), [.t 7], none⟩,
      ⟨some 9, .mv, [.t 0], none⟩,
      ⟨some 10, .len, [.t 9], none⟩,
      ⟨some 11, (.convF .f32), [.t 10], none⟩,
      ⟨some 12, (.bin .quo), [.t 8, .t 11], none⟩,
      ⟨some 13, (.call g_impl_RootNumber), [.t 12], none⟩,
      ⟨some 14, (.call g_impl_ifFinite), [.t 13], none⟩,
      ⟨some 15, (.extract 0), [.t 14], none⟩,
      ⟨some 16, (.extract 1), [.t 14], none⟩,
      ⟨some 2, .mv, [.t 15], none⟩,
      ⟨some 3, .mv, [.t 16], none⟩])
     .ret)))

abbrev Is_impl_SpreadOf (P : Program) (g_f : FuncId) (g_impl_IsSeries g_impl_squares g_impl_RootNumber g_impl_ifFinite : FuncId) : Prop := FnIs P g_f 17 [.t 2, .t 3] (b_impl_SpreadOf g_impl_IsSeries g_impl_squares g_impl_RootNumber g_impl_ifFinite)

abbrev C_impl_SpreadOf (P : Program) (g_f : FuncId) : Prop := ∀ (xs : List Nat) (hx : xs.length ≤ maxLen), VCall P g_f [PS [0] .f32 xs] (.tup [.f .f32 (if spOk xs = true then spreadM xs else 0), .b (spOk xs)])
def oc1_impl_SpreadOf (as : List AV) : T AV := match as with | [.sl _ _ (.f .f32 xs)] => .leaf (.tup [.f .f32 (if spOk xs = true then spreadM xs else 0), .b (spOk xs)]) | _ => .fail
def oc_impl_SpreadOf (xs : List Nat) (d : Nat) (as : List AV) : T AV := match d with | 5 => oc1_impl_IsSeries as | 8 => oc1_impl_squares as | 13 => oc1_impl_RootNumber as | 14 => oc1_impl_ifFinite as | _ => .fail



theorem q_impl_SpreadOf {P : Program} {g_f : FuncId} {g_impl_IsSeries g_impl_squares g_impl_RootNumber g_impl_ifFinite : FuncId} (h_ : Is_impl_SpreadOf P g_f g_impl_IsSeries g_impl_squares g_impl_RootNumber g_impl_ifFinite) (xs : List Nat) (ht : T.ok (fun x_ => x_ = .tup [.f .f32 (if spOk xs = true then spreadM xs else 0), .b (spOk xs)]) (
      T.ob ((VCall P) g_impl_IsSeries [AV.sl (Tag.par [0]) 0 (Cont.f FloatKind.f32 xs)] (AV.b (seriesM xs)))
        (T.ite (!seriesM xs) (T.leaf (AV.tup [AV.f FloatKind.f32 0, AV.b false]))
          (T.ob ((VCall P) g_impl_squares [AV.sl (Tag.par [0]) 0 (Cont.f FloatKind.f32 xs)] (AV.f FloatKind.f32 (squaresM xs)))
            (T.ob True
              (T.ob True
                (T.ob
                  ((VCall P) g_impl_RootNumber [AV.f FloatKind.f32 (fdiv FloatKind.f32 (squaresM xs) (fofi FloatKind.f32 (↑(List.length xs) : Int)))]
                    (AV.f FloatKind.f32 (rootM (fdiv FloatKind.f32 (squaresM xs) (fofi FloatKind.f32 (↑(List.length xs) : Int))))))
                  (T.ob
                    ((VCall P) g_impl_ifFinite [AV.f FloatKind.f32 (rootM (fdiv FloatKind.f32 (squaresM xs) (fofi FloatKind.f32 (↑(List.length xs) : Int))))]
                      (AV.tup
                        [AV.f FloatKind.f32 (numM (rootM (fdiv FloatKind.f32 (squaresM xs) (fofi FloatKind.f32 (↑(List.length xs) : Int))))),
                          AV.b (finM (rootM (fdiv FloatKind.f32 (squaresM xs) (fofi FloatKind.f32 (↑(List.length xs) : Int)))))]))
                    (T.leaf
                      (AV.tup
                        [AV.f FloatKind.f32 (numM (rootM (fdiv FloatKind.f32 (squaresM xs) (fofi FloatKind.f32 (↑(List.length xs) : Int))))),
                          AV.b (finM (rootM (fdiv FloatKind.f32 (squaresM xs) (fofi FloatKind.f32 (↑(List.length xs) : Int)))))])))))))))) :
    VCall P g_f [PS [0] .f32 xs] (.tup [.f .f32 (if spOk xs = true then spreadM xs else 0), .b (spOk xs)]) := h_.call_of ps_impl_SpreadOf ⟨oc_impl_SpreadOf xs, fun _ _ => none⟩ (by kernel_rfl) ht

-- END impl_SpreadOf


def evenM (xs : List Nat) : List Nat := tab xs.length fun i => fdiv .f32 (fsub .f32 (xs.getD i 0) (meanM xs)) (spreadM xs)
def evenOk (xs : List Nat) : Bool := seriesM xs && ((finM (spreadM xs) && fgt .f32 (spreadM xs) 0) && finAllM (evenM xs))

-- FN impl_EvenSeries
/-- impl.EvenSeries: slots 52, results [.t 2, .t 3]; calls [13:g_impl_MeanOf, 18:g_impl_SpreadOf, 49:g_impl_ifAll]; names [(list, 0), (list, 1), (m, 4), (one, 5), (spread, 6), (two, 7), (out, 8), (_, 9), (x, 10)] -/
def ps_impl_EvenSeries : List Nat := [0, 2, 3, 4, 5, 6, 7, 8, 10, 31, 33, 34, 35, 36]
def lv_impl_EvenSeries_L0 : List Nat := [4, 6, 8, 33, 34, 35]
def b_impl_EvenSeries_L0 (g_impl_MeanOf g_impl_SpreadOf g_impl_ifAll : FuncId) : VCode :=
  (.seq
   (.region false [
    ⟨some 36, (.bin .lss), [.t 35, .t 34], none⟩])
   (.seq
    (.cond (.t 36)
     .skip
     (.exit 0))
    (.seq
     (.block 1
      (.seq
       (.region false [
        ⟨some 37, .iaddr, [.t 33, .t 35], none⟩,
        ⟨some 38, .load, [.t 37], none⟩,
        ⟨some 10, .mv, [.t 38], none⟩])
       (.region false [
        ⟨some 39, .mv, [.t 8], none⟩,
        ⟨some 40, .mv, [.t 10], none⟩,
        ⟨some 41, .mv, [.t 4], none⟩,
        ⟨some 42, (.bin .sub), [.t 40, .t 41], none⟩,
        ⟨some 43, .mv, [.t 6], none⟩,
        ⟨some 44, (.bin .quo), [.t 42, .t 43], none⟩,
        ⟨some 45, (.lit true (.f .f32 [])), [.t 44], none⟩,
        ⟨some 46, .app, [.t 39, .t 45], none⟩,
        ⟨some 8, .mv, [.t 46], none⟩])))
     (.region false [
      ⟨some 47, (.bin .add), [.t 35, .k (.i .i64 1)], none⟩,
      ⟨some 35, .mv, [.t 47], none⟩]))))

def b_impl_EvenSeries (g_impl_MeanOf g_impl_SpreadOf g_impl_ifAll : FuncId) : VCode :=
  (.seq
   (.region false [
    ⟨some 2, (.nilsl (.f .f32 [])), [], none⟩,
    ⟨some 3, .mv, [.k (.b false)], none⟩])
   (.seq
    (.region false [
     ⟨some 12, .mv, [.t 0], none⟩,
     ⟨some 13, (.call g_impl_MeanOf), [.t 12], none⟩,
     ⟨some 11, .mv, [.t 13], none⟩,
     ⟨some 14, (.extract 0), [.t 11], none⟩,
     ⟨some 15, (.extract 1), [.t 11], none⟩,
     ⟨some 4, .mv, [.t 14], none⟩,
     ⟨some 5, .mv, [.t 15], none⟩])
    (.seq
     (.region false [
      ⟨some 17, .mv, [.t 0], none⟩,
      ⟨some 18, (.call g_impl_SpreadOf), [.t 17], none⟩,
      ⟨some 16, .mv, [.t 18], none⟩,
      ⟨some 19, (.extract 0), [.t 16], none⟩,
      ⟨some 20, (.extract 1), [.t 16], none⟩,
      ⟨some 6, .mv, [.t 19], none⟩,
      ⟨some 7, .mv, [.t 20], none⟩])
     (.seq
      (.seq
       (.region false [
        ⟨some 21, .mv, [.t 5], none⟩,
        ⟨some 22, .not, [.t 21], none⟩,
        ⟨some 23, .mv, [.t 22], none⟩,
        ⟨some 24, .mv, [.t 7], some (23, false)⟩,
        ⟨some 25, .not, [.t 24], some (23, false)⟩,
        ⟨some 26, .pick, [.t 23, .k (.b true), .t 25], none⟩,
        ⟨some 27, .mv, [.t 26], none⟩,
        ⟨some 28, .mv, [.t 6], some (27, false)⟩,
        ⟨some 29, (.bin .gtr), [.t 28, .k (.f .f32 0)], some (27, false)⟩,
        ⟨some 30, .not, [.t 29], some (27, false)⟩,
        ⟨some 31, .pick, [.t 27, .k (.b true), .t 30], none⟩])
       (.cond (.t 31)
        (.seq
         (.region false [
          ⟨some 2, (.nilsl (.f .f32 [])), [], none⟩,
          ⟨some 3, .mv, [.k (.b false)], none⟩])
         .ret)
        .skip))
      (.seq
       (.region false [
        ⟨some 32, (.lit true (.f .f32 [])), [], none⟩,
        ⟨some 8, .mv, [.t 32], none⟩])
       (.seq
        (.seq
         (.region false [
          ⟨some 33, .mv, [.t 0], none⟩,
          ⟨some 34, .len, [.t 33], none⟩,
          ⟨some 35, .mv, [.k (.i .i64 0)], none⟩])
         (.block 0 (.loop (b_impl_EvenSeries_L0 g_impl_MeanOf g_impl_SpreadOf g_impl_ifAll))))
        (.seq
         (.region false [
          ⟨some 48, .mv, [.t 8], none⟩,
          ⟨some 49, (.call g_impl_ifAll), [.t 48], none⟩,
          ⟨some 50, (.extract 0), [.t 49], none⟩,
          ⟨some 51, (.extract 1), [.t 49], none⟩,
          ⟨some 2, .mv, [.t 50], none⟩,
          ⟨some 3, .mv, [.t 51], none⟩])
         .ret)))))))

abbrev Is_impl_EvenSeries (P : Program) (g_f : FuncId) (g_impl_MeanOf g_impl_SpreadOf g_impl_ifAll : FuncId) : Prop := FnIs P g_f 52 [.t 2, .t 3] (b_impl_EvenSeries g_impl_MeanOf g_impl_SpreadOf g_impl_ifAll)

abbrev C_impl_EvenSeries (P : Program) (g_f : FuncId) : Prop := ∀ (xs : List Nat) (hx : xs.length ≤ maxLen), VCall P g_f [PS [0] .f32 xs] (.tup [OS 0 .f32 (if evenOk xs = true then evenM xs else []), .b (evenOk xs)])
def oc1_impl_EvenSeries (as : List AV) : T AV := match as with | [.sl _ _ (.f .f32 xs)] => .leaf (.tup [OS 0 .f32 (if evenOk xs = true then evenM xs else []), .b (evenOk xs)]) | _ => .fail
def oc_impl_EvenSeries (xs : List Nat) (d : Nat) (as : List AV) : T AV := match d with | 13 => oc1_impl_MeanOf as | 18 => oc1_impl_SpreadOf as | 49 => oc1_impl_ifAll as | _ => .fail
def h_impl_EvenSeries_L0 (xs : List Nat) (out : List Nat) (v35 : Int) : Env := anys 4 ++ [AV.f FloatKind.f32 (if meanOk xs = true then meanM xs else 0), .any, AV.f FloatKind.f32 (if spOk xs = true then spreadM xs else 0), .any, .sl (Tag.own 256) 0 (.f FloatKind.f32 out)] ++ anys 24 ++ [AV.sl (Tag.par [0]) 0 (Cont.f FloatKind.f32 xs), AV.i IntKind.i64 (↑(List.length xs) : Int), .i IntKind.i64 v35] ++ anys 16

theorem q_impl_EvenSeries_L0 {VC : FuncId → List AV → AV → Prop} {g_impl_MeanOf g_impl_SpreadOf g_impl_ifAll : FuncId} (xs : List Nat) (out : List Nat) (v35 : Int) {e_ : Ex} {σ_ : Env} (ht : T.ok (fun x_ => x_ = (e_, σ_)) (
      T.ite (decide (v35 < (↑(List.length xs) : Int)))
        (T.ob (0 ≤ v35 ∧ v35 < (↑(List.length xs) : Int))
          (T.ob True
            (T.ob (List.length out + List.length [fdiv FloatKind.f32 (fsub FloatKind.f32 (List.getD xs (Int.toNat v35) 0) (if meanOk xs = true then meanM xs else 0)) (if spOk xs = true then spreadM xs else 0)] ≤ 4294967296)
              (T.leaf
                (Ex.normal,
                  h_impl_EvenSeries_L0 xs (out ++ [fdiv FloatKind.f32 (fsub FloatKind.f32 (List.getD xs (Int.toNat v35) 0) (if meanOk xs = true then meanM xs else 0)) (if spOk xs = true then spreadM xs else 0)])
                    (IntKind.wrap IntKind.i64 (v35 + 1)))))))
        (T.leaf (Ex.exit 0, h_impl_EvenSeries_L0 xs out v35)))) :
    Exec VC ps_impl_EvenSeries (b_impl_EvenSeries_L0 g_impl_MeanOf g_impl_SpreadOf g_impl_ifAll) (h_impl_EvenSeries_L0 xs out v35) e_ σ_ := evL_of (lv := lv_impl_EvenSeries_L0) (rs := [2, 3]) (O := ⟨oc_impl_EvenSeries xs, fun _ _ => none⟩) (by kernel_rfl) ht

theorem q_impl_EvenSeries {P : Program} {g_f : FuncId} {g_impl_MeanOf g_impl_SpreadOf g_impl_ifAll : FuncId} (h_ : Is_impl_EvenSeries P g_f g_impl_MeanOf g_impl_SpreadOf g_impl_ifAll) (xs : List Nat) (ht : T.ok (fun x_ => x_ = .tup [OS 0 .f32 (if evenOk xs = true then evenM xs else []), .b (evenOk xs)]) (
      T.ob ((VCall P) g_impl_MeanOf [AV.sl (Tag.par [0]) 0 (Cont.f FloatKind.f32 xs)] (AV.tup [AV.f FloatKind.f32 (if meanOk xs = true then meanM xs else 0), AV.b (meanOk xs)]))
        (T.ob ((VCall P) g_impl_SpreadOf [AV.sl (Tag.par [0]) 0 (Cont.f FloatKind.f32 xs)] (AV.tup [AV.f FloatKind.f32 (if spOk xs = true then spreadM xs else 0), AV.b (spOk xs)]))
          (T.ite (!meanOk xs) (T.leaf (AV.tup [AV.sl (Tag.own 0) 0 (Cont.f FloatKind.f32 []), AV.b false]))
            (T.ite (!spOk xs) (T.leaf (AV.tup [AV.sl (Tag.own 0) 0 (Cont.f FloatKind.f32 []), AV.b false]))
              (T.ite (!fgt FloatKind.f32 (if spOk xs = true then spreadM xs else 0) 0) (T.leaf (AV.tup [AV.sl (Tag.own 0) 0 (Cont.f FloatKind.f32 []), AV.b false]))
                (T.ob
                  (Exec (VCall P) ps_impl_EvenSeries (VCode.block 0 (VCode.loop (b_impl_EvenSeries_L0 g_impl_MeanOf g_impl_SpreadOf g_impl_ifAll))) (h_impl_EvenSeries_L0 xs [] 0) Ex.normal
                    (h_impl_EvenSeries_L0 xs (evenM xs) (↑(List.length xs) : Int)))
                  (T.ob ((VCall P) g_impl_ifAll [AV.sl (Tag.par [0]) 0 (Cont.f FloatKind.f32 (evenM xs))] (AV.tup [AV.sl (Tag.par [0]) 0 (Cont.f FloatKind.f32 (ifAllM (evenM xs))), AV.b (finAllM (evenM xs))]))
                    (T.leaf (AV.tup [AV.sl (Tag.own 0) 0 (Cont.f FloatKind.f32 (ifAllM (evenM xs))), AV.b (finAllM (evenM xs))])))))))))) :
    VCall P g_f [PS [0] .f32 xs] (.tup [OS 0 .f32 (if evenOk xs = true then evenM xs else []), .b (evenOk xs)]) := h_.call_of ps_impl_EvenSeries ⟨oc_impl_EvenSeries xs, fun id σ => match id with | 0 => some (lv_impl_EvenSeries_L0, .leaf (.normal, h_impl_EvenSeries_L0 xs (evenM xs) xs.length)) | _ => none⟩ (by kernel_rfl) ht

-- END impl_EvenSeries

-- FN spec_EvenSeries
/-- spec.EvenSeries: slots 38, results [.t 2, .t 3]; calls [8:g_spec_l02Series, 11:g_spec_l02Spread, 13:g_spec_l02Above, 17:g_spec_l02Mean, 18:g_spec_l02Less, 35:g_spec_l02List]; names [(list, 0), (list, 1), (spread, 4), (out, 5), (i, 6)] -/
def ps_spec_EvenSeries : List Nat := [0, 2, 3, 4, 5, 6, 9, 14, 22]
def lv_spec_EvenSeries_L0 : List Nat := [4, 5, 6]
def b_spec_EvenSeries_L0 (g_spec_l02Series g_spec_l02Spread g_spec_l02Above g_spec_l02Mean g_spec_l02Less g_spec_l02List : FuncId) : VCode :=
  (.seq
   (.seq
    (.region false [
     ⟨some 19, .mv, [.t 6], none⟩,
     ⟨some 20, .mv, [.t 5], none⟩,
     ⟨some 21, .len, [.t 20], none⟩,
     ⟨some 22, (.bin .lss), [.t 19, .t 21], none⟩])
    (.cond (.t 22)
     .skip
     (.exit 0)))
   (.seq
    (.block 1
     (.region false [
      ⟨some 25, .mv, [.t 5], none⟩,
      ⟨some 26, .mv, [.t 6], none⟩,
      ⟨some 27, .mv, [.t 5], none⟩,
      ⟨some 28, .mv, [.t 6], none⟩,
      ⟨some 29, .iaddr, [.t 27, .t 28], none⟩,
      ⟨some 30, .load, [.t 29], none⟩,
      ⟨some 31, .mv, [.t 4], none⟩,
      ⟨some 32, (.bin .quo), [.t 30, .t 31], none⟩,
      ⟨some 33, .iaddr, [.t 25, .t 26], none⟩,
      ⟨none, .store, [.t 33, .t 32], none⟩]))
    (.region false [
     ⟨some 23, .mv, [.t 6], none⟩,
     ⟨some 24, (.bin .add), [.t 23, .k (.i .i64 1)], none⟩,
     ⟨some 6, .mv, [.t 24], none⟩])))

def b_spec_EvenSeries (g_spec_l02Series g_spec_l02Spread g_spec_l02Above g_spec_l02Mean g_spec_l02Less g_spec_l02List : FuncId) : VCode :=
  (.seq
   (.region false [
    ⟨some 2, (.nilsl (.f .f32 [])), [], none⟩,
    ⟨some 3, .mv, [.k (.b false)], none⟩])
   (.seq
    (.seq
     (.region false [
      ⟨some 7, .mv, [.t 0], none⟩,
      ⟨some 8, (.call g_spec_l02Series), [.t 7], none⟩,
      ⟨some 9, .not, [.t 8], none⟩])
     (.cond (.t 9)
      (.seq
       (.region false [
        ⟨some 2, (.nilsl (.f .f32 [])), [], none⟩,
        ⟨some 3, .mv, [.k (.b false)], none⟩])
       .ret)
      .skip))
    (.seq
     (.region false [
      ⟨some 10, .mv, [.t 0], none⟩,
      ⟨some 11, (.call g_spec_l02Spread), [.t 10], none⟩,
      ⟨some 4, .mv, [.t 11], none⟩])
     (.seq
      (.seq
       (.region false [
        ⟨some 12, .mv, [.t 4], none⟩,
        ⟨some 13, (.call g_spec_l02Above), [.t 12], none⟩,
        ⟨some 14, .not, [.t 13], none⟩])
       (.cond (.t 14)
        (.seq
         (.region false [
          ⟨some 2, (.nilsl (.f .f32 [])), [], none⟩,
          ⟨some 3, .mv, [.k (.b false)], none⟩])
         .ret)
        .skip))
      (.seq
       (.region false [
        ⟨some 15, .mv, [.t 0], none⟩,
        ⟨some 16, .mv, [.t 0], none⟩,
        ⟨some 17, (.call g_spec_l02Mean), [.t 16], none⟩,
        ⟨some 18, (.call g_spec_l02Less), [.t 15, .t 17], none⟩,
        ⟨some 5, .mv, [.t 18], none⟩])
       (.seq
        (.seq
         (.region false [
          ⟨some 6, .mv, [.k (.i .i64 0)], none⟩])
         (.block 0 (.loop (b_spec_EvenSeries_L0 g_spec_l02Series g_spec_l02Spread g_spec_l02Above g_spec_l02Mean g_spec_l02Less g_spec_l02List))))
        (.seq
         (.region false [
          ⟨some 34, .mv, [.t 5], none⟩,
          ⟨some 35, (.call g_spec_l02List), [.t 34], none⟩,
          ⟨some 36, (.extract 0), [.t 35], none⟩,
          ⟨some 37, (.extract 1), [.t 35], none⟩,
          ⟨some 2, .mv, [.t 36], none⟩,
          ⟨some 3, .mv, [.t 37], none⟩])
         .ret)))))))

abbrev Is_spec_EvenSeries (P : Program) (g_f : FuncId) (g_spec_l02Series g_spec_l02Spread g_spec_l02Above g_spec_l02Mean g_spec_l02Less g_spec_l02List : FuncId) : Prop := FnIs P g_f 38 [.t 2, .t 3] (b_spec_EvenSeries g_spec_l02Series g_spec_l02Spread g_spec_l02Above g_spec_l02Mean g_spec_l02Less g_spec_l02List)

abbrev C_spec_EvenSeries (P : Program) (g_f : FuncId) : Prop := ∀ (xs : List Nat) (hx : xs.length ≤ maxLen), VCall P g_f [PS [0] .f32 xs] (.tup [OS 0 .f32 (if evenOk xs = true then evenM xs else []), .b (evenOk xs)])
def oc1_spec_EvenSeries (as : List AV) : T AV := match as with | [.sl _ _ (.f .f32 xs)] => .leaf (.tup [OS 0 .f32 (if evenOk xs = true then evenM xs else []), .b (evenOk xs)]) | _ => .fail
def oc_spec_EvenSeries (xs : List Nat) (d : Nat) (as : List AV) : T AV := match d with | 8 => oc1_spec_l02Series as | 11 => oc1_spec_l02Spread as | 13 => oc1_spec_l02Above as | 17 => oc1_spec_l02Mean as | 18 => oc1_spec_l02Less as | 35 => oc1_spec_l02List as | _ => .fail
def h_spec_EvenSeries_L0 (xs : List Nat) (out : List Nat) (i : Int) : Env := anys 4 ++ [AV.f FloatKind.f32 (spreadM xs), .sl (Tag.own 144) 0 (.f FloatKind.f32 out), .i IntKind.i64 i] ++ anys 31

theorem q_spec_EvenSeries_L0 {VC : FuncId → List AV → AV → Prop} {g_spec_l02Series g_spec_l02Spread g_spec_l02Above g_spec_l02Mean g_spec_l02Less g_spec_l02List : FuncId} (xs : List Nat) (out : List Nat) (i : Int) {e_ : Ex} {σ_ : Env} (ht : T.ok (fun x_ => x_ = (e_, σ_)) (
      T.ite (decide (i < (↑(List.length out) : Int)))
        (T.ob (0 ≤ i ∧ i < (↑(List.length out) : Int))
          (T.ob True
            (T.ob (0 ≤ i ∧ i < (↑(List.length out) : Int))
              (T.ob (false = false) (T.leaf (Ex.normal, h_spec_EvenSeries_L0 xs (List.set out (0 + Int.toNat i - 0) (fdiv FloatKind.f32 (List.getD out (Int.toNat i) 0) (spreadM xs))) (IntKind.wrap IntKind.i64 (i + 1))))))))
        (T.leaf (Ex.exit 0, h_spec_EvenSeries_L0 xs out i)))) :
    Exec VC ps_spec_EvenSeries (b_spec_EvenSeries_L0 g_spec_l02Series g_spec_l02Spread g_spec_l02Above g_spec_l02Mean g_spec_l02Less g_spec_l02List) (h_spec_EvenSeries_L0 xs out i) e_ σ_ := evL_of (lv := lv_spec_EvenSeries_L0) (rs := [2, 3]) (O := ⟨oc_spec_EvenSeries xs, fun _ _ => none⟩) (by kernel_rfl) ht

theorem q_spec_EvenSeries {P : Program} {g_f : FuncId} {g_spec_l02Series g_spec_l02Spread g_spec_l02Above g_spec_l02Mean g_spec_l02Less g_spec_l02List : FuncId} (h_ : Is_spec_EvenSeries P g_f g_spec_l02Series g_spec_l02Spread g_spec_l02Above g_spec_l02Mean g_spec_l02Less g_spec_l02List) (xs : List Nat) (ht : T.ok (fun x_ => x_ = .tup [OS 0 .f32 (if evenOk xs = true then evenM xs else []), .b (evenOk xs)]) (
      T.ob ((VCall P) g_spec_l02Series [AV.sl (Tag.par [0]) 0 (Cont.f FloatKind.f32 xs)] (AV.b (seriesM xs)))
        (T.ite (!seriesM xs) (T.leaf (AV.tup [AV.sl (Tag.own 0) 0 (Cont.f FloatKind.f32 []), AV.b false]))
          (T.ob ((VCall P) g_spec_l02Spread [AV.sl (Tag.par [0]) 0 (Cont.f FloatKind.f32 xs)] (AV.f FloatKind.f32 (spreadM xs)))
            (T.ob ((VCall P) g_spec_l02Above [AV.f FloatKind.f32 (spreadM xs)] (AV.b (finM (spreadM xs) && fgt FloatKind.f32 (spreadM xs) 0)))
              (T.ite (!(finM (spreadM xs) && fgt FloatKind.f32 (spreadM xs) 0)) (T.leaf (AV.tup [AV.sl (Tag.own 0) 0 (Cont.f FloatKind.f32 []), AV.b false]))
                (T.ob ((VCall P) g_spec_l02Mean [AV.sl (Tag.par [0]) 0 (Cont.f FloatKind.f32 xs)] (AV.f FloatKind.f32 (meanM xs)))
                  (T.ob ((VCall P) g_spec_l02Less [AV.sl (Tag.par [0]) 0 (Cont.f FloatKind.f32 xs), AV.f FloatKind.f32 (meanM xs)] (AV.sl (Tag.own 0) 0 (Cont.f FloatKind.f32 (lessOneM xs (meanM xs)))))
                    (T.ob
                      (Exec (VCall P) ps_spec_EvenSeries (VCode.block 0 (VCode.loop (b_spec_EvenSeries_L0 g_spec_l02Series g_spec_l02Spread g_spec_l02Above g_spec_l02Mean g_spec_l02Less g_spec_l02List)))
                        (h_spec_EvenSeries_L0 xs (lessOneM xs (meanM xs)) 0) Ex.normal (h_spec_EvenSeries_L0 xs (evenM xs) (↑(List.length xs) : Int)))
                      (T.ob ((VCall P) g_spec_l02List [AV.sl (Tag.par [0]) 0 (Cont.f FloatKind.f32 (evenM xs))] (AV.tup [AV.sl (Tag.par [0]) 0 (Cont.f FloatKind.f32 (ifAllM (evenM xs))), AV.b (finAllM (evenM xs))]))
                        (T.leaf (AV.tup [AV.sl (Tag.own 0) 0 (Cont.f FloatKind.f32 (ifAllM (evenM xs))), AV.b (finAllM (evenM xs))])))))))))))) :
    VCall P g_f [PS [0] .f32 xs] (.tup [OS 0 .f32 (if evenOk xs = true then evenM xs else []), .b (evenOk xs)]) := h_.call_of ps_spec_EvenSeries ⟨oc_spec_EvenSeries xs, fun id σ => match id with | 0 => some (lv_spec_EvenSeries_L0, .leaf (.normal, h_spec_EvenSeries_L0 xs (evenM xs) xs.length)) | _ => none⟩ (by kernel_rfl) ht

-- END spec_EvenSeries

theorem root_unfold (x : Nat) : fconv .f64 .f32 (fsqrt (fconv .f32 .f64 x)) = rootM x := rfl
theorem k_math_Sqrt {P : Program} {f g_math_sqrt : FuncId} (h : Is_math_Sqrt P f g_math_sqrt) (c1 : C_math_sqrt P g_math_sqrt) : C_math_Sqrt P f := by
  intro x
  refine q_math_Sqrt h x ?_
  repeat' (first | with_reducible refine T.ok_ob ?_ (fun _ => ?_) | with_reducible refine T.ok_ite (fun _ => ?_) (fun _ => ?_) | with_reducible refine T.ok_leaf ?_)
  all_goals first | with_reducible rfl | with_reducible assumption | with_reducible exact c1 _ | contradiction | exact fconvOk_32_64 _ | assumption | exact rfl | (simp_all []; done) | (simp_all [T.ok]; omega)

theorem k_impl_RootNumber {P : Program} {f g : FuncId} (h : Is_impl_RootNumber P f g) (c1 : C_math_Sqrt P g) : C_impl_RootNumber P f := by
  intro x
  exact q_impl_RootNumber h x ⟨fconvOk_32_64 _, fun _ => ⟨c1 _, fun _ => ⟨root_narrow x, fun _ => rfl⟩⟩⟩
theorem k_spec_l01Narrow {P : Program} {f : FuncId} (h : Is_spec_l01Narrow P f) : C_spec_l01Narrow P f := by
  intro x hx
  exact q_spec_l01Narrow h x ⟨hx, fun _ => rfl⟩
theorem k_spec_l01Sqrt {P : Program} {f g1 g2 : FuncId} (h : Is_spec_l01Sqrt P f g1 g2) (c1 : C_math_Sqrt P g1) (c2 : C_spec_l01Narrow P g2) : C_spec_l01Sqrt P f := by
  intro x
  exact q_spec_l01Sqrt h x ⟨fconvOk_32_64 _, fun _ => ⟨c1 _, fun _ => ⟨c2 _ (root_narrow x), fun _ => rfl⟩⟩⟩
theorem series_fin {xs : List Nat} (h : seriesM xs = true) {i : Nat} (hi : i < xs.length) : finM (xs.getD i 0) = true := by
  simp only [seriesM, Bool.and_eq_true, finAllM, List.all_eq_true] at h
  refine h.2.2 _ ?_
  rw [List.getD_eq_getElem?_getD, List.getElem?_eq_getElem hi]
  exact List.getElem_mem hi
theorem k_spec_l02Spread {P : Program} {f g1 g2 g3 g4 : FuncId} (h : Is_spec_l02Spread P f g1 g2 g3 g4) (c1 : C_spec_l02Mean P g1) (c2 : C_spec_l02Less P g2) (c3 : C_spec_l02Dot P g3) (c4 : C_spec_l01Sqrt P g4) : C_spec_l02Spread P f := by
  intro xs hx
  have ll := lessOne_len xs (meanM xs)
  refine q_spec_l02Spread h xs ?_
  repeat' (first | with_reducible refine T.ok_ob ?_ (fun _ => ?_) | with_reducible refine T.ok_ite (fun _ => ?_) (fun _ => ?_) | with_reducible refine T.ok_leaf ?_)
  all_goals (try simp only [decide_eq_true_eq, decide_eq_false_iff_not, Bool.not_eq_true', Bool.not_eq_false', Bool.not_eq_eq_eq_not, Bool.not_true, Bool.not_false, Int.toNat_natCast, tab_len, List.length_append, List.length_singleton, List.length_cons, List.length_nil, List.length_drop, List.length_take, getD_drop', getD_nat, reduceCtorEq] at *)
  all_goals (try simp (disch := omega) only [wrap64_id] at *)
  all_goals first | omega | (exfalso; omega) | exact True.intro | skip
  all_goals first | exact c1 _ (by rw [maxLen_eq]; omega) | exact c2 _ _ (by omega) | exact c3 _ _ (Nat.le_refl _) (by omega) | exact c3 _ _ (Nat.le_refl _) (by rw [maxLen_eq]; omega) | exact c4 _ | rfl
theorem k_impl_SpreadOf {P : Program} {f g1 g2 g3 g4 : FuncId} (h : Is_impl_SpreadOf P f g1 g2 g3 g4) (c1 : C_impl_IsSeries P g1) (c2 : C_impl_squares P g2) (c3 : C_impl_RootNumber P g3) (c4 : C_impl_ifFinite P g4) : C_impl_SpreadOf P f := by
  intro xs hx
  refine q_impl_SpreadOf h xs ⟨c1 _ hx, fun _ => ⟨fun h0 => ?_, fun h0 => ?_⟩⟩
  · simp at h0; simp [T.ok, spOk, h0]
  · simp at h0
    have hl := series_len h0
    refine ⟨c2 _ hl.2, fun _ => ⟨trivial, fun _ => ⟨trivial, fun _ => ⟨c3 _, fun _ => ⟨c4 _, fun _ => ?_⟩⟩⟩⟩⟩
    simp [T.ok, spOk, h0, numM, spreadM]
theorem acc_bad {f : Nat → Nat → Nat} {a : Nat} : ∀ n : Nat, 1 ≤ n → (∀ i s, finM (f i s) = false) → finM (accN f n a) = false
  | 0, h, _ => by omega
  | n + 1, _, hf => hf n _
/-- a spread that is finite comes of a mean that is -/
theorem mean_of_spread {xs : List Nat} (hs : seriesM xs = true) (h : finM (spreadM xs) = true) : finM (meanM xs) = true := by
  cases hm : finM (meanM xs) with
  | true => rfl
  | false =>
    exfalso
    have hl := series_len hs
    have hsq : finM (squaresM xs) = false := by
      unfold squaresM dotM
      have e : (lessOneM xs (meanM xs)).length = (xs.length - 1) + 1 := by rw [lessOne_len]; omega
      rw [e]
      simp only [accN]
      refine bad_add (bad_square ?_)
      rw [lessOne_get _ _ _ (by omega)]
      exact bad_sub (series_fin hs (by omega)) hm
    have hd : finM (fdiv .f32 (squaresM xs) (fofi .f32 xs.length)) = false := bad_div hsq (small_fin ⟨xs.length, by omega⟩)
    have := bad_root hd
    unfold spreadM at h
    rw [this] at h; cases h
theorem even_get (xs : List Nat) (i : Nat) (h : i < xs.length) : (evenM xs).getD i 0 = fdiv .f32 (fsub .f32 (xs.getD i 0) (meanM xs)) (spreadM xs) := tab_get _ _ _ _ h
theorem even_len (xs : List Nat) : (evenM xs).length = xs.length := tab_len _ _
theorem k_impl_EvenSeries {P : Program} {f g1 g2 g3 : FuncId} (h : Is_impl_EvenSeries P f g1 g2 g3) (c1 : C_impl_MeanOf P g1) (c2 : C_impl_SpreadOf P g2) (c3 : C_impl_ifAll P g3) : C_impl_EvenSeries P f := by
  intro xs hx
  refine q_impl_EvenSeries h xs ⟨c1 _ hx, fun _ => ⟨c2 _ hx, fun _ => ⟨fun h0 => ?_, fun h0 => ⟨fun h1 => ?_, fun h1 => ⟨fun h2 => ?_, fun h2 => ?_⟩⟩⟩⟩⟩
  · simp only [Bool.not_eq_true'] at h0
    have : evenOk xs = false := by
      unfold evenOk
      cases hs : seriesM xs with
      | false => rfl
      | true =>
        cases hp : finM (spreadM xs) with
        | false => rfl
        | true => have := mean_of_spread hs hp; simp [meanOk, hs, this] at h0
    simp [T.ok, this]
  · simp only [Bool.not_eq_true'] at h1
    have : evenOk xs = false := by
      unfold evenOk
      unfold spOk at h1
      revert h1
      cases seriesM xs <;> cases finM (spreadM xs) <;> simp
    simp [T.ok, this]
  · simp only [Bool.not_eq_false'] at h1
    rw [if_pos h1] at h2
    simp only [Bool.not_eq_true'] at h2
    have : evenOk xs = false := by unfold evenOk; rw [h2]; simp
    simp [T.ok, this]
  · simp only [Bool.not_eq_false'] at h0 h1
    rw [if_pos h1] at h2
    simp only [Bool.not_eq_false'] at h2
    have hs : seriesM xs = true ∧ finM (spreadM xs) = true := by simpa [spOk] using h1
    have hl := series_len hs.1
    have hev : evenOk xs = finAllM (evenM xs) := by unfold evenOk; rw [hs.1, hs.2, h2]; simp
    refine ⟨?_, fun _ => ⟨c3 _ (by rw [even_len, maxLen_eq]; omega), fun _ => ?_⟩⟩
    · refine for_up (e := .exit 0) xs.length (fun i => h_impl_EvenSeries_L0 xs (tab i fun i => fdiv .f32 (fsub .f32 (xs.getD i 0) (meanM xs)) (spreadM xs)) i) rfl (fun i hi => ?_) ?_
      · refine q_impl_EvenSeries_L0 _ _ _ ?_
        rw [if_pos h0, if_pos h1]
        repeat' (first | with_reducible refine T.ok_ob ?_ (fun _ => ?_) | with_reducible refine T.ok_ite (fun _ => ?_) (fun _ => ?_) | with_reducible refine T.ok_leaf ?_)
        all_goals (try simp only [decide_eq_true_eq, decide_eq_false_iff_not, Bool.not_eq_true', Bool.not_eq_false', Bool.not_eq_eq_eq_not, Bool.not_true, Bool.not_false, Int.toNat_natCast, tab_len, List.length_append, List.length_singleton, List.length_cons, List.length_nil, List.length_drop, List.length_take, getD_drop', getD_nat, reduceCtorEq] at *)
        all_goals (try simp (disch := omega) only [wrap64_id] at *)
        all_goals first | omega | (exfalso; omega) | trivial | contradiction | (exfalso; simp_all; done) | skip
        all_goals (rw [tab_succ]; rfl)
      · refine q_impl_EvenSeries_L0 _ _ _ ?_
        repeat' (first | with_reducible refine T.ok_ob ?_ (fun _ => ?_) | with_reducible refine T.ok_ite (fun _ => ?_) (fun _ => ?_) | with_reducible refine T.ok_leaf ?_)
        all_goals (try simp only [decide_eq_true_eq, decide_eq_false_iff_not, Bool.not_eq_true', Bool.not_eq_false', Bool.not_eq_eq_eq_not, Bool.not_true, Bool.not_false, Int.toNat_natCast, tab_len, List.length_append, List.length_singleton, List.length_cons, List.length_nil, List.length_drop, List.length_take, getD_drop', getD_nat, reduceCtorEq] at *)
        all_goals (try simp (disch := omega) only [wrap64_id] at *)
        all_goals first | omega | (exfalso; omega) | trivial | contradiction | (exfalso; simp_all; done) | skip
        all_goals rfl
    · simp [T.ok, hev, ifAllM]
theorem k_spec_EvenSeries {P : Program} {f g1 g2 g3 g4 g5 g6 : FuncId} (h : Is_spec_EvenSeries P f g1 g2 g3 g4 g5 g6) (c1 : C_spec_l02Series P g1) (c2 : C_spec_l02Spread P g2) (c3 : C_spec_l02Above P g3) (c4 : C_spec_l02Mean P g4) (c5 : C_spec_l02Less P g5) (c6 : C_spec_l02List P g6) : C_spec_EvenSeries P f := by
  intro xs hx
  refine q_spec_EvenSeries h xs ⟨c1 _ hx, fun _ => ⟨fun h0 => ?_, fun h0 => ?_⟩⟩
  · simp at h0; simp [T.ok, evenOk, h0]
  · simp only [Bool.not_eq_false'] at h0
    have hl := series_len h0
    refine ⟨c2 _ hl.2, fun _ => ⟨c3 _, fun _ => ⟨fun h1 => ?_, fun h1 => ?_⟩⟩⟩
    · simp only [Bool.not_eq_true'] at h1
      have : evenOk xs = false := by unfold evenOk; rw [h1]; simp
      simp [T.ok, this]
    · simp only [Bool.not_eq_false'] at h1
      have hev : evenOk xs = finAllM (evenM xs) := by unfold evenOk; rw [h0, h1]; simp
      refine ⟨c4 _ (by rw [maxLen_eq]; omega), fun _ => ⟨c5 _ _ (by omega), fun _ => ⟨?_, fun _ => ⟨c6 _ (by rw [even_len, maxLen_eq]; omega), fun _ => ?_⟩⟩⟩⟩
      · refine for_up (e := .exit 0) xs.length (fun i => h_spec_EvenSeries_L0 xs ((evenM xs).take i ++ (lessOneM xs (meanM xs)).drop i) i) rfl (fun i hi => ?_) ?_
        · refine q_spec_EvenSeries_L0 _ _ _ ?_
          have el : ((evenM xs).take i ++ (lessOneM xs (meanM xs)).drop i).length = xs.length := by simp [even_len, lessOne_len]; omega
          have eg : ((evenM xs).take i ++ (lessOneM xs (meanM xs)).drop i).getD i 0 = fsub .f32 (xs.getD i 0) (meanM xs) := by
            rw [← lessOne_get xs (meanM xs) i hi]
            simp only [List.getD_eq_getElem?_getD]
            rw [List.getElem?_append_right (by simp [even_len]; omega)]
            simp [even_len, show min i xs.length = i by omega]
          have es : ((evenM xs).take i ++ (lessOneM xs (meanM xs)).drop i).set i (fdiv .f32 (fsub .f32 (xs.getD i 0) (meanM xs)) (spreadM xs)) = (evenM xs).take (i + 1) ++ (lessOneM xs (meanM xs)).drop (i + 1) := by
            rw [List.drop_eq_getElem_cons (by rw [lessOne_len]; exact hi)]
            rw [show fdiv .f32 (fsub .f32 (xs.getD i 0) (meanM xs)) (spreadM xs) = (evenM xs).getD i 0 from (even_get xs i hi).symm]
            exact take_set_next _ _ _ (by rw [even_len]; exact hi) _ _
          simp only [Int.toNat_natCast, Nat.zero_add, Nat.sub_zero]
          rw [el, eg, es]
          repeat' (first | with_reducible refine T.ok_ob ?_ (fun _ => ?_) | with_reducible refine T.ok_ite (fun _ => ?_) (fun _ => ?_) | with_reducible refine T.ok_leaf ?_)
          all_goals (try simp only [decide_eq_true_eq, decide_eq_false_iff_not, Bool.not_eq_true', Bool.not_eq_false', Bool.not_eq_eq_eq_not, Bool.not_true, Bool.not_false, Int.toNat_natCast, tab_len, List.length_append, List.length_singleton, List.length_cons, List.length_nil, List.length_drop, List.length_take, getD_drop', getD_nat, reduceCtorEq] at *)
          all_goals (try simp (disch := omega) only [wrap64_id] at *)
          all_goals first | omega | (exfalso; omega) | trivial | contradiction | (exfalso; simp_all; done) | skip
          all_goals rfl
        · refine q_spec_EvenSeries_L0 _ _ _ ?_
          have e : (evenM xs).take xs.length ++ (lessOneM xs (meanM xs)).drop xs.length = evenM xs := by
            rw [List.take_of_length_le (by rw [even_len]; exact Nat.le_refl _), List.drop_eq_nil_of_le (by rw [lessOne_len]; exact Nat.le_refl _), List.append_nil]
          rw [e]
          have el := even_len xs
          repeat' (first | with_reducible refine T.ok_ob ?_ (fun _ => ?_) | with_reducible refine T.ok_ite (fun _ => ?_) (fun _ => ?_) | with_reducible refine T.ok_leaf ?_)
          all_goals (try simp only [decide_eq_true_eq, decide_eq_false_iff_not, Bool.not_eq_true', Bool.not_eq_false', Bool.not_eq_eq_eq_not, Bool.not_true, Bool.not_false, Int.toNat_natCast, tab_len, List.length_append, List.length_singleton, List.length_cons, List.length_nil, List.length_drop, List.length_take, getD_drop', getD_nat, reduceCtorEq] at *)
          all_goals (try simp (disch := omega) only [wrap64_id] at *)
          all_goals first | omega | (exfalso; omega) | trivial | contradiction | (exfalso; simp_all; done) | skip
          all_goals rfl
      · simp [T.ok, hev, ifAllM]
end Go.Proofs.LV
