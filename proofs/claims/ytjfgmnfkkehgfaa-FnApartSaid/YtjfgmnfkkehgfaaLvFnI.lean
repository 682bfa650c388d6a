/- Fits by weights, steps, seasons, the best period, likenesses of a series with itself, guesses ahead. -/
import Derived.Test.YtjfgmnfkkehgfaaLvFnG
namespace Go.Proofs.LV
open Go
set_option linter.unusedVariables false
set_option linter.unusedSimpArgs false

/-! ### steps -/
def squaresM (xs : List Nat) : Nat := dotM (lessOneM xs (meanM xs)) (lessOneM xs (meanM xs))
def stepSum (xs : List Nat) (i : Nat) : Nat := fadd .f32 (squaresM (xs.take i)) (squaresM (xs.drop i))
def stepAt (xs : List Nat) : Nat → Nat × Nat
  | 0 => (0, 0)
  | j + 1 => if ((stepAt xs j).1 == 0 || flt .f32 (stepSum xs (j + 1)) (stepAt xs j).2) = true then (j + 1, stepSum xs (j + 1)) else stepAt xs j
def stepBest (xs : List Nat) : Nat := (stepAt xs (xs.length - 1)).1
def stepBy (xs : List Nat) : Nat := fsub .f32 (meanM (xs.drop (stepBest xs))) (meanM (xs.take (stepBest xs)))
def stepFin (xs : List Nat) : Bool := allN (xs.length - 1) fun i => finM (stepSum xs (i + 1))
def stepOk (xs : List Nat) : Bool := seriesM xs && (decide (2 ≤ xs.length) && (stepFin xs && finM (stepBy xs)))

-- FN impl_squares
/-- impl.squares: slots 11, results [.t 2]; calls [6:g_impl_mean, 7:g_impl_lessOne, 10:g_impl_dot]; names [(list, 0), (list, 1), (rest, 3)] -/
def ps_impl_squares : List Nat := [0, 2, 3]
def b_impl_squares (g_impl_mean g_impl_lessOne g_impl_dot : FuncId) : VCode :=
  (.seq
   (.region false [
    ⟨some 2, .mv, [.k (.f .f32 0)], none⟩])
   (.seq
    (.region false [
     ⟨some 4, .mv, [.t 0], none⟩,
     ⟨some 5, .mv, [.t 0], none⟩,
     ⟨some 6, (.call g_impl_mean), [.t 5], none⟩,
     ⟨some 7, (.call g_impl_lessOne), [.t 4, .t 6], none⟩,
     ⟨some 3, .mv, [.t 7], none⟩])
    (.seq
     (.region false [
      ⟨some 8, .mv, [.t 3], none⟩,
      ⟨some 9, .mv, [.t 3], none⟩,
      ⟨some 10, (.call g_impl_dot), [.t 8, .t 9], none⟩,
      ⟨some 2, .mv, [.t 10], none⟩])
     .ret)))

abbrev Is_impl_squares (P : Program) (g_f : FuncId) (g_impl_mean g_impl_lessOne g_impl_dot : FuncId) : Prop := FnIs P g_f 11 [.t 2] (b_impl_squares g_impl_mean g_impl_lessOne g_impl_dot)

abbrev C_impl_squares (P : Program) (g_f : FuncId) : Prop := ∀ (xs : List Nat) (hx : xs.length ≤ 96), VCall P g_f [PS [0] .f32 xs] (.f .f32 (squaresM xs))
def oc1_impl_squares (as : List AV) : T AV := match as with | [.sl _ _ (.f .f32 xs)] => .leaf (.f .f32 (squaresM xs)) | _ => .fail
def oc_impl_squares (xs : List Nat) (d : Nat) (as : List AV) : T AV := match d with | 6 => oc1_impl_mean as | 7 => oc1_impl_lessOne as | 10 => oc1_impl_dot as | _ => .fail



theorem q_impl_squares {P : Program} {g_f : FuncId} {g_impl_mean g_impl_lessOne g_impl_dot : FuncId} (h_ : Is_impl_squares P g_f g_impl_mean g_impl_lessOne g_impl_dot) (xs : List Nat) (ht : T.ok (fun x_ => x_ = .f .f32 (squaresM xs)) (
      T.ob ((VCall P) g_impl_mean [AV.sl (Tag.par [0]) 0 (Cont.f FloatKind.f32 xs)] (AV.f FloatKind.f32 (meanM xs)))
        (T.ob ((VCall P) g_impl_lessOne [AV.sl (Tag.par [0]) 0 (Cont.f FloatKind.f32 xs), AV.f FloatKind.f32 (meanM xs)] (AV.sl (Tag.own 0) 0 (Cont.f FloatKind.f32 (lessOneM xs (meanM xs)))))
          (T.ob
            ((VCall P) g_impl_dot [AV.sl (Tag.par [0]) 0 (Cont.f FloatKind.f32 (lessOneM xs (meanM xs))), AV.sl (Tag.par [1]) 0 (Cont.f FloatKind.f32 (lessOneM xs (meanM xs)))]
              (AV.f FloatKind.f32 (dotM (lessOneM xs (meanM xs)) (lessOneM xs (meanM xs)))))
            (T.leaf (AV.f FloatKind.f32 (dotM (lessOneM xs (meanM xs)) (lessOneM xs (meanM xs))))))))) :
    VCall P g_f [PS [0] .f32 xs] (.f .f32 (squaresM xs)) := h_.call_of ps_impl_squares ⟨oc_impl_squares xs, fun _ _ => none⟩ (by kernel_rfl) ht

-- END impl_squares




-- FN impl_StepOf
/-- impl.StepOf: slots 59, results [.t 2, .t 3, .t 4]; calls [11:g_impl_IsSeries, 27:g_impl_squares, 31:g_impl_squares, 34:g_impl_IsFinite, 48:g_impl_mean, 52:g_impl_mean, 55:g_impl_IsFinite]; names [(list, 0), (list, 1), (best, 5), (least, 6), (i, 7), (sum, 8), (step, 9)] -/
def ps_impl_StepOf : List Nat := [0, 2, 3, 4, 5, 6, 7, 8, 9, 17, 21, 35, 42, 56]
def lv_impl_StepOf_L0 : List Nat := [0, 5, 6, 7]
def b_impl_StepOf_L0 (g_impl_IsSeries g_impl_squares g_impl_IsFinite g_impl_mean : FuncId) : VCode :=
  (.seq
   (.seq
    (.region false [
     ⟨some 18, .mv, [.t 7], none⟩,
     ⟨some 19, .mv, [.t 0], none⟩,
     ⟨some 20, .len, [.t 19], none⟩,
     ⟨some 21, (.bin .lss), [.t 18, .t 20], none⟩])
    (.cond (.t 21)
     .skip
     (.exit 0)))
   (.seq
    (.block 1
     (.seq
      (.region true [
       ⟨some 24, .mv, [.t 0], none⟩,
       ⟨some 25, .mv, [.t 7], none⟩,
       ⟨some 26, (.slice false true false), [.t 24, .t 25], none⟩,
       ⟨some 27, (.call g_impl_squares), [.t 26], none⟩,
       ⟨some 28, .mv, [.t 0], none⟩,
       ⟨some 29, .mv, [.t 7], none⟩,
       ⟨some 30, (.slice true false false), [.t 28, .t 29], none⟩,
       ⟨some 31, (.call g_impl_squares), [.t 30], none⟩,
       ⟨some 32, (.bin .add), [.t 27, .t 31], none⟩,
       ⟨some 8, .mv, [.t 32], none⟩])
      (.seq
       (.seq
        (.region false [
         ⟨some 33, .mv, [.t 8], none⟩,
         ⟨some 34, (.call g_impl_IsFinite), [.t 33], none⟩,
         ⟨some 35, .not, [.t 34], none⟩])
        (.cond (.t 35)
         (.seq
          (.region false [
           ⟨some 2, .mv, [.k (.i .i64 0)], none⟩,
           ⟨some 3, .mv, [.k (.f .f32 0)], none⟩,
           ⟨some 4, .mv, [.k (.b false)], none⟩])
          .ret)
         .skip))
       (.seq
        (.region false [
         ⟨some 36, .mv, [.t 5], none⟩,
         ⟨some 37, (.bin .eql), [.t 36, .k (.i .i64 0)], none⟩,
         ⟨some 38, .mv, [.t 37], none⟩,
         ⟨some 39, .mv, [.t 8], some (38, false)⟩,
         ⟨some 40, .mv, [.t 6], some (38, false)⟩,
         ⟨some 41, (.bin .lss), [.t 39, .t 40], some (38, false)⟩,
         ⟨some 42, .pick, [.t 38, .k (.b true), .t 41], none⟩])
        (.cond (.t 42)
         (.region false [
          ⟨some 43, .mv, [.t 7], none⟩,
          ⟨some 44, .mv, [.t 8], none⟩,
          ⟨some 5, .mv, [.t 43], none⟩,
          ⟨some 6, .mv, [.t 44], none⟩])
         .skip)))))
    (.region false [
     ⟨some 22, .mv, [.t 7], none⟩,
     ⟨some 23, (.bin .add), [.t 22, .k (.i .i64 1)], none⟩,
     ⟨some 7, .mv, [.t 23], none⟩])))

def b_impl_StepOf (g_impl_IsSeries g_impl_squares g_impl_IsFinite g_impl_mean : FuncId) : VCode :=
  (.seq
   (.region false [
    ⟨some 2, .mv, [.k (.i .i64 0)], none⟩,
    ⟨some 3, .mv, [.k (.f .f32 0)], none⟩,
    ⟨some 4, .mv, [.k (.b false)], none⟩])
   (.seq
    (.seq
     (.region false [
      ⟨some 10, .mv, [.t 0], none⟩,
      ⟨some 11, (.call g_impl_IsSeries), [.t 10], none⟩,
      ⟨some 12, .not, [.t 11], none⟩,
      ⟨some 13, .mv, [.t 12], none⟩,
      ⟨some 14, .mv, [.t 0], some (13, false)⟩,
      ⟨some 15, .len, [.t 14], some (13, false)⟩,
      ⟨some 16, (.bin .lss), [.t 15, .k (.i .i64 2)], some (13, false)⟩,
      ⟨some 17, .pick, [.t 13, .k (.b true), .t 16], none⟩])
     (.cond (.t 17)
      (.seq
       (.region false [
        ⟨some 2, .mv, [.k (.i .i64 0)], none⟩,
        ⟨some 3, .mv, [.k (.f .f32 0)], none⟩,
        ⟨some 4, .mv, [.k (.b false)], none⟩])
       .ret)
      .skip))
    (.seq
     (.region false [
      ⟨some 5, .mv, [.k (.i .i64 0)], none⟩,
      ⟨some 6, .mv, [.k (.f .f32 0)], none⟩])
     (.seq
      (.seq
       (.region false [
        ⟨some 7, .mv, [.k (.i .i64 1)], none⟩])
       (.block 0 (.loop (b_impl_StepOf_L0 g_impl_IsSeries g_impl_squares g_impl_IsFinite g_impl_mean))))
      (.seq
       (.region true [
        ⟨some 45, .mv, [.t 0], none⟩,
        ⟨some 46, .mv, [.t 5], none⟩,
        ⟨some 47, (.slice true false false), [.t 45, .t 46], none⟩,
        ⟨some 48, (.call g_impl_mean), [.t 47], none⟩,
        ⟨some 49, .mv, [.t 0], none⟩,
        ⟨some 50, .mv, [.t 5], none⟩,
        ⟨some 51, (.slice false true false), [.t 49, .t 50], none⟩,
        ⟨some 52, (.call g_impl_mean), [.t 51], none⟩,
        ⟨some 53, (.bin .sub), [.t 48, .t 52], none⟩,
        ⟨some 9, .mv, [.t 53], none⟩])
       (.seq
        (.seq
         (.region false [
          ⟨some 54, .mv, [.t 9], none⟩,
          ⟨some 55, (.call g_impl_IsFinite), [.t 54], none⟩,
          ⟨some 56, .not, [.t 55], none⟩])
         (.cond (.t 56)
          (.seq
           (.region false [
            ⟨some 2, .mv, [.k (.i .i64 0)], none⟩,
            ⟨some 3, .mv, [.k (.f .f32 0)], none⟩,
            ⟨some 4, .mv, [.k (.b false)], none⟩])
           .ret)
          .skip))
        (.seq
         (.region false [
          ⟨some 57, .mv, [.t 5], none⟩,
          ⟨some 58, .mv, [.t 9], none⟩,
          ⟨some 2, .mv, [.t 57], none⟩,
          ⟨some 3, .mv, [.t 58], none⟩,
          ⟨some 4, .mv, [.k (.b true)], none⟩])
         .ret)))))))

abbrev Is_impl_StepOf (P : Program) (g_f : FuncId) (g_impl_IsSeries g_impl_squares g_impl_IsFinite g_impl_mean : FuncId) : Prop := FnIs P g_f 59 [.t 2, .t 3, .t 4] (b_impl_StepOf g_impl_IsSeries g_impl_squares g_impl_IsFinite g_impl_mean)

abbrev C_impl_StepOf (P : Program) (g_f : FuncId) : Prop := ∀ (xs : List Nat) (hx : xs.length ≤ maxLen), VCall P g_f [PS [0] .f32 xs] (.tup [.i .i64 (if stepOk xs = true then stepBest xs else 0 : Nat), .f .f32 (if stepOk xs = true then stepBy xs else 0), .b (stepOk xs)])
def oc_impl_StepOf (xs : List Nat) (d : Nat) (as : List AV) : T AV := match d with | 11 => oc1_impl_IsSeries as | 27 => oc1_impl_squares as | 31 => oc1_impl_squares as | 34 => oc1_impl_IsFinite as | 48 => oc1_impl_mean as | 52 => oc1_impl_mean as | 55 => oc1_impl_IsFinite as | _ => .fail
def h_impl_StepOf_L0 (xs : List Nat) (best : Int) (least : Nat) (i : Int) : Env := [AV.sl (Tag.par [0]) 0 (Cont.f FloatKind.f32 xs)] ++ anys 4 ++ [.i IntKind.i64 best, .f FloatKind.f32 least, .i IntKind.i64 i] ++ anys 51

theorem q_impl_StepOf_L0 {VC : FuncId → List AV → AV → Prop} {g_impl_IsSeries g_impl_squares g_impl_IsFinite g_impl_mean : FuncId} (xs : List Nat) (best : Int) (least : Nat) (i : Int) {e_ : Ex} {σ_ : Env} (ht : T.ok (fun x_ => x_ = (e_, σ_)) (
      T.ite (decide (i < (↑(List.length xs) : Int)))
        (T.ob (0 ≤ i ∧ i ≤ (↑(List.length xs) : Int))
          (T.ob (VC g_impl_squares [AV.sl (Tag.par [0]) 0 (Cont.f FloatKind.f32 (List.take (Int.toNat i) (List.drop 0 xs)))] (AV.f FloatKind.f32 (squaresM (List.take (Int.toNat i) (List.drop 0 xs)))))
            (T.ob (0 ≤ i ∧ i ≤ (↑(List.length xs) : Int))
              (T.ob
                (VC g_impl_squares [AV.sl (Tag.par [0]) 0 (Cont.f FloatKind.f32 (List.take (List.length xs - Int.toNat i) (List.drop (Int.toNat i) xs)))]
                  (AV.f FloatKind.f32 (squaresM (List.take (List.length xs - Int.toNat i) (List.drop (Int.toNat i) xs)))))
                (T.ob
                  (VC g_impl_IsFinite [AV.f FloatKind.f32 (fadd FloatKind.f32 (squaresM (List.take (Int.toNat i) (List.drop 0 xs))) (squaresM (List.take (List.length xs - Int.toNat i) (List.drop (Int.toNat i) xs))))]
                    (AV.b (finM (fadd FloatKind.f32 (squaresM (List.take (Int.toNat i) (List.drop 0 xs))) (squaresM (List.take (List.length xs - Int.toNat i) (List.drop (Int.toNat i) xs)))))))
                  (T.ite (!finM (fadd FloatKind.f32 (squaresM (List.take (Int.toNat i) (List.drop 0 xs))) (squaresM (List.take (List.length xs - Int.toNat i) (List.drop (Int.toNat i) xs)))))
                    (T.leaf (Ex.ret, AV.any :: AV.any :: AV.i IntKind.i64 0 :: AV.f FloatKind.f32 0 :: AV.b false :: anys 54))
                    (T.ite (best == 0)
                      (T.leaf
                        (Ex.normal,
                          h_impl_StepOf_L0 xs i (fadd FloatKind.f32 (squaresM (List.take (Int.toNat i) (List.drop 0 xs))) (squaresM (List.take (List.length xs - Int.toNat i) (List.drop (Int.toNat i) xs))))
                            (IntKind.wrap IntKind.i64 (i + 1))))
                      (T.ite (flt FloatKind.f32 (fadd FloatKind.f32 (squaresM (List.take (Int.toNat i) (List.drop 0 xs))) (squaresM (List.take (List.length xs - Int.toNat i) (List.drop (Int.toNat i) xs)))) least)
                        (T.leaf
                          (Ex.normal,
                            h_impl_StepOf_L0 xs i (fadd FloatKind.f32 (squaresM (List.take (Int.toNat i) (List.drop 0 xs))) (squaresM (List.take (List.length xs - Int.toNat i) (List.drop (Int.toNat i) xs))))
                              (IntKind.wrap IntKind.i64 (i + 1))))
                        (T.leaf (Ex.normal, h_impl_StepOf_L0 xs best least (IntKind.wrap IntKind.i64 (i + 1))))))))))))
        (T.leaf (Ex.exit 0, h_impl_StepOf_L0 xs best least i)))) :
    Exec VC ps_impl_StepOf (b_impl_StepOf_L0 g_impl_IsSeries g_impl_squares g_impl_IsFinite g_impl_mean) (h_impl_StepOf_L0 xs best least i) e_ σ_ := evL_of (lv := lv_impl_StepOf_L0) (rs := [2, 3, 4]) (O := ⟨oc_impl_StepOf xs, fun _ _ => none⟩) (by kernel_rfl) ht

theorem q_impl_StepOf {P : Program} {g_f : FuncId} {g_impl_IsSeries g_impl_squares g_impl_IsFinite g_impl_mean : FuncId} (h_ : Is_impl_StepOf P g_f g_impl_IsSeries g_impl_squares g_impl_IsFinite g_impl_mean) (xs : List Nat) (ht : T.ok (fun x_ => x_ = .tup [.i .i64 (if stepOk xs = true then stepBest xs else 0 : Nat), .f .f32 (if stepOk xs = true then stepBy xs else 0), .b (stepOk xs)]) (
      T.ob ((VCall P) g_impl_IsSeries [AV.sl (Tag.par [0]) 0 (Cont.f FloatKind.f32 xs)] (AV.b (seriesM xs)))
        (T.ite (!seriesM xs) (T.leaf (AV.tup [AV.i IntKind.i64 0, AV.f FloatKind.f32 0, AV.b false]))
          (T.ite (decide ((↑(List.length xs) : Int) < 2)) (T.leaf (AV.tup [AV.i IntKind.i64 0, AV.f FloatKind.f32 0, AV.b false]))
            (T.ite (stepFin xs)
              (T.ob
                (Exec (VCall P) ps_impl_StepOf (VCode.block 0 (VCode.loop (b_impl_StepOf_L0 g_impl_IsSeries g_impl_squares g_impl_IsFinite g_impl_mean))) (h_impl_StepOf_L0 xs 0 0 1) Ex.normal
                  (h_impl_StepOf_L0 xs (↑(stepBest xs) : Int) (Prod.snd (stepAt xs (List.length xs - 1))) (↑(List.length xs) : Int)))
                (T.ob (0 ≤ (↑(stepBest xs) : Int) ∧ (↑(stepBest xs) : Int) ≤ (↑(List.length xs) : Int))
                  (T.ob
                    ((VCall P) g_impl_mean [AV.sl (Tag.par [0]) 0 (Cont.f FloatKind.f32 (List.take (List.length xs - Int.toNat (↑(stepBest xs) : Int)) (List.drop (Int.toNat (↑(stepBest xs) : Int)) xs)))]
                      (AV.f FloatKind.f32 (meanM (List.take (List.length xs - Int.toNat (↑(stepBest xs) : Int)) (List.drop (Int.toNat (↑(stepBest xs) : Int)) xs)))))
                    (T.ob (0 ≤ (↑(stepBest xs) : Int) ∧ (↑(stepBest xs) : Int) ≤ (↑(List.length xs) : Int))
                      (T.ob
                        ((VCall P) g_impl_mean [AV.sl (Tag.par [0]) 0 (Cont.f FloatKind.f32 (List.take (Int.toNat (↑(stepBest xs) : Int)) (List.drop 0 xs)))]
                          (AV.f FloatKind.f32 (meanM (List.take (Int.toNat (↑(stepBest xs) : Int)) (List.drop 0 xs)))))
                        (T.ob
                          ((VCall P) g_impl_IsFinite
                            [AV.f FloatKind.f32
                                (fsub FloatKind.f32 (meanM (List.take (List.length xs - Int.toNat (↑(stepBest xs) : Int)) (List.drop (Int.toNat (↑(stepBest xs) : Int)) xs)))
                                  (meanM (List.take (Int.toNat (↑(stepBest xs) : Int)) (List.drop 0 xs))))]
                            (AV.b
                              (finM
                                (fsub FloatKind.f32 (meanM (List.take (List.length xs - Int.toNat (↑(stepBest xs) : Int)) (List.drop (Int.toNat (↑(stepBest xs) : Int)) xs)))
                                  (meanM (List.take (Int.toNat (↑(stepBest xs) : Int)) (List.drop 0 xs)))))))
                          (T.ite
                            (!finM
                                (fsub FloatKind.f32 (meanM (List.take (List.length xs - Int.toNat (↑(stepBest xs) : Int)) (List.drop (Int.toNat (↑(stepBest xs) : Int)) xs)))
                                  (meanM (List.take (Int.toNat (↑(stepBest xs) : Int)) (List.drop 0 xs)))))
                            (T.leaf (AV.tup [AV.i IntKind.i64 0, AV.f FloatKind.f32 0, AV.b false]))
                            (T.leaf
                              (AV.tup
                                [AV.i IntKind.i64 (↑(stepBest xs) : Int),
                                  AV.f FloatKind.f32
                                    (fsub FloatKind.f32 (meanM (List.take (List.length xs - Int.toNat (↑(stepBest xs) : Int)) (List.drop (Int.toNat (↑(stepBest xs) : Int)) xs)))
                                      (meanM (List.take (Int.toNat (↑(stepBest xs) : Int)) (List.drop 0 xs)))),
                                  AV.b true])))))))))
              (T.ob
                (Exec (VCall P) ps_impl_StepOf (VCode.block 0 (VCode.loop (b_impl_StepOf_L0 g_impl_IsSeries g_impl_squares g_impl_IsFinite g_impl_mean))) (h_impl_StepOf_L0 xs 0 0 1) Ex.ret
                  (AV.any :: AV.any :: AV.i IntKind.i64 0 :: AV.f FloatKind.f32 0 :: AV.b false :: anys 54))
                (T.leaf (AV.tup [AV.i IntKind.i64 0, AV.f FloatKind.f32 0, AV.b false])))))))) :
    VCall P g_f [PS [0] .f32 xs] (.tup [.i .i64 (if stepOk xs = true then stepBest xs else 0 : Nat), .f .f32 (if stepOk xs = true then stepBy xs else 0), .b (stepOk xs)]) := h_.call_of ps_impl_StepOf ⟨oc_impl_StepOf xs, fun id σ => match id with | 0 => some (lv_impl_StepOf_L0, .ite (stepFin xs) (.leaf (.normal, h_impl_StepOf_L0 xs (stepBest xs) (stepAt xs (xs.length - 1)).2 xs.length)) (.leaf (.ret, .any :: .any :: .i .i64 0 :: .f .f32 0 :: .b false :: anys 54))) | _ => none⟩ (by kernel_rfl) ht

-- END impl_StepOf


/-! ### seasons -/
def seasonM (xs : List Nat) (per : Nat) : List Nat := lessOneM (foldM xs per) (meanM (foldM xs per))
def seasonOk (xs : List Nat) (per : Int) : Bool := seriesM xs && (inM per 1 xs.length && finAllM (seasonM xs per.toNat))

-- FN impl_season
/-- impl.season: slots 13, results [.t 4]; calls [8:g_impl_folded, 11:g_impl_mean, 12:g_impl_lessOne]; names [(list, 0), (period, 1), (list, 2), (period, 3), (means, 5)] -/
def ps_impl_season : List Nat := [0, 1, 4, 5]
def b_impl_season (g_impl_folded g_impl_mean g_impl_lessOne : FuncId) : VCode :=
  (.seq
   (.region false [
    ⟨some 4, (.nilsl (.f .f32 [])), [], none⟩])
   (.seq
    (.region false [
     ⟨some 6, .mv, [.t 0], none⟩,
     ⟨some 7, .mv, [.t 1], none⟩,
     ⟨some 8, (.call g_impl_folded), [.t 6, .t 7], none⟩,
     ⟨some 5, .mv, [.t 8], none⟩])
    (.seq
     (.region false [
      ⟨some 9, .mv, [.t 5], none⟩,
      ⟨some 10, .mv, [.t 5], none⟩,
      ⟨some 11, (.call g_impl_mean), [.t 10], none⟩,
      ⟨some 12, (.call g_impl_lessOne), [.t 9, .t 11], none⟩,
      ⟨some 4, .mv, [.t 12], none⟩])
     .ret)))

abbrev Is_impl_season (P : Program) (g_f : FuncId) (g_impl_folded g_impl_mean g_impl_lessOne : FuncId) : Prop := FnIs P g_f 13 [.t 4] (b_impl_season g_impl_folded g_impl_mean g_impl_lessOne)

abbrev C_impl_season (P : Program) (g_f : FuncId) : Prop := ∀ (xs : List Nat) (per : Int) (hp : 1 ≤ per ∧ per ≤ xs.length) (hx : xs.length ≤ 96), VCall P g_f [PS [0] .f32 xs, .i .i64 per] (OS 0 .f32 (seasonM xs per.toNat))
def oc1_impl_season (as : List AV) : T AV := match as with | [.sl _ _ (.f .f32 xs), .i .i64 per] => .leaf (OS 0 .f32 (seasonM xs per.toNat)) | _ => .fail
def oc_impl_season (xs : List Nat) (per : Int) (d : Nat) (as : List AV) : T AV := match d with | 8 => oc1_impl_folded as | 11 => oc1_impl_mean as | 12 => oc1_impl_lessOne as | _ => .fail



theorem q_impl_season {P : Program} {g_f : FuncId} {g_impl_folded g_impl_mean g_impl_lessOne : FuncId} (h_ : Is_impl_season P g_f g_impl_folded g_impl_mean g_impl_lessOne) (xs : List Nat) (per : Int) (ht : T.ok (fun x_ => x_ = OS 0 .f32 (seasonM xs per.toNat)) (
      T.ob ((VCall P) g_impl_folded [AV.sl (Tag.par [0]) 0 (Cont.f FloatKind.f32 xs), AV.i IntKind.i64 per] (AV.sl (Tag.own 0) 0 (Cont.f FloatKind.f32 (foldM xs (Int.toNat per)))))
        (T.ob ((VCall P) g_impl_mean [AV.sl (Tag.par [0]) 0 (Cont.f FloatKind.f32 (foldM xs (Int.toNat per)))] (AV.f FloatKind.f32 (meanM (foldM xs (Int.toNat per)))))
          (T.ob
            ((VCall P) g_impl_lessOne [AV.sl (Tag.par [0]) 0 (Cont.f FloatKind.f32 (foldM xs (Int.toNat per))), AV.f FloatKind.f32 (meanM (foldM xs (Int.toNat per)))]
              (AV.sl (Tag.own 0) 0 (Cont.f FloatKind.f32 (lessOneM (foldM xs (Int.toNat per)) (meanM (foldM xs (Int.toNat per)))))))
            (T.leaf (AV.sl (Tag.own 0) 0 (Cont.f FloatKind.f32 (lessOneM (foldM xs (Int.toNat per)) (meanM (foldM xs (Int.toNat per))))))))))) :
    VCall P g_f [PS [0] .f32 xs, .i .i64 per] (OS 0 .f32 (seasonM xs per.toNat)) := h_.call_of ps_impl_season ⟨oc_impl_season xs per, fun _ _ => none⟩ (by kernel_rfl) ht

-- END impl_season


-- FN impl_SeasonOf
/-- impl.SeasonOf: slots 16, results [.t 4, .t 5]; calls [8:g_impl_isPeriodOf, 12:g_impl_season, 13:g_impl_ifAll]; names [(list, 0), (period, 1), (list, 2), (period, 3)] -/
def ps_impl_SeasonOf : List Nat := [0, 1, 4, 5, 9]
def b_impl_SeasonOf (g_impl_isPeriodOf g_impl_season g_impl_ifAll : FuncId) : VCode :=
  (.seq
   (.region false [
    ⟨some 4, (.nilsl (.f .f32 [])), [], none⟩,
    ⟨some 5, .mv, [.k (.b false)], none⟩])
   (.seq
    (.seq
     (.region false [
      ⟨some 6, .mv, [.t 0], none⟩,
      ⟨some 7, .mv, [.t 1], none⟩,
      ⟨some 8, (.call g_impl_isPeriodOf), [.t 6, .t 7], none⟩,
      ⟨some 9, .not, [.t 8], none⟩])
     (.cond (.t 9)
      (.seq
       (.region false [
        ⟨some 4, (.nilsl (.f .f32 [])), [], none⟩,
        ⟨some 5, .mv, [.k (.b false)], none⟩])
       .ret)
      .skip))
    (.seq
     (.region false [
      ⟨some 10, .mv, [.t 0], none⟩,
      ⟨some 11, .mv, [.t 1], none⟩,
      ⟨some 12, (.call g_impl_season), [.t 10, .t 11], none⟩,
      ⟨some 13, (.call g_impl_ifAll), [.t 12], none⟩,
      ⟨some 14, (.extract 0), [.t 13], none⟩,
      ⟨some 15, (.extract 1), [.t 13], none⟩,
      ⟨some 4, .mv, [.t 14], none⟩,
      ⟨some 5, .mv, [.t 15], none⟩])
     .ret)))

abbrev Is_impl_SeasonOf (P : Program) (g_f : FuncId) (g_impl_isPeriodOf g_impl_season g_impl_ifAll : FuncId) : Prop := FnIs P g_f 16 [.t 4, .t 5] (b_impl_SeasonOf g_impl_isPeriodOf g_impl_season g_impl_ifAll)

abbrev C_impl_SeasonOf (P : Program) (g_f : FuncId) : Prop := ∀ (xs : List Nat) (per : Int) (hx : xs.length ≤ maxLen), VCall P g_f [PS [0] .f32 xs, .i .i64 per] (.tup [OS 0 .f32 (if seasonOk xs per = true then seasonM xs per.toNat else []), .b (seasonOk xs per)])
def oc_impl_SeasonOf (xs : List Nat) (per : Int) (d : Nat) (as : List AV) : T AV := match d with | 8 => oc1_impl_isPeriodOf as | 12 => oc1_impl_season as | 13 => oc1_impl_ifAll as | _ => .fail



theorem q_impl_SeasonOf {P : Program} {g_f : FuncId} {g_impl_isPeriodOf g_impl_season g_impl_ifAll : FuncId} (h_ : Is_impl_SeasonOf P g_f g_impl_isPeriodOf g_impl_season g_impl_ifAll) (xs : List Nat) (per : Int) (ht : T.ok (fun x_ => x_ = .tup [OS 0 .f32 (if seasonOk xs per = true then seasonM xs per.toNat else []), .b (seasonOk xs per)]) (
      T.ob ((VCall P) g_impl_isPeriodOf [AV.sl (Tag.par [0]) 0 (Cont.f FloatKind.f32 xs), AV.i IntKind.i64 per] (AV.b (seriesM xs && inM per 1 (↑(List.length xs) : Int))))
        (T.ite (!(seriesM xs && inM per 1 (↑(List.length xs) : Int))) (T.leaf (AV.tup [AV.sl (Tag.own 0) 0 (Cont.f FloatKind.f32 []), AV.b false]))
          (T.ob ((VCall P) g_impl_season [AV.sl (Tag.par [0]) 0 (Cont.f FloatKind.f32 xs), AV.i IntKind.i64 per] (AV.sl (Tag.own 0) 0 (Cont.f FloatKind.f32 (seasonM xs (Int.toNat per)))))
            (T.ob
              ((VCall P) g_impl_ifAll [AV.sl (Tag.par [0]) 0 (Cont.f FloatKind.f32 (seasonM xs (Int.toNat per)))]
                (AV.tup [AV.sl (Tag.par [0]) 0 (Cont.f FloatKind.f32 (ifAllM (seasonM xs (Int.toNat per)))), AV.b (finAllM (seasonM xs (Int.toNat per)))]))
              (T.leaf (AV.tup [AV.sl (Tag.own 0) 0 (Cont.f FloatKind.f32 (ifAllM (seasonM xs (Int.toNat per)))), AV.b (finAllM (seasonM xs (Int.toNat per)))]))))))) :
    VCall P g_f [PS [0] .f32 xs, .i .i64 per] (.tup [OS 0 .f32 (if seasonOk xs per = true then seasonM xs per.toNat else []), .b (seasonOk xs per)]) := h_.call_of ps_impl_SeasonOf ⟨oc_impl_SeasonOf xs per, fun _ _ => none⟩ (by kernel_rfl) ht

-- END impl_SeasonOf


/-! ### the best period -/
theorem k_impl_squares {P : Program} {f g_impl_mean g_impl_lessOne g_impl_dot : FuncId} (h : Is_impl_squares P f g_impl_mean g_impl_lessOne g_impl_dot) (c1 : C_impl_mean P g_impl_mean) (c2 : C_impl_lessOne P g_impl_lessOne) (c3 : C_impl_dot P g_impl_dot) : C_impl_squares P f := by
  intro xs hx
  refine q_impl_squares h xs ?_
  have l1 := lessOne_len xs (meanM xs)
  repeat' (first | with_reducible refine T.ok_ob ?_ (fun _ => ?_) | with_reducible refine T.ok_ite (fun _ => ?_) (fun _ => ?_) | with_reducible refine T.ok_leaf ?_)
  all_goals first | with_reducible rfl | with_reducible assumption | ((with_reducible refine c1 _ ?_) <;> (first | assumption | omega | with_reducible rfl | (simp [maxLen_eq]; done) | (simp [maxLen_eq]; omega))) | ((with_reducible refine c2 _ _ ?_) <;> (first | assumption | omega | with_reducible rfl | (simp [maxLen_eq]; done) | (simp [maxLen_eq]; omega))) | ((with_reducible refine c3 _ _ ?_ ?_) <;> (first | assumption | omega | with_reducible rfl | (simp [maxLen_eq]; done) | (simp [maxLen_eq]; omega))) | contradiction | exact fconvOk_32_64 _ | assumption | exact rfl | (simp_all []; done) | (simp_all [T.ok]; omega)

theorem step_le (xs : List Nat) : ∀ j, (stepAt xs j).1 ≤ j
  | 0 => Nat.le_refl _
  | j + 1 => by
    have := step_le xs j
    simp only [stepAt]
    split
    · exact Nat.le_refl _
    · omega
theorem k_impl_StepOf {P : Program} {f g1 g2 g3 g4 : FuncId} (h : Is_impl_StepOf P f g1 g2 g3 g4) (c1 : C_impl_IsSeries P g1) (c2 : C_impl_squares P g2) (c3 : C_impl_IsFinite P g3) (c4 : C_impl_mean P g4) : C_impl_StepOf P f := by
  intro xs hx
  refine q_impl_StepOf h xs ⟨c1 _ hx, fun _ => ⟨fun h1 => ?_, fun h1 => ⟨fun h2 => ?_, fun h2 => ?_⟩⟩⟩
  · simp at h1; simp [T.ok, stepOk, h1]
  · have : ¬ (2 ≤ xs.length) := by simp at h2; omega
    simp [T.ok, stepOk, this]
  · simp only [Bool.not_eq_false'] at h1
    have h2 : 2 ≤ xs.length := by simp at h2; omega
    have hl := series_len h1
    have hb := step_le xs (xs.length - 1)
    have hb : stepBest xs ≤ xs.length - 1 := hb
    have go : ∀ j, j < xs.length - 1 → finM (stepSum xs (j + 1)) = true → Exec (VCall P) ps_impl_StepOf (b_impl_StepOf_L0 g1 g2 g3 g4) (h_impl_StepOf_L0 xs (stepAt xs j).1 (stepAt xs j).2 (j + 1 : Nat)) .normal (h_impl_StepOf_L0 xs (stepAt xs (j + 1)).1 (stepAt xs (j + 1)).2 (j + 1 + 1 : Nat)) := by
      intro j hj hc
      refine q_impl_StepOf_L0 _ _ _ _ ?_
      have e : stepAt xs (j + 1) = if ((stepAt xs j).1 == 0 || flt .f32 (stepSum xs (j + 1)) (stepAt xs j).2) = true then (j + 1, stepSum xs (j + 1)) else stepAt xs j := rfl
      rw [e]
      simp only [Int.toNat_natCast, List.drop_zero, drop_all]
      have a1 := c2 (xs.take (j + 1)) (by simp; omega)
      have a2 := c2 (xs.drop (j + 1)) (by simp; omega)
      have a3 := c3 (stepSum xs (j + 1))
      rw [show fadd .f32 (squaresM (xs.take (j + 1))) (squaresM (xs.drop (j + 1))) = stepSum xs (j + 1) from rfl]
      rw [hc] at a3 ⊢
      generalize stepSum xs (j + 1) = S at *
      generalize stepAt xs j = a at *
      have e0 : ((a.1 : Int) == 0) = (a.1 == 0) := by rw [Bool.eq_iff_iff]; simp
      rw [e0]
      cases hq : (a.1 == 0) <;> cases hf : flt .f32 S a.2 <;> simp only [Bool.or_self, Bool.or_true, Bool.true_or, Bool.false_eq_true, if_true, if_false]
      repeat' (first | with_reducible refine T.ok_ob ?_ (fun _ => ?_) | with_reducible refine T.ok_ite (fun _ => ?_) (fun _ => ?_) | with_reducible refine T.ok_leaf ?_)
      all_goals (try simp only [decide_eq_true_eq, decide_eq_false_iff_not, Bool.not_eq_true', Bool.not_eq_false', Bool.not_eq_eq_eq_not, Bool.not_true, Bool.not_false, Int.toNat_natCast, tab_len, List.length_append, List.length_singleton, List.length_cons, List.length_nil, List.length_drop, List.length_take, getD_drop', getD_nat, reduceCtorEq] at *)
      all_goals (try simp (disch := omega) only [wrap64_id] at *)
      all_goals first | omega | (exfalso; omega) | exact True.intro | skip
      all_goals first | exact a1 | exact a2 | exact a3 | rfl
    refine ⟨fun h3 => ⟨?_, fun _ => ⟨by omega, fun _ => ⟨c4 _ (by simp [maxLen_eq]; omega), fun _ => ⟨by omega, fun _ => ⟨c4 _ (by simp [maxLen_eq]; omega), fun _ => ⟨c3 _, fun _ => ?_⟩⟩⟩⟩⟩⟩, fun h3 => ⟨?_, fun _ => ?_⟩⟩
    · refine for_all (e := .exit 0) _ (xs.length - 1) (fun j => h_impl_StepOf_L0 xs (stepAt xs j).1 (stepAt xs j).2 (j + 1 : Nat)) h3 rfl go ?_
      refine q_impl_StepOf_L0 _ _ _ _ ?_
      rw [show xs.length - 1 + 1 = xs.length by omega]
      repeat' (first | with_reducible refine T.ok_ob ?_ (fun _ => ?_) | with_reducible refine T.ok_ite (fun _ => ?_) (fun _ => ?_) | with_reducible refine T.ok_leaf ?_)
      all_goals (try simp only [decide_eq_true_eq, decide_eq_false_iff_not, Bool.not_eq_true', Bool.not_eq_false', Bool.not_eq_eq_eq_not, Bool.not_true, Bool.not_false, Int.toNat_natCast, tab_len, List.length_append, List.length_singleton, List.length_cons, List.length_nil, List.length_drop, List.length_take, getD_drop', getD_nat, reduceCtorEq] at *)
      all_goals (try simp (disch := omega) only [wrap64_id] at *)
      all_goals first | omega | (exfalso; omega) | exact True.intro | skip
      all_goals rfl
    · simp only [Int.toNat_natCast, List.drop_zero, drop_all]
      rw [show fsub .f32 (meanM (xs.drop (stepBest xs))) (meanM (xs.take (stepBest xs))) = stepBy xs from rfl]
      have e : stepOk xs = finM (stepBy xs) := by simp [stepOk, h1, h2, h3]
      rw [e]
      cases finM (stepBy xs) <;> simp [T.ok]
    · refine for_one (e := .ret) _ (xs.length - 1) (fun j => h_impl_StepOf_L0 xs (stepAt xs j).1 (stepAt xs j).2 (j + 1 : Nat)) h3 rfl go (fun j hj hc => ?_)
      refine q_impl_StepOf_L0 _ _ _ _ ?_
      simp only [Int.toNat_natCast, List.drop_zero, drop_all]
      have a1 := c2 (xs.take (j + 1)) (by simp; omega)
      have a2 := c2 (xs.drop (j + 1)) (by simp; omega)
      have a3 := c3 (stepSum xs (j + 1))
      rw [show fadd .f32 (squaresM (xs.take (j + 1))) (squaresM (xs.drop (j + 1))) = stepSum xs (j + 1) from rfl]
      rw [hc] at a3 ⊢
      repeat' (first | with_reducible refine T.ok_ob ?_ (fun _ => ?_) | with_reducible refine T.ok_ite (fun _ => ?_) (fun _ => ?_) | with_reducible refine T.ok_leaf ?_)
      all_goals (try simp only [decide_eq_true_eq, decide_eq_false_iff_not, Bool.not_eq_true', Bool.not_eq_false', Bool.not_eq_eq_eq_not, Bool.not_true, Bool.not_false, Int.toNat_natCast, tab_len, List.length_append, List.length_singleton, List.length_cons, List.length_nil, List.length_drop, List.length_take, getD_drop', getD_nat, reduceCtorEq] at *)
      all_goals (try simp (disch := omega) only [wrap64_id] at *)
      all_goals first | omega | (exfalso; omega) | exact True.intro | skip
      all_goals first | exact a1 | exact a2 | exact a3 | rfl
    · simp [T.ok, stepOk, h3]
theorem k_impl_season {P : Program} {f g_impl_folded g_impl_mean g_impl_lessOne : FuncId} (h : Is_impl_season P f g_impl_folded g_impl_mean g_impl_lessOne) (c1 : C_impl_folded P g_impl_folded) (c2 : C_impl_mean P g_impl_mean) (c3 : C_impl_lessOne P g_impl_lessOne) : C_impl_season P f := by
  intro xs per hp hx
  refine q_impl_season h xs per ?_
  have fl := fold_len xs per.toNat
  repeat' (first | with_reducible refine T.ok_ob ?_ (fun _ => ?_) | with_reducible refine T.ok_ite (fun _ => ?_) (fun _ => ?_) | with_reducible refine T.ok_leaf ?_)
  all_goals first | with_reducible rfl | with_reducible assumption | ((with_reducible refine c1 _ _ ?_ ?_) <;> (first | assumption | omega | with_reducible rfl | (simp [maxLen_eq]; done) | (simp [maxLen_eq]; omega))) | ((with_reducible refine c2 _ ?_) <;> (first | assumption | omega | with_reducible rfl | (simp [maxLen_eq]; done) | (simp [maxLen_eq]; omega))) | ((with_reducible refine c3 _ _ ?_) <;> (first | assumption | omega | with_reducible rfl | (simp [maxLen_eq]; done) | (simp [maxLen_eq]; omega))) | contradiction | exact fconvOk_32_64 _ | assumption | exact rfl | (simp_all []; done) | (simp_all [T.ok]; omega)

theorem season_len (xs : List Nat) (per : Nat) : (seasonM xs per).length = per := by unfold seasonM; rw [lessOne_len, fold_len]
theorem k_impl_SeasonOf {P : Program} {f g1 g2 g3 : FuncId} (h : Is_impl_SeasonOf P f g1 g2 g3) (c1 : C_impl_isPeriodOf P g1) (c2 : C_impl_season P g2) (c3 : C_impl_ifAll P g3) : C_impl_SeasonOf P f := by
  intro xs per hx
  refine q_impl_SeasonOf h xs per ⟨c1 _ _ hx, fun _ => ⟨fun h0 => ?_, fun h0 => ?_⟩⟩
  · have : seasonOk xs per = false := by
      unfold seasonOk
      cases hs : seriesM xs <;> cases hi : inM per 1 xs.length <;> simp_all
    simp [T.ok, this]
  · simp at h0
    have hl := series_len h0.1
    have hi := in_1 h0.2
    refine ⟨c2 _ _ hi hl.2, fun _ => ⟨c3 _ (by rw [season_len, maxLen_eq]; omega), fun _ => ?_⟩⟩
    simp [T.ok, seasonOk, h0, ifAllM]
end Go.Proofs.LV
