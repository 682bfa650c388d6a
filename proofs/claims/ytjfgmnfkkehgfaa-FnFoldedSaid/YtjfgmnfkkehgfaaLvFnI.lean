/- Fits by weights, steps, seasons, the best period, likenesses of a series with itself, guesses ahead. -/
import Derived.Test.YtjfgmnfkkehgfaaLvFnG
namespace Go.Proofs.LV
open Go
set_option linter.unusedVariables false
set_option linter.unusedSimpArgs false

def weighedM (ws a b : List Nat) : Nat := accN (fun i s => fadd .f32 s (fmul .f32 (fmul .f32 (ws.getD i 0) (a.getD i 0)) (b.getD i 0))) ws.length 0
def wfX (x ws : List Nat) : Nat := fdiv .f32 (dotM ws x) (sumM ws)
def wfU (x ws : List Nat) : List Nat := lessOneM x (wfX x ws)
def wfDown (x ws : List Nat) : Nat := weighedM ws (wfU x ws) (wfU x ws)
def wfSlope (x y ws : List Nat) : Nat := fdiv .f32 (weighedM ws (wfU x ws) (wfU y ws)) (wfDown x ws)
def wfBase (x y ws : List Nat) : Nat := fsub .f32 (wfX y ws) (fmul .f32 (wfSlope x y ws) (wfX x ws))
def wfOk (x y ws : List Nat) : Bool := twoM x y && (twoM x ws && (notLessM ws && (fgt .f32 (sumM ws) 0 && (!feq .f32 (wfDown x ws) 0 && (finM (wfBase x y ws) && finM (wfSlope x y ws))))))




/-! ### steps -/
def squaresM (xs : List Nat) : Nat := dotM (lessOneM xs (meanM xs)) (lessOneM xs (meanM xs))
def stepSum (xs : List Nat) (i : Nat) : Nat := fadd .f32 (squaresM (xs.take i)) (squaresM (xs.drop i))
def stepAt (xs : List Nat) : Nat → Nat × Nat
  | 0 => (0, 0)
  | j + 1 => if ((stepAt xs j).1 == 0 || flt .f32 (stepSum xs (j + 1)) (stepAt xs j).2) = true then (j + 1, stepSum xs (j + 1)) else stepAt xs j
def stepBest (xs : List Nat) : Nat := (stepAt xs (xs.length - 1)).1
def stepBy (xs : List Nat) : Nat := fsub .f32 (meanM (xs.drop (stepBest xs))) (meanM (xs.take (stepBest xs)))
def stepFin (xs : List Nat) : Bool := allN (xs.length - 1) fun i => finM (stepSum xs (i + 1))
def stepOk (xs : List Nat) : Bool := seriesM xs && (decide (2 ≤ xs.length) && (stepFin xs && finM (stepBy xs)))







/-! ### seasons -/
def seasonM (xs : List Nat) (per : Nat) : List Nat := lessOneM (foldM xs per) (meanM (foldM xs per))
def seasonOk (xs : List Nat) (per : Int) : Bool := seriesM xs && (inM per 1 xs.length && finAllM (seasonM xs per.toNat))





/-! ### the best period -/
def bpSum (xs : List Nat) (per : Int) : Nat := leftM xs (foldM xs per.toNat)
def bpAt (xs : List Nat) (low : Int) : Nat → Int × Nat
  | 0 => (0, 0)
  | j + 1 => if ((bpAt xs low j).1 == 0 || flt .f32 (bpSum xs (low + j)) (bpAt xs low j).2) = true then (low + j, bpSum xs (low + j)) else bpAt xs low j
def bpN (low top : Int) : Nat := (top + 1 - low).toNat
def bpFin (xs : List Nat) (low top : Int) : Bool := allN (bpN low top) fun j => foldOk xs (low + j)
def bpOk (xs : List Nat) (low top w : Int) : Bool := seriesM xs && (inM low 2 top && (decide (top ≤ (xs.length / 2 : Nat)) && (inM w 1 8 && bpFin xs low top)))

-- FN impl_areWorkers
/-- impl.areWorkers: slots 5, results [.t 2]; calls [4:g_impl_within]; names [(n, 0), (n, 1)] -/
def ps_impl_areWorkers : List Nat := [0, 2]
def b_impl_areWorkers (g_impl_within : FuncId) : VCode :=
  (.seq
   (.region false [
    ⟨some 2, .mv, [.k (.b false)], none⟩])
   (.seq
    (.region false [
     ⟨some 3, .mv, [.t 0], none⟩,
     ⟨some 4, (.call g_impl_within), [.t 3, .k (.i .i64 1), .k (.i .i64 8)], none⟩,
     ⟨some 2, .mv, [.t 4], none⟩])
    .ret))

abbrev Is_impl_areWorkers (P : Program) (g_f : FuncId) (g_impl_within : FuncId) : Prop := FnIs P g_f 5 [.t 2] (b_impl_areWorkers g_impl_within)

abbrev C_impl_areWorkers (P : Program) (g_f : FuncId) : Prop := ∀ (n : Int), VCall P g_f [.i .i64 n] (.b (inM n 1 8))
def oc1_impl_areWorkers (as : List AV) : T AV := match as with | [.i .i64 n] => .leaf (.b (inM n 1 8)) | _ => .fail
def oc_impl_areWorkers (n : Int) (d : Nat) (as : List AV) : T AV := match d with | 4 => oc1_impl_within as | _ => .fail



theorem q_impl_areWorkers {P : Program} {g_f : FuncId} {g_impl_within : FuncId} (h_ : Is_impl_areWorkers P g_f g_impl_within) (n : Int) (ht : T.ok (fun x_ => x_ = .b (inM n 1 8)) (
      T.ob ((VCall P) g_impl_within [AV.i IntKind.i64 n, AV.i IntKind.i64 1, AV.i IntKind.i64 8] (AV.b (inM n 1 8))) (T.leaf (AV.b (inM n 1 8))))) :
    VCall P g_f [.i .i64 n] (.b (inM n 1 8)) := h_.call_of ps_impl_areWorkers ⟨oc_impl_areWorkers n, fun _ _ => none⟩ (by kernel_rfl) ht

-- END impl_areWorkers

-- FN impl_BestPeriod
/-- impl.BestPeriod: slots 65, results [.t 8, .t 9, .t 10]; calls [18:g_impl_IsSeries, 25:g_impl_within, 31:g_impl_within, 36:g_impl_areWorkers, 48:g_impl_FoldedBy]; names [(a, 0), (low, 1), (high, 2), (workers, 3), (a, 4), (low, 5), (high, 6), (workers, 7), (best, 11), (least, 12), (period, 13), (_, 14), (sum, 15), (ok, 16)] -/
def ps_impl_BestPeriod : List Nat := [0, 1, 2, 3, 8, 9, 10, 11, 12, 13, 15, 16, 38, 42, 53, 60]
def lv_impl_BestPeriod_L0 : List Nat := [0, 2, 11, 12, 13]
def b_impl_BestPeriod_L0 (g_impl_IsSeries g_impl_within g_impl_areWorkers g_impl_FoldedBy : FuncId) : VCode :=
  (.seq
   (.seq
    (.region false [
     ⟨some 40, .mv, [.t 13], none⟩,
     ⟨some 41, .mv, [.t 2], none⟩,
     ⟨some 42, (.bin .leq), [.t 40, .t 41], none⟩])
    (.cond (.t 42)
     .skip
     (.exit 0)))
   (.seq
    (.block 1
     (.seq
      (.region false [
       ⟨some 46, .mv, [.t 0], none⟩,
       ⟨some 47, .mv, [.t 13], none⟩,
       ⟨some 48, (.call g_impl_FoldedBy), [.t 46, .t 47], none⟩,
       ⟨some 45, .mv, [.t 48], none⟩,
       ⟨some 49, (.extract 0), [.t 45], none⟩,
       ⟨some 50, (.extract 1), [.t 45], none⟩,
       ⟨some 51, (.extract 2), [.t 45], none⟩,
       ⟨some 14, .mv, [.t 49], none⟩,
       ⟨some 15, .mv, [.t 50], none⟩,
       ⟨some 16, .mv, [.t 51], none⟩])
      (.seq
       (.seq
        (.region false [
         ⟨some 52, .mv, [.t 16], none⟩,
         ⟨some 53, .not, [.t 52], none⟩])
        (.cond (.t 53)
         (.seq
          (.region false [
           ⟨some 8, .mv, [.k (.i .i64 0)], none⟩,
           ⟨some 9, .mv, [.k (.f .f32 0)], none⟩,
           ⟨some 10, .mv, [.k (.b false)], none⟩])
          .ret)
         .skip))
       (.seq
        (.region false [
         ⟨some 54, .mv, [.t 11], none⟩,
         ⟨some 55, (.bin .eql), [.t 54, .k (.i .i64 0)], none⟩,
         ⟨some 56, .mv, [.t 55], none⟩,
         ⟨some 57, .mv, [.t 15], some (56, false)⟩,
         ⟨some 58, .mv, [.t 12], some (56, false)⟩,
         ⟨some 59, (.bin .lss), [.t 57, .t 58], some (56, false)⟩,
         ⟨some 60, .pick, [.t 56, .k (.b true), .t 59], none⟩])
        (.cond (.t 60)
         (.region false [
          ⟨some 61, .mv, [.t 13], none⟩,
          ⟨some 62, .mv, [.t 15], none⟩,
          ⟨some 11, .mv, [.t 61], none⟩,
          ⟨some 12, .mv, [.t 62], none⟩])
         .skip)))))
    (.region false [
     ⟨some 43, .mv, [.t 13], none⟩,
     ⟨some 44, (.bin .add), [.t 43, .k (.i .i64 1)], none⟩,
     ⟨some 13, .mv, [.t 44], none⟩])))

def b_impl_BestPeriod (g_impl_IsSeries g_impl_within g_impl_areWorkers g_impl_FoldedBy : FuncId) : VCode :=
  (.seq
   (.region false [
    ⟨some 8, .mv, [.k (.i .i64 0)], none⟩,
    ⟨some 9, .mv, [.k (.f .f32 0)], none⟩,
    ⟨some 10, .mv, [.k (.b false)], none⟩])
   (.seq
    (.seq
     (.region false [
      ⟨some 17, .mv, [.t 0], none⟩,
      ⟨some 18, (.call g_impl_IsSeries), [.t 17], none⟩,
      ⟨some 19, .not, [.t 18], none⟩,
      ⟨some 20, .mv, [.t 19], none⟩,
      ⟨some 21, .mv, [.t 2], some (20, false)⟩,
      ⟨some 22, .mv, [.t 0], some (20, false)⟩,
      ⟨some 23, .len, [.t 22], some (20, false)⟩,
      ⟨some 24, (.bin .quo), [.t 23, .k (.i .i64 2)], some (20, false)⟩,
      ⟨some 25, (.call g_impl_within), [.t 21, .k (.i .i64 2), .t 24], some (20, false)⟩,
      ⟨some 26, .not, [.t 25], some (20, false)⟩,
      ⟨some 27, .pick, [.t 20, .k (.b true), .t 26], none⟩,
      ⟨some 28, .mv, [.t 27], none⟩,
      ⟨some 29, .mv, [.t 1], some (28, false)⟩,
      ⟨some 30, .mv, [.t 2], some (28, false)⟩,
      ⟨some 31, (.call g_impl_within), [.t 29, .k (.i .i64 2), .t 30], some (28, false)⟩,
      ⟨some 32, .not, [.t 31], some (28, false)⟩,
      ⟨some 33, .pick, [.t 28, .k (.b true), .t 32], none⟩,
      ⟨some 34, .mv, [.t 33], none⟩,
      ⟨some 35, .mv, [.t 3], some (34, false)⟩,
      ⟨some 36, (.call g_impl_areWorkers), [.t 35], some (34, false)⟩,
      ⟨some 37, .not, [.t 36], some (34, false)⟩,
      ⟨some 38, .pick, [.t 34, .k (.b true), .t 37], none⟩])
     (.cond (.t 38)
      (.seq
       (.region false [
        ⟨some 8, .mv, [.k (.i .i64 0)], none⟩,
        ⟨some 9, .mv, [.k (.f .f32 0)], none⟩,
        ⟨some 10, .mv, [.k (.b false)], none⟩])
       .ret)
      .skip))
    (.seq
     (.region false [
      ⟨some 11, .mv, [.k (.i .i64 0)], none⟩,
      ⟨some 12, .mv, [.k (.f .f32 0)], none⟩])
     (.seq
      (.seq
       (.region false [
        ⟨some 39, .mv, [.t 1], none⟩,
        ⟨some 13, .mv, [.t 39], none⟩])
       (.block 0 (.loop (b_impl_BestPeriod_L0 g_impl_IsSeries g_impl_within g_impl_areWorkers g_impl_FoldedBy))))
      (.seq
       (.region false [
        ⟨some 63, .mv, [.t 11], none⟩,
        ⟨some 64, .mv, [.t 12], none⟩,
        ⟨some 8, .mv, [.t 63], none⟩,
        ⟨some 9, .mv, [.t 64], none⟩,
        ⟨some 10, .mv, [.k (.b true)], none⟩])
       .ret)))))

abbrev Is_impl_BestPeriod (P : Program) (g_f : FuncId) (g_impl_IsSeries g_impl_within g_impl_areWorkers g_impl_FoldedBy : FuncId) : Prop := FnIs P g_f 65 [.t 8, .t 9, .t 10] (b_impl_BestPeriod g_impl_IsSeries g_impl_within g_impl_areWorkers g_impl_FoldedBy)

abbrev C_impl_BestPeriod (P : Program) (g_f : FuncId) : Prop := ∀ (xs : List Nat) (low : Int) (top : Int) (w : Int) (hx : xs.length ≤ maxLen), VCall P g_f [PS [0] .f32 xs, .i .i64 low, .i .i64 top, .i .i64 w] (.tup [.i .i64 (if bpOk xs low top w = true then (bpAt xs low (bpN low top)).1 else 0), .f .f32 (if bpOk xs low top w = true then (bpAt xs low (bpN low top)).2 else 0), .b (bpOk xs low top w)])
def oc1_impl_BestPeriod (as : List AV) : T AV := match as with | [.sl _ _ (.f .f32 xs), .i .i64 low, .i .i64 top, .i .i64 w] => .leaf (.tup [.i .i64 (if bpOk xs low top w = true then (bpAt xs low (bpN low top)).1 else 0), .f .f32 (if bpOk xs low top w = true then (bpAt xs low (bpN low top)).2 else 0), .b (bpOk xs low top w)]) | _ => .fail
def oc_impl_BestPeriod (xs : List Nat) (low : Int) (top : Int) (w : Int) (d : Nat) (as : List AV) : T AV := match d with | 18 => oc1_impl_IsSeries as | 25 => oc1_impl_within as | 31 => oc1_impl_within as | 36 => oc1_impl_areWorkers as | 48 => oc1_impl_FoldedBy as | _ => .fail
def h_impl_BestPeriod_L0 (xs : List Nat) (low : Int) (top : Int) (w : Int) (best : Int) (least : Nat) (period : Int) : Env := [AV.sl (Tag.par [0]) 0 (Cont.f FloatKind.f32 xs), .any, AV.i IntKind.i64 top] ++ anys 8 ++ [.i IntKind.i64 best, .f FloatKind.f32 least, .i IntKind.i64 period] ++ anys 51

theorem q_impl_BestPeriod_L0 {VC : FuncId → List AV → AV → Prop} {g_impl_IsSeries g_impl_within g_impl_areWorkers g_impl_FoldedBy : FuncId} (xs : List Nat) (low : Int) (top : Int) (w : Int) (best : Int) (least : Nat) (period : Int) {e_ : Ex} {σ_ : Env} (ht : T.ok (fun x_ => x_ = (e_, σ_)) (
      T.ite (decide (period ≤ top))
        (T.ob
          (VC g_impl_FoldedBy [AV.sl (Tag.par [0]) 0 (Cont.f FloatKind.f32 xs), AV.i IntKind.i64 period]
            (AV.tup
              [AV.sl (Tag.own 0) 0 (Cont.f FloatKind.f32 (if foldOk xs period = true then foldM xs (Int.toNat period) else [])),
                AV.f FloatKind.f32 (if foldOk xs period = true then leftM xs (foldM xs (Int.toNat period)) else 0), AV.b (foldOk xs period)]))
          (T.ite (!foldOk xs period) (T.leaf (Ex.ret, anys 8 ++ AV.i IntKind.i64 0 :: AV.f FloatKind.f32 0 :: AV.b false :: anys 54))
            (T.ite (best == 0) (T.leaf (Ex.normal, h_impl_BestPeriod_L0 xs low top w period (if foldOk xs period = true then leftM xs (foldM xs (Int.toNat period)) else 0) (IntKind.wrap IntKind.i64 (period + 1))))
              (T.ite (flt FloatKind.f32 (if foldOk xs period = true then leftM xs (foldM xs (Int.toNat period)) else 0) least)
                (T.leaf (Ex.normal, h_impl_BestPeriod_L0 xs low top w period (if foldOk xs period = true then leftM xs (foldM xs (Int.toNat period)) else 0) (IntKind.wrap IntKind.i64 (period + 1))))
                (T.leaf (Ex.normal, h_impl_BestPeriod_L0 xs low top w best least (IntKind.wrap IntKind.i64 (period + 1))))))))
        (T.leaf (Ex.exit 0, h_impl_BestPeriod_L0 xs low top w best least period)))) :
    Exec VC ps_impl_BestPeriod (b_impl_BestPeriod_L0 g_impl_IsSeries g_impl_within g_impl_areWorkers g_impl_FoldedBy) (h_impl_BestPeriod_L0 xs low top w best least period) e_ σ_ := evL_of (lv := lv_impl_BestPeriod_L0) (rs := [8, 9, 10]) (O := ⟨oc_impl_BestPeriod xs low top w, fun _ _ => none⟩) (by kernel_rfl) ht

theorem q_impl_BestPeriod {P : Program} {g_f : FuncId} {g_impl_IsSeries g_impl_within g_impl_areWorkers g_impl_FoldedBy : FuncId} (h_ : Is_impl_BestPeriod P g_f g_impl_IsSeries g_impl_within g_impl_areWorkers g_impl_FoldedBy) (xs : List Nat) (low : Int) (top : Int) (w : Int) (ht : T.ok (fun x_ => x_ = .tup [.i .i64 (if bpOk xs low top w = true then (bpAt xs low (bpN low top)).1 else 0), .f .f32 (if bpOk xs low top w = true then (bpAt xs low (bpN low top)).2 else 0), .b (bpOk xs low top w)]) (
      T.ob ((VCall P) g_impl_IsSeries [AV.sl (Tag.par [0]) 0 (Cont.f FloatKind.f32 xs)] (AV.b (seriesM xs)))
        (T.ite (!seriesM xs) (T.leaf (AV.tup [AV.i IntKind.i64 0, AV.f FloatKind.f32 0, AV.b false]))
          (T.ob ((2 : Int) ≠ 0)
            (T.ob
              ((VCall P) g_impl_within [AV.i IntKind.i64 top, AV.i IntKind.i64 2, AV.i IntKind.i64 (IntKind.wrap IntKind.i64 (Int.tdiv (↑(List.length xs) : Int) 2))]
                (AV.b (inM top 2 (IntKind.wrap IntKind.i64 (Int.tdiv (↑(List.length xs) : Int) 2)))))
              (T.ite (!inM top 2 (IntKind.wrap IntKind.i64 (Int.tdiv (↑(List.length xs) : Int) 2))) (T.leaf (AV.tup [AV.i IntKind.i64 0, AV.f FloatKind.f32 0, AV.b false]))
                (T.ob ((VCall P) g_impl_within [AV.i IntKind.i64 low, AV.i IntKind.i64 2, AV.i IntKind.i64 top] (AV.b (inM low 2 top)))
                  (T.ite (!inM low 2 top) (T.leaf (AV.tup [AV.i IntKind.i64 0, AV.f FloatKind.f32 0, AV.b false]))
                    (T.ob ((VCall P) g_impl_areWorkers [AV.i IntKind.i64 w] (AV.b (inM w 1 8)))
                      (T.ite (!inM w 1 8) (T.leaf (AV.tup [AV.i IntKind.i64 0, AV.f FloatKind.f32 0, AV.b false]))
                        (T.ite (bpFin xs low top)
                          (T.ob
                            (Exec (VCall P) ps_impl_BestPeriod (VCode.block 0 (VCode.loop (b_impl_BestPeriod_L0 g_impl_IsSeries g_impl_within g_impl_areWorkers g_impl_FoldedBy))) (h_impl_BestPeriod_L0 xs low top w 0 0 low) Ex.normal
                              (h_impl_BestPeriod_L0 xs low top w (Prod.fst (bpAt xs low (bpN low top))) (Prod.snd (bpAt xs low (bpN low top))) (top + 1)))
                            (T.leaf (AV.tup [AV.i IntKind.i64 (Prod.fst (bpAt xs low (bpN low top))), AV.f FloatKind.f32 (Prod.snd (bpAt xs low (bpN low top))), AV.b true])))
                          (T.ob
                            (Exec (VCall P) ps_impl_BestPeriod (VCode.block 0 (VCode.loop (b_impl_BestPeriod_L0 g_impl_IsSeries g_impl_within g_impl_areWorkers g_impl_FoldedBy))) (h_impl_BestPeriod_L0 xs low top w 0 0 low) Ex.ret
                              (anys 8 ++ AV.i IntKind.i64 0 :: AV.f FloatKind.f32 0 :: AV.b false :: anys 54))
                            (T.leaf (AV.tup [AV.i IntKind.i64 0, AV.f FloatKind.f32 0, AV.b false])))))))))))))) :
    VCall P g_f [PS [0] .f32 xs, .i .i64 low, .i .i64 top, .i .i64 w] (.tup [.i .i64 (if bpOk xs low top w = true then (bpAt xs low (bpN low top)).1 else 0), .f .f32 (if bpOk xs low top w = true then (bpAt xs low (bpN low top)).2 else 0), .b (bpOk xs low top w)]) := h_.call_of ps_impl_BestPeriod ⟨oc_impl_BestPeriod xs low top w, fun id σ => match id with | 0 => some (lv_impl_BestPeriod_L0, .ite (bpFin xs low top) (.leaf (.normal, h_impl_BestPeriod_L0 xs low top w (bpAt xs low (bpN low top)).1 (bpAt xs low (bpN low top)).2 (top + 1))) (.leaf (.ret, anys 8 ++ .i .i64 0 :: .f .f32 0 :: .b false :: anys 54))) | _ => none⟩ (by kernel_rfl) ht

-- END impl_BestPeriod

-- FN spec_BestPeriod
/-- spec.BestPeriod: slots 64, results [.t 8, .t 9, .t 10]; calls [18:g_spec_l02Series, 23:g_spec_l00In, 35:g_spec_l00In, 47:g_spec_FoldedBy]; names [(a, 0), (low, 1), (high, 2), (workers, 3), (a, 4), (low, 5), (high, 6), (workers, 7), (best, 11), (least, 12), (period, 13), (_, 14), (left, 15), (ok, 16)] -/
def ps_spec_BestPeriod : List Nat := [0, 1, 2, 3, 8, 9, 10, 11, 12, 13, 15, 16, 37, 41, 52, 59]
def lv_spec_BestPeriod_L0 : List Nat := [0, 2, 11, 12, 13]
def b_spec_BestPeriod_L0 (g_spec_l02Series g_spec_l00In g_spec_FoldedBy : FuncId) : VCode :=
  (.seq
   (.seq
    (.region false [
     ⟨some 39, .mv, [.t 13], none⟩,
     ⟨some 40, .mv, [.t 2], none⟩,
     ⟨some 41, (.bin .leq), [.t 39, .t 40], none⟩])
    (.cond (.t 41)
     .skip
     (.exit 0)))
   (.seq
    (.block 1
     (.seq
      (.region false [
       ⟨some 45, .mv, [.t 0], none⟩,
       ⟨some 46, .mv, [.t 13], none⟩,
       ⟨some 47, (.call g_spec_FoldedBy), [.t 45, .t 46], none⟩,
       ⟨some 44, .mv, [.t 47], none⟩,
       ⟨some 48, (.extract 0), [.t 44], none⟩,
       ⟨some 49, (.extract 1), [.t 44], none⟩,
       ⟨some 50, (.extract 2), [.t 44], none⟩,
       ⟨some 14, .mv, [.t 48], none⟩,
       ⟨some 15, .mv, [.t 49], none⟩,
       ⟨some 16, .mv, [.t 50], none⟩])
      (.seq
       (.seq
        (.region false [
         ⟨some 51, .mv, [.t 16], none⟩,
         ⟨some 52, .not, [.t 51], none⟩])
        (.cond (.t 52)
         (.seq
          (.region false [
           ⟨some 8, .mv, [.k (.i .i64 0)], none⟩,
           ⟨some 9, .mv, [.k (.f .f32 0)], none⟩,
           ⟨some 10, .mv, [.k (.b false)], none⟩])
          .ret)
         .skip))
       (.seq
        (.region false [
         ⟨some 53, .mv, [.t 11], none⟩,
         ⟨some 54, (.bin .eql), [.t 53, .k (.i .i64 0)], none⟩,
         ⟨some 55, .mv, [.t 54], none⟩,
         ⟨some 56, .mv, [.t 15], some (55, false)⟩,
         ⟨some 57, .mv, [.t 12], some (55, false)⟩,
         ⟨some 58, (.bin .lss), [.t 56, .t 57], some (55, false)⟩,
         ⟨some 59, .pick, [.t 55, .k (.b true), .t 58], none⟩])
        (.cond (.t 59)
         (.seq
          (.region false [
           ⟨some 60, .mv, [.t 13], none⟩,
           ⟨some 11, .mv, [.t 60], none⟩])
          (.region false [
           ⟨some 61, .mv, [.t 15], none⟩,
           ⟨some 12, .mv, [.t 61], none⟩]))
         .skip)))))
    (.region false [
     ⟨some 42, .mv, [.t 13], none⟩,
     ⟨some 43, (.bin .add), [.t 42, .k (.i .i64 1)], none⟩,
     ⟨some 13, .mv, [.t 43], none⟩])))

def b_spec_BestPeriod (g_spec_l02Series g_spec_l00In g_spec_FoldedBy : FuncId) : VCode :=
  (.seq
   (.region false [
    ⟨some 8, .mv, [.k (.i .i64 0)], none⟩,
    ⟨some 9, .mv, [.k (.f .f32 0)], none⟩,
    ⟨some 10, .mv, [.k (.b false)], none⟩])
   (.seq
    (.seq
     (.region false [
      ⟨some 17, .mv, [.t 0], none⟩,
      ⟨some 18, (.call g_spec_l02Series), [.t 17], none⟩,
      ⟨some 19, .not, [.t 18], none⟩,
      ⟨some 20, .mv, [.t 19], none⟩,
      ⟨some 21, .mv, [.t 1], some (20, false)⟩,
      ⟨some 22, .mv, [.t 2], some (20, false)⟩,
      ⟨some 23, (.call g_spec_l00In), [.t 21, .k (.i .i64 2), .t 22], some (20, false)⟩,
      ⟨some 24, .not, [.t 23], some (20, false)⟩,
      ⟨some 25, .pick, [.t 20, .k (.b true), .t 24], none⟩,
      ⟨some 26, .mv, [.t 25], none⟩,
      ⟨some 27, .mv, [.t 2], some (26, false)⟩,
      ⟨some 28, .mv, [.t 0], some (26, false)⟩,
      ⟨some 29, .len, [.t 28], some (26, false)⟩,
      ⟨some 30, (.bin .quo), [.t 29, .k (.i .i64 2)], some (26, false)⟩,
      ⟨some 31, (.bin .gtr), [.t 27, .t 30], some (26, false)⟩,
      ⟨some 32, .pick, [.t 26, .k (.b true), .t 31], none⟩,
      ⟨some 33, .mv, [.t 32], none⟩,
      ⟨some 34, .mv, [.t 3], some (33, false)⟩,
      ⟨some 35, (.call g_spec_l00In), [.t 34, .k (.i .i64 1), .k (.i .i64 8)], some (33, false)⟩,
      ⟨some 36, .not, [.t 35], some (33, false)⟩,
      ⟨some 37, .pick, [.t 33, .k (.b true), .t 36], none⟩])
     (.cond (.t 37)
      (.seq
       (.region false [
        ⟨some 8, .mv, [.k (.i .i64 0)], none⟩,
        ⟨some 9, .mv, [.k (.f .f32 0)], none⟩,
        ⟨some 10, .mv, [.k (.b false)], none⟩])
       .ret)
      .skip))
    (.seq
     (.region false [
      ⟨some 11, .mv, [.k (.i .i64 0)], none⟩])
     (.seq
      (.region false [
       ⟨some 12, .mv, [.k (.f .f32 0)], none⟩])
      (.seq
       (.seq
        (.region false [
         ⟨some 38, .mv, [.t 1], none⟩,
         ⟨some 13, .mv, [.t 38], none⟩])
        (.block 0 (.loop (b_spec_BestPeriod_L0 g_spec_l02Series g_spec_l00In g_spec_FoldedBy))))
       (.seq
        (.region false [
         ⟨some 62, .mv, [.t 11], none⟩,
         ⟨some 63, .mv, [.t 12], none⟩,
         ⟨some 8, .mv, [.t 62], none⟩,
         ⟨some 9, .mv, [.t 63], none⟩,
         ⟨some 10, .mv, [.k (.b true)], none⟩])
        .ret))))))

abbrev Is_spec_BestPeriod (P : Program) (g_f : FuncId) (g_spec_l02Series g_spec_l00In g_spec_FoldedBy : FuncId) : Prop := FnIs P g_f 64 [.t 8, .t 9, .t 10] (b_spec_BestPeriod g_spec_l02Series g_spec_l00In g_spec_FoldedBy)

abbrev C_spec_BestPeriod (P : Program) (g_f : FuncId) : Prop := ∀ (xs : List Nat) (low : Int) (top : Int) (w : Int) (hx : xs.length ≤ maxLen), VCall P g_f [PS [0] .f32 xs, .i .i64 low, .i .i64 top, .i .i64 w] (.tup [.i .i64 (if bpOk xs low top w = true then (bpAt xs low (bpN low top)).1 else 0), .f .f32 (if bpOk xs low top w = true then (bpAt xs low (bpN low top)).2 else 0), .b (bpOk xs low top w)])
def oc1_spec_BestPeriod (as : List AV) : T AV := match as with | [.sl _ _ (.f .f32 xs), .i .i64 low, .i .i64 top, .i .i64 w] => .leaf (.tup [.i .i64 (if bpOk xs low top w = true then (bpAt xs low (bpN low top)).1 else 0), .f .f32 (if bpOk xs low top w = true then (bpAt xs low (bpN low top)).2 else 0), .b (bpOk xs low top w)]) | _ => .fail
def oc_spec_BestPeriod (xs : List Nat) (low : Int) (top : Int) (w : Int) (d : Nat) (as : List AV) : T AV := match d with | 18 => oc1_spec_l02Series as | 23 => oc1_spec_l00In as | 35 => oc1_spec_l00In as | 47 => oc1_spec_FoldedBy as | _ => .fail
def h_spec_BestPeriod_L0 (xs : List Nat) (low : Int) (top : Int) (w : Int) (best : Int) (least : Nat) (period : Int) : Env := [AV.sl (Tag.par [0]) 0 (Cont.f FloatKind.f32 xs), .any, AV.i IntKind.i64 top] ++ anys 8 ++ [.i IntKind.i64 best, .f FloatKind.f32 least, .i IntKind.i64 period] ++ anys 50

theorem q_spec_BestPeriod_L0 {VC : FuncId → List AV → AV → Prop} {g_spec_l02Series g_spec_l00In g_spec_FoldedBy : FuncId} (xs : List Nat) (low : Int) (top : Int) (w : Int) (best : Int) (least : Nat) (period : Int) {e_ : Ex} {σ_ : Env} (ht : T.ok (fun x_ => x_ = (e_, σ_)) (
      T.ite (decide (period ≤ top))
        (T.ob
          (VC g_spec_FoldedBy [AV.sl (Tag.par [0]) 0 (Cont.f FloatKind.f32 xs), AV.i IntKind.i64 period]
            (AV.tup
              [AV.sl (Tag.own 0) 0 (Cont.f FloatKind.f32 (if foldOk xs period = true then foldM xs (Int.toNat period) else [])),
                AV.f FloatKind.f32 (if foldOk xs period = true then leftM xs (foldM xs (Int.toNat period)) else 0), AV.b (foldOk xs period)]))
          (T.ite (!foldOk xs period) (T.leaf (Ex.ret, anys 8 ++ AV.i IntKind.i64 0 :: AV.f FloatKind.f32 0 :: AV.b false :: anys 53))
            (T.ite (best == 0) (T.leaf (Ex.normal, h_spec_BestPeriod_L0 xs low top w period (if foldOk xs period = true then leftM xs (foldM xs (Int.toNat period)) else 0) (IntKind.wrap IntKind.i64 (period + 1))))
              (T.ite (flt FloatKind.f32 (if foldOk xs period = true then leftM xs (foldM xs (Int.toNat period)) else 0) least)
                (T.leaf (Ex.normal, h_spec_BestPeriod_L0 xs low top w period (if foldOk xs period = true then leftM xs (foldM xs (Int.toNat period)) else 0) (IntKind.wrap IntKind.i64 (period + 1))))
                (T.leaf (Ex.normal, h_spec_BestPeriod_L0 xs low top w best least (IntKind.wrap IntKind.i64 (period + 1))))))))
        (T.leaf (Ex.exit 0, h_spec_BestPeriod_L0 xs low top w best least period)))) :
    Exec VC ps_spec_BestPeriod (b_spec_BestPeriod_L0 g_spec_l02Series g_spec_l00In g_spec_FoldedBy) (h_spec_BestPeriod_L0 xs low top w best least period) e_ σ_ := evL_of (lv := lv_spec_BestPeriod_L0) (rs := [8, 9, 10]) (O := ⟨oc_spec_BestPeriod xs low top w, fun _ _ => none⟩) (by kernel_rfl) ht

theorem q_spec_BestPeriod {P : Program} {g_f : FuncId} {g_spec_l02Series g_spec_l00In g_spec_FoldedBy : FuncId} (h_ : Is_spec_BestPeriod P g_f g_spec_l02Series g_spec_l00In g_spec_FoldedBy) (xs : List Nat) (low : Int) (top : Int) (w : Int) (ht : T.ok (fun x_ => x_ = .tup [.i .i64 (if bpOk xs low top w = true then (bpAt xs low (bpN low top)).1 else 0), .f .f32 (if bpOk xs low top w = true then (bpAt xs low (bpN low top)).2 else 0), .b (bpOk xs low top w)]) (
      T.ob ((VCall P) g_spec_l02Series [AV.sl (Tag.par [0]) 0 (Cont.f FloatKind.f32 xs)] (AV.b (seriesM xs)))
        (T.ite (!seriesM xs) (T.leaf (AV.tup [AV.i IntKind.i64 0, AV.f FloatKind.f32 0, AV.b false]))
          (T.ob ((VCall P) g_spec_l00In [AV.i IntKind.i64 low, AV.i IntKind.i64 2, AV.i IntKind.i64 top] (AV.b (inM low 2 top)))
            (T.ite (!inM low 2 top) (T.leaf (AV.tup [AV.i IntKind.i64 0, AV.f FloatKind.f32 0, AV.b false]))
              (T.ob ((2 : Int) ≠ 0)
                (T.ite (decide (top > IntKind.wrap IntKind.i64 (Int.tdiv (↑(List.length xs) : Int) 2))) (T.leaf (AV.tup [AV.i IntKind.i64 0, AV.f FloatKind.f32 0, AV.b false]))
                  (T.ob ((VCall P) g_spec_l00In [AV.i IntKind.i64 w, AV.i IntKind.i64 1, AV.i IntKind.i64 8] (AV.b (inM w 1 8)))
                    (T.ite (!inM w 1 8) (T.leaf (AV.tup [AV.i IntKind.i64 0, AV.f FloatKind.f32 0, AV.b false]))
                      (T.ite (bpFin xs low top)
                        (T.ob
                          (Exec (VCall P) ps_spec_BestPeriod (VCode.block 0 (VCode.loop (b_spec_BestPeriod_L0 g_spec_l02Series g_spec_l00In g_spec_FoldedBy))) (h_spec_BestPeriod_L0 xs low top w 0 0 low) Ex.normal
                            (h_spec_BestPeriod_L0 xs low top w (Prod.fst (bpAt xs low (bpN low top))) (Prod.snd (bpAt xs low (bpN low top))) (top + 1)))
                          (T.leaf (AV.tup [AV.i IntKind.i64 (Prod.fst (bpAt xs low (bpN low top))), AV.f FloatKind.f32 (Prod.snd (bpAt xs low (bpN low top))), AV.b true])))
                        (T.ob
                          (Exec (VCall P) ps_spec_BestPeriod (VCode.block 0 (VCode.loop (b_spec_BestPeriod_L0 g_spec_l02Series g_spec_l00In g_spec_FoldedBy))) (h_spec_BestPeriod_L0 xs low top w 0 0 low) Ex.ret
                            (anys 8 ++ AV.i IntKind.i64 0 :: AV.f FloatKind.f32 0 :: AV.b false :: anys 53))
                          (T.leaf (AV.tup [AV.i IntKind.i64 0, AV.f FloatKind.f32 0, AV.b false]))))))))))))) :
    VCall P g_f [PS [0] .f32 xs, .i .i64 low, .i .i64 top, .i .i64 w] (.tup [.i .i64 (if bpOk xs low top w = true then (bpAt xs low (bpN low top)).1 else 0), .f .f32 (if bpOk xs low top w = true then (bpAt xs low (bpN low top)).2 else 0), .b (bpOk xs low top w)]) := h_.call_of ps_spec_BestPeriod ⟨oc_spec_BestPeriod xs low top w, fun id σ => match id with | 0 => some (lv_spec_BestPeriod_L0, .ite (bpFin xs low top) (.leaf (.normal, h_spec_BestPeriod_L0 xs low top w (bpAt xs low (bpN low top)).1 (bpAt xs low (bpN low top)).2 (top + 1))) (.leaf (.ret, anys 8 ++ .i .i64 0 :: .f .f32 0 :: .b false :: anys 53))) | _ => none⟩ (by kernel_rfl) ht

-- END spec_BestPeriod

theorem wf_eq {x y ws : List Nat} (h1 : twoM x y = true) (h2 : twoM x ws = true) (h3 : notLessM ws = true) (h4 : fgt .f32 (sumM ws) 0 = true) (h5 : feq .f32 (wfDown x ws) 0 = false) : wfOk x y ws = (finM (wfBase x y ws) && finM (wfSlope x y ws)) := by
  simp [wfOk, h1, h2, h3, h4, h5]
theorem two_eq {x y : List Nat} : twoM x y = (seriesM x && (seriesM y && decide (x.length = y.length))) := by
  unfold twoM
  have : ((x.length : Int) == (y.length : Int)) = decide (x.length = y.length) := by
    rw [Bool.eq_iff_iff, beq_iff_eq, decide_eq_true_eq]; omega
  rw [this, Bool.and_assoc]
theorem step_le (xs : List Nat) : ∀ j, (stepAt xs j).1 ≤ j
  | 0 => Nat.le_refl _
  | j + 1 => by
    have := step_le xs j
    simp only [stepAt]
    split
    · exact Nat.le_refl _
    · omega
theorem step_pos (xs : List Nat) : ∀ j, 1 ≤ j → 1 ≤ (stepAt xs j).1
  | 0, h => by omega
  | j + 1, _ => by
    simp only [stepAt]
    split
    · simp
    · rename_i h
      simp at h; omega
theorem season_len (xs : List Nat) (per : Nat) : (seasonM xs per).length = per := by unfold seasonM; rw [lessOne_len, fold_len]
theorem k_impl_areWorkers {P : Program} {f g_impl_within : FuncId} (h : Is_impl_areWorkers P f g_impl_within) (c1 : C_impl_within P g_impl_within) : C_impl_areWorkers P f := by
  intro n
  refine q_impl_areWorkers h n ?_
  repeat' (first | with_reducible refine T.ok_ob ?_ (fun _ => ?_) | with_reducible refine T.ok_ite (fun _ => ?_) (fun _ => ?_) | with_reducible refine T.ok_leaf ?_)
  all_goals first | with_reducible rfl | with_reducible assumption | with_reducible exact c1 _ _ _ | contradiction | exact fconvOk_32_64 _ | assumption | exact rfl | (simp_all []; done) | (simp_all [T.ok]; omega)

theorem k_impl_BestPeriod {P : Program} {f g1 g2 g3 g4 : FuncId} (h : Is_impl_BestPeriod P f g1 g2 g3 g4) (c1 : C_impl_IsSeries P g1) (c2 : C_impl_within P g2) (c3 : C_impl_areWorkers P g3) (c4 : C_impl_FoldedBy P g4) : C_impl_BestPeriod P f := by
  intro xs low top w hx
  have hm := ml64 hx
  have ew : IntKind.wrap .i64 (Int.tdiv (xs.length : Int) 2) = (xs.length / 2 : Nat) := by
    have : Int.tdiv (xs.length : Int) 2 = ((xs.length / 2 : Nat) : Int) := rfl
    rw [this, wrap64_id (by omega) (by omega)]
  refine q_impl_BestPeriod h xs low top w ?_
  rw [ew]
  refine ⟨c1 _ hx, fun _ => ⟨fun h0 => ?_, fun h0 => ⟨by omega, fun _ => ⟨c2 _ _ _, fun _ => ⟨fun h1 => ?_, fun h1 => ⟨c2 _ _ _, fun _ => ⟨fun h2 => ?_, fun h2 => ⟨c3 _, fun _ => ⟨fun h3 => ?_, fun h3 => ?_⟩⟩⟩⟩⟩⟩⟩⟩⟩
  · simp at h0; simp [T.ok, bpOk, h0]
  · have : bpOk xs low top w = false := by
      unfold bpOk
      cases h2 : inM low 2 top
      · simp
      · have h2 : 2 ≤ low ∧ low ≤ top := by simpa [inM] using h2
        have h1 : inM top 2 (xs.length / 2 : Nat) = false := by simpa using h1
        have : ¬ (top ≤ (xs.length / 2 : Nat)) := by
          intro h'
          have : inM top 2 (xs.length / 2 : Nat) = true := by simp only [inM, Bool.and_eq_true, decide_eq_true_eq]; omega
          rw [this] at h1; cases h1
        simp only [this, decide_false, Bool.false_and, Bool.and_false]
    simp [T.ok, this]
  · simp at h2; simp [T.ok, bpOk, h2]
  · simp at h3; simp [T.ok, bpOk, h3]
  · simp only [Bool.not_eq_false'] at h0 h1 h2 h3
    have hl := series_len h0
    have b1 : 2 ≤ top ∧ top ≤ (xs.length / 2 : Nat) := by simpa only [inM, Bool.and_eq_true, decide_eq_true_eq] using h1
    have b2 : 2 ≤ low ∧ low ≤ top := by simpa only [inM, Bool.and_eq_true, decide_eq_true_eq] using h2
    have hn : (bpN low top : Int) = top + 1 - low := by unfold bpN; omega
    have e : bpOk xs low top w = bpFin xs low top := by
      have : decide (top ≤ (xs.length / 2 : Nat)) = true := by simpa using b1.2
      unfold bpOk; rw [h0, h2, h3, this]; simp
    rw [e]
    have go : ∀ j, j < bpN low top → foldOk xs (low + j) = true → Exec (VCall P) ps_impl_BestPeriod (b_impl_BestPeriod_L0 g1 g2 g3 g4) (h_impl_BestPeriod_L0 xs low top w (bpAt xs low j).1 (bpAt xs low j).2 (low + j)) .normal (h_impl_BestPeriod_L0 xs low top w (bpAt xs low (j + 1)).1 (bpAt xs low (j + 1)).2 (low + (j + 1 : Nat))) := by
      intro j hj hc
      refine q_impl_BestPeriod_L0 _ _ _ _ _ _ _ ?_
      have e : bpAt xs low (j + 1) = if ((bpAt xs low j).1 == 0 || flt .f32 (bpSum xs (low + j)) (bpAt xs low j).2) = true then (low + j, bpSum xs (low + j)) else bpAt xs low j := rfl
      rw [e]
      have a4 := c4 xs (low + j) hx
      rw [hc] at a4 ⊢
      simp only [if_true] at a4 ⊢
      rw [show leftM xs (foldM xs (low + (j : Int)).toNat) = bpSum xs (low + j) from rfl] at a4 ⊢
      generalize bpSum xs (low + j) = S at *
      generalize bpAt xs low j = a at *
      cases hq : (a.1 == 0) <;> cases hf : flt .f32 S a.2 <;> simp only [Bool.or_self, Bool.or_true, Bool.true_or, Bool.false_eq_true, if_true, if_false]
      repeat' (first | with_reducible refine T.ok_ob ?_ (fun _ => ?_) | with_reducible refine T.ok_ite (fun _ => ?_) (fun _ => ?_) | with_reducible refine T.ok_leaf ?_)
      all_goals (try simp only [decide_eq_true_eq, decide_eq_false_iff_not, Bool.not_eq_true', Bool.not_eq_false', Bool.not_eq_eq_eq_not, Bool.not_true, Bool.not_false, Int.toNat_natCast, tab_len, List.length_append, List.length_singleton, List.length_cons, List.length_nil, List.length_drop, List.length_take, getD_drop', getD_nat, reduceCtorEq] at *)
      all_goals (try simp (disch := omega) only [wrap64_id] at *)
      all_goals first | omega | (exfalso; omega) | exact True.intro | skip
      all_goals first | exact a4 | rfl | (rw [show low + (j : Int) + 1 = low + (j + 1 : Nat) by omega])
    refine ⟨fun h4 => ⟨?_, fun _ => ?_⟩, fun h4 => ⟨?_, fun _ => ?_⟩⟩
    · refine for_all (e := .exit 0) _ (bpN low top) (fun j => h_impl_BestPeriod_L0 xs low top w (bpAt xs low j).1 (bpAt xs low j).2 (low + j)) h4 (by simp [bpAt]) go ?_
      refine q_impl_BestPeriod_L0 _ _ _ _ _ _ _ ?_
      rw [hn, show low + (top + 1 - low) = top + 1 by omega]
      repeat' (first | with_reducible refine T.ok_ob ?_ (fun _ => ?_) | with_reducible refine T.ok_ite (fun _ => ?_) (fun _ => ?_) | with_reducible refine T.ok_leaf ?_)
      all_goals (try simp only [decide_eq_true_eq, decide_eq_false_iff_not, Bool.not_eq_true', Bool.not_eq_false', Bool.not_eq_eq_eq_not, Bool.not_true, Bool.not_false, Int.toNat_natCast, tab_len, List.length_append, List.length_singleton, List.length_cons, List.length_nil, List.length_drop, List.length_take, getD_drop', getD_nat, reduceCtorEq] at *)
      all_goals (try simp (disch := omega) only [wrap64_id] at *)
      all_goals first | omega | (exfalso; omega) | exact True.intro | skip
      all_goals rfl
    · simp [T.ok, h4]
    · refine for_one (e := .ret) _ (bpN low top) (fun j => h_impl_BestPeriod_L0 xs low top w (bpAt xs low j).1 (bpAt xs low j).2 (low + j)) h4 (by simp [bpAt]) go (fun j hj hc => ?_)
      refine q_impl_BestPeriod_L0 _ _ _ _ _ _ _ ?_
      have a4 := c4 xs (low + j) hx
      rw [hc] at a4 ⊢
      simp only [if_false, Bool.false_eq_true] at a4 ⊢
      repeat' (first | with_reducible refine T.ok_ob ?_ (fun _ => ?_) | with_reducible refine T.ok_ite (fun _ => ?_) (fun _ => ?_) | with_reducible refine T.ok_leaf ?_)
      all_goals (try simp only [decide_eq_true_eq, decide_eq_false_iff_not, Bool.not_eq_true', Bool.not_eq_false', Bool.not_eq_eq_eq_not, Bool.not_true, Bool.not_false, Int.toNat_natCast, tab_len, List.length_append, List.length_singleton, List.length_cons, List.length_nil, List.length_drop, List.length_take, getD_drop', getD_nat, reduceCtorEq] at *)
      all_goals (try simp (disch := omega) only [wrap64_id] at *)
      all_goals first | omega | (exfalso; omega) | exact True.intro | skip
      all_goals first | exact a4 | rfl
    · simp [T.ok, h4]
theorem k_spec_BestPeriod {P : Program} {f g1 g2 g3 : FuncId} (h : Is_spec_BestPeriod P f g1 g2 g3) (c1 : C_spec_l02Series P g1) (c2 : C_spec_l00In P g2) (c4 : C_spec_FoldedBy P g3) : C_spec_BestPeriod P f := by
  intro xs low top w hx
  have hm := ml64 hx
  have ew : IntKind.wrap .i64 (Int.tdiv (xs.length : Int) 2) = (xs.length / 2 : Nat) := by
    have : Int.tdiv (xs.length : Int) 2 = ((xs.length / 2 : Nat) : Int) := rfl
    rw [this, wrap64_id (by omega) (by omega)]
  refine q_spec_BestPeriod h xs low top w ?_
  rw [ew]
  refine ⟨c1 _ hx, fun _ => ⟨fun h0 => ?_, fun h0 => ⟨c2 _ _ _, fun _ => ⟨fun h2 => ?_, fun h2 => ⟨by omega, fun _ => ⟨fun h1 => ?_, fun h1 => ⟨c2 _ _ _, fun _ => ⟨fun h3 => ?_, fun h3 => ?_⟩⟩⟩⟩⟩⟩⟩⟩
  · simp at h0; simp [T.ok, bpOk, h0]
  · simp at h2; simp [T.ok, bpOk, h2]
  · have h1 := of_decide_eq_true h1
    have : ¬ (top ≤ (xs.length / 2 : Nat)) := by omega
    have : bpOk xs low top w = false := by unfold bpOk; simp only [this, decide_false, Bool.false_and, Bool.and_false]
    simp [T.ok, this]
  · simp at h3; simp [T.ok, bpOk, h3]
  · simp only [Bool.not_eq_false'] at h0 h2 h3
    have h1 := of_decide_eq_false h1
    have hl := series_len h0
    have b1 : top ≤ (xs.length / 2 : Nat) := by omega
    have b2 : 2 ≤ low ∧ low ≤ top := by simpa only [inM, Bool.and_eq_true, decide_eq_true_eq] using h2
    have hn : (bpN low top : Int) = top + 1 - low := by unfold bpN; omega
    have e : bpOk xs low top w = bpFin xs low top := by
      have : decide (top ≤ (xs.length / 2 : Nat)) = true := by simpa using b1
      unfold bpOk; rw [h0, h2, h3, this]; simp
    rw [e]
    have go : ∀ j, j < bpN low top → foldOk xs (low + j) = true → Exec (VCall P) ps_spec_BestPeriod (b_spec_BestPeriod_L0 g1 g2 g3) (h_spec_BestPeriod_L0 xs low top w (bpAt xs low j).1 (bpAt xs low j).2 (low + j)) .normal (h_spec_BestPeriod_L0 xs low top w (bpAt xs low (j + 1)).1 (bpAt xs low (j + 1)).2 (low + (j + 1 : Nat))) := by
      intro j hj hc
      refine q_spec_BestPeriod_L0 _ _ _ _ _ _ _ ?_
      have e : bpAt xs low (j + 1) = if ((bpAt xs low j).1 == 0 || flt .f32 (bpSum xs (low + j)) (bpAt xs low j).2) = true then (low + j, bpSum xs (low + j)) else bpAt xs low j := rfl
      rw [e]
      have a4 := c4 xs (low + j) hx
      rw [hc] at a4 ⊢
      simp only [if_true] at a4 ⊢
      rw [show leftM xs (foldM xs (low + (j : Int)).toNat) = bpSum xs (low + j) from rfl] at a4 ⊢
      generalize bpSum xs (low + j) = S at *
      generalize bpAt xs low j = a at *
      cases hq : (a.1 == 0) <;> cases hf : flt .f32 S a.2 <;> simp only [Bool.or_self, Bool.or_true, Bool.true_or, Bool.false_eq_true, if_true, if_false]
      repeat' (first | with_reducible refine T.ok_ob ?_ (fun _ => ?_) | with_reducible refine T.ok_ite (fun _ => ?_) (fun _ => ?_) | with_reducible refine T.ok_leaf ?_)
      all_goals (try simp only [decide_eq_true_eq, decide_eq_false_iff_not, Bool.not_eq_true', Bool.not_eq_false', Bool.not_eq_eq_eq_not, Bool.not_true, Bool.not_false, Int.toNat_natCast, tab_len, List.length_append, List.length_singleton, List.length_cons, List.length_nil, List.length_drop, List.length_take, getD_drop', getD_nat, reduceCtorEq] at *)
      all_goals (try simp (disch := omega) only [wrap64_id] at *)
      all_goals first | omega | (exfalso; omega) | exact True.intro | skip
      all_goals first | exact a4 | rfl | (rw [show low + (j : Int) + 1 = low + (j + 1 : Nat) by omega])
    refine ⟨fun h4 => ⟨?_, fun _ => ?_⟩, fun h4 => ⟨?_, fun _ => ?_⟩⟩
    · refine for_all (e := .exit 0) _ (bpN low top) (fun j => h_spec_BestPeriod_L0 xs low top w (bpAt xs low j).1 (bpAt xs low j).2 (low + j)) h4 (by simp [bpAt]) go ?_
      refine q_spec_BestPeriod_L0 _ _ _ _ _ _ _ ?_
      rw [hn, show low + (top + 1 - low) = top + 1 by omega]
      repeat' (first | with_reducible refine T.ok_ob ?_ (fun _ => ?_) | with_reducible refine T.ok_ite (fun _ => ?_) (fun _ => ?_) | with_reducible refine T.ok_leaf ?_)
      all_goals (try simp only [decide_eq_true_eq, decide_eq_false_iff_not, Bool.not_eq_true', Bool.not_eq_false', Bool.not_eq_eq_eq_not, Bool.not_true, Bool.not_false, Int.toNat_natCast, tab_len, List.length_append, List.length_singleton, List.length_cons, List.length_nil, List.length_drop, List.length_take, getD_drop', getD_nat, reduceCtorEq] at *)
      all_goals (try simp (disch := omega) only [wrap64_id] at *)
      all_goals first | omega | (exfalso; omega) | exact True.intro | skip
      all_goals rfl
    · simp [T.ok, h4]
    · refine for_one (e := .ret) _ (bpN low top) (fun j => h_spec_BestPeriod_L0 xs low top w (bpAt xs low j).1 (bpAt xs low j).2 (low + j)) h4 (by simp [bpAt]) go (fun j hj hc => ?_)
      refine q_spec_BestPeriod_L0 _ _ _ _ _ _ _ ?_
      have a4 := c4 xs (low + j) hx
      rw [hc] at a4 ⊢
      simp only [if_false, Bool.false_eq_true] at a4 ⊢
      repeat' (first | with_reducible refine T.ok_ob ?_ (fun _ => ?_) | with_reducible refine T.ok_ite (fun _ => ?_) (fun _ => ?_) | with_reducible refine T.ok_leaf ?_)
      all_goals (try simp only [decide_eq_true_eq, decide_eq_false_iff_not, Bool.not_eq_true', Bool.not_eq_false', Bool.not_eq_eq_eq_not, Bool.not_true, Bool.not_false, Int.toNat_natCast, tab_len, List.length_append, List.length_singleton, List.length_cons, List.length_nil, List.length_drop, List.length_take, getD_drop', getD_nat, reduceCtorEq] at *)
      all_goals (try simp (disch := omega) only [wrap64_id] at *)
      all_goals first | omega | (exfalso; omega) | exact True.intro | skip
      all_goals first | exact a4 | rfl
    · simp [T.ok, h4]

end Go.Proofs.LV
