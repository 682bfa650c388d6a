/- Fits by weights, steps, seasons, the best period, likenesses of a series with itself, guesses ahead. -/
import Derived.Test.YtjfgmnfkkehgfaaLvFnG
namespace Go.Proofs.LV
open Go
set_option linter.unusedVariables false
set_option linter.unusedSimpArgs false

def weighedM (ws a b : List Nat) : Nat := accN (fun i s => fadd .f32 s (fmul .f32 (fmul .f32 (ws.getD i 0) (a.getD i 0)) (b.getD i 0))) ws.length 0
def wfX (x ws : List Nat) : Nat := fdiv .f32 (dotM ws x) (sumM ws)
def wfU (x ws : List Nat) : List Nat := lessOneM x (wfX x ws)
def wfDown (x ws : List Nat) : Nat := weighedM ws (wfU x ws) (wfU x ws)
def wfSlope (x y ws : List Nat) : Nat := fdiv .f32 (weighedM ws (wfU x ws) (wfU y ws)) (wfDown x ws)
def wfBase (x y ws : List Nat) : Nat := fsub .f32 (wfX y ws) (fmul .f32 (wfSlope x y ws) (wfX x ws))
def wfOk (x y ws : List Nat) : Bool := twoM x y && (twoM x ws && (notLessM ws && (fgt .f32 (sumM ws) 0 && (!feq .f32 (wfDown x ws) 0 && (finM (wfBase x y ws) && finM (wfSlope x y ws))))))




/-! ### steps -/
def squaresM (xs : List Nat) : Nat := dotM (lessOneM xs (meanM xs)) (lessOneM xs (meanM xs))
def stepSum (xs : List Nat) (i : Nat) : Nat := fadd .f32 (squaresM (xs.take i)) (squaresM (xs.drop i))
def stepAt (xs : List Nat) : Nat → Nat × Nat
  | 0 => (0, 0)
  | j + 1 => if ((stepAt xs j).1 == 0 || flt .f32 (stepSum xs (j + 1)) (stepAt xs j).2) = true then (j + 1, stepSum xs (j + 1)) else stepAt xs j
def stepBest (xs : List Nat) : Nat := (stepAt xs (xs.length - 1)).1
def stepBy (xs : List Nat) : Nat := fsub .f32 (meanM (xs.drop (stepBest xs))) (meanM (xs.take (stepBest xs)))
def stepFin (xs : List Nat) : Bool := allN (xs.length - 1) fun i => finM (stepSum xs (i + 1))
def stepOk (xs : List Nat) : Bool := seriesM xs && (decide (2 ≤ xs.length) && (stepFin xs && finM (stepBy xs)))


-- FN spec_l02Less
/-- spec.l02Less: slots 24, results [.t 4]; calls []; names [(list, 0), (x, 1), (list, 2), (x, 3), (out, 5), (i, 6)] -/
def ps_spec_l02Less : List Nat := [0, 1, 4, 5, 6, 11]
def lv_spec_l02Less_L0 : List Nat := [0, 1, 5, 6]
def b_spec_l02Less_L0 : VCode :=
  (.seq
   (.seq
    (.region false [
     ⟨some 8, .mv, [.t 6], none⟩,
     ⟨some 9, .mv, [.t 0], none⟩,
     ⟨some 10, .len, [.t 9], none⟩,
     ⟨some 11, (.bin .lss), [.t 8, .t 10], none⟩])
    (.cond (.t 11)
     .skip
     (.exit 0)))
   (.seq
    (.block 1
     (.region false [
      ⟨some 14, .mv, [.t 5], none⟩,
      ⟨some 15, .mv, [.t 0], none⟩,
      ⟨some 16, .mv, [.t 6], none⟩,
      ⟨some 17, .iaddr, [.t 15, .t 16], none⟩,
      ⟨some 18, .load, [.t 17], none⟩,
      ⟨some 19, .mv, [.t 1], none⟩,
      ⟨some 20, (.bin .sub), [.t 18, .t 19], none⟩,
      ⟨some 21, (.lit true (.f .f32 [])), [.t 20], none⟩,
      ⟨some 22, .app, [.t 14, .t 21], none⟩,
      ⟨some 5, .mv, [.t 22], none⟩]))
    (.region false [
     ⟨some 12, .mv, [.t 6], none⟩,
     ⟨some 13, (.bin .add), [.t 12, .k (.i .i64 1)], none⟩,
     ⟨some 6, .mv, [.t 13], none⟩])))

def b_spec_l02Less : VCode :=
  (.seq
   (.region false [
    ⟨some 4, (.nilsl (.f .f32 [])), [], none⟩])
   (.seq
    (.region false [
     ⟨some 7, (.lit true (.f .f32 [])), [], none⟩,
     ⟨some 5, .mv, [.t 7], none⟩])
    (.seq
     (.seq
      (.region false [
       ⟨some 6, .mv, [.k (.i .i64 0)], none⟩])
      (.block 0 (.loop b_spec_l02Less_L0)))
     (.seq
      (.region false [
       ⟨some 23, .mv, [.t 5], none⟩,
       ⟨some 4, .mv, [.t 23], none⟩])
      .ret))))

abbrev Is_spec_l02Less (P : Program) (g_f : FuncId) : Prop := FnIs P g_f 24 [.t 4] (b_spec_l02Less)

abbrev C_spec_l02Less (P : Program) (g_f : FuncId) : Prop := ∀ (xs : List Nat) (m : Nat) (hx : xs.length ≤ 4294967295), VCall P g_f [PS [0] .f32 xs, .f .f32 m] (OS 0 .f32 (lessOneM xs m))
def oc1_spec_l02Less (as : List AV) : T AV := match as with | [.sl _ _ (.f .f32 xs), .f .f32 m] => .leaf (OS 0 .f32 (lessOneM xs m)) | _ => .fail
def h_spec_l02Less_L0 (xs : List Nat) (m : Nat) (out : List Nat) (i : Int) : Env := [AV.sl (Tag.par [0]) 0 (Cont.f FloatKind.f32 xs), AV.f FloatKind.f32 m, .any, .any, .any, .sl (Tag.own 56) 0 (.f FloatKind.f32 out), .i IntKind.i64 i] ++ anys 17

theorem q_spec_l02Less_L0 {VC : FuncId → List AV → AV → Prop} (xs : List Nat) (m : Nat) (out : List Nat) (i : Int) {e_ : Ex} {σ_ : Env} (ht : T.ok (fun x_ => x_ = (e_, σ_)) (
      T.ite (decide (i < (↑(List.length xs) : Int)))
        (T.ob (0 ≤ i ∧ i < (↑(List.length xs) : Int))
          (T.ob (List.length out + List.length [fsub FloatKind.f32 (List.getD xs (Int.toNat i) 0) m] ≤ 4294967296)
            (T.leaf (Ex.normal, h_spec_l02Less_L0 xs m (out ++ [fsub FloatKind.f32 (List.getD xs (Int.toNat i) 0) m]) (IntKind.wrap IntKind.i64 (i + 1))))))
        (T.leaf (Ex.exit 0, h_spec_l02Less_L0 xs m out i)))) :
    Exec VC ps_spec_l02Less (b_spec_l02Less_L0) (h_spec_l02Less_L0 xs m out i) e_ σ_ := evL_of (lv := lv_spec_l02Less_L0) (rs := [4]) (O := ⟨fun _ _ => .fail, fun _ _ => none⟩) (by kernel_rfl) ht

theorem q_spec_l02Less {P : Program} {g_f : FuncId} (h_ : Is_spec_l02Less P g_f) (xs : List Nat) (m : Nat) (ht : T.ok (fun x_ => x_ = OS 0 .f32 (lessOneM xs m)) (
      T.ob (Exec (VCall P) ps_spec_l02Less (VCode.block 0 (VCode.loop b_spec_l02Less_L0)) (h_spec_l02Less_L0 xs m [] 0) Ex.normal (h_spec_l02Less_L0 xs m (lessOneM xs m) (↑(List.length xs) : Int)))
        (T.leaf (AV.sl (Tag.own 0) 0 (Cont.f FloatKind.f32 (lessOneM xs m)))))) :
    VCall P g_f [PS [0] .f32 xs, .f .f32 m] (OS 0 .f32 (lessOneM xs m)) := h_.call_of ps_spec_l02Less ⟨fun _ _ => .fail, fun id σ => match id with | 0 => some (lv_spec_l02Less_L0, .leaf (.normal, h_spec_l02Less_L0 xs m (lessOneM xs m) xs.length)) | _ => none⟩ (by kernel_rfl) ht

-- END spec_l02Less





/-! ### seasons -/
def seasonM (xs : List Nat) (per : Nat) : List Nat := lessOneM (foldM xs per) (meanM (foldM xs per))
def seasonOk (xs : List Nat) (per : Int) : Bool := seriesM xs && (inM per 1 xs.length && finAllM (seasonM xs per.toNat))

-- FN impl_season
/-- impl.season: slots 13, results [.t 4]; calls [8:g_impl_folded, 11:g_impl_mean, 12:g_impl_lessOne]; names [(list, 0), (period, 1), (list, 2), (period, 3), (means, 5)] -/
def ps_impl_season : List Nat := [0, 1, 4, 5]
def b_impl_season (g_impl_folded g_impl_mean g_impl_lessOne : FuncId) : VCode :=
  (.seq
   (.region false [
    ⟨some 4, (.nilsl (.f .f32 [])), [], none⟩])
   (.seq
    (.region false [
     ⟨some 6, .mv, [.t 0], none⟩,
     ⟨some 7, .mv, [.t 1], none⟩,
     ⟨some 8, (.call g_impl_folded), [.t 6, .t 7], none⟩,
     ⟨some 5, .mv, [.t 8], none⟩])
    (.seq
     (.region false [
      ⟨some 9, .mv, [.t 5], none⟩,
      ⟨some 10, .mv, [.t 5], none⟩,
      ⟨some 11, (.call g_impl_mean), [.t 10], none⟩,
      ⟨some 12, (.call g_impl_lessOne), [.t 9, .t 11], none⟩,
      ⟨some 4, .mv, [.t 12], none⟩])
     .ret)))

abbrev Is_impl_season (P : Program) (g_f : FuncId) (g_impl_folded g_impl_mean g_impl_lessOne : FuncId) : Prop := FnIs P g_f 13 [.t 4] (b_impl_season g_impl_folded g_impl_mean g_impl_lessOne)

abbrev C_impl_season (P : Program) (g_f : FuncId) : Prop := ∀ (xs : List Nat) (per : Int) (hp : 1 ≤ per ∧ per ≤ xs.length) (hx : xs.length ≤ 96), VCall P g_f [PS [0] .f32 xs, .i .i64 per] (OS 0 .f32 (seasonM xs per.toNat))
def oc1_impl_season (as : List AV) : T AV := match as with | [.sl _ _ (.f .f32 xs), .i .i64 per] => .leaf (OS 0 .f32 (seasonM xs per.toNat)) | _ => .fail
def oc_impl_season (xs : List Nat) (per : Int) (d : Nat) (as : List AV) : T AV := match d with | 8 => oc1_impl_folded as | 11 => oc1_impl_mean as | 12 => oc1_impl_lessOne as | _ => .fail



theorem q_impl_season {P : Program} {g_f : FuncId} {g_impl_folded g_impl_mean g_impl_lessOne : FuncId} (h_ : Is_impl_season P g_f g_impl_folded g_impl_mean g_impl_lessOne) (xs : List Nat) (per : Int) (ht : T.ok (fun x_ => x_ = OS 0 .f32 (seasonM xs per.toNat)) (
      T.ob ((VCall P) g_impl_folded [AV.sl (Tag.par [0]) 0 (Cont.f FloatKind.f32 xs), AV.i IntKind.i64 per] (AV.sl (Tag.own 0) 0 (Cont.f FloatKind.f32 (foldM xs (Int.toNat per)))))
        (T.ob ((VCall P) g_impl_mean [AV.sl (Tag.par [0]) 0 (Cont.f FloatKind.f32 (foldM xs (Int.toNat per)))] (AV.f FloatKind.f32 (meanM (foldM xs (Int.toNat per)))))
          (T.ob
            ((VCall P) g_impl_lessOne [AV.sl (Tag.par [0]) 0 (Cont.f FloatKind.f32 (foldM xs (Int.toNat per))), AV.f FloatKind.f32 (meanM (foldM xs (Int.toNat per)))]
              (AV.sl (Tag.own 0) 0 (Cont.f FloatKind.f32 (lessOneM (foldM xs (Int.toNat per)) (meanM (foldM xs (Int.toNat per)))))))
            (T.leaf (AV.sl (Tag.own 0) 0 (Cont.f FloatKind.f32 (lessOneM (foldM xs (Int.toNat per)) (meanM (foldM xs (Int.toNat per))))))))))) :
    VCall P g_f [PS [0] .f32 xs, .i .i64 per] (OS 0 .f32 (seasonM xs per.toNat)) := h_.call_of ps_impl_season ⟨oc_impl_season xs per, fun _ _ => none⟩ (by kernel_rfl) ht

-- END impl_season

-- FN spec_l02Season
/-- spec.l02Season: slots 40, results [.t 4]; calls [33:g_spec_l02Mean, 38:g_spec_l02Mean, 39:g_spec_l02Less]; names [(list, 0), (period, 1), (list, 2), (period, 3), (out, 5), (p, 6), (some, 7), (i, 8)] -/
def ps_spec_l02Season : List Nat := [0, 1, 4, 5, 6, 7, 8, 12, 20]
def lv_spec_l02Season_L0 : List Nat := [0, 1, 5, 6]
def lv_spec_l02Season_L2 : List Nat := [0, 1, 5, 6, 7, 8]
def b_spec_l02Season_L2 (g_spec_l02Mean g_spec_l02Less : FuncId) : VCode :=
  (.seq
   (.seq
    (.region false [
     ⟨some 17, .mv, [.t 8], none⟩,
     ⟨some 18, .mv, [.t 0], none⟩,
     ⟨some 19, .len, [.t 18], none⟩,
     ⟨some 20, (.bin .lss), [.t 17, .t 19], none⟩])
    (.cond (.t 20)
     .skip
     (.exit 2)))
   (.seq
    (.block 3
     (.region false [
      ⟨some 24, .mv, [.t 7], none⟩,
      ⟨some 25, .mv, [.t 0], none⟩,
      ⟨some 26, .mv, [.t 8], none⟩,
      ⟨some 27, .iaddr, [.t 25, .t 26], none⟩,
      ⟨some 28, .load, [.t 27], none⟩,
      ⟨some 29, (.lit true (.f .f32 [])), [.t 28], none⟩,
      ⟨some 30, .app, [.t 24, .t 29], none⟩,
      ⟨some 7, .mv, [.t 30], none⟩]))
    (.region false [
     ⟨some 21, .mv, [.t 8], none⟩,
     ⟨some 22, .mv, [.t 1], none⟩,
     ⟨some 23, (.bin .add), [.t 21, .t 22], none⟩,
     ⟨some 8, .mv, [.t 23], none⟩])))

def b_spec_l02Season_L0 (g_spec_l02Mean g_spec_l02Less : FuncId) : VCode :=
  (.seq
   (.seq
    (.region false [
     ⟨some 10, .mv, [.t 6], none⟩,
     ⟨some 11, .mv, [.t 1], none⟩,
     ⟨some 12, (.bin .lss), [.t 10, .t 11], none⟩])
    (.cond (.t 12)
     .skip
     (.exit 0)))
   (.seq
    (.block 1
     (.seq
      (.region false [
       ⟨some 15, (.lit true (.f .f32 [])), [], none⟩,
       ⟨some 7, .mv, [.t 15], none⟩])
      (.seq
       (.seq
        (.region false [
         ⟨some 16, .mv, [.t 6], none⟩,
         ⟨some 8, .mv, [.t 16], none⟩])
        (.block 2 (.loop (b_spec_l02Season_L2 g_spec_l02Mean g_spec_l02Less))))
       (.region false [
        ⟨some 31, .mv, [.t 5], none⟩,
        ⟨some 32, .mv, [.t 7], none⟩,
        ⟨some 33, (.call g_spec_l02Mean), [.t 32], none⟩,
        ⟨some 34, (.lit true (.f .f32 [])), [.t 33], none⟩,
        ⟨some 35, .app, [.t 31, .t 34], none⟩,
        ⟨some 5, .mv, [.t 35], none⟩]))))
    (.region false [
     ⟨some 13, .mv, [.t 6], none⟩,
     ⟨some 14, (.bin .add), [.t 13, .k (.i .i64 1)], none⟩,
     ⟨some 6, .mv, [.t 14], none⟩])))

def b_spec_l02Season (g_spec_l02Mean g_spec_l02Less : FuncId) : VCode :=
  (.seq
   (.region false [
    ⟨some 4, (.nilsl (.f .f32 [])), [], none⟩])
   (.seq
    (.region false [
     ⟨some 9, (.lit true (.f .f32 [])), [], none⟩,
     ⟨some 5, .mv, [.t 9], none⟩])
    (.seq
     (.seq
      (.region false [
       ⟨some 6, .mv, [.k (.i .i64 0)], none⟩])
      (.block 0 (.loop (b_spec_l02Season_L0 g_spec_l02Mean g_spec_l02Less))))
     (.seq
      (.region false [
       ⟨some 36, .mv, [.t 5], none⟩,
       ⟨some 37, .mv, [.t 5], none⟩,
       ⟨some 38, (.call g_spec_l02Mean), [.t 37], none⟩,
       ⟨some 39, (.call g_spec_l02Less), [.t 36, .t 38], none⟩,
       ⟨some 4, .mv, [.t 39], none⟩])
      .ret))))

abbrev Is_spec_l02Season (P : Program) (g_f : FuncId) (g_spec_l02Mean g_spec_l02Less : FuncId) : Prop := FnIs P g_f 40 [.t 4] (b_spec_l02Season g_spec_l02Mean g_spec_l02Less)

abbrev C_spec_l02Season (P : Program) (g_f : FuncId) : Prop := ∀ (xs : List Nat) (per : Int) (hp : 1 ≤ per ∧ per ≤ xs.length) (hx : xs.length ≤ 96), VCall P g_f [PS [0] .f32 xs, .i .i64 per] (OS 0 .f32 (seasonM xs per.toNat))
def oc1_spec_l02Season (as : List AV) : T AV := match as with | [.sl _ _ (.f .f32 xs), .i .i64 per] => .leaf (OS 0 .f32 (seasonM xs per.toNat)) | _ => .fail
def oc_spec_l02Season (xs : List Nat) (per : Int) (d : Nat) (as : List AV) : T AV := match d with | 33 => oc1_spec_l02Mean as | 38 => oc1_spec_l02Mean as | 39 => oc1_spec_l02Less as | _ => .fail
def h_spec_l02Season_L0 (xs : List Nat) (per : Int) (out : List Nat) (p : Int) : Env := [AV.sl (Tag.par [0]) 0 (Cont.f FloatKind.f32 xs), AV.i IntKind.i64 per, .any, .any, .any, .sl (Tag.own 72) 0 (.f FloatKind.f32 out), .i IntKind.i64 p] ++ anys 33
def h_spec_l02Season_L2 (xs : List Nat) (per : Int) (out : List Nat) (p : Int) (out2 : List Nat) (some : List Nat) (i : Int) : Env := [AV.sl (Tag.par [0]) 0 (Cont.f FloatKind.f32 xs), AV.i IntKind.i64 per, .any, .any, .any, .sl (Tag.own 72) 0 (.f FloatKind.f32 out2), AV.i IntKind.i64 p, .sl (Tag.own 120) 0 (.f FloatKind.f32 some), .i IntKind.i64 i] ++ anys 31

theorem q_spec_l02Season_L0 {VC : FuncId → List AV → AV → Prop} {g_spec_l02Mean g_spec_l02Less : FuncId} (xs : List Nat) (per : Int) (out : List Nat) (p : Int) {e_ : Ex} {σ_ : Env} (ht : T.ok (fun x_ => x_ = (e_, σ_)) (
      T.ite (decide (p < per))
        (T.ob
          (Exec VC ps_spec_l02Season (VCode.block 2 (VCode.loop (b_spec_l02Season_L2 g_spec_l02Mean g_spec_l02Less))) (h_spec_l02Season_L2 xs per out p out [] p) Ex.normal
            (h_spec_l02Season_L2 xs per out p out (tab (cntM (List.length xs) (Int.toNat p) (Int.toNat per)) fun (j : Nat) => List.getD xs (Int.toNat p + j * Int.toNat per) 0)
              (↑(Int.toNat p + cntM (List.length xs) (Int.toNat p) (Int.toNat per) * Int.toNat per) : Int)))
          (T.ob
            (VC g_spec_l02Mean [AV.sl (Tag.par [0]) 0 (Cont.f FloatKind.f32 (tab (cntM (List.length xs) (Int.toNat p) (Int.toNat per)) fun (j : Nat) => List.getD xs (Int.toNat p + j * Int.toNat per) 0))]
              (AV.f FloatKind.f32 (meanM (tab (cntM (List.length xs) (Int.toNat p) (Int.toNat per)) fun (j : Nat) => List.getD xs (Int.toNat p + j * Int.toNat per) 0))))
            (T.ob (List.length out + List.length [meanM (tab (cntM (List.length xs) (Int.toNat p) (Int.toNat per)) fun (j : Nat) => List.getD xs (Int.toNat p + j * Int.toNat per) 0)] ≤ 4294967296)
              (T.leaf
                (Ex.normal,
                  h_spec_l02Season_L0 xs per (out ++ [meanM (tab (cntM (List.length xs) (Int.toNat p) (Int.toNat per)) fun (j : Nat) => List.getD xs (Int.toNat p + j * Int.toNat per) 0)])
                    (IntKind.wrap IntKind.i64 (p + 1)))))))
        (T.leaf (Ex.exit 0, h_spec_l02Season_L0 xs per out p)))) :
    Exec VC ps_spec_l02Season (b_spec_l02Season_L0 g_spec_l02Mean g_spec_l02Less) (h_spec_l02Season_L0 xs per out p) e_ σ_ := evL_of (lv := lv_spec_l02Season_L0) (rs := [4]) (O := ⟨oc_spec_l02Season xs per, fun id σ => match id with | 2 => some (lv_spec_l02Season_L2, .leaf (.normal, h_spec_l02Season_L2 xs per out p out (tab (cntM xs.length p.toNat per.toNat) fun j => xs.getD (p.toNat + j * per.toNat) 0) ((p.toNat + cntM xs.length p.toNat per.toNat * per.toNat : Nat) : Int))) | _ => none⟩) (by kernel_rfl) ht

theorem q_spec_l02Season_L2 {VC : FuncId → List AV → AV → Prop} {g_spec_l02Mean g_spec_l02Less : FuncId} (xs : List Nat) (per : Int) (out : List Nat) (p : Int) (out2 : List Nat) (some : List Nat) (i : Int) {e_ : Ex} {σ_ : Env} (ht : T.ok (fun x_ => x_ = (e_, σ_)) (
      T.ite (decide (i < (↑(List.length xs) : Int)))
        (T.ob (0 ≤ i ∧ i < (↑(List.length xs) : Int))
          (T.ob (List.length some + List.length [List.getD xs (Int.toNat i) 0] ≤ 4294967296)
            (T.leaf (Ex.normal, h_spec_l02Season_L2 xs per out p out2 (some ++ [List.getD xs (Int.toNat i) 0]) (IntKind.wrap IntKind.i64 (i + per))))))
        (T.leaf (Ex.exit 2, h_spec_l02Season_L2 xs per out p out2 some i)))) :
    Exec VC ps_spec_l02Season (b_spec_l02Season_L2 g_spec_l02Mean g_spec_l02Less) (h_spec_l02Season_L2 xs per out p out2 some i) e_ σ_ := evL_of (lv := lv_spec_l02Season_L2) (rs := [4]) (O := ⟨oc_spec_l02Season xs per, fun _ _ => none⟩) (by kernel_rfl) ht

theorem q_spec_l02Season {P : Program} {g_f : FuncId} {g_spec_l02Mean g_spec_l02Less : FuncId} (h_ : Is_spec_l02Season P g_f g_spec_l02Mean g_spec_l02Less) (xs : List Nat) (per : Int) (ht : T.ok (fun x_ => x_ = OS 0 .f32 (seasonM xs per.toNat)) (
      T.ob (Exec (VCall P) ps_spec_l02Season (VCode.block 0 (VCode.loop (b_spec_l02Season_L0 g_spec_l02Mean g_spec_l02Less))) (h_spec_l02Season_L0 xs per [] 0) Ex.normal (h_spec_l02Season_L0 xs per (foldM xs (Int.toNat per)) per))
        (T.ob ((VCall P) g_spec_l02Mean [AV.sl (Tag.par [0]) 0 (Cont.f FloatKind.f32 (foldM xs (Int.toNat per)))] (AV.f FloatKind.f32 (meanM (foldM xs (Int.toNat per)))))
          (T.ob
            ((VCall P) g_spec_l02Less [AV.sl (Tag.par [0]) 0 (Cont.f FloatKind.f32 (foldM xs (Int.toNat per))), AV.f FloatKind.f32 (meanM (foldM xs (Int.toNat per)))]
              (AV.sl (Tag.own 0) 0 (Cont.f FloatKind.f32 (lessOneM (foldM xs (Int.toNat per)) (meanM (foldM xs (Int.toNat per)))))))
            (T.leaf (AV.sl (Tag.own 0) 0 (Cont.f FloatKind.f32 (lessOneM (foldM xs (Int.toNat per)) (meanM (foldM xs (Int.toNat per))))))))))) :
    VCall P g_f [PS [0] .f32 xs, .i .i64 per] (OS 0 .f32 (seasonM xs per.toNat)) := h_.call_of ps_spec_l02Season ⟨oc_spec_l02Season xs per, fun id σ => match id with | 0 => some (lv_spec_l02Season_L0, .leaf (.normal, h_spec_l02Season_L0 xs per (foldM xs per.toNat) per)) | _ => none⟩ (by kernel_rfl) ht

-- END spec_l02Season



/-! ### the best period -/
def bpSum (xs : List Nat) (per : Int) : Nat := leftM xs (foldM xs per.toNat)
def bpAt (xs : List Nat) (low : Int) : Nat → Int × Nat
  | 0 => (0, 0)
  | j + 1 => if ((bpAt xs low j).1 == 0 || flt .f32 (bpSum xs (low + j)) (bpAt xs low j).2) = true then (low + j, bpSum xs (low + j)) else bpAt xs low j
def bpN (low top : Int) : Nat := (top + 1 - low).toNat
def bpFin (xs : List Nat) (low top : Int) : Bool := allN (bpN low top) fun j => foldOk xs (low + j)
def bpOk (xs : List Nat) (low top w : Int) : Bool := seriesM xs && (inM low 2 top && (decide (top ≤ (xs.length / 2 : Nat)) && (inM w 1 8 && bpFin xs low top)))




theorem wf_eq {x y ws : List Nat} (h1 : twoM x y = true) (h2 : twoM x ws = true) (h3 : notLessM ws = true) (h4 : fgt .f32 (sumM ws) 0 = true) (h5 : feq .f32 (wfDown x ws) 0 = false) : wfOk x y ws = (finM (wfBase x y ws) && finM (wfSlope x y ws)) := by
  simp [wfOk, h1, h2, h3, h4, h5]
theorem two_eq {x y : List Nat} : twoM x y = (seriesM x && (seriesM y && decide (x.length = y.length))) := by
  unfold twoM
  have : ((x.length : Int) == (y.length : Int)) = decide (x.length = y.length) := by
    rw [Bool.eq_iff_iff, beq_iff_eq, decide_eq_true_eq]; omega
  rw [this, Bool.and_assoc]
theorem k_spec_l02Less {P : Program} {f : FuncId} (h : Is_spec_l02Less P f) : C_spec_l02Less P f := by
  intro xs m hx
  refine q_spec_l02Less h xs m ?_
  refine ⟨?_, fun _ => rfl⟩
  refine for_up (e := .exit 0) (xs.length) (fun i => h_spec_l02Less_L0 xs m (tab i fun i => fsub .f32 (xs.getD i 0) m) i) (by first | rfl | simp) (fun i hi => ?_) ?_
  · refine q_spec_l02Less_L0 _ _ _ _ ?_
    repeat' (first | with_reducible refine T.ok_ob ?_ (fun _ => ?_) | with_reducible refine T.ok_ite (fun _ => ?_) (fun _ => ?_) | with_reducible refine T.ok_leaf ?_)
    all_goals (try simp only [decide_eq_true_eq, decide_eq_false_iff_not, Bool.not_eq_true', Bool.not_eq_false', Bool.not_eq_eq_eq_not, Bool.not_true, Bool.not_false, Int.toNat_natCast, tab_len, List.length_append, List.length_singleton, List.length_cons, List.length_nil, List.length_drop, List.length_take, getD_drop', getD_nat, reduceCtorEq] at *)
    all_goals (try simp (disch := omega) only [wrap64_id] at *)
    all_goals first | omega | (exfalso; omega) | trivial | contradiction | (exfalso; simp_all; done) | skip
    all_goals first | rfl | (rw [tab_succ]; rfl)
  · refine q_spec_l02Less_L0 _ _ _ _ ?_
    repeat' (first | with_reducible refine T.ok_ob ?_ (fun _ => ?_) | with_reducible refine T.ok_ite (fun _ => ?_) (fun _ => ?_) | with_reducible refine T.ok_leaf ?_)
    all_goals (try simp only [decide_eq_true_eq, decide_eq_false_iff_not, Bool.not_eq_true', Bool.not_eq_false', Bool.not_eq_eq_eq_not, Bool.not_true, Bool.not_false, Int.toNat_natCast, tab_len, List.length_append, List.length_singleton, List.length_cons, List.length_nil, List.length_drop, List.length_take, getD_drop', getD_nat, reduceCtorEq] at *)
    all_goals (try simp (disch := omega) only [wrap64_id] at *)
    all_goals first | omega | (exfalso; omega) | trivial | contradiction | (exfalso; simp_all; done) | skip
    all_goals rfl
  repeat' (first | with_reducible refine T.ok_ob ?_ (fun _ => ?_) | with_reducible refine T.ok_ite (fun _ => ?_) (fun _ => ?_) | with_reducible refine T.ok_leaf ?_)
  all_goals first | with_reducible rfl | with_reducible assumption | contradiction | exact fconvOk_32_64 _ | assumption | exact rfl | (simp_all []; done) | (simp_all [T.ok]; omega)

theorem step_le (xs : List Nat) : ∀ j, (stepAt xs j).1 ≤ j
  | 0 => Nat.le_refl _
  | j + 1 => by
    have := step_le xs j
    simp only [stepAt]
    split
    · exact Nat.le_refl _
    · omega
theorem step_pos (xs : List Nat) : ∀ j, 1 ≤ j → 1 ≤ (stepAt xs j).1
  | 0, h => by omega
  | j + 1, _ => by
    simp only [stepAt]
    split
    · simp
    · rename_i h
      simp at h; omega
theorem k_impl_season {P : Program} {f g_impl_folded g_impl_mean g_impl_lessOne : FuncId} (h : Is_impl_season P f g_impl_folded g_impl_mean g_impl_lessOne) (c1 : C_impl_folded P g_impl_folded) (c2 : C_impl_mean P g_impl_mean) (c3 : C_impl_lessOne P g_impl_lessOne) : C_impl_season P f := by
  intro xs per hp hx
  refine q_impl_season h xs per ?_
  have fl := fold_len xs per.toNat
  repeat' (first | with_reducible refine T.ok_ob ?_ (fun _ => ?_) | with_reducible refine T.ok_ite (fun _ => ?_) (fun _ => ?_) | with_reducible refine T.ok_leaf ?_)
  all_goals first | with_reducible rfl | with_reducible assumption | ((with_reducible refine c1 _ _ ?_ ?_) <;> (first | assumption | omega | with_reducible rfl | (simp [maxLen_eq]; done) | (simp [maxLen_eq]; omega))) | ((with_reducible refine c2 _ ?_) <;> (first | assumption | omega | with_reducible rfl | (simp [maxLen_eq]; done) | (simp [maxLen_eq]; omega))) | ((with_reducible refine c3 _ _ ?_) <;> (first | assumption | omega | with_reducible rfl | (simp [maxLen_eq]; done) | (simp [maxLen_eq]; omega))) | contradiction | exact fconvOk_32_64 _ | assumption | exact rfl | (simp_all []; done) | (simp_all [T.ok]; omega)

theorem k_spec_l02Season {P : Program} {f g1 g2 : FuncId} (h : Is_spec_l02Season P f g1 g2) (c1 : C_spec_l02Mean P g1) (c2 : C_spec_l02Less P g2) : C_spec_l02Season P f := by
  intro xs per hp hx
  obtain ⟨k, rfl⟩ : ∃ k : Nat, per = k := ⟨per.toNat, by omega⟩
  have inner : ∀ (p : Nat) (O : List Nat), p < k → Exec (VCall P) ps_spec_l02Season (.block 2 (.loop (b_spec_l02Season_L2 g1 g2))) (h_spec_l02Season_L2 xs k O p O [] p) .normal (h_spec_l02Season_L2 xs k O p O (tab (cntM xs.length p k) fun j => xs.getD (p + j * k) 0) (p + cntM xs.length p k * k : Nat)) := by
    intro p O hpk
    have hcl := cnt_le xs.length p k hpk hx
    refine for_up (e := .exit 2) (cntM xs.length p k) (fun j => h_spec_l02Season_L2 xs k O p O (tab j fun j => xs.getD (p + j * k) 0) (p + j * k : Nat)) (by simp only [Nat.zero_mul]; rfl) (fun j hj => ?_) ?_
    · have hl := (cnt_lt xs.length p k j (by omega)).1 hj
      have e : ((p + j * k : Nat) : Int) + k = ((p + (j + 1) * k : Nat) : Int) := by rw [Nat.succ_mul]; omega
      refine q_spec_l02Season_L2 _ _ _ _ _ _ _ ?_
      rw [e, wrap64_id (by omega) (by rw [← e]; omega)]
      generalize p + (j + 1) * k = i2
      have e3 : tab (j + 1) (fun j => xs.getD (p + j * k) 0) = tab j (fun j => xs.getD (p + j * k) 0) ++ [xs.getD (p + j * k) 0] := tab_succ _ _
      rw [e3]
      have hj2 : j < 97 := by omega
      generalize p + j * k = i1 at *
      repeat' (first | with_reducible refine T.ok_ob ?_ (fun _ => ?_) | with_reducible refine T.ok_ite (fun _ => ?_) (fun _ => ?_) | with_reducible refine T.ok_leaf ?_)
      all_goals (try simp only [decide_eq_true_eq, decide_eq_false_iff_not, Bool.not_eq_true', Bool.not_eq_false', Bool.not_eq_eq_eq_not, Bool.not_true, Bool.not_false, Int.toNat_natCast, tab_len, List.length_append, List.length_singleton, List.length_cons, List.length_nil, List.length_drop, List.length_take, getD_drop', getD_nat, reduceCtorEq] at *)
      all_goals (try simp (disch := omega) only [wrap64_id] at *)
      all_goals first | omega | (exfalso; omega) | trivial | contradiction | (exfalso; simp_all; done) | skip
      all_goals rfl
    · have hl : ¬ (p + cntM xs.length p k * k < xs.length) := fun h => absurd ((cnt_lt xs.length p k _ (by omega)).2 h) (by omega)
      refine q_spec_l02Season_L2 _ _ _ _ _ _ _ ?_
      generalize p + cntM xs.length p k * k = i1 at *
      repeat' (first | with_reducible refine T.ok_ob ?_ (fun _ => ?_) | with_reducible refine T.ok_ite (fun _ => ?_) (fun _ => ?_) | with_reducible refine T.ok_leaf ?_)
      all_goals (try simp only [decide_eq_true_eq, decide_eq_false_iff_not, Bool.not_eq_true', Bool.not_eq_false', Bool.not_eq_eq_eq_not, Bool.not_true, Bool.not_false, Int.toNat_natCast, tab_len, List.length_append, List.length_singleton, List.length_cons, List.length_nil, List.length_drop, List.length_take, getD_drop', getD_nat, reduceCtorEq] at *)
      all_goals (try simp (disch := omega) only [wrap64_id] at *)
      all_goals first | omega | (exfalso; omega) | trivial | contradiction | (exfalso; simp_all; done) | skip
      all_goals rfl
  have fl := fold_len xs k
  refine q_spec_l02Season h xs _ ?_
  rw [Int.toNat_natCast]
  refine ⟨?_, fun _ => ⟨c1 _ (by rw [fl, maxLen_eq]; omega), fun _ => ⟨c2 _ _ (by omega), fun _ => rfl⟩⟩⟩
  refine for_up (e := .exit 0) k (fun p => h_spec_l02Season_L0 xs k (tab p fun p => fdiv .f32 (fsumM xs k p (cntM xs.length p k)) (fofi .f32 (cntM xs.length p k))) p) rfl (fun p hpk => ?_) ?_
  · refine q_spec_l02Season_L0 _ _ _ _ ?_
    simp only [Int.toNat_natCast]
    have hcl := cnt_le xs.length p k hpk hx
    repeat' (first | with_reducible refine T.ok_ob ?_ (fun _ => ?_) | with_reducible refine T.ok_ite (fun _ => ?_) (fun _ => ?_) | with_reducible refine T.ok_leaf ?_)
    all_goals (try simp only [decide_eq_true_eq, decide_eq_false_iff_not, Bool.not_eq_true', Bool.not_eq_false', Bool.not_eq_eq_eq_not, Bool.not_true, Bool.not_false, Int.toNat_natCast, tab_len, List.length_append, List.length_singleton, List.length_cons, List.length_nil, List.length_drop, List.length_take, getD_drop', getD_nat, reduceCtorEq] at *)
    all_goals (try simp (disch := omega) only [wrap64_id] at *)
    all_goals first | omega | (exfalso; omega) | trivial | contradiction | (exfalso; simp_all; done) | skip
    · exact inner p _ hpk
    · exact c1 _ (by rw [tab_len, maxLen_eq]; omega)
    · rw [mean_tab, tab_succ]; rfl
  · refine q_spec_l02Season_L0 _ _ _ _ ?_
    repeat' (first | with_reducible refine T.ok_ob ?_ (fun _ => ?_) | with_reducible refine T.ok_ite (fun _ => ?_) (fun _ => ?_) | with_reducible refine T.ok_leaf ?_)
    all_goals (try simp only [decide_eq_true_eq, decide_eq_false_iff_not, Bool.not_eq_true', Bool.not_eq_false', Bool.not_eq_eq_eq_not, Bool.not_true, Bool.not_false, Int.toNat_natCast, tab_len, List.length_append, List.length_singleton, List.length_cons, List.length_nil, List.length_drop, List.length_take, getD_drop', getD_nat, reduceCtorEq] at *)
    all_goals (try simp (disch := omega) only [wrap64_id] at *)
    all_goals first | omega | (exfalso; omega) | trivial | contradiction | (exfalso; simp_all; done) | skip
    all_goals rfl
theorem season_len (xs : List Nat) (per : Nat) : (seasonM xs per).length = per := by unfold seasonM; rw [lessOne_len, fold_len]
end Go.Proofs.LV
