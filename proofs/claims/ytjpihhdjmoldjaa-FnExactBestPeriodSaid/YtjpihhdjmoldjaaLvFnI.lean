/- Fits by weights, steps, seasons, the best period, likenesses of a series with itself, guesses ahead. -/
import Derived.Test.YtjpihhdjmoldjaaLvFnG
namespace Go.Proofs.LV
open Go
set_option linter.unusedVariables false
set_option linter.unusedSimpArgs false

def weighedM (ws a b : List Nat) : Nat := accN (fun i s => fadd .f32 s (fmul .f32 (fmul .f32 (ws.getD i 0) (a.getD i 0)) (b.getD i 0))) ws.length 0
def wfX (x ws : List Nat) : Nat := fdiv .f32 (dotM ws x) (sumM ws)
def wfU (x ws : List Nat) : List Nat := lessOneM x (wfX x ws)
def wfDown (x ws : List Nat) : Nat := weighedM ws (wfU x ws) (wfU x ws)
def wfSlope (x y ws : List Nat) : Nat := fdiv .f32 (weighedM ws (wfU x ws) (wfU y ws)) (wfDown x ws)
def wfBase (x y ws : List Nat) : Nat := fsub .f32 (wfX y ws) (fmul .f32 (wfSlope x y ws) (wfX x ws))
def wfOk (x y ws : List Nat) : Bool := twoM x y && (twoM x ws && (notLessM ws && (fgt .f32 (sumM ws) 0 && (!feq .f32 (wfDown x ws) 0 && (finM (wfBase x y ws) && finM (wfSlope x y ws))))))

/-- impl.weighed: slots 32, results [.t 6]; calls []; names [(weights, 0), (a, 1), (b, 2), (weights, 3), (a, 4), (b, 5), (sum, 7), (i, 8), (w, 9)] -/
def ps_impl_weighed : List Nat := [0, 1, 2, 6, 7, 8, 9, 10, 11, 12, 13]
def lv_impl_weighed_L0 : List Nat := [1, 2, 7, 10, 11, 12]
def b_impl_weighed_L0 : VCode :=
  (.seq
   (.region false [
    ⟨some 13, (.bin .lss), [.t 12, .t 11], none⟩])
   (.seq
    (.cond (.t 13)
     .skip
     (.exit 0))
    (.seq
     (.block 1
      (.seq
       (.region false [
        ⟨some 14, .mv, [.t 12], none⟩,
        ⟨some 15, .iaddr, [.t 10, .t 12], none⟩,
        ⟨some 16, .load, [.t 15], none⟩,
        ⟨some 8, .mv, [.t 14], none⟩,
        ⟨some 9, .mv, [.t 16], none⟩])
       (.region true [
        ⟨some 17, .mv, [.t 7], none⟩,
        ⟨some 18, .mv, [.t 9], none⟩,
        ⟨some 19, .mv, [.t 1], none⟩,
        ⟨some 20, .mv, [.t 8], none⟩,
        ⟨some 21, .iaddr, [.t 19, .t 20], none⟩,
        ⟨some 22, .load, [.t 21], none⟩,
        ⟨some 23, (.bin .mul), [.t 18, .t 22], none⟩,
        ⟨some 24, .mv, [.t 2], none⟩,
        ⟨some 25, .mv, [.t 8], none⟩,
        ⟨some 26, .iaddr, [.t 24, .t 25], none⟩,
        ⟨some 27, .load, [.t 26], none⟩,
        ⟨some 28, (.bin .mul), [.t 23, .t 27], none⟩,
        ⟨some 29, (.bin .add), [.t 17, .t 28], none⟩,
        ⟨some 7, .mv, [.t 29], none⟩])))
     (.region false [
      ⟨some 30, (.bin .add), [.t 12, .k (.i .i64 1)], none⟩,
      ⟨some 12, .mv, [.t 30], none⟩]))))

def b_impl_weighed : VCode :=
  (.seq
   (.region false [
    ⟨some 6, .mv, [.k (.f .f32 0)], none⟩])
   (.seq
    (.region false [
     ⟨some 7, .mv, [.k (.f .f32 0)], none⟩])
    (.seq
     (.seq
      (.region false [
       ⟨some 10, .mv, [.t 0], none⟩,
       ⟨some 11, .len, [.t 10], none⟩,
       ⟨some 12, .mv, [.k (.i .i64 0)], none⟩])
      (.block 0 (.loop b_impl_weighed_L0)))
     (.seq
      (.region false [
       ⟨some 31, .mv, [.t 7], none⟩,
       ⟨some 6, .mv, [.t 31], none⟩])
      .ret))))

abbrev Is_impl_weighed (P : Program) (g_f : FuncId) : Prop := FnIs P g_f 32 [.t 6] (b_impl_weighed)

abbrev C_impl_weighed (P : Program) (g_f : FuncId) : Prop := ∀ (ws : List Nat) (a : List Nat) (b : List Nat) (ha : ws.length ≤ a.length) (hb : ws.length ≤ b.length) (hx : ws.length ≤ maxLen), VCall P g_f [PS [0] .f32 ws, PS [1] .f32 a, PS [2] .f32 b] (.f .f32 (weighedM ws a b))
def oc1_impl_weighed (as : List AV) : T AV := match as with | [.sl _ _ (.f .f32 ws), .sl _ _ (.f .f32 a), .sl _ _ (.f .f32 b)] => .leaf (.f .f32 (weighedM ws a b)) | _ => .fail
def h_impl_weighed_L0 (ws : List Nat) (a : List Nat) (b : List Nat) (sum : Nat) (v12 : Int) : Env := [.any, AV.sl (Tag.par [1]) 0 (Cont.f FloatKind.f32 a), AV.sl (Tag.par [2]) 0 (Cont.f FloatKind.f32 b)] ++ anys 4 ++ [.f FloatKind.f32 sum, .any, .any, AV.sl (Tag.par [0]) 0 (Cont.f FloatKind.f32 ws), AV.i IntKind.i64 (↑(List.length ws) : Int), .i IntKind.i64 v12] ++ anys 19

theorem q_impl_weighed_L0 {VC : FuncId → List AV → AV → Prop} (ws : List Nat) (a : List Nat) (b : List Nat) (sum : Nat) (v12 : Int) {e_ : Ex} {σ_ : Env} (ht : T.ok (fun x_ => x_ = (e_, σ_)) (
      T.ite (decide (v12 < (↑(List.length ws) : Int)))
        (T.ob (0 ≤ v12 ∧ v12 < (↑(List.length ws) : Int))
          (T.ob (0 ≤ v12 ∧ v12 < (↑(List.length a) : Int))
            (T.ob (0 ≤ v12 ∧ v12 < (↑(List.length b) : Int))
              (T.leaf
                (Ex.normal,
                  h_impl_weighed_L0 ws a b (fadd FloatKind.f32 sum (fmul FloatKind.f32 (fmul FloatKind.f32 (List.getD ws (Int.toNat v12) 0) (List.getD a (Int.toNat v12) 0)) (List.getD b (Int.toNat v12) 0)))
                    (IntKind.wrap IntKind.i64 (v12 + 1)))))))
        (T.leaf (Ex.exit 0, h_impl_weighed_L0 ws a b sum v12)))) :
    Exec VC ps_impl_weighed (b_impl_weighed_L0) (h_impl_weighed_L0 ws a b sum v12) e_ σ_ := evL_of (lv := lv_impl_weighed_L0) (rs := [6]) (O := ⟨fun _ _ => .fail, fun _ _ => none⟩) (by kernel_rfl) ht

theorem q_impl_weighed {P : Program} {g_f : FuncId} (h_ : Is_impl_weighed P g_f) (ws : List Nat) (a : List Nat) (b : List Nat) (ht : T.ok (fun x_ => x_ = .f .f32 (weighedM ws a b)) (
      T.ob (Exec (VCall P) ps_impl_weighed (VCode.block 0 (VCode.loop b_impl_weighed_L0)) (h_impl_weighed_L0 ws a b 0 0) Ex.normal (h_impl_weighed_L0 ws a b (weighedM ws a b) (↑(List.length ws) : Int)))
        (T.leaf (AV.f FloatKind.f32 (weighedM ws a b))))) :
    VCall P g_f [PS [0] .f32 ws, PS [1] .f32 a, PS [2] .f32 b] (.f .f32 (weighedM ws a b)) := h_.call_of ps_impl_weighed ⟨fun _ _ => .fail, fun id σ => match id with | 0 => some (lv_impl_weighed_L0, .leaf (.normal, h_impl_weighed_L0 ws a b (weighedM ws a b) ws.length)) | _ => none⟩ (by kernel_rfl) ht


/-- impl.WeightFit: slots 74, results [.t 6, .t 7, .t 8]; calls [16:g_impl_addUp, 19:g_impl_areTwo, 24:g_impl_areTwo, 29:g_impl_areNotLess, 39:g_impl_dot, 44:g_impl_dot, 49:g_impl_lessOne, 53:g_impl_weighed, 60:g_impl_lessOne, 61:g_impl_weighed, 70:g_impl_ifTwo]; names [(x, 0), (y, 1), (weights, 2), (x, 3), (y, 4), (weights, 5), (w, 9), (first, 10), (second, 11), (u, 12), (down, 13), (slope, 14)] -/
def ps_impl_WeightFit : List Nat := [0, 1, 2, 6, 7, 8, 9, 10, 11, 12, 13, 14, 36, 55]
def b_impl_WeightFit (g_impl_addUp g_impl_areTwo g_impl_areNotLess g_impl_dot g_impl_lessOne g_impl_weighed g_impl_ifTwo : FuncId) : VCode :=
  (.seq
   (.region false [
    ⟨some 6, .mv, [.k (.f .f32 0)], none⟩,
    ⟨some 7, .mv, [.k (.f .f32 0)], none⟩,
    ⟨some 8, .mv, [.k (.b false)], none⟩])
   (.seq
    (.region false [
     ⟨some 15, .mv, [.t 2], none⟩,
     ⟨some 16, (.call g_impl_addUp), [.t 15], none⟩,
     ⟨some 9, .mv, [.t 16], none⟩])
    (.seq
     (.seq
      (.region false [
       ⟨some 17, .mv, [.t 0], none⟩,
       ⟨some 18, .mv, [.t 1], none⟩,
       ⟨some 19, (.call g_impl_areTwo), [.t 17, .t 18], none⟩,
       ⟨some 20, .not, [.t 19], none⟩,
       ⟨some 21, .mv, [.t 20], none⟩,
       ⟨some 22, .mv, [.t 0], some (21, false)⟩,
       ⟨some 23, .mv, [.t 2], some (21, false)⟩,
       ⟨some 24, (.call g_impl_areTwo), [.t 22, .t 23], some (21, false)⟩,
       ⟨some 25, .not, [.t 24], some (21, false)⟩,
       ⟨some 26, .pick, [.t 21, .k (.b true), .t 25], none⟩,
       ⟨some 27, .mv, [.t 26], none⟩,
       ⟨some 28, .mv, [.t 2], some (27, false)⟩,
       ⟨some 29, (.call g_impl_areNotLess), [.t 28], some (27, false)⟩,
       ⟨some 30, .not, [.t 29], some (27, false)⟩,
       ⟨some 31, .pick, [.t 27, .k (.b true), .t 30], none⟩,
       ⟨some 32, .mv, [.t 31], none⟩,
       ⟨some 33, .mv, [.t 9], some (32, false)⟩,
       ⟨some 34, (.bin .gtr), [.t 33, .k (.f .f32 0)], some (32, false)⟩,
       ⟨some 35, .not, [.t 34], some (32, false)⟩,
       ⟨some 36, .pick, [.t 32, .k (.b true), .t 35], none⟩])
      (.cond (.t 36)
       (.seq
        (.region false [
         ⟨some 6, .mv, [.k (.f .f32 0)], none⟩,
         ⟨some 7, .mv, [.k (.f .f32 0)], none⟩,
         ⟨some 8, .mv, [.k (.b false)], none⟩])
        .ret)
       .skip))
     (.seq
      (.region false [
       ⟨some 37, .mv, [.t 2], none⟩,
       ⟨some 38, .mv, [.t 0], none⟩,
       ⟨some 39, (.call g_impl_dot), [.t 37, .t 38], none⟩,
       ⟨some 40, .mv, [.t 9], none⟩,
       ⟨some 41, (.bin .quo), [.t 39, .t 40], none⟩,
       ⟨some 42, .mv, [.t 2], none⟩,
       ⟨some 43, .mv, [.t 1], none⟩,
       ⟨some 44, (.call g_impl_dot), [.t 42, .t 43], none⟩,
       ⟨some 45, .mv, [.t 9], none⟩,
       ⟨some 46, (.bin .quo), [.t 44, .t 45], none⟩,
       ⟨some 10, .mv, [.t 41], none⟩,
       ⟨some 11, .mv, [.t 46], none⟩])
      (.seq
       (.region false [
        ⟨some 47, .mv, [.t 0], none⟩,
        ⟨some 48, .mv, [.t 10], none⟩,
        ⟨some 49, (.call g_impl_lessOne), [.t 47, .t 48], none⟩,
        ⟨some 12, .mv, [.t 49], none⟩])
       (.seq
        (.region false [
         ⟨some 50, .mv, [.t 2], none⟩,
         ⟨some 51, .mv, [.t 12], none⟩,
         ⟨some 52, .mv, [.t 12], none⟩,
         ⟨some 53, (.call g_impl_weighed), [.t 50, .t 51, .t 52], none⟩,
         ⟨some 13, .mv, [.t 53], none⟩])
        (.seq
         (.seq
          (.region false [
           ⟨some 54, .mv, [.t 13], none⟩,
           ⟨some 55, (.bin .eql), [.t 54, .k (.f .f32 0)], none⟩])
          (.cond (.t 55)
           (.seq
            (.region false [
             ⟨some 6, .mv, [.k (.f .f32 0)], none⟩,
             ⟨some 7, .mv, [.k (.f .f32 0)], none⟩,
             ⟨some 8, .mv, [.k (.b false)], none⟩])
            .ret)
           .skip))
         (.seq
          (.region false [
           ⟨some 56, .mv, [.t 2], none⟩,
           ⟨some 57, .mv, [.t 12], none⟩,
           ⟨some 58, .mv, [.t 1], none⟩,
           ⟨some 59, .mv, [.t 11], none⟩,
           ⟨some 60, (.call g_impl_lessOne), [.t 58, .t 59], none⟩,
           ⟨some 61, (.call g_impl_weighed), [.t 56, .t 57, .t 60], none⟩,
           ⟨some 62, .mv, [.t 13], none⟩,
           ⟨some 63, (.bin .quo), [.t 61, .t 62], none⟩,
           ⟨some 14, .mv, [.t 63], none⟩])
          (.seq
           (.region false [
            ⟨some 64, .mv, [.t 11], none⟩,
            ⟨some 65, .mv, [.t 14], none⟩,
            ⟨some 66, .mv, [.t 10], none⟩,
            ⟨some 67, (.bin .mul), [.t 65, .t 66], none⟩,
            ⟨some 68, (.bin .sub), [.t 64, .t 67], none⟩,
            ⟨some 69, .mv, [.t 14], none⟩,
            ⟨some 70, (.call g_impl_ifTwo), [.t 68, .t 69], none⟩,
            ⟨some 71, (.extract 0), [.t 70], none⟩,
            ⟨some 72, (.extract 1), [.t 70], none⟩,
            ⟨some 73, (.extract 2), [.t 70], none⟩,
            ⟨some 6, .mv, [.t 71], none⟩,
            ⟨some 7, .mv, [.t 72], none⟩,
            ⟨some 8, .mv, [.t 73], none⟩])
           .ret)))))))))

abbrev Is_impl_WeightFit (P : Program) (g_f : FuncId) (g_impl_addUp g_impl_areTwo g_impl_areNotLess g_impl_dot g_impl_lessOne g_impl_weighed g_impl_ifTwo : FuncId) : Prop := FnIs P g_f 74 [.t 6, .t 7, .t 8] (b_impl_WeightFit g_impl_addUp g_impl_areTwo g_impl_areNotLess g_impl_dot g_impl_lessOne g_impl_weighed g_impl_ifTwo)

abbrev C_impl_WeightFit (P : Program) (g_f : FuncId) : Prop := ∀ (x : List Nat) (y : List Nat) (ws : List Nat) (hx : x.length ≤ maxLen) (hy : y.length ≤ maxLen) (hw : ws.length ≤ maxLen), VCall P g_f [PS [0] .f32 x, PS [1] .f32 y, PS [2] .f32 ws] (.tup [.f .f32 (if wfOk x y ws = true then wfBase x y ws else 0), .f .f32 (if wfOk x y ws = true then wfSlope x y ws else 0), .b (wfOk x y ws)])
def oc1_impl_WeightFit (as : List AV) : T AV := match as with | [.sl _ _ (.f .f32 x), .sl _ _ (.f .f32 y), .sl _ _ (.f .f32 ws)] => .leaf (.tup [.f .f32 (if wfOk x y ws = true then wfBase x y ws else 0), .f .f32 (if wfOk x y ws = true then wfSlope x y ws else 0), .b (wfOk x y ws)]) | _ => .fail
def oc_impl_WeightFit (x : List Nat) (y : List Nat) (ws : List Nat) (d : Nat) (as : List AV) : T AV := match d with | 16 => oc1_impl_addUp as | 19 => oc1_impl_areTwo as | 24 => oc1_impl_areTwo as | 29 => oc1_impl_areNotLess as | 39 => oc1_impl_dot as | 44 => oc1_impl_dot as | 49 => oc1_impl_lessOne as | 53 => oc1_impl_weighed as | 60 => oc1_impl_lessOne as | 61 => oc1_impl_weighed as | 70 => .leaf (.tup [.f .f32 (two1 (wfBase x y ws) (wfSlope x y ws)), .f .f32 (two2 (wfBase x y ws) (wfSlope x y ws)), .b (finM (wfBase x y ws) && finM (wfSlope x y ws))]) | _ => .fail



theorem q_impl_WeightFit {P : Program} {g_f : FuncId} {g_impl_addUp g_impl_areTwo g_impl_areNotLess g_impl_dot g_impl_lessOne g_impl_weighed g_impl_ifTwo : FuncId} (h_ : Is_impl_WeightFit P g_f g_impl_addUp g_impl_areTwo g_impl_areNotLess g_impl_dot g_impl_lessOne g_impl_weighed g_impl_ifTwo) (x : List Nat) (y : List Nat) (ws : List Nat) (ht : T.ok (fun x_ => x_ = .tup [.f .f32 (if wfOk x y ws = true then wfBase x y ws else 0), .f .f32 (if wfOk x y ws = true then wfSlope x y ws else 0), .b (wfOk x y ws)]) (
      T.ob ((VCall P) g_impl_addUp [AV.sl (Tag.par [0]) 0 (Cont.f FloatKind.f32 ws)] (AV.f FloatKind.f32 (sumM ws)))
        (T.ob ((VCall P) g_impl_areTwo [AV.sl (Tag.par [0]) 0 (Cont.f FloatKind.f32 x), AV.sl (Tag.par [1]) 0 (Cont.f FloatKind.f32 y)] (AV.b (twoM x y)))
          (T.ite (!twoM x y) (T.leaf (AV.tup [AV.f FloatKind.f32 0, AV.f FloatKind.f32 0, AV.b false]))
            (T.ob ((VCall P) g_impl_areTwo [AV.sl (Tag.par [0]) 0 (Cont.f FloatKind.f32 x), AV.sl (Tag.par [1]) 0 (Cont.f FloatKind.f32 ws)] (AV.b (twoM x ws)))
              (T.ite (!twoM x ws) (T.leaf (AV.tup [AV.f FloatKind.f32 0, AV.f FloatKind.f32 0, AV.b false]))
                (T.ob ((VCall P) g_impl_areNotLess [AV.sl (Tag.par [0]) 0 (Cont.f FloatKind.f32 ws)] (AV.b (notLessM ws)))
                  (T.ite (!notLessM ws) (T.leaf (AV.tup [AV.f FloatKind.f32 0, AV.f FloatKind.f32 0, AV.b false]))
                    (T.ite (!fgt FloatKind.f32 (sumM ws) 0) (T.leaf (AV.tup [AV.f FloatKind.f32 0, AV.f FloatKind.f32 0, AV.b false]))
                      (T.ob ((VCall P) g_impl_dot [AV.sl (Tag.par [0]) 0 (Cont.f FloatKind.f32 ws), AV.sl (Tag.par [1]) 0 (Cont.f FloatKind.f32 x)] (AV.f FloatKind.f32 (dotM ws x)))
                        (T.ob True
                          (T.ob ((VCall P) g_impl_dot [AV.sl (Tag.par [0]) 0 (Cont.f FloatKind.f32 ws), AV.sl (Tag.par [1]) 0 (Cont.f FloatKind.f32 y)] (AV.f FloatKind.f32 (dotM ws y)))
                            (T.ob True
                              (T.ob
                                ((VCall P) g_impl_lessOne [AV.sl (Tag.par [0]) 0 (Cont.f FloatKind.f32 x), AV.f FloatKind.f32 (fdiv FloatKind.f32 (dotM ws x) (sumM ws))]
                                  (AV.sl (Tag.own 0) 0 (Cont.f FloatKind.f32 (lessOneM x (fdiv FloatKind.f32 (dotM ws x) (sumM ws))))))
                                (T.ob
                                  ((VCall P) g_impl_weighed
                                    [AV.sl (Tag.par [0]) 0 (Cont.f FloatKind.f32 ws), AV.sl (Tag.par [1]) 0 (Cont.f FloatKind.f32 (lessOneM x (fdiv FloatKind.f32 (dotM ws x) (sumM ws)))),
                                      AV.sl (Tag.par [2]) 0 (Cont.f FloatKind.f32 (lessOneM x (fdiv FloatKind.f32 (dotM ws x) (sumM ws))))]
                                    (AV.f FloatKind.f32 (weighedM ws (lessOneM x (fdiv FloatKind.f32 (dotM ws x) (sumM ws))) (lessOneM x (fdiv FloatKind.f32 (dotM ws x) (sumM ws))))))
                                  (T.ite (feq FloatKind.f32 (weighedM ws (lessOneM x (fdiv FloatKind.f32 (dotM ws x) (sumM ws))) (lessOneM x (fdiv FloatKind.f32 (dotM ws x) (sumM ws)))) 0)
                                    (T.leaf (AV.tup [AV.f FloatKind.f32 0, AV.f FloatKind.f32 0, AV.b false]))
                                    (T.ob
                                      ((VCall P) g_impl_lessOne [AV.sl (Tag.par [0]) 0 (Cont.f FloatKind.f32 y), AV.f FloatKind.f32 (fdiv FloatKind.f32 (dotM ws y) (sumM ws))]
                                        (AV.sl (Tag.own 0) 0 (Cont.f FloatKind.f32 (lessOneM y (fdiv FloatKind.f32 (dotM ws y) (sumM ws))))))
                                      (T.ob
                                        ((VCall P) g_impl_weighed
                                          [AV.sl (Tag.par [0]) 0 (Cont.f FloatKind.f32 ws), AV.sl (Tag.par [1]) 0 (Cont.f FloatKind.f32 (lessOneM x (fdiv FloatKind.f32 (dotM ws x) (sumM ws)))),
                                            AV.sl (Tag.par [2]) 0 (Cont.f FloatKind.f32 (lessOneM y (fdiv FloatKind.f32 (dotM ws y) (sumM ws))))]
                                          (AV.f FloatKind.f32 (weighedM ws (lessOneM x (fdiv FloatKind.f32 (dotM ws x) (sumM ws))) (lessOneM y (fdiv FloatKind.f32 (dotM ws y) (sumM ws))))))
                                        (T.ob True
                                          (T.ob
                                            ((VCall P) g_impl_ifTwo
                                              [AV.f FloatKind.f32
                                                  (fsub FloatKind.f32 (fdiv FloatKind.f32 (dotM ws y) (sumM ws))
                                                    (fmul FloatKind.f32
                                                      (fdiv FloatKind.f32 (weighedM ws (lessOneM x (fdiv FloatKind.f32 (dotM ws x) (sumM ws))) (lessOneM y (fdiv FloatKind.f32 (dotM ws y) (sumM ws))))
                                                        (weighedM ws (lessOneM x (fdiv FloatKind.f32 (dotM ws x) (sumM ws))) (lessOneM x (fdiv FloatKind.f32 (dotM ws x) (sumM ws)))))
                                                      (fdiv FloatKind.f32 (dotM ws x) (sumM ws)))),
                                                AV.f FloatKind.f32
                                                  (fdiv FloatKind.f32 (weighedM ws (lessOneM x (fdiv FloatKind.f32 (dotM ws x) (sumM ws))) (lessOneM y (fdiv FloatKind.f32 (dotM ws y) (sumM ws))))
                                                    (weighedM ws (lessOneM x (fdiv FloatKind.f32 (dotM ws x) (sumM ws))) (lessOneM x (fdiv FloatKind.f32 (dotM ws x) (sumM ws)))))]
                                              (AV.tup
                                                [AV.f FloatKind.f32 (two1 (wfBase x y ws) (wfSlope x y ws)), AV.f FloatKind.f32 (two2 (wfBase x y ws) (wfSlope x y ws)), AV.b (finM (wfBase x y ws) && finM (wfSlope x y ws))]))
                                            (T.leaf
                                              (AV.tup
                                                [AV.f FloatKind.f32 (two1 (wfBase x y ws) (wfSlope x y ws)), AV.f FloatKind.f32 (two2 (wfBase x y ws) (wfSlope x y ws)),
                                                  AV.b (finM (wfBase x y ws) && finM (wfSlope x y ws))])))))))))))))))))))))) :
    VCall P g_f [PS [0] .f32 x, PS [1] .f32 y, PS [2] .f32 ws] (.tup [.f .f32 (if wfOk x y ws = true then wfBase x y ws else 0), .f .f32 (if wfOk x y ws = true then wfSlope x y ws else 0), .b (wfOk x y ws)]) := h_.call_of ps_impl_WeightFit ⟨oc_impl_WeightFit x y ws, fun _ _ => none⟩ (by kernel_rfl) ht


/-- spec.WeightFit: slots 147, results [.t 6, .t 7, .t 8]; calls [21:g_spec_l02Series, 25:g_spec_l02Series, 30:g_spec_l02Series, 143:g_spec_l03Two]; names [(x, 0), (y, 1), (weights, 2), (x, 3), (y, 4), (weights, 5), (w, 9), (sx, 10), (sy, 11), (i, 12), (mx, 13), (my, 14), (up, 15), (wide, 16), (i, 17), (u, 18), (slope, 19)] -/
def ps_spec_WeightFit : List Nat := [0, 1, 2, 6, 7, 8, 9, 10, 11, 12, 13, 14, 15, 16, 17, 18, 19, 46, 48, 49, 50, 56, 88, 96, 97, 98, 133]
def lv_spec_WeightFit_L0 : List Nat := [0, 1, 2, 9, 10, 11, 48, 49]
def lv_spec_WeightFit_L2 : List Nat := [0, 1, 2, 13, 14, 15, 16, 96, 97]
def b_spec_WeightFit_L0 (g_spec_l02Series g_spec_l03Two : FuncId) : VCode :=
  (.seq
   (.region false [
    ⟨some 50, (.bin .lss), [.t 49, .t 48], none⟩])
   (.seq
    (.cond (.t 50)
     .skip
     (.exit 0))
    (.seq
     (.block 1
      (.seq
       (.region false [
        ⟨some 51, .mv, [.t 49], none⟩,
        ⟨some 12, .mv, [.t 51], none⟩])
       (.seq
        (.seq
         (.region false [
          ⟨some 52, .mv, [.t 2], none⟩,
          ⟨some 53, .mv, [.t 12], none⟩,
          ⟨some 54, .iaddr, [.t 52, .t 53], none⟩,
          ⟨some 55, .load, [.t 54], none⟩,
          ⟨some 56, (.bin .lss), [.t 55, .k (.f .f32 0)], none⟩])
         (.cond (.t 56)
          (.seq
           (.region false [
            ⟨some 6, .mv, [.k (.f .f32 0)], none⟩,
            ⟨some 7, .mv, [.k (.f .f32 0)], none⟩,
            ⟨some 8, .mv, [.k (.b false)], none⟩])
           .ret)
          .skip))
        (.seq
         (.region false [
          ⟨some 57, .mv, [.t 9], none⟩,
          ⟨some 58, .mv, [.t 2], none⟩,
          ⟨some 59, .mv, [.t 12], none⟩,
          ⟨some 60, .iaddr, [.t 58, .t 59], none⟩,
          ⟨some 61, .load, [.t 60], none⟩,
          ⟨some 62, (.bin .add), [.t 57, .t 61], none⟩,
          ⟨some 9, .mv, [.t 62], none⟩])
         (.seq
          (.region true [
           ⟨some 63, .mv, [.t 10], none⟩,
           ⟨some 64, .mv, [.t 2], none⟩,
           ⟨some 65, .mv, [.t 12], none⟩,
           ⟨some 66, .iaddr, [.t 64, .t 65], none⟩,
           ⟨some 67, .load, [.t 66], none⟩,
           ⟨some 68, .mv, [.t 0], none⟩,
           ⟨some 69, .mv, [.t 12], none⟩,
           ⟨some 70, .iaddr, [.t 68, .t 69], none⟩,
           ⟨some 71, .load, [.t 70], none⟩,
           ⟨some 72, (.bin .mul), [.t 67, .t 71], none⟩,
           ⟨some 73, (.bin .add), [.t 63, .t 72], none⟩,
           ⟨some 10, .mv, [.t 73], none⟩])
          (.region true [
           ⟨some 74, .mv, [.t 11], none⟩,
           ⟨some 75, .mv, [.t 2], none⟩,
           ⟨some 76, .mv, [.t 12], none⟩,
           ⟨some 77, .iaddr, [.t 75, .t 76], none⟩,
           ⟨some 78, .load, [.t 77], none⟩,
           ⟨some 79, .mv, [.t 1], none⟩,
           ⟨some 80, .mv, [.t 12], none⟩,
           ⟨some 81, .iaddr, [.t 79, .t 80], none⟩,
           ⟨some 82, .load, [.t 81], none⟩,
           ⟨some 83, (.bin .mul), [.t 78, .t 82], none⟩,
           ⟨some 84, (.bin .add), [.t 74, .t 83], none⟩,
           ⟨some 11, .mv, [.t 84], none⟩]))))))
     (.region false [
      ⟨some 85, (.bin .add), [.t 49, .k (.i .i64 1)], none⟩,
      ⟨some 49, .mv, [.t 85], none⟩]))))

def b_spec_WeightFit_L2 (g_spec_l02Series g_spec_l03Two : FuncId) : VCode :=
  (.seq
   (.region false [
    ⟨some 98, (.bin .lss), [.t 97, .t 96], none⟩])
   (.seq
    (.cond (.t 98)
     .skip
     (.exit 2))
    (.seq
     (.block 3
      (.seq
       (.region false [
        ⟨some 99, .mv, [.t 97], none⟩,
        ⟨some 17, .mv, [.t 99], none⟩])
       (.seq
        (.region false [
         ⟨some 100, .mv, [.t 0], none⟩,
         ⟨some 101, .mv, [.t 17], none⟩,
         ⟨some 102, .iaddr, [.t 100, .t 101], none⟩,
         ⟨some 103, .load, [.t 102], none⟩,
         ⟨some 104, .mv, [.t 13], none⟩,
         ⟨some 105, (.bin .sub), [.t 103, .t 104], none⟩,
         ⟨some 18, .mv, [.t 105], none⟩])
        (.seq
         (.region true [
          ⟨some 106, .mv, [.t 15], none⟩,
          ⟨some 107, .mv, [.t 2], none⟩,
          ⟨some 108, .mv, [.t 17], none⟩,
          ⟨some 109, .iaddr, [.t 107, .t 108], none⟩,
          ⟨some 110, .load, [.t 109], none⟩,
          ⟨some 111, .mv, [.t 18], none⟩,
          ⟨some 112, (.bin .mul), [.t 110, .t 111], none⟩,
          ⟨some 113, .mv, [.t 1], none⟩,
          ⟨some 114, .mv, [.t 17], none⟩,
          ⟨some 115, .iaddr, [.t 113, .t 114], none⟩,
          ⟨some 116, .load, [.t 115], none⟩,
          ⟨some 117, .mv, [.t 14], none⟩,
          ⟨some 118, (.bin .sub), [.t 116, .t 117], none⟩,
          ⟨some 119, (.bin .mul), [.t 112, .t 118], none⟩,
          ⟨some 120, (.bin .add), [.t 106, .t 119], none⟩,
          ⟨some 15, .mv, [.t 120], none⟩])
         (.region false [
          ⟨some 121, .mv, [.t 16], none⟩,
          ⟨some 122, .mv, [.t 2], none⟩,
          ⟨some 123, .mv, [.t 17], none⟩,
          ⟨some 124, .iaddr, [.t 122, .t 123], none⟩,
          ⟨some 125, .load, [.t 124], none⟩,
          ⟨some 126, .mv, [.t 18], none⟩,
          ⟨some 127, (.bin .mul), [.t 125, .t 126], none⟩,
          ⟨some 128, .mv, [.t 18], none⟩,
          ⟨some 129, (.bin .mul), [.t 127, .t 128], none⟩,
          ⟨some 130, (.bin .add), [.t 121, .t 129], none⟩,
          ⟨some 16, .mv, [.t 130], none⟩])))))
     (.region false [
      ⟨some 131, (.bin .add), [.t 97, .k (.i .i64 1)], none⟩,
      ⟨some 97, .mv, [.t 131], none⟩]))))

def b_spec_WeightFit (g_spec_l02Series g_spec_l03Two : FuncId) : VCode :=
  (.seq
   (.region false [
    ⟨some 6, .mv, [.k (.f .f32 0)], none⟩,
    ⟨some 7, .mv, [.k (.f .f32 0)], none⟩,
    ⟨some 8, .mv, [.k (.b false)], none⟩])
   (.seq
    (.seq
     (.region false [
      ⟨some 20, .mv, [.t 0], none⟩,
      ⟨some 21, (.call g_spec_l02Series), [.t 20], none⟩,
      ⟨some 22, .not, [.t 21], none⟩,
      ⟨some 23, .mv, [.t 22], none⟩,
      ⟨some 24, .mv, [.t 1], some (23, false)⟩,
      ⟨some 25, (.call g_spec_l02Series), [.t 24], some (23, false)⟩,
      ⟨some 26, .not, [.t 25], some (23, false)⟩,
      ⟨some 27, .pick, [.t 23, .k (.b true), .t 26], none⟩,
      ⟨some 28, .mv, [.t 27], none⟩,
      ⟨some 29, .mv, [.t 2], some (28, false)⟩,
      ⟨some 30, (.call g_spec_l02Series), [.t 29], some (28, false)⟩,
      ⟨some 31, .not, [.t 30], some (28, false)⟩,
      ⟨some 32, .pick, [.t 28, .k (.b true), .t 31], none⟩,
      ⟨some 33, .mv, [.t 32], none⟩,
      ⟨some 34, .mv, [.t 0], some (33, false)⟩,
      ⟨some 35, .len, [.t 34], some (33, false)⟩,
      ⟨some 36, .mv, [.t 1], some (33, false)⟩,
      ⟨some 37, .len, [.t 36], some (33, false)⟩,
      ⟨some 38, (.bin .neq), [.t 35, .t 37], some (33, false)⟩,
      ⟨some 39, .pick, [.t 33, .k (.b true), .t 38], none⟩,
      ⟨some 40, .mv, [.t 39], none⟩,
      ⟨some 41, .mv, [.t 2], some (40, false)⟩,
      ⟨some 42, .len, [.t 41], some (40, false)⟩,
      ⟨some 43, .mv, [.t 1], some (40, false)⟩,
      ⟨some 44, .len, [.t 43], some (40, false)⟩,
      ⟨some 45, (.bin .neq), [.t 42, .t 44], some (40, false)⟩,
      ⟨some 46, .pick, [.t 40, .k (.b true), .t 45], none⟩])
     (.cond (.t 46)
      (.seq
       (.region false [
        ⟨some 6, .mv, [.k (.f .f32 0)], none⟩,
        ⟨some 7, .mv, [.k (.f .f32 0)], none⟩,
        ⟨some 8, .mv, [.k (.b false)], none⟩])
       .ret)
      .skip))
    (.seq
     (.region false [
      ⟨some 9, .mv, [.k (.f .f32 0)], none⟩])
     (.seq
      (.region false [
       ⟨some 10, .mv, [.k (.f .f32 0)], none⟩])
      (.seq
       (.region false [
        ⟨some 11, .mv, [.k (.f .f32 0)], none⟩])
       (.seq
        (.seq
         (.region false [
          ⟨some 47, .mv, [.t 2], none⟩,
          ⟨some 48, .len, [.t 47], none⟩,
          ⟨some 49, .mv, [.k (.i .i64 0)], none⟩])
         (.block 0 (.loop (b_spec_WeightFit_L0 g_spec_l02Series g_spec_l03Two))))
        (.seq
         (.seq
          (.region false [
           ⟨some 86, .mv, [.t 9], none⟩,
           ⟨some 87, (.bin .gtr), [.t 86, .k (.f .f32 0)], none⟩,
           ⟨some 88, .not, [.t 87], none⟩])
          (.cond (.t 88)
           (.seq
            (.region false [
             ⟨some 6, .mv, [.k (.f .f32 0)], none⟩,
             ⟨some 7, .mv, [.k (.f .f32 0)], none⟩,
             ⟨some 8, .mv, [.k (.b false)], none⟩])
            .ret)
           .skip))
         (.seq
          (.region false [
           ⟨some 89, .mv, [.t 10], none⟩,
           ⟨some 90, .mv, [.t 9], none⟩,
           ⟨some 91, (.bin .quo), [.t 89, .t 90], none⟩,
           ⟨some 13, .mv, [.t 91], none⟩])
          (.seq
           (.region false [
            ⟨some 92, .mv, [.t 11], none⟩,
            ⟨some 93, .mv, [.t 9], none⟩,
            ⟨some 94, (.bin .quo), [.t 92, .t 93], none⟩,
            ⟨some 14, .mv, [.t 94], none⟩])
           (.seq
            (.region false [
             ⟨some 15, .mv, [.k (.f .f32 0)], none⟩])
            (.seq
             (.region false [
              ⟨some 16, .mv, [.k (.f .f32 0)], none⟩])
             (.seq
              (.seq
               (.region false [
                ⟨some 95, .mv, [.t 2], none⟩,
                ⟨some 96, .len, [.t 95], none⟩,
                ⟨some 97, .mv, [.k (.i .i64 0)], none⟩])
               (.block 2 (.loop (b_spec_WeightFit_L2 g_spec_l02Series g_spec_l03Two))))
              (.seq
               (.seq
                (.region false [
                 ⟨some 132, .mv, [.t 16], none⟩,
                 ⟨some 133, (.bin .eql), [.t 132, .k (.f .f32 0)], none⟩])
                (.cond (.t 133)
                 (.seq
                  (.region false [
                   ⟨some 6, .mv, [.k (.f .f32 0)], none⟩,
                   ⟨some 7, .mv, [.k (.f .f32 0)], none⟩,
                   ⟨some 8, .mv, [.k (.b false)], none⟩])
                  .ret)
                 .skip))
               (.seq
                (.region false [
                 ⟨some 134, .mv, [.t 15], none⟩,
                 ⟨some 135, .mv, [.t 16], none⟩,
                 ⟨some 136, (.bin .quo), [.t 134, .t 135], none⟩,
                 ⟨some 19, .mv, [.t 136], none⟩])
                (.seq
                 (.region false [
                  ⟨some 137, .mv, [.t 14], none⟩,
                  ⟨some 138, .mv, [.t 19], none⟩,
                  ⟨some 139, .mv, [.t 13], none⟩,
                  ⟨some 140, (.bin .mul), [.t 138, .t 139], none⟩,
                  ⟨some 141, (.bin .sub), [.t 137, .t 140], none⟩,
                  ⟨some 142, .mv, [.t 19], none⟩,
                  ⟨some 143, (.call g_spec_l03Two), [.t 141, .t 142], none⟩,
                  ⟨some 144, (.extract 0), [.t 143], none⟩,
                  ⟨some 145, (.extract 1), [.t 143], none⟩,
                  ⟨some 146, (.extract 2), [.t 143], none⟩,
                  ⟨some 6, .mv, [.t 144], none⟩,
                  ⟨some 7, .mv, [.t 145], none⟩,
                  ⟨some 8, .mv, [.t 146], none⟩])
                 .ret)))))))))))))))

abbrev Is_spec_WeightFit (P : Program) (g_f : FuncId) (g_spec_l02Series g_spec_l03Two : FuncId) : Prop := FnIs P g_f 147 [.t 6, .t 7, .t 8] (b_spec_WeightFit g_spec_l02Series g_spec_l03Two)

abbrev C_spec_WeightFit (P : Program) (g_f : FuncId) : Prop := ∀ (x : List Nat) (y : List Nat) (ws : List Nat) (hx : x.length ≤ maxLen) (hy : y.length ≤ maxLen) (hw : ws.length ≤ maxLen), VCall P g_f [PS [0] .f32 x, PS [1] .f32 y, PS [2] .f32 ws] (.tup [.f .f32 (if wfOk x y ws = true then wfBase x y ws else 0), .f .f32 (if wfOk x y ws = true then wfSlope x y ws else 0), .b (wfOk x y ws)])
def oc1_spec_WeightFit (as : List AV) : T AV := match as with | [.sl _ _ (.f .f32 x), .sl _ _ (.f .f32 y), .sl _ _ (.f .f32 ws)] => .leaf (.tup [.f .f32 (if wfOk x y ws = true then wfBase x y ws else 0), .f .f32 (if wfOk x y ws = true then wfSlope x y ws else 0), .b (wfOk x y ws)]) | _ => .fail
def oc_spec_WeightFit (x : List Nat) (y : List Nat) (ws : List Nat) (d : Nat) (as : List AV) : T AV := match d with | 21 => oc1_spec_l02Series as | 25 => oc1_spec_l02Series as | 30 => oc1_spec_l02Series as | 143 => .leaf (.tup [.f .f32 (two1 (wfBase x y ws) (wfSlope x y ws)), .f .f32 (two2 (wfBase x y ws) (wfSlope x y ws)), .b (finM (wfBase x y ws) && finM (wfSlope x y ws))]) | _ => .fail
def h_spec_WeightFit_L0 (x : List Nat) (y : List Nat) (ws : List Nat) (w : Nat) (sx : Nat) (sy : Nat) (v49 : Int) : Env := [AV.sl (Tag.par [0]) 0 (Cont.f FloatKind.f32 x), AV.sl (Tag.par [1]) 0 (Cont.f FloatKind.f32 y), AV.sl (Tag.par [2]) 0 (Cont.f FloatKind.f32 ws)] ++ anys 6 ++ [.f FloatKind.f32 w, .f FloatKind.f32 sx, .f FloatKind.f32 sy] ++ anys 36 ++ [AV.i IntKind.i64 (↑(List.length ws) : Int), .i IntKind.i64 v49] ++ anys 97
def h_spec_WeightFit_L2 (x : List Nat) (y : List Nat) (ws : List Nat) (up : Nat) (wide : Nat) (v97 : Int) : Env := [AV.sl (Tag.par [0]) 0 (Cont.f FloatKind.f32 x), AV.sl (Tag.par [1]) 0 (Cont.f FloatKind.f32 y), AV.sl (Tag.par [2]) 0 (Cont.f FloatKind.f32 ws)] ++ anys 10 ++ [AV.f FloatKind.f32 (fdiv FloatKind.f32 (dotM ws x) (sumM ws)), AV.f FloatKind.f32 (fdiv FloatKind.f32 (dotM ws y) (sumM ws)), .f FloatKind.f32 up, .f FloatKind.f32 wide] ++ anys 79 ++ [AV.i IntKind.i64 (↑(List.length ws) : Int), .i IntKind.i64 v97] ++ anys 49

theorem q_spec_WeightFit_L0 {VC : FuncId → List AV → AV → Prop} {g_spec_l02Series g_spec_l03Two : FuncId} (x : List Nat) (y : List Nat) (ws : List Nat) (w : Nat) (sx : Nat) (sy : Nat) (v49 : Int) {e_ : Ex} {σ_ : Env} (ht : T.ok (fun x_ => x_ = (e_, σ_)) (
      T.ite (decide (v49 < (↑(List.length ws) : Int)))
        (T.ob (0 ≤ v49 ∧ v49 < (↑(List.length ws) : Int))
          (T.ite (flt FloatKind.f32 (List.getD ws (Int.toNat v49) 0) 0) (T.leaf (Ex.ret, anys 6 ++ AV.f FloatKind.f32 0 :: AV.f FloatKind.f32 0 :: AV.b false :: anys 138))
            (T.ob (0 ≤ v49 ∧ v49 < (↑(List.length ws) : Int))
              (T.ob (0 ≤ v49 ∧ v49 < (↑(List.length ws) : Int))
                (T.ob (0 ≤ v49 ∧ v49 < (↑(List.length x) : Int))
                  (T.ob (0 ≤ v49 ∧ v49 < (↑(List.length ws) : Int))
                    (T.ob (0 ≤ v49 ∧ v49 < (↑(List.length y) : Int))
                      (T.leaf
                        (Ex.normal,
                          h_spec_WeightFit_L0 x y ws (fadd FloatKind.f32 w (List.getD ws (Int.toNat v49) 0)) (fadd FloatKind.f32 sx (fmul FloatKind.f32 (List.getD ws (Int.toNat v49) 0) (List.getD x (Int.toNat v49) 0)))
                            (fadd FloatKind.f32 sy (fmul FloatKind.f32 (List.getD ws (Int.toNat v49) 0) (List.getD y (Int.toNat v49) 0))) (IntKind.wrap IntKind.i64 (v49 + 1)))))))))))
        (T.leaf (Ex.exit 0, h_spec_WeightFit_L0 x y ws w sx sy v49)))) :
    Exec VC ps_spec_WeightFit (b_spec_WeightFit_L0 g_spec_l02Series g_spec_l03Two) (h_spec_WeightFit_L0 x y ws w sx sy v49) e_ σ_ := evL_of (lv := lv_spec_WeightFit_L0) (rs := [6, 7, 8]) (O := ⟨oc_spec_WeightFit x y ws, fun _ _ => none⟩) (by kernel_rfl) ht

theorem q_spec_WeightFit_L2 {VC : FuncId → List AV → AV → Prop} {g_spec_l02Series g_spec_l03Two : FuncId} (x : List Nat) (y : List Nat) (ws : List Nat) (up : Nat) (wide : Nat) (v97 : Int) {e_ : Ex} {σ_ : Env} (ht : T.ok (fun x_ => x_ = (e_, σ_)) (
      T.ite (decide (v97 < (↑(List.length ws) : Int)))
        (T.ob (0 ≤ v97 ∧ v97 < (↑(List.length x) : Int))
          (T.ob (0 ≤ v97 ∧ v97 < (↑(List.length ws) : Int))
            (T.ob (0 ≤ v97 ∧ v97 < (↑(List.length y) : Int))
              (T.ob (0 ≤ v97 ∧ v97 < (↑(List.length ws) : Int))
                (T.leaf
                  (Ex.normal,
                    h_spec_WeightFit_L2 x y ws
                      (fadd FloatKind.f32 up
                        (fmul FloatKind.f32 (fmul FloatKind.f32 (List.getD ws (Int.toNat v97) 0) (fsub FloatKind.f32 (List.getD x (Int.toNat v97) 0) (fdiv FloatKind.f32 (dotM ws x) (sumM ws))))
                          (fsub FloatKind.f32 (List.getD y (Int.toNat v97) 0) (fdiv FloatKind.f32 (dotM ws y) (sumM ws)))))
                      (fadd FloatKind.f32 wide
                        (fmul FloatKind.f32 (fmul FloatKind.f32 (List.getD ws (Int.toNat v97) 0) (fsub FloatKind.f32 (List.getD x (Int.toNat v97) 0) (fdiv FloatKind.f32 (dotM ws x) (sumM ws))))
                          (fsub FloatKind.f32 (List.getD x (Int.toNat v97) 0) (fdiv FloatKind.f32 (dotM ws x) (sumM ws)))))
                      (IntKind.wrap IntKind.i64 (v97 + 1))))))))
        (T.leaf (Ex.exit 2, h_spec_WeightFit_L2 x y ws up wide v97)))) :
    Exec VC ps_spec_WeightFit (b_spec_WeightFit_L2 g_spec_l02Series g_spec_l03Two) (h_spec_WeightFit_L2 x y ws up wide v97) e_ σ_ := evL_of (lv := lv_spec_WeightFit_L2) (rs := [6, 7, 8]) (O := ⟨oc_spec_WeightFit x y ws, fun _ _ => none⟩) (by kernel_rfl) ht

theorem q_spec_WeightFit {P : Program} {g_f : FuncId} {g_spec_l02Series g_spec_l03Two : FuncId} (h_ : Is_spec_WeightFit P g_f g_spec_l02Series g_spec_l03Two) (x : List Nat) (y : List Nat) (ws : List Nat) (ht : T.ok (fun x_ => x_ = .tup [.f .f32 (if wfOk x y ws = true then wfBase x y ws else 0), .f .f32 (if wfOk x y ws = true then wfSlope x y ws else 0), .b (wfOk x y ws)]) (
      T.ob ((VCall P) g_spec_l02Series [AV.sl (Tag.par [0]) 0 (Cont.f FloatKind.f32 x)] (AV.b (seriesM x)))
        (T.ite (!seriesM x) (T.leaf (AV.tup [AV.f FloatKind.f32 0, AV.f FloatKind.f32 0, AV.b false]))
          (T.ob ((VCall P) g_spec_l02Series [AV.sl (Tag.par [0]) 0 (Cont.f FloatKind.f32 y)] (AV.b (seriesM y)))
            (T.ite (!seriesM y) (T.leaf (AV.tup [AV.f FloatKind.f32 0, AV.f FloatKind.f32 0, AV.b false]))
              (T.ob ((VCall P) g_spec_l02Series [AV.sl (Tag.par [0]) 0 (Cont.f FloatKind.f32 ws)] (AV.b (seriesM ws)))
                (T.ite (!seriesM ws) (T.leaf (AV.tup [AV.f FloatKind.f32 0, AV.f FloatKind.f32 0, AV.b false]))
                  (T.ite ((↑(List.length x) : Int) != (↑(List.length y) : Int)) (T.leaf (AV.tup [AV.f FloatKind.f32 0, AV.f FloatKind.f32 0, AV.b false]))
                    (T.ite ((↑(List.length ws) : Int) != (↑(List.length y) : Int)) (T.leaf (AV.tup [AV.f FloatKind.f32 0, AV.f FloatKind.f32 0, AV.b false]))
                      (T.ite (!someLess ws)
                        (T.ob
                          (Exec (VCall P) ps_spec_WeightFit (VCode.block 0 (VCode.loop (b_spec_WeightFit_L0 g_spec_l02Series g_spec_l03Two))) (h_spec_WeightFit_L0 x y ws 0 0 0 0) Ex.normal
                            (h_spec_WeightFit_L0 x y ws (sumM ws) (dotM ws x) (dotM ws y) (↑(List.length ws) : Int)))
                          (T.ite (!fgt FloatKind.f32 (sumM ws) 0) (T.leaf (AV.tup [AV.f FloatKind.f32 0, AV.f FloatKind.f32 0, AV.b false]))
                            (T.ob True
                              (T.ob True
                                (T.ob
                                  (Exec (VCall P) ps_spec_WeightFit (VCode.block 2 (VCode.loop (b_spec_WeightFit_L2 g_spec_l02Series g_spec_l03Two))) (h_spec_WeightFit_L2 x y ws 0 0 0) Ex.normal
                                    (h_spec_WeightFit_L2 x y ws (weighedM ws (wfU x ws) (wfU y ws)) (wfDown x ws) (↑(List.length ws) : Int)))
                                  (T.ite (feq FloatKind.f32 (wfDown x ws) 0) (T.leaf (AV.tup [AV.f FloatKind.f32 0, AV.f FloatKind.f32 0, AV.b false]))
                                    (T.ob True
                                      (T.ob
                                        ((VCall P) g_spec_l03Two
                                          [AV.f FloatKind.f32
                                              (fsub FloatKind.f32 (fdiv FloatKind.f32 (dotM ws y) (sumM ws))
                                                (fmul FloatKind.f32 (fdiv FloatKind.f32 (weighedM ws (wfU x ws) (wfU y ws)) (wfDown x ws)) (fdiv FloatKind.f32 (dotM ws x) (sumM ws)))),
                                            AV.f FloatKind.f32 (fdiv FloatKind.f32 (weighedM ws (wfU x ws) (wfU y ws)) (wfDown x ws))]
                                          (AV.tup [AV.f FloatKind.f32 (two1 (wfBase x y ws) (wfSlope x y ws)), AV.f FloatKind.f32 (two2 (wfBase x y ws) (wfSlope x y ws)), AV.b (finM (wfBase x y ws) && finM (wfSlope x y ws))]))
                                        (T.leaf
                                          (AV.tup
                                            [AV.f FloatKind.f32 (two1 (wfBase x y ws) (wfSlope x y ws)), AV.f FloatKind.f32 (two2 (wfBase x y ws) (wfSlope x y ws)),
                                              AV.b (finM (wfBase x y ws) && finM (wfSlope x y ws))]))))))))))
                        (T.ob
                          (Exec (VCall P) ps_spec_WeightFit (VCode.block 0 (VCode.loop (b_spec_WeightFit_L0 g_spec_l02Series g_spec_l03Two))) (h_spec_WeightFit_L0 x y ws 0 0 0 0) Ex.ret
                            (anys 6 ++ AV.f FloatKind.f32 0 :: AV.f FloatKind.f32 0 :: AV.b false :: anys 138))
                          (T.leaf (AV.tup [AV.f FloatKind.f32 0, AV.f FloatKind.f32 0, AV.b false]))))))))))))) :
    VCall P g_f [PS [0] .f32 x, PS [1] .f32 y, PS [2] .f32 ws] (.tup [.f .f32 (if wfOk x y ws = true then wfBase x y ws else 0), .f .f32 (if wfOk x y ws = true then wfSlope x y ws else 0), .b (wfOk x y ws)]) := h_.call_of ps_spec_WeightFit ⟨oc_spec_WeightFit x y ws, fun id σ => match id with | 0 => some (lv_spec_WeightFit_L0, .ite (!someLess ws) (.leaf (.normal, h_spec_WeightFit_L0 x y ws (sumM ws) (dotM ws x) (dotM ws y) ws.length)) (.leaf (.ret, anys 6 ++ .f .f32 0 :: .f .f32 0 :: .b false :: anys 138))) | 2 => some (lv_spec_WeightFit_L2, .leaf (.normal, h_spec_WeightFit_L2 x y ws (weighedM ws (wfU x ws) (wfU y ws)) (wfDown x ws) ws.length)) | _ => none⟩ (by kernel_rfl) ht


/-! ### steps -/
def squaresM (xs : List Nat) : Nat := dotM (lessOneM xs (meanM xs)) (lessOneM xs (meanM xs))
def stepSum (xs : List Nat) (i : Nat) : Nat := fadd .f32 (squaresM (xs.take i)) (squaresM (xs.drop i))
def stepAt (xs : List Nat) : Nat → Nat × Nat
  | 0 => (0, 0)
  | j + 1 => if ((stepAt xs j).1 == 0 || flt .f32 (stepSum xs (j + 1)) (stepAt xs j).2) = true then (j + 1, stepSum xs (j + 1)) else stepAt xs j
def stepBest (xs : List Nat) : Nat := (stepAt xs (xs.length - 1)).1
def stepBy (xs : List Nat) : Nat := fsub .f32 (meanM (xs.drop (stepBest xs))) (meanM (xs.take (stepBest xs)))
def stepFin (xs : List Nat) : Bool := allN (xs.length - 1) fun i => finM (stepSum xs (i + 1))
def stepOk (xs : List Nat) : Bool := seriesM xs && (decide (2 ≤ xs.length) && (stepFin xs && finM (stepBy xs)))

/-- impl.squares: slots 11, results [.t 2]; calls [6:g_impl_mean, 7:g_impl_lessOne, 10:g_impl_dot]; names [(list, 0), (list, 1), (rest, 3)] -/
def ps_impl_squares : List Nat := [0, 2, 3]
def b_impl_squares (g_impl_mean g_impl_lessOne g_impl_dot : FuncId) : VCode :=
  (.seq
   (.region false [
    ⟨some 2, .mv, [.k (.f .f32 0)], none⟩])
   (.seq
    (.region false [
     ⟨some 4, .mv, [.t 0], none⟩,
     ⟨some 5, .mv, [.t 0], none⟩,
     ⟨some 6, (.call g_impl_mean), [.t 5], none⟩,
     ⟨some 7, (.call g_impl_lessOne), [.t 4, .t 6], none⟩,
     ⟨some 3, .mv, [.t 7], none⟩])
    (.seq
     (.region false [
      ⟨some 8, .mv, [.t 3], none⟩,
      ⟨some 9, .mv, [.t 3], none⟩,
      ⟨some 10, (.call g_impl_dot), [.t 8, .t 9], none⟩,
      ⟨some 2, .mv, [.t 10], none⟩])
     .ret)))

abbrev Is_impl_squares (P : Program) (g_f : FuncId) (g_impl_mean g_impl_lessOne g_impl_dot : FuncId) : Prop := FnIs P g_f 11 [.t 2] (b_impl_squares g_impl_mean g_impl_lessOne g_impl_dot)

abbrev C_impl_squares (P : Program) (g_f : FuncId) : Prop := ∀ (xs : List Nat) (hx : xs.length ≤ 96), VCall P g_f [PS [0] .f32 xs] (.f .f32 (squaresM xs))
def oc1_impl_squares (as : List AV) : T AV := match as with | [.sl _ _ (.f .f32 xs)] => .leaf (.f .f32 (squaresM xs)) | _ => .fail
def oc_impl_squares (xs : List Nat) (d : Nat) (as : List AV) : T AV := match d with | 6 => oc1_impl_mean as | 7 => oc1_impl_lessOne as | 10 => oc1_impl_dot as | _ => .fail



theorem q_impl_squares {P : Program} {g_f : FuncId} {g_impl_mean g_impl_lessOne g_impl_dot : FuncId} (h_ : Is_impl_squares P g_f g_impl_mean g_impl_lessOne g_impl_dot) (xs : List Nat) (ht : T.ok (fun x_ => x_ = .f .f32 (squaresM xs)) (
      T.ob ((VCall P) g_impl_mean [AV.sl (Tag.par [0]) 0 (Cont.f FloatKind.f32 xs)] (AV.f FloatKind.f32 (meanM xs)))
        (T.ob ((VCall P) g_impl_lessOne [AV.sl (Tag.par [0]) 0 (Cont.f FloatKind.f32 xs), AV.f FloatKind.f32 (meanM xs)] (AV.sl (Tag.own 0) 0 (Cont.f FloatKind.f32 (lessOneM xs (meanM xs)))))
          (T.ob
            ((VCall P) g_impl_dot [AV.sl (Tag.par [0]) 0 (Cont.f FloatKind.f32 (lessOneM xs (meanM xs))), AV.sl (Tag.par [1]) 0 (Cont.f FloatKind.f32 (lessOneM xs (meanM xs)))]
              (AV.f FloatKind.f32 (dotM (lessOneM xs (meanM xs)) (lessOneM xs (meanM xs)))))
            (T.leaf (AV.f FloatKind.f32 (dotM (lessOneM xs (meanM xs)) (lessOneM xs (meanM xs))))))))) :
    VCall P g_f [PS [0] .f32 xs] (.f .f32 (squaresM xs)) := h_.call_of ps_impl_squares ⟨oc_impl_squares xs, fun _ _ => none⟩ (by kernel_rfl) ht


/-- spec.l02Less: slots 24, results [.t 4]; calls []; names [(list, 0), (x, 1), (list, 2), (x, 3), (out, 5), (i, 6)] -/
def ps_spec_l02Less : List Nat := [0, 1, 4, 5, 6, 11]
def lv_spec_l02Less_L0 : List Nat := [0, 1, 5, 6]
def b_spec_l02Less_L0 : VCode :=
  (.seq
   (.seq
    (.region false [
     ⟨some 8, .mv, [.t 6], none⟩,
     ⟨some 9, .mv, [.t 0], none⟩,
     ⟨some 10, .len, [.t 9], none⟩,
     ⟨some 11, (.bin .lss), [.t 8, .t 10], none⟩])
    (.cond (.t 11)
     .skip
     (.exit 0)))
   (.seq
    (.block 1
     (.region false [
      ⟨some 14, .mv, [.t 5], none⟩,
      ⟨some 15, .mv, [.t 0], none⟩,
      ⟨some 16, .mv, [.t 6], none⟩,
      ⟨some 17, .iaddr, [.t 15, .t 16], none⟩,
      ⟨some 18, .load, [.t 17], none⟩,
      ⟨some 19, .mv, [.t 1], none⟩,
      ⟨some 20, (.bin .sub), [.t 18, .t 19], none⟩,
      ⟨some 21, (.lit true (.f .f32 [])), [.t 20], none⟩,
      ⟨some 22, .app, [.t 14, .t 21], none⟩,
      ⟨some 5, .mv, [.t 22], none⟩]))
    (.region false [
     ⟨some 12, .mv, [.t 6], none⟩,
     ⟨some 13, (.bin .add), [.t 12, .k (.i .i64 1)], none⟩,
     ⟨some 6, .mv, [.t 13], none⟩])))

def b_spec_l02Less : VCode :=
  (.seq
   (.region false [
    ⟨some 4, (.nilsl (.f .f32 [])), [], none⟩])
   (.seq
    (.region false [
     ⟨some 7, (.lit true (.f .f32 [])), [], none⟩,
     ⟨some 5, .mv, [.t 7], none⟩])
    (.seq
     (.seq
      (.region false [
       ⟨some 6, .mv, [.k (.i .i64 0)], none⟩])
      (.block 0 (.loop b_spec_l02Less_L0)))
     (.seq
      (.region false [
       ⟨some 23, .mv, [.t 5], none⟩,
       ⟨some 4, .mv, [.t 23], none⟩])
      .ret))))

abbrev Is_spec_l02Less (P : Program) (g_f : FuncId) : Prop := FnIs P g_f 24 [.t 4] (b_spec_l02Less)

abbrev C_spec_l02Less (P : Program) (g_f : FuncId) : Prop := ∀ (xs : List Nat) (m : Nat) (hx : xs.length ≤ 4294967295), VCall P g_f [PS [0] .f32 xs, .f .f32 m] (OS 0 .f32 (lessOneM xs m))
def oc1_spec_l02Less (as : List AV) : T AV := match as with | [.sl _ _ (.f .f32 xs), .f .f32 m] => .leaf (OS 0 .f32 (lessOneM xs m)) | _ => .fail
def h_spec_l02Less_L0 (xs : List Nat) (m : Nat) (out : List Nat) (i : Int) : Env := [AV.sl (Tag.par [0]) 0 (Cont.f FloatKind.f32 xs), AV.f FloatKind.f32 m, .any, .any, .any, .sl (Tag.own 56) 0 (.f FloatKind.f32 out), .i IntKind.i64 i] ++ anys 17

theorem q_spec_l02Less_L0 {VC : FuncId → List AV → AV → Prop} (xs : List Nat) (m : Nat) (out : List Nat) (i : Int) {e_ : Ex} {σ_ : Env} (ht : T.ok (fun x_ => x_ = (e_, σ_)) (
      T.ite (decide (i < (↑(List.length xs) : Int)))
        (T.ob (0 ≤ i ∧ i < (↑(List.length xs) : Int))
          (T.ob (List.length out + List.length [fsub FloatKind.f32 (List.getD xs (Int.toNat i) 0) m] ≤ 4294967296)
            (T.leaf (Ex.normal, h_spec_l02Less_L0 xs m (out ++ [fsub FloatKind.f32 (List.getD xs (Int.toNat i) 0) m]) (IntKind.wrap IntKind.i64 (i + 1))))))
        (T.leaf (Ex.exit 0, h_spec_l02Less_L0 xs m out i)))) :
    Exec VC ps_spec_l02Less (b_spec_l02Less_L0) (h_spec_l02Less_L0 xs m out i) e_ σ_ := evL_of (lv := lv_spec_l02Less_L0) (rs := [4]) (O := ⟨fun _ _ => .fail, fun _ _ => none⟩) (by kernel_rfl) ht

theorem q_spec_l02Less {P : Program} {g_f : FuncId} (h_ : Is_spec_l02Less P g_f) (xs : List Nat) (m : Nat) (ht : T.ok (fun x_ => x_ = OS 0 .f32 (lessOneM xs m)) (
      T.ob (Exec (VCall P) ps_spec_l02Less (VCode.block 0 (VCode.loop b_spec_l02Less_L0)) (h_spec_l02Less_L0 xs m [] 0) Ex.normal (h_spec_l02Less_L0 xs m (lessOneM xs m) (↑(List.length xs) : Int)))
        (T.leaf (AV.sl (Tag.own 0) 0 (Cont.f FloatKind.f32 (lessOneM xs m)))))) :
    VCall P g_f [PS [0] .f32 xs, .f .f32 m] (OS 0 .f32 (lessOneM xs m)) := h_.call_of ps_spec_l02Less ⟨fun _ _ => .fail, fun id σ => match id with | 0 => some (lv_spec_l02Less_L0, .leaf (.normal, h_spec_l02Less_L0 xs m (lessOneM xs m) xs.length)) | _ => none⟩ (by kernel_rfl) ht


/-- spec.l02Dot: slots 25, results [.t 4]; calls []; names [(a, 0), (b, 1), (a, 2), (b, 3), (sum, 5), (i, 6)] -/
def ps_spec_l02Dot : List Nat := [0, 1, 4, 5, 6, 10]
def lv_spec_l02Dot_L0 : List Nat := [0, 1, 5, 6]
def b_spec_l02Dot_L0 : VCode :=
  (.seq
   (.seq
    (.region false [
     ⟨some 7, .mv, [.t 6], none⟩,
     ⟨some 8, .mv, [.t 0], none⟩,
     ⟨some 9, .len, [.t 8], none⟩,
     ⟨some 10, (.bin .lss), [.t 7, .t 9], none⟩])
    (.cond (.t 10)
     .skip
     (.exit 0)))
   (.seq
    (.block 1
     (.region true [
      ⟨some 13, .mv, [.t 5], none⟩,
      ⟨some 14, .mv, [.t 0], none⟩,
      ⟨some 15, .mv, [.t 6], none⟩,
      ⟨some 16, .iaddr, [.t 14, .t 15], none⟩,
      ⟨some 17, .load, [.t 16], none⟩,
      ⟨some 18, .mv, [.t 1], none⟩,
      ⟨some 19, .mv, [.t 6], none⟩,
      ⟨some 20, .iaddr, [.t 18, .t 19], none⟩,
      ⟨some 21, .load, [.t 20], none⟩,
      ⟨some 22, (.bin .mul), [.t 17, .t 21], none⟩,
      ⟨some 23, (.bin .add), [.t 13, .t 22], none⟩,
      ⟨some 5, .mv, [.t 23], none⟩]))
    (.region false [
     ⟨some 11, .mv, [.t 6], none⟩,
     ⟨some 12, (.bin .add), [.t 11, .k (.i .i64 1)], none⟩,
     ⟨some 6, .mv, [.t 12], none⟩])))

def b_spec_l02Dot : VCode :=
  (.seq
   (.region false [
    ⟨some 4, .mv, [.k (.f .f32 0)], none⟩])
   (.seq
    (.region false [
     ⟨some 5, .mv, [.k (.f .f32 0)], none⟩])
    (.seq
     (.seq
      (.region false [
       ⟨some 6, .mv, [.k (.i .i64 0)], none⟩])
      (.block 0 (.loop b_spec_l02Dot_L0)))
     (.seq
      (.region false [
       ⟨some 24, .mv, [.t 5], none⟩,
       ⟨some 4, .mv, [.t 24], none⟩])
      .ret))))

abbrev Is_spec_l02Dot (P : Program) (g_f : FuncId) : Prop := FnIs P g_f 25 [.t 4] (b_spec_l02Dot)

abbrev C_spec_l02Dot (P : Program) (g_f : FuncId) : Prop := ∀ (xs : List Nat) (ys : List Nat) (hy : xs.length ≤ ys.length) (hx : xs.length ≤ maxLen), VCall P g_f [PS [0] .f32 xs, PS [1] .f32 ys] (.f .f32 (dotM xs ys))
def oc1_spec_l02Dot (as : List AV) : T AV := match as with | [.sl _ _ (.f .f32 xs), .sl _ _ (.f .f32 ys)] => .leaf (.f .f32 (dotM xs ys)) | _ => .fail
def h_spec_l02Dot_L0 (xs : List Nat) (ys : List Nat) (sum : Nat) (i : Int) : Env := [AV.sl (Tag.par [0]) 0 (Cont.f FloatKind.f32 xs), AV.sl (Tag.par [1]) 0 (Cont.f FloatKind.f32 ys), .any, .any, .any, .f FloatKind.f32 sum, .i IntKind.i64 i] ++ anys 18

theorem q_spec_l02Dot_L0 {VC : FuncId → List AV → AV → Prop} (xs : List Nat) (ys : List Nat) (sum : Nat) (i : Int) {e_ : Ex} {σ_ : Env} (ht : T.ok (fun x_ => x_ = (e_, σ_)) (
      T.ite (decide (i < (↑(List.length xs) : Int)))
        (T.ob (0 ≤ i ∧ i < (↑(List.length xs) : Int))
          (T.ob (0 ≤ i ∧ i < (↑(List.length ys) : Int))
            (T.leaf (Ex.normal, h_spec_l02Dot_L0 xs ys (fadd FloatKind.f32 sum (fmul FloatKind.f32 (List.getD xs (Int.toNat i) 0) (List.getD ys (Int.toNat i) 0))) (IntKind.wrap IntKind.i64 (i + 1))))))
        (T.leaf (Ex.exit 0, h_spec_l02Dot_L0 xs ys sum i)))) :
    Exec VC ps_spec_l02Dot (b_spec_l02Dot_L0) (h_spec_l02Dot_L0 xs ys sum i) e_ σ_ := evL_of (lv := lv_spec_l02Dot_L0) (rs := [4]) (O := ⟨fun _ _ => .fail, fun _ _ => none⟩) (by kernel_rfl) ht

theorem q_spec_l02Dot {P : Program} {g_f : FuncId} (h_ : Is_spec_l02Dot P g_f) (xs : List Nat) (ys : List Nat) (ht : T.ok (fun x_ => x_ = .f .f32 (dotM xs ys)) (
      T.ob (Exec (VCall P) ps_spec_l02Dot (VCode.block 0 (VCode.loop b_spec_l02Dot_L0)) (h_spec_l02Dot_L0 xs ys 0 0) Ex.normal (h_spec_l02Dot_L0 xs ys (dotM xs ys) (↑(List.length xs) : Int)))
        (T.leaf (AV.f FloatKind.f32 (dotM xs ys))))) :
    VCall P g_f [PS [0] .f32 xs, PS [1] .f32 ys] (.f .f32 (dotM xs ys)) := h_.call_of ps_spec_l02Dot ⟨fun _ _ => .fail, fun id σ => match id with | 0 => some (lv_spec_l02Dot_L0, .leaf (.normal, h_spec_l02Dot_L0 xs ys (dotM xs ys) xs.length)) | _ => none⟩ (by kernel_rfl) ht


/-- spec.l02Squares: slots 11, results [.t 2]; calls [6:g_spec_l02Mean, 7:g_spec_l02Less, 10:g_spec_l02Dot]; names [(list, 0), (list, 1), (rest, 3)] -/
def ps_spec_l02Squares : List Nat := [0, 2, 3]
def b_spec_l02Squares (g_spec_l02Mean g_spec_l02Less g_spec_l02Dot : FuncId) : VCode :=
  (.seq
   (.region false [
    ⟨some 2, .mv, [.k (.f .f32 0)], none⟩])
   (.seq
    (.region false [
     ⟨some 4, .mv, [.t 0], none⟩,
     ⟨some 5, .mv, [.t 0], none⟩,
     ⟨some 6, (.call g_spec_l02Mean), [.t 5], none⟩,
     ⟨some 7, (.call g_spec_l02Less), [.t 4, .t 6], none⟩,
     ⟨some 3, .mv, [.t 7], none⟩])
    (.seq
     (.region false [
      ⟨some 8, .mv, [.t 3], none⟩,
      ⟨some 9, .mv, [.t 3], none⟩,
      ⟨some 10, (.call g_spec_l02Dot), [.t 8, .t 9], none⟩,
      ⟨some 2, .mv, [.t 10], none⟩])
     .ret)))

abbrev Is_spec_l02Squares (P : Program) (g_f : FuncId) (g_spec_l02Mean g_spec_l02Less g_spec_l02Dot : FuncId) : Prop := FnIs P g_f 11 [.t 2] (b_spec_l02Squares g_spec_l02Mean g_spec_l02Less g_spec_l02Dot)

abbrev C_spec_l02Squares (P : Program) (g_f : FuncId) : Prop := ∀ (xs : List Nat) (hx : xs.length ≤ 96), VCall P g_f [PS [0] .f32 xs] (.f .f32 (squaresM xs))
def oc1_spec_l02Squares (as : List AV) : T AV := match as with | [.sl _ _ (.f .f32 xs)] => .leaf (.f .f32 (squaresM xs)) | _ => .fail
def oc_spec_l02Squares (xs : List Nat) (d : Nat) (as : List AV) : T AV := match d with | 6 => oc1_spec_l02Mean as | 7 => oc1_spec_l02Less as | 10 => oc1_spec_l02Dot as | _ => .fail



theorem q_spec_l02Squares {P : Program} {g_f : FuncId} {g_spec_l02Mean g_spec_l02Less g_spec_l02Dot : FuncId} (h_ : Is_spec_l02Squares P g_f g_spec_l02Mean g_spec_l02Less g_spec_l02Dot) (xs : List Nat) (ht : T.ok (fun x_ => x_ = .f .f32 (squaresM xs)) (
      T.ob ((VCall P) g_spec_l02Mean [AV.sl (Tag.par [0]) 0 (Cont.f FloatKind.f32 xs)] (AV.f FloatKind.f32 (meanM xs)))
        (T.ob ((VCall P) g_spec_l02Less [AV.sl (Tag.par [0]) 0 (Cont.f FloatKind.f32 xs), AV.f FloatKind.f32 (meanM xs)] (AV.sl (Tag.own 0) 0 (Cont.f FloatKind.f32 (lessOneM xs (meanM xs)))))
          (T.ob
            ((VCall P) g_spec_l02Dot [AV.sl (Tag.par [0]) 0 (Cont.f FloatKind.f32 (lessOneM xs (meanM xs))), AV.sl (Tag.par [1]) 0 (Cont.f FloatKind.f32 (lessOneM xs (meanM xs)))]
              (AV.f FloatKind.f32 (dotM (lessOneM xs (meanM xs)) (lessOneM xs (meanM xs)))))
            (T.leaf (AV.f FloatKind.f32 (dotM (lessOneM xs (meanM xs)) (lessOneM xs (meanM xs))))))))) :
    VCall P g_f [PS [0] .f32 xs] (.f .f32 (squaresM xs)) := h_.call_of ps_spec_l02Squares ⟨oc_spec_l02Squares xs, fun _ _ => none⟩ (by kernel_rfl) ht


/-- impl.StepOf: slots 59, results [.t 2, .t 3, .t 4]; calls [11:g_impl_IsSeries, 27:g_impl_squares, 31:g_impl_squares, 34:g_impl_IsFinite, 48:g_impl_mean, 52:g_impl_mean, 55:g_impl_IsFinite]; names [(list, 0), (list, 1), (best, 5), (least, 6), (i, 7), (sum, 8), (step, 9)] -/
def ps_impl_StepOf : List Nat := [0, 2, 3, 4, 5, 6, 7, 8, 9, 17, 21, 35, 42, 56]
def lv_impl_StepOf_L0 : List Nat := [0, 5, 6, 7]
def b_impl_StepOf_L0 (g_impl_IsSeries g_impl_squares g_impl_IsFinite g_impl_mean : FuncId) : VCode :=
  (.seq
   (.seq
    (.region false [
     ⟨some 18, .mv, [.t 7], none⟩,
     ⟨some 19, .mv, [.t 0], none⟩,
     ⟨some 20, .len, [.t 19], none⟩,
     ⟨some 21, (.bin .lss), [.t 18, .t 20], none⟩])
    (.cond (.t 21)
     .skip
     (.exit 0)))
   (.seq
    (.block 1
     (.seq
      (.region true [
       ⟨some 24, .mv, [.t 0], none⟩,
       ⟨some 25, .mv, [.t 7], none⟩,
       ⟨some 26, (.slice false true false), [.t 24, .t 25], none⟩,
       ⟨some 27, (.call g_impl_squares), [.t 26], none⟩,
       ⟨some 28, .mv, [.t 0], none⟩,
       ⟨some 29, .mv, [.t 7], none⟩,
       ⟨some 30, (.slice true false false), [.t 28, .t 29], none⟩,
       ⟨some 31, (.call g_impl_squares), [.t 30], none⟩,
       ⟨some 32, (.bin .add), [.t 27, .t 31], none⟩,
       ⟨some 8, .mv, [.t 32], none⟩])
      (.seq
       (.seq
        (.region false [
         ⟨some 33, .mv, [.t 8], none⟩,
         ⟨some 34, (.call g_impl_IsFinite), [.t 33], none⟩,
         ⟨some 35, .not, [.t 34], none⟩])
        (.cond (.t 35)
         (.seq
          (.region false [
           ⟨some 2, .mv, [.k (.i .i64 0)], none⟩,
           ⟨some 3, .mv, [.k (.f .f32 0)], none⟩,
           ⟨some 4, .mv, [.k (.b false)], none⟩])
          .ret)
         .skip))
       (.seq
        (.region false [
         ⟨some 36, .mv, [.t 5], none⟩,
         ⟨some 37, (.bin .eql), [.t 36, .k (.i .i64 0)], none⟩,
         ⟨some 38, .mv, [.t 37], none⟩,
         ⟨some 39, .mv, [.t 8], some (38, false)⟩,
         ⟨some 40, .mv, [.t 6], some (38, false)⟩,
         ⟨some 41, (.bin .lss), [.t 39, .t 40], some (38, false)⟩,
         ⟨some 42, .pick, [.t 38, .k (.b true), .t 41], none⟩])
        (.cond (.t 42)
         (.region false [
          ⟨some 43, .mv, [.t 7], none⟩,
          ⟨some 44, .mv, [.t 8], none⟩,
          ⟨some 5, .mv, [.t 43], none⟩,
          ⟨some 6, .mv, [.t 44], none⟩])
         .skip)))))
    (.region false [
     ⟨some 22, .mv, [.t 7], none⟩,
     ⟨some 23, (.bin .add), [.t 22, .k (.i .i64 1)], none⟩,
     ⟨some 7, .mv, [.t 23], none⟩])))

def b_impl_StepOf (g_impl_IsSeries g_impl_squares g_impl_IsFinite g_impl_mean : FuncId) : VCode :=
  (.seq
   (.region false [
    ⟨some 2, .mv, [.k (.i .i64 0)], none⟩,
    ⟨some 3, .mv, [.k (.f .f32 0)], none⟩,
    ⟨some 4, .mv, [.k (.b false)], none⟩])
   (.seq
    (.seq
     (.region false [
      ⟨some 10, .mv, [.t 0], none⟩,
      ⟨some 11, (.call g_impl_IsSeries), [.t 10], none⟩,
      ⟨some 12, .not, [.t 11], none⟩,
      ⟨some 13, .mv, [.t 12], none⟩,
      ⟨some 14, .mv, [.t 0], some (13, false)⟩,
      ⟨some 15, .len, [.t 14], some (13, false)⟩,
      ⟨some 16, (.bin .lss), [.t 15, .k (.i .i64 2)], some (13, false)⟩,
      ⟨some 17, .pick, [.t 13, .k (.b true), .t 16], none⟩])
     (.cond (.t 17)
      (.seq
       (.region false [
        ⟨some 2, .mv, [.k (.i .i64 0)], none⟩,
        ⟨some 3, .mv, [.k (.f .f32 0)], none⟩,
        ⟨some 4, .mv, [.k (.b false)], none⟩])
       .ret)
      .skip))
    (.seq
     (.region false [
      ⟨some 5, .mv, [.k (.i .i64 0)], none⟩,
      ⟨some 6, .mv, [.k (.f .f32 0)], none⟩])
     (.seq
      (.seq
       (.region false [
        ⟨some 7, .mv, [.k (.i .i64 1)], none⟩])
       (.block 0 (.loop (b_impl_StepOf_L0 g_impl_IsSeries g_impl_squares g_impl_IsFinite g_impl_mean))))
      (.seq
       (.region true [
        ⟨some 45, .mv, [.t 0], none⟩,
        ⟨some 46, .mv, [.t 5], none⟩,
        ⟨some 47, (.slice true false false), [.t 45, .t 46], none⟩,
        ⟨some 48, (.call g_impl_mean), [.t 47], none⟩,
        ⟨some 49, .mv, [.t 0], none⟩,
        ⟨some 50, .mv, [.t 5], none⟩,
        ⟨some 51, (.slice false true false), [.t 49, .t 50], none⟩,
        ⟨some 52, (.call g_impl_mean), [.t 51], none⟩,
        ⟨some 53, (.bin .sub), [.t 48, .t 52], none⟩,
        ⟨some 9, .mv, [.t 53], none⟩])
       (.seq
        (.seq
         (.region false [
          ⟨some 54, .mv, [.t 9], none⟩,
          ⟨some 55, (.call g_impl_IsFinite), [.t 54], none⟩,
          ⟨some 56, .not, [.t 55], none⟩])
         (.cond (.t 56)
          (.seq
           (.region false [
            ⟨some 2, .mv, [.k (.i .i64 0)], none⟩,
            ⟨some 3, .mv, [.k (.f .f32 0)], none⟩,
            ⟨some 4, .mv, [.k (.b false)], none⟩])
           .ret)
          .skip))
        (.seq
         (.region false [
          ⟨some 57, .mv, [.t 5], none⟩,
          ⟨some 58, .mv, [.t 9], none⟩,
          ⟨some 2, .mv, [.t 57], none⟩,
          ⟨some 3, .mv, [.t 58], none⟩,
          ⟨some 4, .mv, [.k (.b true)], none⟩])
         .ret)))))))

abbrev Is_impl_StepOf (P : Program) (g_f : FuncId) (g_impl_IsSeries g_impl_squares g_impl_IsFinite g_impl_mean : FuncId) : Prop := FnIs P g_f 59 [.t 2, .t 3, .t 4] (b_impl_StepOf g_impl_IsSeries g_impl_squares g_impl_IsFinite g_impl_mean)

abbrev C_impl_StepOf (P : Program) (g_f : FuncId) : Prop := ∀ (xs : List Nat) (hx : xs.length ≤ maxLen), VCall P g_f [PS [0] .f32 xs] (.tup [.i .i64 (if stepOk xs = true then stepBest xs else 0 : Nat), .f .f32 (if stepOk xs = true then stepBy xs else 0), .b (stepOk xs)])
def oc1_impl_StepOf (as : List AV) : T AV := match as with | [.sl _ _ (.f .f32 xs)] => .leaf (.tup [.i .i64 (if stepOk xs = true then stepBest xs else 0 : Nat), .f .f32 (if stepOk xs = true then stepBy xs else 0), .b (stepOk xs)]) | _ => .fail
def oc_impl_StepOf (xs : List Nat) (d : Nat) (as : List AV) : T AV := match d with | 11 => oc1_impl_IsSeries as | 27 => oc1_impl_squares as | 31 => oc1_impl_squares as | 34 => oc1_impl_IsFinite as | 48 => oc1_impl_mean as | 52 => oc1_impl_mean as | 55 => oc1_impl_IsFinite as | _ => .fail
def h_impl_StepOf_L0 (xs : List Nat) (best : Int) (least : Nat) (i : Int) : Env := [AV.sl (Tag.par [0]) 0 (Cont.f FloatKind.f32 xs)] ++ anys 4 ++ [.i IntKind.i64 best, .f FloatKind.f32 least, .i IntKind.i64 i] ++ anys 51

theorem q_impl_StepOf_L0 {VC : FuncId → List AV → AV → Prop} {g_impl_IsSeries g_impl_squares g_impl_IsFinite g_impl_mean : FuncId} (xs : List Nat) (best : Int) (least : Nat) (i : Int) {e_ : Ex} {σ_ : Env} (ht : T.ok (fun x_ => x_ = (e_, σ_)) (
      T.ite (decide (i < (↑(List.length xs) : Int)))
        (T.ob (0 ≤ i ∧ i ≤ (↑(List.length xs) : Int))
          (T.ob (VC g_impl_squares [AV.sl (Tag.par [0]) 0 (Cont.f FloatKind.f32 (List.take (Int.toNat i) (List.drop 0 xs)))] (AV.f FloatKind.f32 (squaresM (List.take (Int.toNat i) (List.drop 0 xs)))))
            (T.ob (0 ≤ i ∧ i ≤ (↑(List.length xs) : Int))
              (T.ob
                (VC g_impl_squares [AV.sl (Tag.par [0]) 0 (Cont.f FloatKind.f32 (List.take (List.length xs - Int.toNat i) (List.drop (Int.toNat i) xs)))]
                  (AV.f FloatKind.f32 (squaresM (List.take (List.length xs - Int.toNat i) (List.drop (Int.toNat i) xs)))))
                (T.ob
                  (VC g_impl_IsFinite [AV.f FloatKind.f32 (fadd FloatKind.f32 (squaresM (List.take (Int.toNat i) (List.drop 0 xs))) (squaresM (List.take (List.length xs - Int.toNat i) (List.drop (Int.toNat i) xs))))]
                    (AV.b (finM (fadd FloatKind.f32 (squaresM (List.take (Int.toNat i) (List.drop 0 xs))) (squaresM (List.take (List.length xs - Int.toNat i) (List.drop (Int.toNat i) xs)))))))
                  (T.ite (!finM (fadd FloatKind.f32 (squaresM (List.take (Int.toNat i) (List.drop 0 xs))) (squaresM (List.take (List.length xs - Int.toNat i) (List.drop (Int.toNat i) xs)))))
                    (T.leaf (Ex.ret, AV.any :: AV.any :: AV.i IntKind.i64 0 :: AV.f FloatKind.f32 0 :: AV.b false :: anys 54))
                    (T.ite (best == 0)
                      (T.leaf
                        (Ex.normal,
                          h_impl_StepOf_L0 xs i (fadd FloatKind.f32 (squaresM (List.take (Int.toNat i) (List.drop 0 xs))) (squaresM (List.take (List.length xs - Int.toNat i) (List.drop (Int.toNat i) xs))))
                            (IntKind.wrap IntKind.i64 (i + 1))))
                      (T.ite (flt FloatKind.f32 (fadd FloatKind.f32 (squaresM (List.take (Int.toNat i) (List.drop 0 xs))) (squaresM (List.take (List.length xs - Int.toNat i) (List.drop (Int.toNat i) xs)))) least)
                        (T.leaf
                          (Ex.normal,
                            h_impl_StepOf_L0 xs i (fadd FloatKind.f32 (squaresM (List.take (Int.toNat i) (List.drop 0 xs))) (squaresM (List.take (List.length xs - Int.toNat i) (List.drop (Int.toNat i) xs))))
                              (IntKind.wrap IntKind.i64 (i + 1))))
                        (T.leaf (Ex.normal, h_impl_StepOf_L0 xs best least (IntKind.wrap IntKind.i64 (i + 1))))))))))))
        (T.leaf (Ex.exit 0, h_impl_StepOf_L0 xs best least i)))) :
    Exec VC ps_impl_StepOf (b_impl_StepOf_L0 g_impl_IsSeries g_impl_squares g_impl_IsFinite g_impl_mean) (h_impl_StepOf_L0 xs best least i) e_ σ_ := evL_of (lv := lv_impl_StepOf_L0) (rs := [2, 3, 4]) (O := ⟨oc_impl_StepOf xs, fun _ _ => none⟩) (by kernel_rfl) ht

theorem q_impl_StepOf {P : Program} {g_f : FuncId} {g_impl_IsSeries g_impl_squares g_impl_IsFinite g_impl_mean : FuncId} (h_ : Is_impl_StepOf P g_f g_impl_IsSeries g_impl_squares g_impl_IsFinite g_impl_mean) (xs : List Nat) (ht : T.ok (fun x_ => x_ = .tup [.i .i64 (if stepOk xs = true then stepBest xs else 0 : Nat), .f .f32 (if stepOk xs = true then stepBy xs else 0), .b (stepOk xs)]) (
      T.ob ((VCall P) g_impl_IsSeries [AV.sl (Tag.par [0]) 0 (Cont.f FloatKind.f32 xs)] (AV.b (seriesM xs)))
        (T.ite (!seriesM xs) (T.leaf (AV.tup [AV.i IntKind.i64 0, AV.f FloatKind.f32 0, AV.b false]))
          (T.ite (decide ((↑(List.length xs) : Int) < 2)) (T.leaf (AV.tup [AV.i IntKind.i64 0, AV.f FloatKind.f32 0, AV.b false]))
            (T.ite (stepFin xs)
              (T.ob
                (Exec (VCall P) ps_impl_StepOf (VCode.block 0 (VCode.loop (b_impl_StepOf_L0 g_impl_IsSeries g_impl_squares g_impl_IsFinite g_impl_mean))) (h_impl_StepOf_L0 xs 0 0 1) Ex.normal
                  (h_impl_StepOf_L0 xs (↑(stepBest xs) : Int) (Prod.snd (stepAt xs (List.length xs - 1))) (↑(List.length xs) : Int)))
                (T.ob (0 ≤ (↑(stepBest xs) : Int) ∧ (↑(stepBest xs) : Int) ≤ (↑(List.length xs) : Int))
                  (T.ob
                    ((VCall P) g_impl_mean [AV.sl (Tag.par [0]) 0 (Cont.f FloatKind.f32 (List.take (List.length xs - Int.toNat (↑(stepBest xs) : Int)) (List.drop (Int.toNat (↑(stepBest xs) : Int)) xs)))]
                      (AV.f FloatKind.f32 (meanM (List.take (List.length xs - Int.toNat (↑(stepBest xs) : Int)) (List.drop (Int.toNat (↑(stepBest xs) : Int)) xs)))))
                    (T.ob (0 ≤ (↑(stepBest xs) : Int) ∧ (↑(stepBest xs) : Int) ≤ (↑(List.length xs) : Int))
                      (T.ob
                        ((VCall P) g_impl_mean [AV.sl (Tag.par [0]) 0 (Cont.f FloatKind.f32 (List.take (Int.toNat (↑(stepBest xs) : Int)) (List.drop 0 xs)))]
                          (AV.f FloatKind.f32 (meanM (List.take (Int.toNat (↑(stepBest xs) : Int)) (List.drop 0 xs)))))
                        (T.ob
                          ((VCall P) g_impl_IsFinite
                            [AV.f FloatKind.f32
                                (fsub FloatKind.f32 (meanM (List.take (List.length xs - Int.toNat (↑(stepBest xs) : Int)) (List.drop (Int.toNat (↑(stepBest xs) : Int)) xs)))
                                  (meanM (List.take (Int.toNat (↑(stepBest xs) : Int)) (List.drop 0 xs))))]
                            (AV.b
                              (finM
                                (fsub FloatKind.f32 (meanM (List.take (List.length xs - Int.toNat (↑(stepBest xs) : Int)) (List.drop (Int.toNat (↑(stepBest xs) : Int)) xs)))
                                  (meanM (List.take (Int.toNat (↑(stepBest xs) : Int)) (List.drop 0 xs)))))))
                          (T.ite
                            (!finM
                                (fsub FloatKind.f32 (meanM (List.take (List.length xs - Int.toNat (↑(stepBest xs) : Int)) (List.drop (Int.toNat (↑(stepBest xs) : Int)) xs)))
                                  (meanM (List.take (Int.toNat (↑(stepBest xs) : Int)) (List.drop 0 xs)))))
                            (T.leaf (AV.tup [AV.i IntKind.i64 0, AV.f FloatKind.f32 0, AV.b false]))
                            (T.leaf
                              (AV.tup
                                [AV.i IntKind.i64 (↑(stepBest xs) : Int),
                                  AV.f FloatKind.f32
                                    (fsub FloatKind.f32 (meanM (List.take (List.length xs - Int.toNat (↑(stepBest xs) : Int)) (List.drop (Int.toNat (↑(stepBest xs) : Int)) xs)))
                                      (meanM (List.take (Int.toNat (↑(stepBest xs) : Int)) (List.drop 0 xs)))),
                                  AV.b true])))))))))
              (T.ob
                (Exec (VCall P) ps_impl_StepOf (VCode.block 0 (VCode.loop (b_impl_StepOf_L0 g_impl_IsSeries g_impl_squares g_impl_IsFinite g_impl_mean))) (h_impl_StepOf_L0 xs 0 0 1) Ex.ret
                  (AV.any :: AV.any :: AV.i IntKind.i64 0 :: AV.f FloatKind.f32 0 :: AV.b false :: anys 54))
                (T.leaf (AV.tup [AV.i IntKind.i64 0, AV.f FloatKind.f32 0, AV.b false])))))))) :
    VCall P g_f [PS [0] .f32 xs] (.tup [.i .i64 (if stepOk xs = true then stepBest xs else 0 : Nat), .f .f32 (if stepOk xs = true then stepBy xs else 0), .b (stepOk xs)]) := h_.call_of ps_impl_StepOf ⟨oc_impl_StepOf xs, fun id σ => match id with | 0 => some (lv_impl_StepOf_L0, .ite (stepFin xs) (.leaf (.normal, h_impl_StepOf_L0 xs (stepBest xs) (stepAt xs (xs.length - 1)).2 xs.length)) (.leaf (.ret, .any :: .any :: .i .i64 0 :: .f .f32 0 :: .b false :: anys 54))) | _ => none⟩ (by kernel_rfl) ht


/-- spec.StepOf: slots 63, results [.t 2, .t 3, .t 4]; calls [12:g_spec_l02Series, 28:g_spec_l02Squares, 32:g_spec_l02Squares, 35:g_spec_l01Finite, 50:g_spec_l02Mean, 54:g_spec_l02Mean, 56:g_spec_l02Number]; names [(list, 0), (list, 1), (best, 5), (least, 6), (i, 7), (x, 8), (by, 9), (ok, 10)] -/
def ps_spec_StepOf : List Nat := [0, 2, 3, 4, 5, 6, 7, 8, 9, 10, 18, 22, 36, 43, 60]
def lv_spec_StepOf_L0 : List Nat := [0, 5, 6, 7]
def b_spec_StepOf_L0 (g_spec_l02Series g_spec_l02Squares g_spec_l01Finite g_spec_l02Mean g_spec_l02Number : FuncId) : VCode :=
  (.seq
   (.seq
    (.region false [
     ⟨some 19, .mv, [.t 7], none⟩,
     ⟨some 20, .mv, [.t 0], none⟩,
     ⟨some 21, .len, [.t 20], none⟩,
     ⟨some 22, (.bin .lss), [.t 19, .t 21], none⟩])
    (.cond (.t 22)
     .skip
     (.exit 0)))
   (.seq
    (.block 1
     (.seq
      (.region true [
       ⟨some 25, .mv, [.t 0], none⟩,
       ⟨some 26, .mv, [.t 7], none⟩,
       ⟨some 27, (.slice false true false), [.t 25, .t 26], none⟩,
       ⟨some 28, (.call g_spec_l02Squares), [.t 27], none⟩,
       ⟨some 29, .mv, [.t 0], none⟩,
       ⟨some 30, .mv, [.t 7], none⟩,
       ⟨some 31, (.slice true false false), [.t 29, .t 30], none⟩,
       ⟨some 32, (.call g_spec_l02Squares), [.t 31], none⟩,
       ⟨some 33, (.bin .add), [.t 28, .t 32], none⟩,
       ⟨some 8, .mv, [.t 33], none⟩])
      (.seq
       (.seq
        (.region false [
         ⟨some 34, .mv, [.t 8], none⟩,
         ⟨some 35, (.call g_spec_l01Finite), [.t 34], none⟩,
         ⟨some 36, .not, [.t 35], none⟩])
        (.cond (.t 36)
         (.seq
          (.region false [
           ⟨some 2, .mv, [.k (.i .i64 0)], none⟩,
           ⟨some 3, .mv, [.k (.f .f32 0)], none⟩,
           ⟨some 4, .mv, [.k (.b false)], none⟩])
          .ret)
         .skip))
       (.seq
        (.region false [
         ⟨some 37, .mv, [.t 7], none⟩,
         ⟨some 38, (.bin .eql), [.t 37, .k (.i .i64 1)], none⟩,
         ⟨some 39, .mv, [.t 38], none⟩,
         ⟨some 40, .mv, [.t 8], some (39, false)⟩,
         ⟨some 41, .mv, [.t 6], some (39, false)⟩,
         ⟨some 42, (.bin .lss), [.t 40, .t 41], some (39, false)⟩,
         ⟨some 43, .pick, [.t 39, .k (.b true), .t 42], none⟩])
        (.cond (.t 43)
         (.seq
          (.region false [
           ⟨some 44, .mv, [.t 7], none⟩,
           ⟨some 5, .mv, [.t 44], none⟩])
          (.region false [
           ⟨some 45, .mv, [.t 8], none⟩,
           ⟨some 6, .mv, [.t 45], none⟩]))
         .skip)))))
    (.region false [
     ⟨some 23, .mv, [.t 7], none⟩,
     ⟨some 24, (.bin .add), [.t 23, .k (.i .i64 1)], none⟩,
     ⟨some 7, .mv, [.t 24], none⟩])))

def b_spec_StepOf (g_spec_l02Series g_spec_l02Squares g_spec_l01Finite g_spec_l02Mean g_spec_l02Number : FuncId) : VCode :=
  (.seq
   (.region false [
    ⟨some 2, .mv, [.k (.i .i64 0)], none⟩,
    ⟨some 3, .mv, [.k (.f .f32 0)], none⟩,
    ⟨some 4, .mv, [.k (.b false)], none⟩])
   (.seq
    (.seq
     (.region false [
      ⟨some 11, .mv, [.t 0], none⟩,
      ⟨some 12, (.call g_spec_l02Series), [.t 11], none⟩,
      ⟨some 13, .not, [.t 12], none⟩,
      ⟨some 14, .mv, [.t 13], none⟩,
      ⟨some 15, .mv, [.t 0], some (14, false)⟩,
      ⟨some 16, .len, [.t 15], some (14, false)⟩,
      ⟨some 17, (.bin .lss), [.t 16, .k (.i .i64 2)], some (14, false)⟩,
      ⟨some 18, .pick, [.t 14, .k (.b true), .t 17], none⟩])
     (.cond (.t 18)
      (.seq
       (.region false [
        ⟨some 2, .mv, [.k (.i .i64 0)], none⟩,
        ⟨some 3, .mv, [.k (.f .f32 0)], none⟩,
        ⟨some 4, .mv, [.k (.b false)], none⟩])
       .ret)
      .skip))
    (.seq
     (.region false [
      ⟨some 5, .mv, [.k (.i .i64 0)], none⟩])
     (.seq
      (.region false [
       ⟨some 6, .mv, [.k (.f .f32 0)], none⟩])
      (.seq
       (.seq
        (.region false [
         ⟨some 7, .mv, [.k (.i .i64 1)], none⟩])
        (.block 0 (.loop (b_spec_StepOf_L0 g_spec_l02Series g_spec_l02Squares g_spec_l01Finite g_spec_l02Mean g_spec_l02Number))))
       (.seq
        (.region true [
         ⟨some 47, .mv, [.t 0], none⟩,
         ⟨some 48, .mv, [.t 5], none⟩,
         ⟨some 49, (.slice true false false), [.t 47, .t 48], none⟩,
         ⟨some 50, (.call g_spec_l02Mean), [.t 49], none⟩,
         ⟨some 51, .mv, [.t 0], none⟩,
         ⟨some 52, .mv, [.t 5], none⟩,
         ⟨some 53, (.slice false true false), [.t 51, .t 52], none⟩,
         ⟨some 54, (.call g_spec_l02Mean), [.t 53], none⟩,
         ⟨some 55, (.bin .sub), [.t 50, .t 54], none⟩,
         ⟨some 56, (.call g_spec_l02Number), [.t 55], none⟩,
         ⟨some 46, .mv, [.t 56], none⟩,
         ⟨some 57, (.extract 0), [.t 46], none⟩,
         ⟨some 58, (.extract 1), [.t 46], none⟩,
         ⟨some 9, .mv, [.t 57], none⟩,
         ⟨some 10, .mv, [.t 58], none⟩])
        (.seq
         (.seq
          (.region false [
           ⟨some 59, .mv, [.t 10], none⟩,
           ⟨some 60, .not, [.t 59], none⟩])
          (.cond (.t 60)
           (.seq
            (.region false [
             ⟨some 2, .mv, [.k (.i .i64 0)], none⟩,
             ⟨some 3, .mv, [.k (.f .f32 0)], none⟩,
             ⟨some 4, .mv, [.k (.b false)], none⟩])
            .ret)
           .skip))
         (.seq
          (.region false [
           ⟨some 61, .mv, [.t 5], none⟩,
           ⟨some 62, .mv, [.t 9], none⟩,
           ⟨some 2, .mv, [.t 61], none⟩,
           ⟨some 3, .mv, [.t 62], none⟩,
           ⟨some 4, .mv, [.k (.b true)], none⟩])
          .ret))))))))

abbrev Is_spec_StepOf (P : Program) (g_f : FuncId) (g_spec_l02Series g_spec_l02Squares g_spec_l01Finite g_spec_l02Mean g_spec_l02Number : FuncId) : Prop := FnIs P g_f 63 [.t 2, .t 3, .t 4] (b_spec_StepOf g_spec_l02Series g_spec_l02Squares g_spec_l01Finite g_spec_l02Mean g_spec_l02Number)

abbrev C_spec_StepOf (P : Program) (g_f : FuncId) : Prop := ∀ (xs : List Nat) (hx : xs.length ≤ maxLen), VCall P g_f [PS [0] .f32 xs] (.tup [.i .i64 (if stepOk xs = true then stepBest xs else 0 : Nat), .f .f32 (if stepOk xs = true then stepBy xs else 0), .b (stepOk xs)])
def oc1_spec_StepOf (as : List AV) : T AV := match as with | [.sl _ _ (.f .f32 xs)] => .leaf (.tup [.i .i64 (if stepOk xs = true then stepBest xs else 0 : Nat), .f .f32 (if stepOk xs = true then stepBy xs else 0), .b (stepOk xs)]) | _ => .fail
def oc_spec_StepOf (xs : List Nat) (d : Nat) (as : List AV) : T AV := match d with | 12 => oc1_spec_l02Series as | 28 => oc1_spec_l02Squares as | 32 => oc1_spec_l02Squares as | 35 => oc1_spec_l01Finite as | 50 => oc1_spec_l02Mean as | 54 => oc1_spec_l02Mean as | 56 => oc1_spec_l02Number as | _ => .fail
def h_spec_StepOf_L0 (xs : List Nat) (best : Int) (least : Nat) (i : Int) : Env := [AV.sl (Tag.par [0]) 0 (Cont.f FloatKind.f32 xs)] ++ anys 4 ++ [.i IntKind.i64 best, .f FloatKind.f32 least, .i IntKind.i64 i] ++ anys 55

theorem q_spec_StepOf_L0 {VC : FuncId → List AV → AV → Prop} {g_spec_l02Series g_spec_l02Squares g_spec_l01Finite g_spec_l02Mean g_spec_l02Number : FuncId} (xs : List Nat) (best : Int) (least : Nat) (i : Int) {e_ : Ex} {σ_ : Env} (ht : T.ok (fun x_ => x_ = (e_, σ_)) (
      T.ite (decide (i < (↑(List.length xs) : Int)))
        (T.ob (0 ≤ i ∧ i ≤ (↑(List.length xs) : Int))
          (T.ob (VC g_spec_l02Squares [AV.sl (Tag.par [0]) 0 (Cont.f FloatKind.f32 (List.take (Int.toNat i) (List.drop 0 xs)))] (AV.f FloatKind.f32 (squaresM (List.take (Int.toNat i) (List.drop 0 xs)))))
            (T.ob (0 ≤ i ∧ i ≤ (↑(List.length xs) : Int))
              (T.ob
                (VC g_spec_l02Squares [AV.sl (Tag.par [0]) 0 (Cont.f FloatKind.f32 (List.take (List.length xs - Int.toNat i) (List.drop (Int.toNat i) xs)))]
                  (AV.f FloatKind.f32 (squaresM (List.take (List.length xs - Int.toNat i) (List.drop (Int.toNat i) xs)))))
                (T.ob
                  (VC g_spec_l01Finite [AV.f FloatKind.f32 (fadd FloatKind.f32 (squaresM (List.take (Int.toNat i) (List.drop 0 xs))) (squaresM (List.take (List.length xs - Int.toNat i) (List.drop (Int.toNat i) xs))))]
                    (AV.b (finM (fadd FloatKind.f32 (squaresM (List.take (Int.toNat i) (List.drop 0 xs))) (squaresM (List.take (List.length xs - Int.toNat i) (List.drop (Int.toNat i) xs)))))))
                  (T.ite (!finM (fadd FloatKind.f32 (squaresM (List.take (Int.toNat i) (List.drop 0 xs))) (squaresM (List.take (List.length xs - Int.toNat i) (List.drop (Int.toNat i) xs)))))
                    (T.leaf (Ex.ret, AV.any :: AV.any :: AV.i IntKind.i64 0 :: AV.f FloatKind.f32 0 :: AV.b false :: anys 58))
                    (T.ite (i == 1)
                      (T.leaf
                        (Ex.normal,
                          h_spec_StepOf_L0 xs i (fadd FloatKind.f32 (squaresM (List.take (Int.toNat i) (List.drop 0 xs))) (squaresM (List.take (List.length xs - Int.toNat i) (List.drop (Int.toNat i) xs))))
                            (IntKind.wrap IntKind.i64 (i + 1))))
                      (T.ite (flt FloatKind.f32 (fadd FloatKind.f32 (squaresM (List.take (Int.toNat i) (List.drop 0 xs))) (squaresM (List.take (List.length xs - Int.toNat i) (List.drop (Int.toNat i) xs)))) least)
                        (T.leaf
                          (Ex.normal,
                            h_spec_StepOf_L0 xs i (fadd FloatKind.f32 (squaresM (List.take (Int.toNat i) (List.drop 0 xs))) (squaresM (List.take (List.length xs - Int.toNat i) (List.drop (Int.toNat i) xs))))
                              (IntKind.wrap IntKind.i64 (i + 1))))
                        (T.leaf (Ex.normal, h_spec_StepOf_L0 xs best least (IntKind.wrap IntKind.i64 (i + 1))))))))))))
        (T.leaf (Ex.exit 0, h_spec_StepOf_L0 xs best least i)))) :
    Exec VC ps_spec_StepOf (b_spec_StepOf_L0 g_spec_l02Series g_spec_l02Squares g_spec_l01Finite g_spec_l02Mean g_spec_l02Number) (h_spec_StepOf_L0 xs best least i) e_ σ_ := evL_of (lv := lv_spec_StepOf_L0) (rs := [2, 3, 4]) (O := ⟨oc_spec_StepOf xs, fun _ _ => none⟩) (by kernel_rfl) ht

theorem q_spec_StepOf {P : Program} {g_f : FuncId} {g_spec_l02Series g_spec_l02Squares g_spec_l01Finite g_spec_l02Mean g_spec_l02Number : FuncId} (h_ : Is_spec_StepOf P g_f g_spec_l02Series g_spec_l02Squares g_spec_l01Finite g_spec_l02Mean g_spec_l02Number) (xs : List Nat) (ht : T.ok (fun x_ => x_ = .tup [.i .i64 (if stepOk xs = true then stepBest xs else 0 : Nat), .f .f32 (if stepOk xs = true then stepBy xs else 0), .b (stepOk xs)]) (
      T.ob ((VCall P) g_spec_l02Series [AV.sl (Tag.par [0]) 0 (Cont.f FloatKind.f32 xs)] (AV.b (seriesM xs)))
        (T.ite (!seriesM xs) (T.leaf (AV.tup [AV.i IntKind.i64 0, AV.f FloatKind.f32 0, AV.b false]))
          (T.ite (decide ((↑(List.length xs) : Int) < 2)) (T.leaf (AV.tup [AV.i IntKind.i64 0, AV.f FloatKind.f32 0, AV.b false]))
            (T.ite (stepFin xs)
              (T.ob
                (Exec (VCall P) ps_spec_StepOf (VCode.block 0 (VCode.loop (b_spec_StepOf_L0 g_spec_l02Series g_spec_l02Squares g_spec_l01Finite g_spec_l02Mean g_spec_l02Number))) (h_spec_StepOf_L0 xs 0 0 1) Ex.normal
                  (h_spec_StepOf_L0 xs (↑(stepBest xs) : Int) (Prod.snd (stepAt xs (List.length xs - 1))) (↑(List.length xs) : Int)))
                (T.ob (0 ≤ (↑(stepBest xs) : Int) ∧ (↑(stepBest xs) : Int) ≤ (↑(List.length xs) : Int))
                  (T.ob
                    ((VCall P) g_spec_l02Mean [AV.sl (Tag.par [0]) 0 (Cont.f FloatKind.f32 (List.take (List.length xs - Int.toNat (↑(stepBest xs) : Int)) (List.drop (Int.toNat (↑(stepBest xs) : Int)) xs)))]
                      (AV.f FloatKind.f32 (meanM (List.take (List.length xs - Int.toNat (↑(stepBest xs) : Int)) (List.drop (Int.toNat (↑(stepBest xs) : Int)) xs)))))
                    (T.ob (0 ≤ (↑(stepBest xs) : Int) ∧ (↑(stepBest xs) : Int) ≤ (↑(List.length xs) : Int))
                      (T.ob
                        ((VCall P) g_spec_l02Mean [AV.sl (Tag.par [0]) 0 (Cont.f FloatKind.f32 (List.take (Int.toNat (↑(stepBest xs) : Int)) (List.drop 0 xs)))]
                          (AV.f FloatKind.f32 (meanM (List.take (Int.toNat (↑(stepBest xs) : Int)) (List.drop 0 xs)))))
                        (T.ob
                          ((VCall P) g_spec_l02Number
                            [AV.f FloatKind.f32
                                (fsub FloatKind.f32 (meanM (List.take (List.length xs - Int.toNat (↑(stepBest xs) : Int)) (List.drop (Int.toNat (↑(stepBest xs) : Int)) xs)))
                                  (meanM (List.take (Int.toNat (↑(stepBest xs) : Int)) (List.drop 0 xs))))]
                            (AV.tup
                              [AV.f FloatKind.f32
                                  (numM
                                    (fsub FloatKind.f32 (meanM (List.take (List.length xs - Int.toNat (↑(stepBest xs) : Int)) (List.drop (Int.toNat (↑(stepBest xs) : Int)) xs)))
                                      (meanM (List.take (Int.toNat (↑(stepBest xs) : Int)) (List.drop 0 xs))))),
                                AV.b
                                  (finM
                                    (fsub FloatKind.f32 (meanM (List.take (List.length xs - Int.toNat (↑(stepBest xs) : Int)) (List.drop (Int.toNat (↑(stepBest xs) : Int)) xs)))
                                      (meanM (List.take (Int.toNat (↑(stepBest xs) : Int)) (List.drop 0 xs)))))]))
                          (T.ite
                            (!finM
                                (fsub FloatKind.f32 (meanM (List.take (List.length xs - Int.toNat (↑(stepBest xs) : Int)) (List.drop (Int.toNat (↑(stepBest xs) : Int)) xs)))
                                  (meanM (List.take (Int.toNat (↑(stepBest xs) : Int)) (List.drop 0 xs)))))
                            (T.leaf (AV.tup [AV.i IntKind.i64 0, AV.f FloatKind.f32 0, AV.b false]))
                            (T.leaf
                              (AV.tup
                                [AV.i IntKind.i64 (↑(stepBest xs) : Int),
                                  AV.f FloatKind.f32
                                    (numM
                                      (fsub FloatKind.f32 (meanM (List.take (List.length xs - Int.toNat (↑(stepBest xs) : Int)) (List.drop (Int.toNat (↑(stepBest xs) : Int)) xs)))
                                        (meanM (List.take (Int.toNat (↑(stepBest xs) : Int)) (List.drop 0 xs))))),
                                  AV.b true])))))))))
              (T.ob
                (Exec (VCall P) ps_spec_StepOf (VCode.block 0 (VCode.loop (b_spec_StepOf_L0 g_spec_l02Series g_spec_l02Squares g_spec_l01Finite g_spec_l02Mean g_spec_l02Number))) (h_spec_StepOf_L0 xs 0 0 1) Ex.ret
                  (AV.any :: AV.any :: AV.i IntKind.i64 0 :: AV.f FloatKind.f32 0 :: AV.b false :: anys 58))
                (T.leaf (AV.tup [AV.i IntKind.i64 0, AV.f FloatKind.f32 0, AV.b false])))))))) :
    VCall P g_f [PS [0] .f32 xs] (.tup [.i .i64 (if stepOk xs = true then stepBest xs else 0 : Nat), .f .f32 (if stepOk xs = true then stepBy xs else 0), .b (stepOk xs)]) := h_.call_of ps_spec_StepOf ⟨oc_spec_StepOf xs, fun id σ => match id with | 0 => some (lv_spec_StepOf_L0, .ite (stepFin xs) (.leaf (.normal, h_spec_StepOf_L0 xs (stepBest xs) (stepAt xs (xs.length - 1)).2 xs.length)) (.leaf (.ret, .any :: .any :: .i .i64 0 :: .f .f32 0 :: .b false :: anys 58))) | _ => none⟩ (by kernel_rfl) ht


/-! ### seasons -/
def seasonM (xs : List Nat) (per : Nat) : List Nat := lessOneM (foldM xs per) (meanM (foldM xs per))
def seasonOk (xs : List Nat) (per : Int) : Bool := seriesM xs && (inM per 1 xs.length && finAllM (seasonM xs per.toNat))

/-- impl.season: slots 13, results [.t 4]; calls [8:g_impl_folded, 11:g_impl_mean, 12:g_impl_lessOne]; names [(list, 0), (period, 1), (list, 2), (period, 3), (means, 5)] -/
def ps_impl_season : List Nat := [0, 1, 4, 5]
def b_impl_season (g_impl_folded g_impl_mean g_impl_lessOne : FuncId) : VCode :=
  (.seq
   (.region false [
    ⟨some 4, (.nilsl (.f .f32 [])), [], none⟩])
   (.seq
    (.region false [
     ⟨some 6, .mv, [.t 0], none⟩,
     ⟨some 7, .mv, [.t 1], none⟩,
     ⟨some 8, (.call g_impl_folded), [.t 6, .t 7], none⟩,
     ⟨some 5, .mv, [.t 8], none⟩])
    (.seq
     (.region false [
      ⟨some 9, .mv, [.t 5], none⟩,
      ⟨some 10, .mv, [.t 5], none⟩,
      ⟨some 11, (.call g_impl_mean), [.t 10], none⟩,
      ⟨some 12, (.call g_impl_lessOne), [.t 9, .t 11], none⟩,
      ⟨some 4, .mv, [.t 12], none⟩])
     .ret)))

abbrev Is_impl_season (P : Program) (g_f : FuncId) (g_impl_folded g_impl_mean g_impl_lessOne : FuncId) : Prop := FnIs P g_f 13 [.t 4] (b_impl_season g_impl_folded g_impl_mean g_impl_lessOne)

abbrev C_impl_season (P : Program) (g_f : FuncId) : Prop := ∀ (xs : List Nat) (per : Int) (hp : 1 ≤ per ∧ per ≤ xs.length) (hx : xs.length ≤ 96), VCall P g_f [PS [0] .f32 xs, .i .i64 per] (OS 0 .f32 (seasonM xs per.toNat))
def oc1_impl_season (as : List AV) : T AV := match as with | [.sl _ _ (.f .f32 xs), .i .i64 per] => .leaf (OS 0 .f32 (seasonM xs per.toNat)) | _ => .fail
def oc_impl_season (xs : List Nat) (per : Int) (d : Nat) (as : List AV) : T AV := match d with | 8 => oc1_impl_folded as | 11 => oc1_impl_mean as | 12 => oc1_impl_lessOne as | _ => .fail



theorem q_impl_season {P : Program} {g_f : FuncId} {g_impl_folded g_impl_mean g_impl_lessOne : FuncId} (h_ : Is_impl_season P g_f g_impl_folded g_impl_mean g_impl_lessOne) (xs : List Nat) (per : Int) (ht : T.ok (fun x_ => x_ = OS 0 .f32 (seasonM xs per.toNat)) (
      T.ob ((VCall P) g_impl_folded [AV.sl (Tag.par [0]) 0 (Cont.f FloatKind.f32 xs), AV.i IntKind.i64 per] (AV.sl (Tag.own 0) 0 (Cont.f FloatKind.f32 (foldM xs (Int.toNat per)))))
        (T.ob ((VCall P) g_impl_mean [AV.sl (Tag.par [0]) 0 (Cont.f FloatKind.f32 (foldM xs (Int.toNat per)))] (AV.f FloatKind.f32 (meanM (foldM xs (Int.toNat per)))))
          (T.ob
            ((VCall P) g_impl_lessOne [AV.sl (Tag.par [0]) 0 (Cont.f FloatKind.f32 (foldM xs (Int.toNat per))), AV.f FloatKind.f32 (meanM (foldM xs (Int.toNat per)))]
              (AV.sl (Tag.own 0) 0 (Cont.f FloatKind.f32 (lessOneM (foldM xs (Int.toNat per)) (meanM (foldM xs (Int.toNat per)))))))
            (T.leaf (AV.sl (Tag.own 0) 0 (Cont.f FloatKind.f32 (lessOneM (foldM xs (Int.toNat per)) (meanM (foldM xs (Int.toNat per))))))))))) :
    VCall P g_f [PS [0] .f32 xs, .i .i64 per] (OS 0 .f32 (seasonM xs per.toNat)) := h_.call_of ps_impl_season ⟨oc_impl_season xs per, fun _ _ => none⟩ (by kernel_rfl) ht


/-- spec.l02Season: slots 40, results [.t 4]; calls [33:g_spec_l02Mean, 38:g_spec_l02Mean, 39:g_spec_l02Less]; names [(list, 0), (period, 1), (list, 2), (period, 3), (out, 5), (p, 6), (some, 7), (i, 8)] -/
def ps_spec_l02Season : List Nat := [0, 1, 4, 5, 6, 7, 8, 12, 20]
def lv_spec_l02Season_L0 : List Nat := [0, 1, 5, 6]
def lv_spec_l02Season_L2 : List Nat := [0, 1, 5, 6, 7, 8]
def b_spec_l02Season_L2 (g_spec_l02Mean g_spec_l02Less : FuncId) : VCode :=
  (.seq
   (.seq
    (.region false [
     ⟨some 17, .mv, [.t 8], none⟩,
     ⟨some 18, .mv, [.t 0], none⟩,
     ⟨some 19, .len, [.t 18], none⟩,
     ⟨some 20, (.bin .lss), [.t 17, .t 19], none⟩])
    (.cond (.t 20)
     .skip
     (.exit 2)))
   (.seq
    (.block 3
     (.region false [
      ⟨some 24, .mv, [.t 7], none⟩,
      ⟨some 25, .mv, [.t 0], none⟩,
      ⟨some 26, .mv, [.t 8], none⟩,
      ⟨some 27, .iaddr, [.t 25, .t 26], none⟩,
      ⟨some 28, .load, [.t 27], none⟩,
      ⟨some 29, (.lit true (.f .f32 [])), [.t 28], none⟩,
      ⟨some 30, .app, [.t 24, .t 29], none⟩,
      ⟨some 7, .mv, [.t 30], none⟩]))
    (.region false [
     ⟨some 21, .mv, [.t 8], none⟩,
     ⟨some 22, .mv, [.t 1], none⟩,
     ⟨some 23, (.bin .add), [.t 21, .t 22], none⟩,
     ⟨some 8, .mv, [.t 23], none⟩])))

def b_spec_l02Season_L0 (g_spec_l02Mean g_spec_l02Less : FuncId) : VCode :=
  (.seq
   (.seq
    (.region false [
     ⟨some 10, .mv, [.t 6], none⟩,
     ⟨some 11, .mv, [.t 1], none⟩,
     ⟨some 12, (.bin .lss), [.t 10, .t 11], none⟩])
    (.cond (.t 12)
     .skip
     (.exit 0)))
   (.seq
    (.block 1
     (.seq
      (.region false [
       ⟨some 15, (.lit true (.f .f32 [])), [], none⟩,
       ⟨some 7, .mv, [.t 15], none⟩])
      (.seq
       (.seq
        (.region false [
         ⟨some 16, .mv, [.t 6], none⟩,
         ⟨some 8, .mv, [.t 16], none⟩])
        (.block 2 (.loop (b_spec_l02Season_L2 g_spec_l02Mean g_spec_l02Less))))
       (.region false [
        ⟨some 31, .mv, [.t 5], none⟩,
        ⟨some 32, .mv, [.t 7], none⟩,
        ⟨some 33, (.call g_spec_l02Mean), [.t 32], none⟩,
        ⟨some 34, (.lit true (.f .f32 [])), [.t 33], none⟩,
        ⟨some 35, .app, [.t 31, .t 34], none⟩,
        ⟨some 5, .mv, [.t 35], none⟩]))))
    (.region false [
     ⟨some 13, .mv, [.t 6], none⟩,
     ⟨some 14, (.bin .add), [.t 13, .k (.i .i64 1)], none⟩,
     ⟨some 6, .mv, [.t 14], none⟩])))

def b_spec_l02Season (g_spec_l02Mean g_spec_l02Less : FuncId) : VCode :=
  (.seq
   (.region false [
    ⟨some 4, (.nilsl (.f .f32 [])), [], none⟩])
   (.seq
    (.region false [
     ⟨some 9, (.lit true (.f .f32 [])), [], none⟩,
     ⟨some 5, .mv, [.t 9], none⟩])
    (.seq
     (.seq
      (.region false [
       ⟨some 6, .mv, [.k (.i .i64 0)], none⟩])
      (.block 0 (.loop (b_spec_l02Season_L0 g_spec_l02Mean g_spec_l02Less))))
     (.seq
      (.region false [
       ⟨some 36, .mv, [.t 5], none⟩,
       ⟨some 37, .mv, [.t 5], none⟩,
       ⟨some 38, (.call g_spec_l02Mean), [.t 37], none⟩,
       ⟨some 39, (.call g_spec_l02Less), [.t 36, .t 38], none⟩,
       ⟨some 4, .mv, [.t 39], none⟩])
      .ret))))

abbrev Is_spec_l02Season (P : Program) (g_f : FuncId) (g_spec_l02Mean g_spec_l02Less : FuncId) : Prop := FnIs P g_f 40 [.t 4] (b_spec_l02Season g_spec_l02Mean g_spec_l02Less)

abbrev C_spec_l02Season (P : Program) (g_f : FuncId) : Prop := ∀ (xs : List Nat) (per : Int) (hp : 1 ≤ per ∧ per ≤ xs.length) (hx : xs.length ≤ 96), VCall P g_f [PS [0] .f32 xs, .i .i64 per] (OS 0 .f32 (seasonM xs per.toNat))
def oc1_spec_l02Season (as : List AV) : T AV := match as with | [.sl _ _ (.f .f32 xs), .i .i64 per] => .leaf (OS 0 .f32 (seasonM xs per.toNat)) | _ => .fail
def oc_spec_l02Season (xs : List Nat) (per : Int) (d : Nat) (as : List AV) : T AV := match d with | 33 => oc1_spec_l02Mean as | 38 => oc1_spec_l02Mean as | 39 => oc1_spec_l02Less as | _ => .fail
def h_spec_l02Season_L0 (xs : List Nat) (per : Int) (out : List Nat) (p : Int) : Env := [AV.sl (Tag.par [0]) 0 (Cont.f FloatKind.f32 xs), AV.i IntKind.i64 per, .any, .any, .any, .sl (Tag.own 72) 0 (.f FloatKind.f32 out), .i IntKind.i64 p] ++ anys 33
def h_spec_l02Season_L2 (xs : List Nat) (per : Int) (out : List Nat) (p : Int) (out2 : List Nat) (some : List Nat) (i : Int) : Env := [AV.sl (Tag.par [0]) 0 (Cont.f FloatKind.f32 xs), AV.i IntKind.i64 per, .any, .any, .any, .sl (Tag.own 72) 0 (.f FloatKind.f32 out2), AV.i IntKind.i64 p, .sl (Tag.own 120) 0 (.f FloatKind.f32 some), .i IntKind.i64 i] ++ anys 31

theorem q_spec_l02Season_L0 {VC : FuncId → List AV → AV → Prop} {g_spec_l02Mean g_spec_l02Less : FuncId} (xs : List Nat) (per : Int) (out : List Nat) (p : Int) {e_ : Ex} {σ_ : Env} (ht : T.ok (fun x_ => x_ = (e_, σ_)) (
      T.ite (decide (p < per))
        (T.ob
          (Exec VC ps_spec_l02Season (VCode.block 2 (VCode.loop (b_spec_l02Season_L2 g_spec_l02Mean g_spec_l02Less))) (h_spec_l02Season_L2 xs per out p out [] p) Ex.normal
            (h_spec_l02Season_L2 xs per out p out (tab (cntM (List.length xs) (Int.toNat p) (Int.toNat per)) fun (j : Nat) => List.getD xs (Int.toNat p + j * Int.toNat per) 0)
              (↑(Int.toNat p + cntM (List.length xs) (Int.toNat p) (Int.toNat per) * Int.toNat per) : Int)))
          (T.ob
            (VC g_spec_l02Mean [AV.sl (Tag.par [0]) 0 (Cont.f FloatKind.f32 (tab (cntM (List.length xs) (Int.toNat p) (Int.toNat per)) fun (j : Nat) => List.getD xs (Int.toNat p + j * Int.toNat per) 0))]
              (AV.f FloatKind.f32 (meanM (tab (cntM (List.length xs) (Int.toNat p) (Int.toNat per)) fun (j : Nat) => List.getD xs (Int.toNat p + j * Int.toNat per) 0))))
            (T.ob (List.length out + List.length [meanM (tab (cntM (List.length xs) (Int.toNat p) (Int.toNat per)) fun (j : Nat) => List.getD xs (Int.toNat p + j * Int.toNat per) 0)] ≤ 4294967296)
              (T.leaf
                (Ex.normal,
                  h_spec_l02Season_L0 xs per (out ++ [meanM (tab (cntM (List.length xs) (Int.toNat p) (Int.toNat per)) fun (j : Nat) => List.getD xs (Int.toNat p + j * Int.toNat per) 0)])
                    (IntKind.wrap IntKind.i64 (p + 1)))))))
        (T.leaf (Ex.exit 0, h_spec_l02Season_L0 xs per out p)))) :
    Exec VC ps_spec_l02Season (b_spec_l02Season_L0 g_spec_l02Mean g_spec_l02Less) (h_spec_l02Season_L0 xs per out p) e_ σ_ := evL_of (lv := lv_spec_l02Season_L0) (rs := [4]) (O := ⟨oc_spec_l02Season xs per, fun id σ => match id with | 2 => some (lv_spec_l02Season_L2, .leaf (.normal, h_spec_l02Season_L2 xs per out p out (tab (cntM xs.length p.toNat per.toNat) fun j => xs.getD (p.toNat + j * per.toNat) 0) ((p.toNat + cntM xs.length p.toNat per.toNat * per.toNat : Nat) : Int))) | _ => none⟩) (by kernel_rfl) ht

theorem q_spec_l02Season_L2 {VC : FuncId → List AV → AV → Prop} {g_spec_l02Mean g_spec_l02Less : FuncId} (xs : List Nat) (per : Int) (out : List Nat) (p : Int) (out2 : List Nat) (some : List Nat) (i : Int) {e_ : Ex} {σ_ : Env} (ht : T.ok (fun x_ => x_ = (e_, σ_)) (
      T.ite (decide (i < (↑(List.length xs) : Int)))
        (T.ob (0 ≤ i ∧ i < (↑(List.length xs) : Int))
          (T.ob (List.length some + List.length [List.getD xs (Int.toNat i) 0] ≤ 4294967296)
            (T.leaf (Ex.normal, h_spec_l02Season_L2 xs per out p out2 (some ++ [List.getD xs (Int.toNat i) 0]) (IntKind.wrap IntKind.i64 (i + per))))))
        (T.leaf (Ex.exit 2, h_spec_l02Season_L2 xs per out p out2 some i)))) :
    Exec VC ps_spec_l02Season (b_spec_l02Season_L2 g_spec_l02Mean g_spec_l02Less) (h_spec_l02Season_L2 xs per out p out2 some i) e_ σ_ := evL_of (lv := lv_spec_l02Season_L2) (rs := [4]) (O := ⟨oc_spec_l02Season xs per, fun _ _ => none⟩) (by kernel_rfl) ht

theorem q_spec_l02Season {P : Program} {g_f : FuncId} {g_spec_l02Mean g_spec_l02Less : FuncId} (h_ : Is_spec_l02Season P g_f g_spec_l02Mean g_spec_l02Less) (xs : List Nat) (per : Int) (ht : T.ok (fun x_ => x_ = OS 0 .f32 (seasonM xs per.toNat)) (
      T.ob (Exec (VCall P) ps_spec_l02Season (VCode.block 0 (VCode.loop (b_spec_l02Season_L0 g_spec_l02Mean g_spec_l02Less))) (h_spec_l02Season_L0 xs per [] 0) Ex.normal (h_spec_l02Season_L0 xs per (foldM xs (Int.toNat per)) per))
        (T.ob ((VCall P) g_spec_l02Mean [AV.sl (Tag.par [0]) 0 (Cont.f FloatKind.f32 (foldM xs (Int.toNat per)))] (AV.f FloatKind.f32 (meanM (foldM xs (Int.toNat per)))))
          (T.ob
            ((VCall P) g_spec_l02Less [AV.sl (Tag.par [0]) 0 (Cont.f FloatKind.f32 (foldM xs (Int.toNat per))), AV.f FloatKind.f32 (meanM (foldM xs (Int.toNat per)))]
              (AV.sl (Tag.own 0) 0 (Cont.f FloatKind.f32 (lessOneM (foldM xs (Int.toNat per)) (meanM (foldM xs (Int.toNat per)))))))
            (T.leaf (AV.sl (Tag.own 0) 0 (Cont.f FloatKind.f32 (lessOneM (foldM xs (Int.toNat per)) (meanM (foldM xs (Int.toNat per))))))))))) :
    VCall P g_f [PS [0] .f32 xs, .i .i64 per] (OS 0 .f32 (seasonM xs per.toNat)) := h_.call_of ps_spec_l02Season ⟨oc_spec_l02Season xs per, fun id σ => match id with | 0 => some (lv_spec_l02Season_L0, .leaf (.normal, h_spec_l02Season_L0 xs per (foldM xs per.toNat) per)) | _ => none⟩ (by kernel_rfl) ht


/-- impl.SeasonOf: slots 16, results [.t 4, .t 5]; calls [8:g_impl_isPeriodOf, 12:g_impl_season, 13:g_impl_ifAll]; names [(list, 0), (period, 1), (list, 2), (period, 3)] -/
def ps_impl_SeasonOf : List Nat := [0, 1, 4, 5, 9]
def b_impl_SeasonOf (g_impl_isPeriodOf g_impl_season g_impl_ifAll : FuncId) : VCode :=
  (.seq
   (.region false [
    ⟨some 4, (.nilsl (.f .f32 [])), [], none⟩,
    ⟨some 5, .mv, [.k (.b false)], none⟩])
   (.seq
    (.seq
     (.region false [
      ⟨some 6, .mv, [.t 0], none⟩,
      ⟨some 7, .mv, [.t 1], none⟩,
      ⟨some 8, (.call g_impl_isPeriodOf), [.t 6, .t 7], none⟩,
      ⟨some 9, .not, [.t 8], none⟩])
     (.cond (.t 9)
      (.seq
       (.region false [
        ⟨some 4, (.nilsl (.f .f32 [])), [], none⟩,
        ⟨some 5, .mv, [.k (.b false)], none⟩])
       .ret)
      .skip))
    (.seq
     (.region false [
      ⟨some 10, .mv, [.t 0], none⟩,
      ⟨some 11, .mv, [.t 1], none⟩,
      ⟨some 12, (.call g_impl_season), [.t 10, .t 11], none⟩,
      ⟨some 13, (.call g_impl_ifAll), [.t 12], none⟩,
      ⟨some 14, (.extract 0), [.t 13], none⟩,
      ⟨some 15, (.extract 1), [.t 13], none⟩,
      ⟨some 4, .mv, [.t 14], none⟩,
      ⟨some 5, .mv, [.t 15], none⟩])
     .ret)))

abbrev Is_impl_SeasonOf (P : Program) (g_f : FuncId) (g_impl_isPeriodOf g_impl_season g_impl_ifAll : FuncId) : Prop := FnIs P g_f 16 [.t 4, .t 5] (b_impl_SeasonOf g_impl_isPeriodOf g_impl_season g_impl_ifAll)

abbrev C_impl_SeasonOf (P : Program) (g_f : FuncId) : Prop := ∀ (xs : List Nat) (per : Int) (hx : xs.length ≤ maxLen), VCall P g_f [PS [0] .f32 xs, .i .i64 per] (.tup [OS 0 .f32 (if seasonOk xs per = true then seasonM xs per.toNat else []), .b (seasonOk xs per)])
def oc1_impl_SeasonOf (as : List AV) : T AV := match as with | [.sl _ _ (.f .f32 xs), .i .i64 per] => .leaf (.tup [OS 0 .f32 (if seasonOk xs per = true then seasonM xs per.toNat else []), .b (seasonOk xs per)]) | _ => .fail
def oc_impl_SeasonOf (xs : List Nat) (per : Int) (d : Nat) (as : List AV) : T AV := match d with | 8 => oc1_impl_isPeriodOf as | 12 => oc1_impl_season as | 13 => oc1_impl_ifAll as | _ => .fail



theorem q_impl_SeasonOf {P : Program} {g_f : FuncId} {g_impl_isPeriodOf g_impl_season g_impl_ifAll : FuncId} (h_ : Is_impl_SeasonOf P g_f g_impl_isPeriodOf g_impl_season g_impl_ifAll) (xs : List Nat) (per : Int) (ht : T.ok (fun x_ => x_ = .tup [OS 0 .f32 (if seasonOk xs per = true then seasonM xs per.toNat else []), .b (seasonOk xs per)]) (
      T.ob ((VCall P) g_impl_isPeriodOf [AV.sl (Tag.par [0]) 0 (Cont.f FloatKind.f32 xs), AV.i IntKind.i64 per] (AV.b (seriesM xs && inM per 1 (↑(List.length xs) : Int))))
        (T.ite (!(seriesM xs && inM per 1 (↑(List.length xs) : Int))) (T.leaf (AV.tup [AV.sl (Tag.own 0) 0 (Cont.f FloatKind.f32 []), AV.b false]))
          (T.ob ((VCall P) g_impl_season [AV.sl (Tag.par [0]) 0 (Cont.f FloatKind.f32 xs), AV.i IntKind.i64 per] (AV.sl (Tag.own 0) 0 (Cont.f FloatKind.f32 (seasonM xs (Int.toNat per)))))
            (T.ob
              ((VCall P) g_impl_ifAll [AV.sl (Tag.par [0]) 0 (Cont.f FloatKind.f32 (seasonM xs (Int.toNat per)))]
                (AV.tup [AV.sl (Tag.par [0]) 0 (Cont.f FloatKind.f32 (ifAllM (seasonM xs (Int.toNat per)))), AV.b (finAllM (seasonM xs (Int.toNat per)))]))
              (T.leaf (AV.tup [AV.sl (Tag.own 0) 0 (Cont.f FloatKind.f32 (ifAllM (seasonM xs (Int.toNat per)))), AV.b (finAllM (seasonM xs (Int.toNat per)))]))))))) :
    VCall P g_f [PS [0] .f32 xs, .i .i64 per] (.tup [OS 0 .f32 (if seasonOk xs per = true then seasonM xs per.toNat else []), .b (seasonOk xs per)]) := h_.call_of ps_impl_SeasonOf ⟨oc_impl_SeasonOf xs per, fun _ _ => none⟩ (by kernel_rfl) ht


/-- spec.SeasonOf: slots 22, results [.t 4, .t 5]; calls [7:g_spec_l02Series, 13:g_spec_l00In, 18:g_spec_l02Season, 19:g_spec_l02List]; names [(list, 0), (period, 1), (list, 2), (period, 3)] -/
def ps_spec_SeasonOf : List Nat := [0, 1, 4, 5, 15]
def b_spec_SeasonOf (g_spec_l02Series g_spec_l00In g_spec_l02Season g_spec_l02List : FuncId) : VCode :=
  (.seq
   (.region false [
    ⟨some 4, (.nilsl (.f .f32 [])), [], none⟩,
    ⟨some 5, .mv, [.k (.b false)], none⟩])
   (.seq
    (.seq
     (.region false [
      ⟨some 6, .mv, [.t 0], none⟩,
      ⟨some 7, (.call g_spec_l02Series), [.t 6], none⟩,
      ⟨some 8, .not, [.t 7], none⟩,
      ⟨some 9, .mv, [.t 8], none⟩,
      ⟨some 10, .mv, [.t 1], some (9, false)⟩,
      ⟨some 11, .mv, [.t 0], some (9, false)⟩,
      ⟨some 12, .len, [.t 11], some (9, false)⟩,
      ⟨some 13, (.call g_spec_l00In), [.t 10, .k (.i .i64 1), .t 12], some (9, false)⟩,
      ⟨some 14, .not, [.t 13], some (9, false)⟩,
      ⟨some 15, .pick, [.t 9, .k (.b true), .t 14], none⟩])
     (.cond (.t 15)
      (.seq
       (.region false [
        ⟨some 4, (.nilsl (.f .f32 [])), [], none⟩,
        ⟨some 5, .mv, [.k (.b false)], none⟩])
       .ret)
      .skip))
    (.seq
     (.region false [
      ⟨some 16, .mv, [.t 0], none⟩,
      ⟨some 17, .mv, [.t 1], none⟩,
      ⟨some 18, (.call g_spec_l02Season), [.t 16, .t 17], none⟩,
      ⟨some 19, (.call g_spec_l02List), [.t 18], none⟩,
      ⟨some 20, (.extract 0), [.t 19], none⟩,
      ⟨some 21, (.extract 1), [.t 19], none⟩,
      ⟨some 4, .mv, [.t 20], none⟩,
      ⟨some 5, .mv, [.t 21], none⟩])
     .ret)))

abbrev Is_spec_SeasonOf (P : Program) (g_f : FuncId) (g_spec_l02Series g_spec_l00In g_spec_l02Season g_spec_l02List : FuncId) : Prop := FnIs P g_f 22 [.t 4, .t 5] (b_spec_SeasonOf g_spec_l02Series g_spec_l00In g_spec_l02Season g_spec_l02List)

abbrev C_spec_SeasonOf (P : Program) (g_f : FuncId) : Prop := ∀ (xs : List Nat) (per : Int) (hx : xs.length ≤ maxLen), VCall P g_f [PS [0] .f32 xs, .i .i64 per] (.tup [OS 0 .f32 (if seasonOk xs per = true then seasonM xs per.toNat else []), .b (seasonOk xs per)])
def oc1_spec_SeasonOf (as : List AV) : T AV := match as with | [.sl _ _ (.f .f32 xs), .i .i64 per] => .leaf (.tup [OS 0 .f32 (if seasonOk xs per = true then seasonM xs per.toNat else []), .b (seasonOk xs per)]) | _ => .fail
def oc_spec_SeasonOf (xs : List Nat) (per : Int) (d : Nat) (as : List AV) : T AV := match d with | 7 => oc1_spec_l02Series as | 13 => oc1_spec_l00In as | 18 => oc1_spec_l02Season as | 19 => oc1_spec_l02List as | _ => .fail



theorem q_spec_SeasonOf {P : Program} {g_f : FuncId} {g_spec_l02Series g_spec_l00In g_spec_l02Season g_spec_l02List : FuncId} (h_ : Is_spec_SeasonOf P g_f g_spec_l02Series g_spec_l00In g_spec_l02Season g_spec_l02List) (xs : List Nat) (per : Int) (ht : T.ok (fun x_ => x_ = .tup [OS 0 .f32 (if seasonOk xs per = true then seasonM xs per.toNat else []), .b (seasonOk xs per)]) (
      T.ob ((VCall P) g_spec_l02Series [AV.sl (Tag.par [0]) 0 (Cont.f FloatKind.f32 xs)] (AV.b (seriesM xs)))
        (T.ite (!seriesM xs) (T.leaf (AV.tup [AV.sl (Tag.own 0) 0 (Cont.f FloatKind.f32 []), AV.b false]))
          (T.ob ((VCall P) g_spec_l00In [AV.i IntKind.i64 per, AV.i IntKind.i64 1, AV.i IntKind.i64 (↑(List.length xs) : Int)] (AV.b (inM per 1 (↑(List.length xs) : Int))))
            (T.ite (!inM per 1 (↑(List.length xs) : Int)) (T.leaf (AV.tup [AV.sl (Tag.own 0) 0 (Cont.f FloatKind.f32 []), AV.b false]))
              (T.ob ((VCall P) g_spec_l02Season [AV.sl (Tag.par [0]) 0 (Cont.f FloatKind.f32 xs), AV.i IntKind.i64 per] (AV.sl (Tag.own 0) 0 (Cont.f FloatKind.f32 (seasonM xs (Int.toNat per)))))
                (T.ob
                  ((VCall P) g_spec_l02List [AV.sl (Tag.par [0]) 0 (Cont.f FloatKind.f32 (seasonM xs (Int.toNat per)))]
                    (AV.tup [AV.sl (Tag.par [0]) 0 (Cont.f FloatKind.f32 (ifAllM (seasonM xs (Int.toNat per)))), AV.b (finAllM (seasonM xs (Int.toNat per)))]))
                  (T.leaf (AV.tup [AV.sl (Tag.own 0) 0 (Cont.f FloatKind.f32 (ifAllM (seasonM xs (Int.toNat per)))), AV.b (finAllM (seasonM xs (Int.toNat per)))]))))))))) :
    VCall P g_f [PS [0] .f32 xs, .i .i64 per] (.tup [OS 0 .f32 (if seasonOk xs per = true then seasonM xs per.toNat else []), .b (seasonOk xs per)]) := h_.call_of ps_spec_SeasonOf ⟨oc_spec_SeasonOf xs per, fun _ _ => none⟩ (by kernel_rfl) ht


/-! ### the best period -/
def bpSum (xs : List Nat) (per : Int) : Nat := leftM xs (foldM xs per.toNat)
def bpAt (xs : List Nat) (low : Int) : Nat → Int × Nat
  | 0 => (0, 0)
  | j + 1 => if ((bpAt xs low j).1 == 0 || flt .f32 (bpSum xs (low + j)) (bpAt xs low j).2) = true then (low + j, bpSum xs (low + j)) else bpAt xs low j
def bpN (low top : Int) : Nat := (top + 1 - low).toNat
def bpFin (xs : List Nat) (low top : Int) : Bool := allN (bpN low top) fun j => foldOk xs (low + j)
def bpOk (xs : List Nat) (low top w : Int) : Bool := seriesM xs && (inM low 2 top && (decide (top ≤ (xs.length / 2 : Nat)) && (inM w 1 8 && bpFin xs low top)))

/-- impl.areWorkers: slots 5, results [.t 2]; calls [4:g_impl_within]; names [(n, 0), (n, 1)] -/
def ps_impl_areWorkers : List Nat := [0, 2]
def b_impl_areWorkers (g_impl_within : FuncId) : VCode :=
  (.seq
   (.region false [
    ⟨some 2, .mv, [.k (.b false)], none⟩])
   (.seq
    (.region false [
     ⟨some 3, .mv, [.t 0], none⟩,
     ⟨some 4, (.call g_impl_within), [.t 3, .k (.i .i64 1), .k (.i .i64 8)], none⟩,
     ⟨some 2, .mv, [.t 4], none⟩])
    .ret))

abbrev Is_impl_areWorkers (P : Program) (g_f : FuncId) (g_impl_within : FuncId) : Prop := FnIs P g_f 5 [.t 2] (b_impl_areWorkers g_impl_within)

abbrev C_impl_areWorkers (P : Program) (g_f : FuncId) : Prop := ∀ (n : Int), VCall P g_f [.i .i64 n] (.b (inM n 1 8))
def oc1_impl_areWorkers (as : List AV) : T AV := match as with | [.i .i64 n] => .leaf (.b (inM n 1 8)) | _ => .fail
def oc_impl_areWorkers (n : Int) (d : Nat) (as : List AV) : T AV := match d with | 4 => oc1_impl_within as | _ => .fail



theorem q_impl_areWorkers {P : Program} {g_f : FuncId} {g_impl_within : FuncId} (h_ : Is_impl_areWorkers P g_f g_impl_within) (n : Int) (ht : T.ok (fun x_ => x_ = .b (inM n 1 8)) (
      T.ob ((VCall P) g_impl_within [AV.i IntKind.i64 n, AV.i IntKind.i64 1, AV.i IntKind.i64 8] (AV.b (inM n 1 8))) (T.leaf (AV.b (inM n 1 8))))) :
    VCall P g_f [.i .i64 n] (.b (inM n 1 8)) := h_.call_of ps_impl_areWorkers ⟨oc_impl_areWorkers n, fun _ _ => none⟩ (by kernel_rfl) ht


/-- impl.BestPeriod: slots 65, results [.t 8, .t 9, .t 10]; calls [18:g_impl_IsSeries, 25:g_impl_within, 31:g_impl_within, 36:g_impl_areWorkers, 48:g_impl_FoldedBy]; names [(a, 0), (low, 1), (high, 2), (workers, 3), (a, 4), (low, 5), (high, 6), (workers, 7), (best, 11), (least, 12), (period, 13), (_, 14), (sum, 15), (ok, 16)] -/
def ps_impl_BestPeriod : List Nat := [0, 1, 2, 3, 8, 9, 10, 11, 12, 13, 15, 16, 38, 42, 53, 60]
def lv_impl_BestPeriod_L0 : List Nat := [0, 2, 11, 12, 13]
def b_impl_BestPeriod_L0 (g_impl_IsSeries g_impl_within g_impl_areWorkers g_impl_FoldedBy : FuncId) : VCode :=
  (.seq
   (.seq
    (.region false [
     ⟨some 40, .mv, [.t 13], none⟩,
     ⟨some 41, .mv, [.t 2], none⟩,
     ⟨some 42, (.bin .leq), [.t 40, .t 41], none⟩])
    (.cond (.t 42)
     .skip
     (.exit 0)))
   (.seq
    (.block 1
     (.seq
      (.region false [
       ⟨some 46, .mv, [.t 0], none⟩,
       ⟨some 47, .mv, [.t 13], none⟩,
       ⟨some 48, (.call g_impl_FoldedBy), [.t 46, .t 47], none⟩,
       ⟨some 45, .mv, [.t 48], none⟩,
       ⟨some 49, (.extract 0), [.t 45], none⟩,
       ⟨some 50, (.extract 1), [.t 45], none⟩,
       ⟨some 51, (.extract 2), [.t 45], none⟩,
       ⟨some 14, .mv, [.t 49], none⟩,
       ⟨some 15, .mv, [.t 50], none⟩,
       ⟨some 16, .mv, [.t 51], none⟩])
      (.seq
       (.seq
        (.region false [
         ⟨some 52, .mv, [.t 16], none⟩,
         ⟨some 53, .not, [.t 52], none⟩])
        (.cond (.t 53)
         (.seq
          (.region false [
           ⟨some 8, .mv, [.k (.i .i64 0)], none⟩,
           ⟨some 9, .mv, [.k (.f .f32 0)], none⟩,
           ⟨some 10, .mv, [.k (.b false)], none⟩])
          .ret)
         .skip))
       (.seq
        (.region false [
         ⟨some 54, .mv, [.t 11], none⟩,
         ⟨some 55, (.bin .eql), [.t 54, .k (.i .i64 0)], none⟩,
         ⟨some 56, .mv, [.t 55], none⟩,
         ⟨some 57, .mv, [.t 15], some (56, false)⟩,
         ⟨some 58, .mv, [.t 12], some (56, false)⟩,
         ⟨some 59, (.bin .lss), [.t 57, .t 58], some (56, false)⟩,
         ⟨some 60, .pick, [.t 56, .k (.b true), .t 59], none⟩])
        (.cond (.t 60)
         (.region false [
          ⟨some 61, .mv, [.t 13], none⟩,
          ⟨some 62, .mv, [.t 15], none⟩,
          ⟨some 11, .mv, [.t 61], none⟩,
          ⟨some 12, .mv, [.t 62], none⟩])
         .skip)))))
    (.region false [
     ⟨some 43, .mv, [.t 13], none⟩,
     ⟨some 44, (.bin .add), [.t 43, .k (.i .i64 1)], none⟩,
     ⟨some 13, .mv, [.t 44], none⟩])))

def b_impl_BestPeriod (g_impl_IsSeries g_impl_within g_impl_areWorkers g_impl_FoldedBy : FuncId) : VCode :=
  (.seq
   (.region false [
    ⟨some 8, .mv, [.k (.i .i64 0)], none⟩,
    ⟨some 9, .mv, [.k (.f .f32 0)], none⟩,
    ⟨some 10, .mv, [.k (.b false)], none⟩])
   (.seq
    (.seq
     (.region false [
      ⟨some 17, .mv, [.t 0], none⟩,
      ⟨some 18, (.call g_impl_IsSeries), [.t 17], none⟩,
      ⟨some 19, .not, [.t 18], none⟩,
      ⟨some 20, .mv, [.t 19], none⟩,
      ⟨some 21, .mv, [.t 2], some (20, false)⟩,
      ⟨some 22, .mv, [.t 0], some (20, false)⟩,
      ⟨some 23, .len, [.t 22], some (20, false)⟩,
      ⟨some 24, (.bin .quo), [.t 23, .k (.i .i64 2)], some (20, false)⟩,
      ⟨some 25, (.call g_impl_within), [.t 21, .k (.i .i64 2), .t 24], some (20, false)⟩,
      ⟨some 26, .not, [.t 25], some (20, false)⟩,
      ⟨some 27, .pick, [.t 20, .k (.b true), .t 26], none⟩,
      ⟨some 28, .mv, [.t 27], none⟩,
      ⟨some 29, .mv, [.t 1], some (28, false)⟩,
      ⟨some 30, .mv, [.t 2], some (28, false)⟩,
      ⟨some 31, (.call g_impl_within), [.t 29, .k (.i .i64 2), .t 30], some (28, false)⟩,
      ⟨some 32, .not, [.t 31], some (28, false)⟩,
      ⟨some 33, .pick, [.t 28, .k (.b true), .t 32], none⟩,
      ⟨some 34, .mv, [.t 33], none⟩,
      ⟨some 35, .mv, [.t 3], some (34, false)⟩,
      ⟨some 36, (.call g_impl_areWorkers), [.t 35], some (34, false)⟩,
      ⟨some 37, .not, [.t 36], some (34, false)⟩,
      ⟨some 38, .pick, [.t 34, .k (.b true), .t 37], none⟩])
     (.cond (.t 38)
      (.seq
       (.region false [
        ⟨some 8, .mv, [.k (.i .i64 0)], none⟩,
        ⟨some 9, .mv, [.k (.f .f32 0)], none⟩,
        ⟨some 10, .mv, [.k (.b false)], none⟩])
       .ret)
      .skip))
    (.seq
     (.region false [
      ⟨some 11, .mv, [.k (.i .i64 0)], none⟩,
      ⟨some 12, .mv, [.k (.f .f32 0)], none⟩])
     (.seq
      (.seq
       (.region false [
        ⟨some 39, .mv, [.t 1], none⟩,
        ⟨some 13, .mv, [.t 39], none⟩])
       (.block 0 (.loop (b_impl_BestPeriod_L0 g_impl_IsSeries g_impl_within g_impl_areWorkers g_impl_FoldedBy))))
      (.seq
       (.region false [
        ⟨some 63, .mv, [.t 11], none⟩,
        ⟨some 64, .mv, [.t 12], none⟩,
        ⟨some 8, .mv, [.t 63], none⟩,
        ⟨some 9, .mv, [.t 64], none⟩,
        ⟨some 10, .mv, [.k (.b true)], none⟩])
       .ret)))))

abbrev Is_impl_BestPeriod (P : Program) (g_f : FuncId) (g_impl_IsSeries g_impl_within g_impl_areWorkers g_impl_FoldedBy : FuncId) : Prop := FnIs P g_f 65 [.t 8, .t 9, .t 10] (b_impl_BestPeriod g_impl_IsSeries g_impl_within g_impl_areWorkers g_impl_FoldedBy)

abbrev C_impl_BestPeriod (P : Program) (g_f : FuncId) : Prop := ∀ (xs : List Nat) (low : Int) (top : Int) (w : Int) (hx : xs.length ≤ maxLen), VCall P g_f [PS [0] .f32 xs, .i .i64 low, .i .i64 top, .i .i64 w] (.tup [.i .i64 (if bpOk xs low top w = true then (bpAt xs low (bpN low top)).1 else 0), .f .f32 (if bpOk xs low top w = true then (bpAt xs low (bpN low top)).2 else 0), .b (bpOk xs low top w)])
def oc1_impl_BestPeriod (as : List AV) : T AV := match as with | [.sl _ _ (.f .f32 xs), .i .i64 low, .i .i64 top, .i .i64 w] => .leaf (.tup [.i .i64 (if bpOk xs low top w = true then (bpAt xs low (bpN low top)).1 else 0), .f .f32 (if bpOk xs low top w = true then (bpAt xs low (bpN low top)).2 else 0), .b (bpOk xs low top w)]) | _ => .fail
def oc_impl_BestPeriod (xs : List Nat) (low : Int) (top : Int) (w : Int) (d : Nat) (as : List AV) : T AV := match d with | 18 => oc1_impl_IsSeries as | 25 => oc1_impl_within as | 31 => oc1_impl_within as | 36 => oc1_impl_areWorkers as | 48 => oc1_impl_FoldedBy as | _ => .fail
def h_impl_BestPeriod_L0 (xs : List Nat) (low : Int) (top : Int) (w : Int) (best : Int) (least : Nat) (period : Int) : Env := [AV.sl (Tag.par [0]) 0 (Cont.f FloatKind.f32 xs), .any, AV.i IntKind.i64 top] ++ anys 8 ++ [.i IntKind.i64 best, .f FloatKind.f32 least, .i IntKind.i64 period] ++ anys 51

theorem q_impl_BestPeriod_L0 {VC : FuncId → List AV → AV → Prop} {g_impl_IsSeries g_impl_within g_impl_areWorkers g_impl_FoldedBy : FuncId} (xs : List Nat) (low : Int) (top : Int) (w : Int) (best : Int) (least : Nat) (period : Int) {e_ : Ex} {σ_ : Env} (ht : T.ok (fun x_ => x_ = (e_, σ_)) (
      T.ite (decide (period ≤ top))
        (T.ob
          (VC g_impl_FoldedBy [AV.sl (Tag.par [0]) 0 (Cont.f FloatKind.f32 xs), AV.i IntKind.i64 period]
            (AV.tup
              [AV.sl (Tag.own 0) 0 (Cont.f FloatKind.f32 (if foldOk xs period = true then foldM xs (Int.toNat period) else [])),
                AV.f FloatKind.f32 (if foldOk xs period = true then leftM xs (foldM xs (Int.toNat period)) else 0), AV.b (foldOk xs period)]))
          (T.ite (!foldOk xs period) (T.leaf (Ex.ret, anys 8 ++ AV.i IntKind.i64 0 :: AV.f FloatKind.f32 0 :: AV.b false :: anys 54))
            (T.ite (best == 0) (T.leaf (Ex.normal, h_impl_BestPeriod_L0 xs low top w period (if foldOk xs period = true then leftM xs (foldM xs (Int.toNat period)) else 0) (IntKind.wrap IntKind.i64 (period + 1))))
              (T.ite (flt FloatKind.f32 (if foldOk xs period = true then leftM xs (foldM xs (Int.toNat period)) else 0) least)
                (T.leaf (Ex.normal, h_impl_BestPeriod_L0 xs low top w period (if foldOk xs period = true then leftM xs (foldM xs (Int.toNat period)) else 0) (IntKind.wrap IntKind.i64 (period + 1))))
                (T.leaf (Ex.normal, h_impl_BestPeriod_L0 xs low top w best least (IntKind.wrap IntKind.i64 (period + 1))))))))
        (T.leaf (Ex.exit 0, h_impl_BestPeriod_L0 xs low top w best least period)))) :
    Exec VC ps_impl_BestPeriod (b_impl_BestPeriod_L0 g_impl_IsSeries g_impl_within g_impl_areWorkers g_impl_FoldedBy) (h_impl_BestPeriod_L0 xs low top w best least period) e_ σ_ := evL_of (lv := lv_impl_BestPeriod_L0) (rs := [8, 9, 10]) (O := ⟨oc_impl_BestPeriod xs low top w, fun _ _ => none⟩) (by kernel_rfl) ht

theorem q_impl_BestPeriod {P : Program} {g_f : FuncId} {g_impl_IsSeries g_impl_within g_impl_areWorkers g_impl_FoldedBy : FuncId} (h_ : Is_impl_BestPeriod P g_f g_impl_IsSeries g_impl_within g_impl_areWorkers g_impl_FoldedBy) (xs : List Nat) (low : Int) (top : Int) (w : Int) (ht : T.ok (fun x_ => x_ = .tup [.i .i64 (if bpOk xs low top w = true then (bpAt xs low (bpN low top)).1 else 0), .f .f32 (if bpOk xs low top w = true then (bpAt xs low (bpN low top)).2 else 0), .b (bpOk xs low top w)]) (
      T.ob ((VCall P) g_impl_IsSeries [AV.sl (Tag.par [0]) 0 (Cont.f FloatKind.f32 xs)] (AV.b (seriesM xs)))
        (T.ite (!seriesM xs) (T.leaf (AV.tup [AV.i IntKind.i64 0, AV.f FloatKind.f32 0, AV.b false]))
          (T.ob ((2 : Int) ≠ 0)
            (T.ob
              ((VCall P) g_impl_within [AV.i IntKind.i64 top, AV.i IntKind.i64 2, AV.i IntKind.i64 (IntKind.wrap IntKind.i64 (Int.tdiv (↑(List.length xs) : Int) 2))]
                (AV.b (inM top 2 (IntKind.wrap IntKind.i64 (Int.tdiv (↑(List.length xs) : Int) 2)))))
              (T.ite (!inM top 2 (IntKind.wrap IntKind.i64 (Int.tdiv (↑(List.length xs) : Int) 2))) (T.leaf (AV.tup [AV.i IntKind.i64 0, AV.f FloatKind.f32 0, AV.b false]))
                (T.ob ((VCall P) g_impl_within [AV.i IntKind.i64 low, AV.i IntKind.i64 2, AV.i IntKind.i64 top] (AV.b (inM low 2 top)))
                  (T.ite (!inM low 2 top) (T.leaf (AV.tup [AV.i IntKind.i64 0, AV.f FloatKind.f32 0, AV.b false]))
                    (T.ob ((VCall P) g_impl_areWorkers [AV.i IntKind.i64 w] (AV.b (inM w 1 8)))
                      (T.ite (!inM w 1 8) (T.leaf (AV.tup [AV.i IntKind.i64 0, AV.f FloatKind.f32 0, AV.b false]))
                        (T.ite (bpFin xs low top)
                          (T.ob
                            (Exec (VCall P) ps_impl_BestPeriod (VCode.block 0 (VCode.loop (b_impl_BestPeriod_L0 g_impl_IsSeries g_impl_within g_impl_areWorkers g_impl_FoldedBy))) (h_impl_BestPeriod_L0 xs low top w 0 0 low) Ex.normal
                              (h_impl_BestPeriod_L0 xs low top w (Prod.fst (bpAt xs low (bpN low top))) (Prod.snd (bpAt xs low (bpN low top))) (top + 1)))
                            (T.leaf (AV.tup [AV.i IntKind.i64 (Prod.fst (bpAt xs low (bpN low top))), AV.f FloatKind.f32 (Prod.snd (bpAt xs low (bpN low top))), AV.b true])))
                          (T.ob
                            (Exec (VCall P) ps_impl_BestPeriod (VCode.block 0 (VCode.loop (b_impl_BestPeriod_L0 g_impl_IsSeries g_impl_within g_impl_areWorkers g_impl_FoldedBy))) (h_impl_BestPeriod_L0 xs low top w 0 0 low) Ex.ret
                              (anys 8 ++ AV.i IntKind.i64 0 :: AV.f FloatKind.f32 0 :: AV.b false :: anys 54))
                            (T.leaf (AV.tup [AV.i IntKind.i64 0, AV.f FloatKind.f32 0, AV.b false])))))))))))))) :
    VCall P g_f [PS [0] .f32 xs, .i .i64 low, .i .i64 top, .i .i64 w] (.tup [.i .i64 (if bpOk xs low top w = true then (bpAt xs low (bpN low top)).1 else 0), .f .f32 (if bpOk xs low top w = true then (bpAt xs low (bpN low top)).2 else 0), .b (bpOk xs low top w)]) := h_.call_of ps_impl_BestPeriod ⟨oc_impl_BestPeriod xs low top w, fun id σ => match id with | 0 => some (lv_impl_BestPeriod_L0, .ite (bpFin xs low top) (.leaf (.normal, h_impl_BestPeriod_L0 xs low top w (bpAt xs low (bpN low top)).1 (bpAt xs low (bpN low top)).2 (top + 1))) (.leaf (.ret, anys 8 ++ .i .i64 0 :: .f .f32 0 :: .b false :: anys 54))) | _ => none⟩ (by kernel_rfl) ht


/-- spec.BestPeriod: slots 64, results [.t 8, .t 9, .t 10]; calls [18:g_spec_l02Series, 23:g_spec_l00In, 35:g_spec_l00In, 47:g_spec_FoldedBy]; names [(a, 0), (low, 1), (high, 2), (workers, 3), (a, 4), (low, 5), (high, 6), (workers, 7), (best, 11), (least, 12), (period, 13), (_, 14), (left, 15), (ok, 16)] -/
def ps_spec_BestPeriod : List Nat := [0, 1, 2, 3, 8, 9, 10, 11, 12, 13, 15, 16, 37, 41, 52, 59]
def lv_spec_BestPeriod_L0 : List Nat := [0, 2, 11, 12, 13]
def b_spec_BestPeriod_L0 (g_spec_l02Series g_spec_l00In g_spec_FoldedBy : FuncId) : VCode :=
  (.seq
   (.seq
    (.region false [
     ⟨some 39, .mv, [.t 13], none⟩,
     ⟨some 40, .mv, [.t 2], none⟩,
     ⟨some 41, (.bin .leq), [.t 39, .t 40], none⟩])
    (.cond (.t 41)
     .skip
     (.exit 0)))
   (.seq
    (.block 1
     (.seq
      (.region false [
       ⟨some 45, .mv, [.t 0], none⟩,
       ⟨some 46, .mv, [.t 13], none⟩,
       ⟨some 47, (.call g_spec_FoldedBy), [.t 45, .t 46], none⟩,
       ⟨some 44, .mv, [.t 47], none⟩,
       ⟨some 48, (.extract 0), [.t 44], none⟩,
       ⟨some 49, (.extract 1), [.t 44], none⟩,
       ⟨some 50, (.extract 2), [.t 44], none⟩,
       ⟨some 14, .mv, [.t 48], none⟩,
       ⟨some 15, .mv, [.t 49], none⟩,
       ⟨some 16, .mv, [.t 50], none⟩])
      (.seq
       (.seq
        (.region false [
         ⟨some 51, .mv, [.t 16], none⟩,
         ⟨some 52, .not, [.t 51], none⟩])
        (.cond (.t 52)
         (.seq
          (.region false [
           ⟨some 8, .mv, [.k (.i .i64 0)], none⟩,
           ⟨some 9, .mv, [.k (.f .f32 0)], none⟩,
           ⟨some 10, .mv, [.k (.b false)], none⟩])
          .ret)
         .skip))
       (.seq
        (.region false [
         ⟨some 53, .mv, [.t 11], none⟩,
         ⟨some 54, (.bin .eql), [.t 53, .k (.i .i64 0)], none⟩,
         ⟨some 55, .mv, [.t 54], none⟩,
         ⟨some 56, .mv, [.t 15], some (55, false)⟩,
         ⟨some 57, .mv, [.t 12], some (55, false)⟩,
         ⟨some 58, (.bin .lss), [.t 56, .t 57], some (55, false)⟩,
         ⟨some 59, .pick, [.t 55, .k (.b true), .t 58], none⟩])
        (.cond (.t 59)
         (.seq
          (.region false [
           ⟨some 60, .mv, [.t 13], none⟩,
           ⟨some 11, .mv, [.t 60], none⟩])
          (.region false [
           ⟨some 61, .mv, [.t 15], none⟩,
           ⟨some 12, .mv, [.t 61], none⟩]))
         .skip)))))
    (.region false [
     ⟨some 42, .mv, [.t 13], none⟩,
     ⟨some 43, (.bin .add), [.t 42, .k (.i .i64 1)], none⟩,
     ⟨some 13, .mv, [.t 43], none⟩])))

def b_spec_BestPeriod (g_spec_l02Series g_spec_l00In g_spec_FoldedBy : FuncId) : VCode :=
  (.seq
   (.region false [
    ⟨some 8, .mv, [.k (.i .i64 0)], none⟩,
    ⟨some 9, .mv, [.k (.f .f32 0)], none⟩,
    ⟨some 10, .mv, [.k (.b false)], none⟩])
   (.seq
    (.seq
     (.region false [
      ⟨some 17, .mv, [.t 0], none⟩,
      ⟨some 18, (.call g_spec_l02Series), [.t 17], none⟩,
      ⟨some 19, .not, [.t 18], none⟩,
      ⟨some 20, .mv, [.t 19], none⟩,
      ⟨some 21, .mv, [.t 1], some (20, false)⟩,
      ⟨some 22, .mv, [.t 2], some (20, false)⟩,
      ⟨some 23, (.call g_spec_l00In), [.t 21, .k (.i .i64 2), .t 22], some (20, false)⟩,
      ⟨some 24, .not, [.t 23], some (20, false)⟩,
      ⟨some 25, .pick, [.t 20, .k (.b true), .t 24], none⟩,
      ⟨some 26, .mv, [.t 25], none⟩,
      ⟨some 27, .mv, [.t 2], some (26, false)⟩,
      ⟨some 28, .mv, [.t 0], some (26, false)⟩,
      ⟨some 29, .len, [.t 28], some (26, false)⟩,
      ⟨some 30, (.bin .quo), [.t 29, .k (.i .i64 2)], some (26, false)⟩,
      ⟨some 31, (.bin .gtr), [.t 27, .t 30], some (26, false)⟩,
      ⟨some 32, .pick, [.t 26, .k (.b true), .t 31], none⟩,
      ⟨some 33, .mv, [.t 32], none⟩,
      ⟨some 34, .mv, [.t 3], some (33, false)⟩,
      ⟨some 35, (.call g_spec_l00In), [.t 34, .k (.i .i64 1), .k (.i .i64 8)], some (33, false)⟩,
      ⟨some 36, .not, [.t 35], some (33, false)⟩,
      ⟨some 37, .pick, [.t 33, .k (.b true), .t 36], none⟩])
     (.cond (.t 37)
      (.seq
       (.region false [
        ⟨some 8, .mv, [.k (.i .i64 0)], none⟩,
        ⟨some 9, .mv, [.k (.f .f32 0)], none⟩,
        ⟨some 10, .mv, [.k (.b false)], none⟩])
       .ret)
      .skip))
    (.seq
     (.region false [
      ⟨some 11, .mv, [.k (.i .i64 0)], none⟩])
     (.seq
      (.region false [
       ⟨some 12, .mv, [.k (.f .f32 0)], none⟩])
      (.seq
       (.seq
        (.region false [
         ⟨some 38, .mv, [.t 1], none⟩,
         ⟨some 13, .mv, [.t 38], none⟩])
        (.block 0 (.loop (b_spec_BestPeriod_L0 g_spec_l02Series g_spec_l00In g_spec_FoldedBy))))
       (.seq
        (.region false [
         ⟨some 62, .mv, [.t 11], none⟩,
         ⟨some 63, .mv, [.t 12], none⟩,
         ⟨some 8, .mv, [.t 62], none⟩,
         ⟨some 9, .mv, [.t 63], none⟩,
         ⟨some 10, .mv, [.k (.b true)], none⟩])
        .ret))))))

abbrev Is_spec_BestPeriod (P : Program) (g_f : FuncId) (g_spec_l02Series g_spec_l00In g_spec_FoldedBy : FuncId) : Prop := FnIs P g_f 64 [.t 8, .t 9, .t 10] (b_spec_BestPeriod g_spec_l02Series g_spec_l00In g_spec_FoldedBy)

abbrev C_spec_BestPeriod (P : Program) (g_f : FuncId) : Prop := ∀ (xs : List Nat) (low : Int) (top : Int) (w : Int) (hx : xs.length ≤ maxLen), VCall P g_f [PS [0] .f32 xs, .i .i64 low, .i .i64 top, .i .i64 w] (.tup [.i .i64 (if bpOk xs low top w = true then (bpAt xs low (bpN low top)).1 else 0), .f .f32 (if bpOk xs low top w = true then (bpAt xs low (bpN low top)).2 else 0), .b (bpOk xs low top w)])
def oc1_spec_BestPeriod (as : List AV) : T AV := match as with | [.sl _ _ (.f .f32 xs), .i .i64 low, .i .i64 top, .i .i64 w] => .leaf (.tup [.i .i64 (if bpOk xs low top w = true then (bpAt xs low (bpN low top)).1 else 0), .f .f32 (if bpOk xs low top w = true then (bpAt xs low (bpN low top)).2 else 0), .b (bpOk xs low top w)]) | _ => .fail
def oc_spec_BestPeriod (xs : List Nat) (low : Int) (top : Int) (w : Int) (d : Nat) (as : List AV) : T AV := match d with | 18 => oc1_spec_l02Series as | 23 => oc1_spec_l00In as | 35 => oc1_spec_l00In as | 47 => oc1_spec_FoldedBy as | _ => .fail
def h_spec_BestPeriod_L0 (xs : List Nat) (low : Int) (top : Int) (w : Int) (best : Int) (least : Nat) (period : Int) : Env := [AV.sl (Tag.par [0]) 0 (Cont.f FloatKind.f32 xs), .any, AV.i IntKind.i64 top] ++ anys 8 ++ [.i IntKind.i64 best, .f FloatKind.f32 least, .i IntKind.i64 period] ++ anys 50

theorem q_spec_BestPeriod_L0 {VC : FuncId → List AV → AV → Prop} {g_spec_l02Series g_spec_l00In g_spec_FoldedBy : FuncId} (xs : List Nat) (low : Int) (top : Int) (w : Int) (best : Int) (least : Nat) (period : Int) {e_ : Ex} {σ_ : Env} (ht : T.ok (fun x_ => x_ = (e_, σ_)) (
      T.ite (decide (period ≤ top))
        (T.ob
          (VC g_spec_FoldedBy [AV.sl (Tag.par [0]) 0 (Cont.f FloatKind.f32 xs), AV.i IntKind.i64 period]
            (AV.tup
              [AV.sl (Tag.own 0) 0 (Cont.f FloatKind.f32 (if foldOk xs period = true then foldM xs (Int.toNat period) else [])),
                AV.f FloatKind.f32 (if foldOk xs period = true then leftM xs (foldM xs (Int.toNat period)) else 0), AV.b (foldOk xs period)]))
          (T.ite (!foldOk xs period) (T.leaf (Ex.ret, anys 8 ++ AV.i IntKind.i64 0 :: AV.f FloatKind.f32 0 :: AV.b false :: anys 53))
            (T.ite (best == 0) (T.leaf (Ex.normal, h_spec_BestPeriod_L0 xs low top w period (if foldOk xs period = true then leftM xs (foldM xs (Int.toNat period)) else 0) (IntKind.wrap IntKind.i64 (period + 1))))
              (T.ite (flt FloatKind.f32 (if foldOk xs period = true then leftM xs (foldM xs (Int.toNat period)) else 0) least)
                (T.leaf (Ex.normal, h_spec_BestPeriod_L0 xs low top w period (if foldOk xs period = true then leftM xs (foldM xs (Int.toNat period)) else 0) (IntKind.wrap IntKind.i64 (period + 1))))
                (T.leaf (Ex.normal, h_spec_BestPeriod_L0 xs low top w best least (IntKind.wrap IntKind.i64 (period + 1))))))))
        (T.leaf (Ex.exit 0, h_spec_BestPeriod_L0 xs low top w best least period)))) :
    Exec VC ps_spec_BestPeriod (b_spec_BestPeriod_L0 g_spec_l02Series g_spec_l00In g_spec_FoldedBy) (h_spec_BestPeriod_L0 xs low top w best least period) e_ σ_ := evL_of (lv := lv_spec_BestPeriod_L0) (rs := [8, 9, 10]) (O := ⟨oc_spec_BestPeriod xs low top w, fun _ _ => none⟩) (by kernel_rfl) ht

theorem q_spec_BestPeriod {P : Program} {g_f : FuncId} {g_spec_l02Series g_spec_l00In g_spec_FoldedBy : FuncId} (h_ : Is_spec_BestPeriod P g_f g_spec_l02Series g_spec_l00In g_spec_FoldedBy) (xs : List Nat) (low : Int) (top : Int) (w : Int) (ht : T.ok (fun x_ => x_ = .tup [.i .i64 (if bpOk xs low top w = true then (bpAt xs low (bpN low top)).1 else 0), .f .f32 (if bpOk xs low top w = true then (bpAt xs low (bpN low top)).2 else 0), .b (bpOk xs low top w)]) (
      T.ob ((VCall P) g_spec_l02Series [AV.sl (Tag.par [0]) 0 (Cont.f FloatKind.f32 xs)] (AV.b (seriesM xs)))
        (T.ite (!seriesM xs) (T.leaf (AV.tup [AV.i IntKind.i64 0, AV.f FloatKind.f32 0, AV.b false]))
          (T.ob ((VCall P) g_spec_l00In [AV.i IntKind.i64 low, AV.i IntKind.i64 2, AV.i IntKind.i64 top] (AV.b (inM low 2 top)))
            (T.ite (!inM low 2 top) (T.leaf (AV.tup [AV.i IntKind.i64 0, AV.f FloatKind.f32 0, AV.b false]))
              (T.ob ((2 : Int) ≠ 0)
                (T.ite (decide (top > IntKind.wrap IntKind.i64 (Int.tdiv (↑(List.length xs) : Int) 2))) (T.leaf (AV.tup [AV.i IntKind.i64 0, AV.f FloatKind.f32 0, AV.b false]))
                  (T.ob ((VCall P) g_spec_l00In [AV.i IntKind.i64 w, AV.i IntKind.i64 1, AV.i IntKind.i64 8] (AV.b (inM w 1 8)))
                    (T.ite (!inM w 1 8) (T.leaf (AV.tup [AV.i IntKind.i64 0, AV.f FloatKind.f32 0, AV.b false]))
                      (T.ite (bpFin xs low top)
                        (T.ob
                          (Exec (VCall P) ps_spec_BestPeriod (VCode.block 0 (VCode.loop (b_spec_BestPeriod_L0 g_spec_l02Series g_spec_l00In g_spec_FoldedBy))) (h_spec_BestPeriod_L0 xs low top w 0 0 low) Ex.normal
                            (h_spec_BestPeriod_L0 xs low top w (Prod.fst (bpAt xs low (bpN low top))) (Prod.snd (bpAt xs low (bpN low top))) (top + 1)))
                          (T.leaf (AV.tup [AV.i IntKind.i64 (Prod.fst (bpAt xs low (bpN low top))), AV.f FloatKind.f32 (Prod.snd (bpAt xs low (bpN low top))), AV.b true])))
                        (T.ob
                          (Exec (VCall P) ps_spec_BestPeriod (VCode.block 0 (VCode.loop (b_spec_BestPeriod_L0 g_spec_l02Series g_spec_l00In g_spec_FoldedBy))) (h_spec_BestPeriod_L0 xs low top w 0 0 low) Ex.ret
                            (anys 8 ++ AV.i IntKind.i64 0 :: AV.f FloatKind.f32 0 :: AV.b false :: anys 53))
                          (T.leaf (AV.tup [AV.i IntKind.i64 0, AV.f FloatKind.f32 0, AV.b false]))))))))))))) :
    VCall P g_f [PS [0] .f32 xs, .i .i64 low, .i .i64 top, .i .i64 w] (.tup [.i .i64 (if bpOk xs low top w = true then (bpAt xs low (bpN low top)).1 else 0), .f .f32 (if bpOk xs low top w = true then (bpAt xs low (bpN low top)).2 else 0), .b (bpOk xs low top w)]) := h_.call_of ps_spec_BestPeriod ⟨oc_spec_BestPeriod xs low top w, fun id σ => match id with | 0 => some (lv_spec_BestPeriod_L0, .ite (bpFin xs low top) (.leaf (.normal, h_spec_BestPeriod_L0 xs low top w (bpAt xs low (bpN low top)).1 (bpAt xs low (bpN low top)).2 (top + 1))) (.leaf (.ret, anys 8 ++ .i .i64 0 :: .f .f32 0 :: .b false :: anys 53))) | _ => none⟩ (by kernel_rfl) ht


theorem k_impl_weighed {P : Program} {f : FuncId} (h : Is_impl_weighed P f) : C_impl_weighed P f := by
  intro ws a b ha hb hx
  refine q_impl_weighed h ws a b ?_
  have hm := ml64 hx
  refine ⟨?_, fun _ => rfl⟩
  refine for_up (e := .exit 0) (ws.length) (fun i => h_impl_weighed_L0 ws a b (accN (fun i s => fadd .f32 s (fmul .f32 (fmul .f32 (ws.getD i 0) (a.getD i 0)) (b.getD i 0))) i 0) i) (by first | rfl | simp) (fun i hi => ?_) ?_
  · refine q_impl_weighed_L0 _ _ _ _ _ ?_
    repeat' (first | with_reducible refine T.ok_ob ?_ (fun _ => ?_) | with_reducible refine T.ok_ite (fun _ => ?_) (fun _ => ?_) | with_reducible refine T.ok_leaf ?_)
    all_goals (try simp only [decide_eq_true_eq, decide_eq_false_iff_not, Bool.not_eq_true', Bool.not_eq_false', Bool.not_eq_eq_eq_not, Bool.not_true, Bool.not_false, Int.toNat_natCast, tab_len, List.length_append, List.length_singleton, List.length_cons, List.length_nil, List.length_drop, List.length_take, getD_drop', getD_nat, reduceCtorEq] at *)
    all_goals (try simp (disch := omega) only [wrap64_id] at *)
    all_goals first | omega | (exfalso; omega) | trivial | contradiction | (exfalso; simp_all; done) | skip
    all_goals first | rfl | (rw [tab_succ]; rfl)
  · refine q_impl_weighed_L0 _ _ _ _ _ ?_
    repeat' (first | with_reducible refine T.ok_ob ?_ (fun _ => ?_) | with_reducible refine T.ok_ite (fun _ => ?_) (fun _ => ?_) | with_reducible refine T.ok_leaf ?_)
    all_goals (try simp only [decide_eq_true_eq, decide_eq_false_iff_not, Bool.not_eq_true', Bool.not_eq_false', Bool.not_eq_eq_eq_not, Bool.not_true, Bool.not_false, Int.toNat_natCast, tab_len, List.length_append, List.length_singleton, List.length_cons, List.length_nil, List.length_drop, List.length_take, getD_drop', getD_nat, reduceCtorEq] at *)
    all_goals (try simp (disch := omega) only [wrap64_id] at *)
    all_goals first | omega | (exfalso; omega) | trivial | contradiction | (exfalso; simp_all; done) | skip
    all_goals rfl
  repeat' (first | with_reducible refine T.ok_ob ?_ (fun _ => ?_) | with_reducible refine T.ok_ite (fun _ => ?_) (fun _ => ?_) | with_reducible refine T.ok_leaf ?_)
  all_goals first | with_reducible rfl | with_reducible assumption | contradiction | exact fconvOk_32_64 _ | assumption | exact rfl | (simp_all []; done) | (simp_all [T.ok]; omega)

theorem wf_eq {x y ws : List Nat} (h1 : twoM x y = true) (h2 : twoM x ws = true) (h3 : notLessM ws = true) (h4 : fgt .f32 (sumM ws) 0 = true) (h5 : feq .f32 (wfDown x ws) 0 = false) : wfOk x y ws = (finM (wfBase x y ws) && finM (wfSlope x y ws)) := by
  simp [wfOk, h1, h2, h3, h4, h5]
theorem k_impl_WeightFit {P : Program} {f g1 g2 g3 g4 g5 g6 g7 : FuncId} (h : Is_impl_WeightFit P f g1 g2 g3 g4 g5 g6 g7) (c1 : C_impl_addUp P g1) (c2 : C_impl_areTwo P g2) (c3 : C_impl_areNotLess P g3) (c4 : C_impl_dot P g4) (c5 : C_impl_lessOne P g5) (c6 : C_impl_weighed P g6) (c7 : C_impl_ifTwo P g7) : C_impl_WeightFit P f := by
  intro x y ws hx hy hw
  refine q_impl_WeightFit h x y ws ⟨c1 _ hw, fun _ => ⟨c2 _ _ hx hy, fun _ => ⟨fun h1 => ?_, fun h1 => ⟨c2 _ _ hx hw, fun _ => ⟨fun h2 => ?_, fun h2 => ⟨c3 _ hw, fun _ => ⟨fun h3 => ?_, fun h3 => ⟨fun h4 => ?_, fun h4 => ?_⟩⟩⟩⟩⟩⟩⟩⟩
  · simp at h1; simp [T.ok, wfOk, h1]
  · simp at h2; simp [T.ok, wfOk, h2]
  · simp at h3; simp [T.ok, wfOk, h3]
  · simp at h4; simp [T.ok, wfOk, h4]
  · simp only [Bool.not_eq_false'] at h1 h2 h3 h4
    have l1 := two_len h1
    have l2 := two_len h2
    have u1 := lessOne_len x (wfX x ws)
    have u2 := lessOne_len y (wfX y ws)
    refine ⟨c4 _ _ (by omega) hw, fun _ => ⟨trivial, fun _ => ⟨c4 _ _ (by omega) hw, fun _ => ⟨trivial, fun _ => ⟨c5 _ _ (by omega), fun _ => ⟨c6 _ (wfU x ws) (wfU x ws) (by unfold wfU; omega) (by unfold wfU; omega) hw, fun _ => ⟨fun h5 => ?_, fun h5 => ⟨c5 _ _ (by omega), fun _ => ⟨c6 _ (wfU x ws) (wfU y ws) (by unfold wfU; omega) (by unfold wfU; omega) hw, fun _ => ⟨trivial, fun _ => ⟨c7 (wfBase x y ws) (wfSlope x y ws), fun _ => ?_⟩⟩⟩⟩⟩⟩⟩⟩⟩⟩⟩
    · have h5 : feq .f32 (wfDown x ws) 0 = true := h5
      simp [T.ok, wfOk, h5]
    · have h5 : feq .f32 (wfDown x ws) 0 = false := h5
      simp only [T.ok, wf_eq h1 h2 h3 h4 h5, two1, two2]
theorem two_eq {x y : List Nat} : twoM x y = (seriesM x && (seriesM y && decide (x.length = y.length))) := by
  unfold twoM
  have : ((x.length : Int) == (y.length : Int)) = decide (x.length = y.length) := by
    rw [Bool.eq_iff_iff, beq_iff_eq, decide_eq_true_eq]; omega
  rw [this, Bool.and_assoc]
theorem k_spec_WeightFit {P : Program} {f g1 g2 : FuncId} (h : Is_spec_WeightFit P f g1 g2) (c1 : C_spec_l02Series P g1) (c2 : C_spec_l03Two P g2) : C_spec_WeightFit P f := by
  intro x y ws hx hy hw
  refine q_spec_WeightFit h x y ws ⟨c1 _ hx, fun _ => ⟨fun h1 => ?_, fun h1 => ⟨c1 _ hy, fun _ => ⟨fun h2 => ?_, fun h2 => ⟨c1 _ hw, fun _ => ⟨fun h3 => ?_, fun h3 => ⟨fun h4 => ?_, fun h4 => ⟨fun h5 => ?_, fun h5 => ?_⟩⟩⟩⟩⟩⟩⟩⟩
  · simp at h1; simp [T.ok, wfOk, two_eq, h1]
  · simp at h2; simp [T.ok, wfOk, two_eq, h2]
  · simp at h3; simp [T.ok, wfOk, two_eq, h3]
  · have : ¬ (x.length = y.length) := by simp at h4; omega
    simp [T.ok, wfOk, two_eq, this]
  · have h5 : ¬ (ws.length = y.length) := by simp at h5; omega
    have h4 : x.length = y.length := by simp at h4; omega
    have : ¬ (x.length = ws.length) := by omega
    simp [T.ok, wfOk, two_eq, this]
  · simp only [Bool.not_eq_false'] at h1 h2 h3
    have h5 : ws.length = y.length := by simp at h5; omega
    have h4 : x.length = y.length := by simp at h4; omega
    have t1 : twoM x y = true := by rw [two_eq, h1, h2]; simp [h4]
    have t2 : twoM x ws = true := by rw [two_eq, h1, h3]; simp; omega
    have hl := series_len h3
    have hs := series_less h3
    have ea : (!someLess ws) = allN ws.length fun i => !flt .f32 (ws.getD i 0) 0 := by unfold someLess; rw [any_allN, Bool.not_not]
    have go : ∀ i, i < ws.length → (!flt .f32 (ws.getD i 0) 0) = true → Exec (VCall P) ps_spec_WeightFit (b_spec_WeightFit_L0 g1 g2) (h_spec_WeightFit_L0 x y ws (accN (fun i s => fadd .f32 s (ws.getD i 0)) i 0) (accN (fun i s => fadd .f32 s (fmul .f32 (ws.getD i 0) (x.getD i 0))) i 0) (accN (fun i s => fadd .f32 s (fmul .f32 (ws.getD i 0) (y.getD i 0))) i 0) (i : Nat)) .normal (h_spec_WeightFit_L0 x y ws (accN (fun i s => fadd .f32 s (ws.getD i 0)) (i + 1) 0) (accN (fun i s => fadd .f32 s (fmul .f32 (ws.getD i 0) (x.getD i 0))) (i + 1) 0) (accN (fun i s => fadd .f32 s (fmul .f32 (ws.getD i 0) (y.getD i 0))) (i + 1) 0) (i + 1 : Nat)) := by
      intro i hi hc
      have hc : flt .f32 (ws.getD i 0) 0 = false := by simpa using hc
      refine q_spec_WeightFit_L0 _ _ _ _ _ _ _ ?_
      rw [Int.toNat_natCast, hc]
      repeat' (first | with_reducible refine T.ok_ob ?_ (fun _ => ?_) | with_reducible refine T.ok_ite (fun _ => ?_) (fun _ => ?_) | with_reducible refine T.ok_leaf ?_)
      all_goals (try simp only [decide_eq_true_eq, decide_eq_false_iff_not, Bool.not_eq_true', Bool.not_eq_false', Bool.not_eq_eq_eq_not, Bool.not_true, Bool.not_false, Int.toNat_natCast, tab_len, List.length_append, List.length_singleton, List.length_cons, List.length_nil, List.length_drop, List.length_take, getD_drop', getD_nat, reduceCtorEq] at *)
      all_goals (try simp (disch := omega) only [wrap64_id] at *)
      all_goals first | omega | (exfalso; omega) | trivial | contradiction | (exfalso; simp_all; done) | skip
      all_goals rfl
    refine ⟨fun h6 => ⟨?_, fun _ => ⟨fun h7 => ?_, fun h7 => ⟨trivial, fun _ => ⟨trivial, fun _ => ⟨?_, fun _ => ⟨fun h8 => ?_, fun h8 => ⟨trivial, fun _ => ⟨c2 (wfBase x y ws) (wfSlope x y ws), fun _ => ?_⟩⟩⟩⟩⟩⟩⟩⟩, fun h6 => ⟨?_, fun _ => ?_⟩⟩
    · refine for_all (e := .exit 0) _ ws.length (fun i => h_spec_WeightFit_L0 x y ws (accN (fun i s => fadd .f32 s (ws.getD i 0)) i 0) (accN (fun i s => fadd .f32 s (fmul .f32 (ws.getD i 0) (x.getD i 0))) i 0) (accN (fun i s => fadd .f32 s (fmul .f32 (ws.getD i 0) (y.getD i 0))) i 0) i) (by rw [← ea]; exact h6) rfl go ?_
      refine q_spec_WeightFit_L0 _ _ _ _ _ _ _ ?_
      repeat' (first | with_reducible refine T.ok_ob ?_ (fun _ => ?_) | with_reducible refine T.ok_ite (fun _ => ?_) (fun _ => ?_) | with_reducible refine T.ok_leaf ?_)
      all_goals (try simp only [decide_eq_true_eq, decide_eq_false_iff_not, Bool.not_eq_true', Bool.not_eq_false', Bool.not_eq_eq_eq_not, Bool.not_true, Bool.not_false, Int.toNat_natCast, tab_len, List.length_append, List.length_singleton, List.length_cons, List.length_nil, List.length_drop, List.length_take, getD_drop', getD_nat, reduceCtorEq] at *)
      all_goals (try simp (disch := omega) only [wrap64_id] at *)
      all_goals first | omega | (exfalso; omega) | trivial | contradiction | (exfalso; simp_all; done) | skip
      all_goals rfl
    · simp at h7; simp [T.ok, wfOk, h7]
    · have u1 := lessOne_len x (wfX x ws)
      have u2 := lessOne_len y (wfX y ws)
      have e1 : weighedM ws (wfU x ws) (wfU y ws) = accN (fun i s => fadd .f32 s (fmul .f32 (fmul .f32 (ws.getD i 0) (fsub .f32 (x.getD i 0) (wfX x ws))) (fsub .f32 (y.getD i 0) (wfX y ws)))) ws.length 0 :=
        accN_congr fun i s hi => by unfold wfU; rw [lessOne_get _ _ _ (by omega), lessOne_get _ _ _ (by omega)]
      have e2 : wfDown x ws = accN (fun i s => fadd .f32 s (fmul .f32 (fmul .f32 (ws.getD i 0) (fsub .f32 (x.getD i 0) (wfX x ws))) (fsub .f32 (x.getD i 0) (wfX x ws)))) ws.length 0 :=
        accN_congr fun i s hi => by unfold wfU; rw [lessOne_get _ _ _ (by omega)]
      rw [e1, e2]
      refine for_up (e := .exit 2) ws.length (fun i => h_spec_WeightFit_L2 x y ws (accN (fun i s => fadd .f32 s (fmul .f32 (fmul .f32 (ws.getD i 0) (fsub .f32 (x.getD i 0) (wfX x ws))) (fsub .f32 (y.getD i 0) (wfX y ws)))) i 0) (accN (fun i s => fadd .f32 s (fmul .f32 (fmul .f32 (ws.getD i 0) (fsub .f32 (x.getD i 0) (wfX x ws))) (fsub .f32 (x.getD i 0) (wfX x ws)))) i 0) i) rfl (fun i hi => ?_) ?_
      · refine q_spec_WeightFit_L2 _ _ _ _ _ _ ?_
        repeat' (first | with_reducible refine T.ok_ob ?_ (fun _ => ?_) | with_reducible refine T.ok_ite (fun _ => ?_) (fun _ => ?_) | with_reducible refine T.ok_leaf ?_)
        all_goals (try simp only [decide_eq_true_eq, decide_eq_false_iff_not, Bool.not_eq_true', Bool.not_eq_false', Bool.not_eq_eq_eq_not, Bool.not_true, Bool.not_false, Int.toNat_natCast, tab_len, List.length_append, List.length_singleton, List.length_cons, List.length_nil, List.length_drop, List.length_take, getD_drop', getD_nat, reduceCtorEq] at *)
        all_goals (try simp (disch := omega) only [wrap64_id] at *)
        all_goals first | omega | (exfalso; omega) | trivial | contradiction | (exfalso; simp_all; done) | skip
        all_goals rfl
      · refine q_spec_WeightFit_L2 _ _ _ _ _ _ ?_
        repeat' (first | with_reducible refine T.ok_ob ?_ (fun _ => ?_) | with_reducible refine T.ok_ite (fun _ => ?_) (fun _ => ?_) | with_reducible refine T.ok_leaf ?_)
        all_goals (try simp only [decide_eq_true_eq, decide_eq_false_iff_not, Bool.not_eq_true', Bool.not_eq_false', Bool.not_eq_eq_eq_not, Bool.not_true, Bool.not_false, Int.toNat_natCast, tab_len, List.length_append, List.length_singleton, List.length_cons, List.length_nil, List.length_drop, List.length_take, getD_drop', getD_nat, reduceCtorEq] at *)
        all_goals (try simp (disch := omega) only [wrap64_id] at *)
        all_goals first | omega | (exfalso; omega) | trivial | contradiction | (exfalso; simp_all; done) | skip
        all_goals rfl
    · simp [T.ok, wfOk, h8]
    · simp only [Bool.not_eq_false'] at h7
      simp only [T.ok, wf_eq t1 t2 (by rw [hs]; exact h6) h7 h8, two1, two2]
    · refine for_one (e := .ret) _ ws.length (fun i => h_spec_WeightFit_L0 x y ws (accN (fun i s => fadd .f32 s (ws.getD i 0)) i 0) (accN (fun i s => fadd .f32 s (fmul .f32 (ws.getD i 0) (x.getD i 0))) i 0) (accN (fun i s => fadd .f32 s (fmul .f32 (ws.getD i 0) (y.getD i 0))) i 0) i) (by rw [← ea]; exact h6) rfl go (fun i hi hc => ?_)
      have hc : flt .f32 (ws.getD i 0) 0 = true := by simpa using hc
      refine q_spec_WeightFit_L0 _ _ _ _ _ _ _ ?_
      rw [Int.toNat_natCast, hc]
      repeat' (first | with_reducible refine T.ok_ob ?_ (fun _ => ?_) | with_reducible refine T.ok_ite (fun _ => ?_) (fun _ => ?_) | with_reducible refine T.ok_leaf ?_)
      all_goals (try simp only [decide_eq_true_eq, decide_eq_false_iff_not, Bool.not_eq_true', Bool.not_eq_false', Bool.not_eq_eq_eq_not, Bool.not_true, Bool.not_false, Int.toNat_natCast, tab_len, List.length_append, List.length_singleton, List.length_cons, List.length_nil, List.length_drop, List.length_take, getD_drop', getD_nat, reduceCtorEq] at *)
      all_goals (try simp (disch := omega) only [wrap64_id] at *)
      all_goals first | omega | (exfalso; omega) | trivial | contradiction | (exfalso; simp_all; done) | skip
      all_goals rfl
    · have : wfOk x y ws = false := by unfold wfOk; rw [hs, h6]; simp
      simp [T.ok, this]
theorem k_spec_l02Less {P : Program} {f : FuncId} (h : Is_spec_l02Less P f) : C_spec_l02Less P f := by
  intro xs m hx
  refine q_spec_l02Less h xs m ?_
  refine ⟨?_, fun _ => rfl⟩
  refine for_up (e := .exit 0) (xs.length) (fun i => h_spec_l02Less_L0 xs m (tab i fun i => fsub .f32 (xs.getD i 0) m) i) (by first | rfl | simp) (fun i hi => ?_) ?_
  · refine q_spec_l02Less_L0 _ _ _ _ ?_
    repeat' (first | with_reducible refine T.ok_ob ?_ (fun _ => ?_) | with_reducible refine T.ok_ite (fun _ => ?_) (fun _ => ?_) | with_reducible refine T.ok_leaf ?_)
    all_goals (try simp only [decide_eq_true_eq, decide_eq_false_iff_not, Bool.not_eq_true', Bool.not_eq_false', Bool.not_eq_eq_eq_not, Bool.not_true, Bool.not_false, Int.toNat_natCast, tab_len, List.length_append, List.length_singleton, List.length_cons, List.length_nil, List.length_drop, List.length_take, getD_drop', getD_nat, reduceCtorEq] at *)
    all_goals (try simp (disch := omega) only [wrap64_id] at *)
    all_goals first | omega | (exfalso; omega) | trivial | contradiction | (exfalso; simp_all; done) | skip
    all_goals first | rfl | (rw [tab_succ]; rfl)
  · refine q_spec_l02Less_L0 _ _ _ _ ?_
    repeat' (first | with_reducible refine T.ok_ob ?_ (fun _ => ?_) | with_reducible refine T.ok_ite (fun _ => ?_) (fun _ => ?_) | with_reducible refine T.ok_leaf ?_)
    all_goals (try simp only [decide_eq_true_eq, decide_eq_false_iff_not, Bool.not_eq_true', Bool.not_eq_false', Bool.not_eq_eq_eq_not, Bool.not_true, Bool.not_false, Int.toNat_natCast, tab_len, List.length_append, List.length_singleton, List.length_cons, List.length_nil, List.length_drop, List.length_take, getD_drop', getD_nat, reduceCtorEq] at *)
    all_goals (try simp (disch := omega) only [wrap64_id] at *)
    all_goals first | omega | (exfalso; omega) | trivial | contradiction | (exfalso; simp_all; done) | skip
    all_goals rfl
  repeat' (first | with_reducible refine T.ok_ob ?_ (fun _ => ?_) | with_reducible refine T.ok_ite (fun _ => ?_) (fun _ => ?_) | with_reducible refine T.ok_leaf ?_)
  all_goals first | with_reducible rfl | with_reducible assumption | contradiction | exact fconvOk_32_64 _ | assumption | exact rfl | (simp_all []; done) | (simp_all [T.ok]; omega)

theorem k_spec_l02Dot {P : Program} {f : FuncId} (h : Is_spec_l02Dot P f) : C_spec_l02Dot P f := by
  intro xs ys hy hx
  refine q_spec_l02Dot h xs ys ?_
  have hm := ml64 hx
  refine ⟨?_, fun _ => rfl⟩
  refine for_up (e := .exit 0) (xs.length) (fun i => h_spec_l02Dot_L0 xs ys (accN (fun i s => fadd .f32 s (fmul .f32 (xs.getD i 0) (ys.getD i 0))) i 0) i) (by first | rfl | simp) (fun i hi => ?_) ?_
  · refine q_spec_l02Dot_L0 _ _ _ _ ?_
    repeat' (first | with_reducible refine T.ok_ob ?_ (fun _ => ?_) | with_reducible refine T.ok_ite (fun _ => ?_) (fun _ => ?_) | with_reducible refine T.ok_leaf ?_)
    all_goals (try simp only [decide_eq_true_eq, decide_eq_false_iff_not, Bool.not_eq_true', Bool.not_eq_false', Bool.not_eq_eq_eq_not, Bool.not_true, Bool.not_false, Int.toNat_natCast, tab_len, List.length_append, List.length_singleton, List.length_cons, List.length_nil, List.length_drop, List.length_take, getD_drop', getD_nat, reduceCtorEq] at *)
    all_goals (try simp (disch := omega) only [wrap64_id] at *)
    all_goals first | omega | (exfalso; omega) | trivial | contradiction | (exfalso; simp_all; done) | skip
    all_goals first | rfl | (rw [tab_succ]; rfl)
  · refine q_spec_l02Dot_L0 _ _ _ _ ?_
    repeat' (first | with_reducible refine T.ok_ob ?_ (fun _ => ?_) | with_reducible refine T.ok_ite (fun _ => ?_) (fun _ => ?_) | with_reducible refine T.ok_leaf ?_)
    all_goals (try simp only [decide_eq_true_eq, decide_eq_false_iff_not, Bool.not_eq_true', Bool.not_eq_false', Bool.not_eq_eq_eq_not, Bool.not_true, Bool.not_false, Int.toNat_natCast, tab_len, List.length_append, List.length_singleton, List.length_cons, List.length_nil, List.length_drop, List.length_take, getD_drop', getD_nat, reduceCtorEq] at *)
    all_goals (try simp (disch := omega) only [wrap64_id] at *)
    all_goals first | omega | (exfalso; omega) | trivial | contradiction | (exfalso; simp_all; done) | skip
    all_goals rfl
  repeat' (first | with_reducible refine T.ok_ob ?_ (fun _ => ?_) | with_reducible refine T.ok_ite (fun _ => ?_) (fun _ => ?_) | with_reducible refine T.ok_leaf ?_)
  all_goals first | with_reducible rfl | with_reducible assumption | contradiction | exact fconvOk_32_64 _ | assumption | exact rfl | (simp_all []; done) | (simp_all [T.ok]; omega)

theorem k_impl_squares {P : Program} {f g_impl_mean g_impl_lessOne g_impl_dot : FuncId} (h : Is_impl_squares P f g_impl_mean g_impl_lessOne g_impl_dot) (c1 : C_impl_mean P g_impl_mean) (c2 : C_impl_lessOne P g_impl_lessOne) (c3 : C_impl_dot P g_impl_dot) : C_impl_squares P f := by
  intro xs hx
  refine q_impl_squares h xs ?_
  have l1 := lessOne_len xs (meanM xs)
  repeat' (first | with_reducible refine T.ok_ob ?_ (fun _ => ?_) | with_reducible refine T.ok_ite (fun _ => ?_) (fun _ => ?_) | with_reducible refine T.ok_leaf ?_)
  all_goals first | with_reducible rfl | with_reducible assumption | ((with_reducible refine c1 _ ?_) <;> (first | assumption | omega | with_reducible rfl | (simp [maxLen_eq]; done) | (simp [maxLen_eq]; omega))) | ((with_reducible refine c2 _ _ ?_) <;> (first | assumption | omega | with_reducible rfl | (simp [maxLen_eq]; done) | (simp [maxLen_eq]; omega))) | ((with_reducible refine c3 _ _ ?_ ?_) <;> (first | assumption | omega | with_reducible rfl | (simp [maxLen_eq]; done) | (simp [maxLen_eq]; omega))) | contradiction | exact fconvOk_32_64 _ | assumption | exact rfl | (simp_all []; done) | (simp_all [T.ok]; omega)

theorem k_spec_l02Squares {P : Program} {f g_spec_l02Mean g_spec_l02Less g_spec_l02Dot : FuncId} (h : Is_spec_l02Squares P f g_spec_l02Mean g_spec_l02Less g_spec_l02Dot) (c1 : C_spec_l02Mean P g_spec_l02Mean) (c2 : C_spec_l02Less P g_spec_l02Less) (c3 : C_spec_l02Dot P g_spec_l02Dot) : C_spec_l02Squares P f := by
  intro xs hx
  refine q_spec_l02Squares h xs ?_
  have l1 := lessOne_len xs (meanM xs)
  repeat' (first | with_reducible refine T.ok_ob ?_ (fun _ => ?_) | with_reducible refine T.ok_ite (fun _ => ?_) (fun _ => ?_) | with_reducible refine T.ok_leaf ?_)
  all_goals first | with_reducible rfl | with_reducible assumption | ((with_reducible refine c1 _ ?_) <;> (first | assumption | omega | with_reducible rfl | (simp [maxLen_eq]; done) | (simp [maxLen_eq]; omega))) | ((with_reducible refine c2 _ _ ?_) <;> (first | assumption | omega | with_reducible rfl | (simp [maxLen_eq]; done) | (simp [maxLen_eq]; omega))) | ((with_reducible refine c3 _ _ ?_ ?_) <;> (first | assumption | omega | with_reducible rfl | (simp [maxLen_eq]; done) | (simp [maxLen_eq]; omega))) | contradiction | exact fconvOk_32_64 _ | assumption | exact rfl | (simp_all []; done) | (simp_all [T.ok]; omega)

theorem step_le (xs : List Nat) : ∀ j, (stepAt xs j).1 ≤ j
  | 0 => Nat.le_refl _
  | j + 1 => by
    have := step_le xs j
    simp only [stepAt]
    split
    · exact Nat.le_refl _
    · omega
theorem step_pos (xs : List Nat) : ∀ j, 1 ≤ j → 1 ≤ (stepAt xs j).1
  | 0, h => by omega
  | j + 1, _ => by
    simp only [stepAt]
    split
    · simp
    · rename_i h
      simp at h; omega
theorem k_impl_StepOf {P : Program} {f g1 g2 g3 g4 : FuncId} (h : Is_impl_StepOf P f g1 g2 g3 g4) (c1 : C_impl_IsSeries P g1) (c2 : C_impl_squares P g2) (c3 : C_impl_IsFinite P g3) (c4 : C_impl_mean P g4) : C_impl_StepOf P f := by
  intro xs hx
  refine q_impl_StepOf h xs ⟨c1 _ hx, fun _ => ⟨fun h1 => ?_, fun h1 => ⟨fun h2 => ?_, fun h2 => ?_⟩⟩⟩
  · simp at h1; simp [T.ok, stepOk, h1]
  · have : ¬ (2 ≤ xs.length) := by simp at h2; omega
    simp [T.ok, stepOk, this]
  · simp only [Bool.not_eq_false'] at h1
    have h2 : 2 ≤ xs.length := by simp at h2; omega
    have hl := series_len h1
    have hb := step_le xs (xs.length - 1)
    have hb : stepBest xs ≤ xs.length - 1 := hb
    have go : ∀ j, j < xs.length - 1 → finM (stepSum xs (j + 1)) = true → Exec (VCall P) ps_impl_StepOf (b_impl_StepOf_L0 g1 g2 g3 g4) (h_impl_StepOf_L0 xs (stepAt xs j).1 (stepAt xs j).2 (j + 1 : Nat)) .normal (h_impl_StepOf_L0 xs (stepAt xs (j + 1)).1 (stepAt xs (j + 1)).2 (j + 1 + 1 : Nat)) := by
      intro j hj hc
      refine q_impl_StepOf_L0 _ _ _ _ ?_
      have e : stepAt xs (j + 1) = if ((stepAt xs j).1 == 0 || flt .f32 (stepSum xs (j + 1)) (stepAt xs j).2) = true then (j + 1, stepSum xs (j + 1)) else stepAt xs j := rfl
      rw [e]
      simp only [Int.toNat_natCast, List.drop_zero, drop_all]
      have a1 := c2 (xs.take (j + 1)) (by simp; omega)
      have a2 := c2 (xs.drop (j + 1)) (by simp; omega)
      have a3 := c3 (stepSum xs (j + 1))
      rw [show fadd .f32 (squaresM (xs.take (j + 1))) (squaresM (xs.drop (j + 1))) = stepSum xs (j + 1) from rfl]
      rw [hc] at a3 ⊢
      generalize stepSum xs (j + 1) = S at *
      generalize stepAt xs j = a at *
      have e0 : ((a.1 : Int) == 0) = (a.1 == 0) := by rw [Bool.eq_iff_iff]; simp
      rw [e0]
      cases hq : (a.1 == 0) <;> cases hf : flt .f32 S a.2 <;> simp only [Bool.or_self, Bool.or_true, Bool.true_or, Bool.false_eq_true, if_true, if_false]
      repeat' (first | with_reducible refine T.ok_ob ?_ (fun _ => ?_) | with_reducible refine T.ok_ite (fun _ => ?_) (fun _ => ?_) | with_reducible refine T.ok_leaf ?_)
      all_goals (try simp only [decide_eq_true_eq, decide_eq_false_iff_not, Bool.not_eq_true', Bool.not_eq_false', Bool.not_eq_eq_eq_not, Bool.not_true, Bool.not_false, Int.toNat_natCast, tab_len, List.length_append, List.length_singleton, List.length_cons, List.length_nil, List.length_drop, List.length_take, getD_drop', getD_nat, reduceCtorEq] at *)
      all_goals (try simp (disch := omega) only [wrap64_id] at *)
      all_goals first | omega | (exfalso; omega) | exact True.intro | skip
      all_goals first | exact a1 | exact a2 | exact a3 | rfl
    refine ⟨fun h3 => ⟨?_, fun _ => ⟨by omega, fun _ => ⟨c4 _ (by simp [maxLen_eq]; omega), fun _ => ⟨by omega, fun _ => ⟨c4 _ (by simp [maxLen_eq]; omega), fun _ => ⟨c3 _, fun _ => ?_⟩⟩⟩⟩⟩⟩, fun h3 => ⟨?_, fun _ => ?_⟩⟩
    · refine for_all (e := .exit 0) _ (xs.length - 1) (fun j => h_impl_StepOf_L0 xs (stepAt xs j).1 (stepAt xs j).2 (j + 1 : Nat)) h3 rfl go ?_
      refine q_impl_StepOf_L0 _ _ _ _ ?_
      rw [show xs.length - 1 + 1 = xs.length by omega]
      repeat' (first | with_reducible refine T.ok_ob ?_ (fun _ => ?_) | with_reducible refine T.ok_ite (fun _ => ?_) (fun _ => ?_) | with_reducible refine T.ok_leaf ?_)
      all_goals (try simp only [decide_eq_true_eq, decide_eq_false_iff_not, Bool.not_eq_true', Bool.not_eq_false', Bool.not_eq_eq_eq_not, Bool.not_true, Bool.not_false, Int.toNat_natCast, tab_len, List.length_append, List.length_singleton, List.length_cons, List.length_nil, List.length_drop, List.length_take, getD_drop', getD_nat, reduceCtorEq] at *)
      all_goals (try simp (disch := omega) only [wrap64_id] at *)
      all_goals first | omega | (exfalso; omega) | exact True.intro | skip
      all_goals rfl
    · simp only [Int.toNat_natCast, List.drop_zero, drop_all]
      rw [show fsub .f32 (meanM (xs.drop (stepBest xs))) (meanM (xs.take (stepBest xs))) = stepBy xs from rfl]
      have e : stepOk xs = finM (stepBy xs) := by simp [stepOk, h1, h2, h3]
      rw [e]
      cases finM (stepBy xs) <;> simp [T.ok]
    · refine for_one (e := .ret) _ (xs.length - 1) (fun j => h_impl_StepOf_L0 xs (stepAt xs j).1 (stepAt xs j).2 (j + 1 : Nat)) h3 rfl go (fun j hj hc => ?_)
      refine q_impl_StepOf_L0 _ _ _ _ ?_
      simp only [Int.toNat_natCast, List.drop_zero, drop_all]
      have a1 := c2 (xs.take (j + 1)) (by simp; omega)
      have a2 := c2 (xs.drop (j + 1)) (by simp; omega)
      have a3 := c3 (stepSum xs (j + 1))
      rw [show fadd .f32 (squaresM (xs.take (j + 1))) (squaresM (xs.drop (j + 1))) = stepSum xs (j + 1) from rfl]
      rw [hc] at a3 ⊢
      repeat' (first | with_reducible refine T.ok_ob ?_ (fun _ => ?_) | with_reducible refine T.ok_ite (fun _ => ?_) (fun _ => ?_) | with_reducible refine T.ok_leaf ?_)
      all_goals (try simp only [decide_eq_true_eq, decide_eq_false_iff_not, Bool.not_eq_true', Bool.not_eq_false', Bool.not_eq_eq_eq_not, Bool.not_true, Bool.not_false, Int.toNat_natCast, tab_len, List.length_append, List.length_singleton, List.length_cons, List.length_nil, List.length_drop, List.length_take, getD_drop', getD_nat, reduceCtorEq] at *)
      all_goals (try simp (disch := omega) only [wrap64_id] at *)
      all_goals first | omega | (exfalso; omega) | exact True.intro | skip
      all_goals first | exact a1 | exact a2 | exact a3 | rfl
    · simp [T.ok, stepOk, h3]
theorem k_spec_StepOf {P : Program} {f g1 g2 g3 g4 g5 : FuncId} (h : Is_spec_StepOf P f g1 g2 g3 g4 g5) (c1 : C_spec_l02Series P g1) (c2 : C_spec_l02Squares P g2) (c3 : C_spec_l01Finite P g3) (c4 : C_spec_l02Mean P g4) (c5 : C_spec_l02Number P g5) : C_spec_StepOf P f := by
  intro xs hx
  refine q_spec_StepOf h xs ⟨c1 _ hx, fun _ => ⟨fun h1 => ?_, fun h1 => ⟨fun h2 => ?_, fun h2 => ?_⟩⟩⟩
  · simp at h1; simp [T.ok, stepOk, h1]
  · have : ¬ (2 ≤ xs.length) := by simp at h2; omega
    simp [T.ok, stepOk, this]
  · simp only [Bool.not_eq_false'] at h1
    have h2 : 2 ≤ xs.length := by simp at h2; omega
    have hl := series_len h1
    have hb := step_le xs (xs.length - 1)
    have hb : stepBest xs ≤ xs.length - 1 := hb
    have go : ∀ j, j < xs.length - 1 → finM (stepSum xs (j + 1)) = true → Exec (VCall P) ps_spec_StepOf (b_spec_StepOf_L0 g1 g2 g3 g4 g5) (h_spec_StepOf_L0 xs (stepAt xs j).1 (stepAt xs j).2 (j + 1 : Nat)) .normal (h_spec_StepOf_L0 xs (stepAt xs (j + 1)).1 (stepAt xs (j + 1)).2 (j + 1 + 1 : Nat)) := by
      intro j hj hc
      refine q_spec_StepOf_L0 _ _ _ _ ?_
      have e : stepAt xs (j + 1) = if ((stepAt xs j).1 == 0 || flt .f32 (stepSum xs (j + 1)) (stepAt xs j).2) = true then (j + 1, stepSum xs (j + 1)) else stepAt xs j := rfl
      have e0 : (((j + 1 : Nat) : Int) == 1) = ((stepAt xs j).1 == 0) := by
        rw [Bool.eq_iff_iff, beq_iff_eq, beq_iff_eq]
        by_cases hz : j = 0
        · subst hz; simp [stepAt]
        · have := step_pos xs j (by omega)
          omega
      rw [e]
      simp only [Int.toNat_natCast, List.drop_zero, drop_all]
      have a1 := c2 (xs.take (j + 1)) (by simp; omega)
      have a2 := c2 (xs.drop (j + 1)) (by simp; omega)
      have a3 := c3 (stepSum xs (j + 1))
      rw [show fadd .f32 (squaresM (xs.take (j + 1))) (squaresM (xs.drop (j + 1))) = stepSum xs (j + 1) from rfl]
      rw [hc] at a3 ⊢
      rw [e0]
      generalize stepSum xs (j + 1) = S at *
      generalize stepAt xs j = a at *
      cases hq : (a.1 == 0) <;> cases hf : flt .f32 S a.2 <;> simp only [Bool.or_self, Bool.or_true, Bool.true_or, Bool.false_eq_true, if_true, if_false]
      repeat' (first | with_reducible refine T.ok_ob ?_ (fun _ => ?_) | with_reducible refine T.ok_ite (fun _ => ?_) (fun _ => ?_) | with_reducible refine T.ok_leaf ?_)
      all_goals (try simp only [decide_eq_true_eq, decide_eq_false_iff_not, Bool.not_eq_true', Bool.not_eq_false', Bool.not_eq_eq_eq_not, Bool.not_true, Bool.not_false, Int.toNat_natCast, tab_len, List.length_append, List.length_singleton, List.length_cons, List.length_nil, List.length_drop, List.length_take, getD_drop', getD_nat, reduceCtorEq] at *)
      all_goals (try simp (disch := omega) only [wrap64_id] at *)
      all_goals first | omega | (exfalso; omega) | exact True.intro | skip
      all_goals first | exact a1 | exact a2 | exact a3 | rfl
    refine ⟨fun h3 => ⟨?_, fun _ => ⟨by omega, fun _ => ⟨c4 _ (by simp [maxLen_eq]; omega), fun _ => ⟨by omega, fun _ => ⟨c4 _ (by simp [maxLen_eq]; omega), fun _ => ⟨c5 _, fun _ => ?_⟩⟩⟩⟩⟩⟩, fun h3 => ⟨?_, fun _ => ?_⟩⟩
    · refine for_all (e := .exit 0) _ (xs.length - 1) (fun j => h_spec_StepOf_L0 xs (stepAt xs j).1 (stepAt xs j).2 (j + 1 : Nat)) h3 rfl go ?_
      refine q_spec_StepOf_L0 _ _ _ _ ?_
      rw [show xs.length - 1 + 1 = xs.length by omega]
      repeat' (first | with_reducible refine T.ok_ob ?_ (fun _ => ?_) | with_reducible refine T.ok_ite (fun _ => ?_) (fun _ => ?_) | with_reducible refine T.ok_leaf ?_)
      all_goals (try simp only [decide_eq_true_eq, decide_eq_false_iff_not, Bool.not_eq_true', Bool.not_eq_false', Bool.not_eq_eq_eq_not, Bool.not_true, Bool.not_false, Int.toNat_natCast, tab_len, List.length_append, List.length_singleton, List.length_cons, List.length_nil, List.length_drop, List.length_take, getD_drop', getD_nat, reduceCtorEq] at *)
      all_goals (try simp (disch := omega) only [wrap64_id] at *)
      all_goals first | omega | (exfalso; omega) | exact True.intro | skip
      all_goals rfl
    · simp only [Int.toNat_natCast, List.drop_zero, drop_all]
      rw [show fsub .f32 (meanM (xs.drop (stepBest xs))) (meanM (xs.take (stepBest xs))) = stepBy xs from rfl]
      have e : stepOk xs = finM (stepBy xs) := by simp [stepOk, h1, h2, h3]
      rw [e]
      unfold numM
      cases finM (stepBy xs) <;> simp [T.ok]
    · refine for_one (e := .ret) _ (xs.length - 1) (fun j => h_spec_StepOf_L0 xs (stepAt xs j).1 (stepAt xs j).2 (j + 1 : Nat)) h3 rfl go (fun j hj hc => ?_)
      refine q_spec_StepOf_L0 _ _ _ _ ?_
      simp only [Int.toNat_natCast, List.drop_zero, drop_all]
      have a1 := c2 (xs.take (j + 1)) (by simp; omega)
      have a2 := c2 (xs.drop (j + 1)) (by simp; omega)
      have a3 := c3 (stepSum xs (j + 1))
      rw [show fadd .f32 (squaresM (xs.take (j + 1))) (squaresM (xs.drop (j + 1))) = stepSum xs (j + 1) from rfl]
      rw [hc] at a3 ⊢
      repeat' (first | with_reducible refine T.ok_ob ?_ (fun _ => ?_) | with_reducible refine T.ok_ite (fun _ => ?_) (fun _ => ?_) | with_reducible refine T.ok_leaf ?_)
      all_goals (try simp only [decide_eq_true_eq, decide_eq_false_iff_not, Bool.not_eq_true', Bool.not_eq_false', Bool.not_eq_eq_eq_not, Bool.not_true, Bool.not_false, Int.toNat_natCast, tab_len, List.length_append, List.length_singleton, List.length_cons, List.length_nil, List.length_drop, List.length_take, getD_drop', getD_nat, reduceCtorEq] at *)
      all_goals (try simp (disch := omega) only [wrap64_id] at *)
      all_goals first | omega | (exfalso; omega) | exact True.intro | skip
      all_goals first | exact a1 | exact a2 | exact a3 | rfl
    · simp [T.ok, stepOk, h3]

theorem k_impl_season {P : Program} {f g_impl_folded g_impl_mean g_impl_lessOne : FuncId} (h : Is_impl_season P f g_impl_folded g_impl_mean g_impl_lessOne) (c1 : C_impl_folded P g_impl_folded) (c2 : C_impl_mean P g_impl_mean) (c3 : C_impl_lessOne P g_impl_lessOne) : C_impl_season P f := by
  intro xs per hp hx
  refine q_impl_season h xs per ?_
  have fl := fold_len xs per.toNat
  repeat' (first | with_reducible refine T.ok_ob ?_ (fun _ => ?_) | with_reducible refine T.ok_ite (fun _ => ?_) (fun _ => ?_) | with_reducible refine T.ok_leaf ?_)
  all_goals first | with_reducible rfl | with_reducible assumption | ((with_reducible refine c1 _ _ ?_ ?_) <;> (first | assumption | omega | with_reducible rfl | (simp [maxLen_eq]; done) | (simp [maxLen_eq]; omega))) | ((with_reducible refine c2 _ ?_) <;> (first | assumption | omega | with_reducible rfl | (simp [maxLen_eq]; done) | (simp [maxLen_eq]; omega))) | ((with_reducible refine c3 _ _ ?_) <;> (first | assumption | omega | with_reducible rfl | (simp [maxLen_eq]; done) | (simp [maxLen_eq]; omega))) | contradiction | exact fconvOk_32_64 _ | assumption | exact rfl | (simp_all []; done) | (simp_all [T.ok]; omega)

theorem k_spec_l02Season {P : Program} {f g1 g2 : FuncId} (h : Is_spec_l02Season P f g1 g2) (c1 : C_spec_l02Mean P g1) (c2 : C_spec_l02Less P g2) : C_spec_l02Season P f := by
  intro xs per hp hx
  obtain ⟨k, rfl⟩ : ∃ k : Nat, per = k := ⟨per.toNat, by omega⟩
  have inner : ∀ (p : Nat) (O : List Nat), p < k → Exec (VCall P) ps_spec_l02Season (.block 2 (.loop (b_spec_l02Season_L2 g1 g2))) (h_spec_l02Season_L2 xs k O p O [] p) .normal (h_spec_l02Season_L2 xs k O p O (tab (cntM xs.length p k) fun j => xs.getD (p + j * k) 0) (p + cntM xs.length p k * k : Nat)) := by
    intro p O hpk
    have hcl := cnt_le xs.length p k hpk hx
    refine for_up (e := .exit 2) (cntM xs.length p k) (fun j => h_spec_l02Season_L2 xs k O p O (tab j fun j => xs.getD (p + j * k) 0) (p + j * k : Nat)) (by simp only [Nat.zero_mul]; rfl) (fun j hj => ?_) ?_
    · have hl := (cnt_lt xs.length p k j (by omega)).1 hj
      have e : ((p + j * k : Nat) : Int) + k = ((p + (j + 1) * k : Nat) : Int) := by rw [Nat.succ_mul]; omega
      refine q_spec_l02Season_L2 _ _ _ _ _ _ _ ?_
      rw [e, wrap64_id (by omega) (by rw [← e]; omega)]
      generalize p + (j + 1) * k = i2
      have e3 : tab (j + 1) (fun j => xs.getD (p + j * k) 0) = tab j (fun j => xs.getD (p + j * k) 0) ++ [xs.getD (p + j * k) 0] := tab_succ _ _
      rw [e3]
      have hj2 : j < 97 := by omega
      generalize p + j * k = i1 at *
      repeat' (first | with_reducible refine T.ok_ob ?_ (fun _ => ?_) | with_reducible refine T.ok_ite (fun _ => ?_) (fun _ => ?_) | with_reducible refine T.ok_leaf ?_)
      all_goals (try simp only [decide_eq_true_eq, decide_eq_false_iff_not, Bool.not_eq_true', Bool.not_eq_false', Bool.not_eq_eq_eq_not, Bool.not_true, Bool.not_false, Int.toNat_natCast, tab_len, List.length_append, List.length_singleton, List.length_cons, List.length_nil, List.length_drop, List.length_take, getD_drop', getD_nat, reduceCtorEq] at *)
      all_goals (try simp (disch := omega) only [wrap64_id] at *)
      all_goals first | omega | (exfalso; omega) | trivial | contradiction | (exfalso; simp_all; done) | skip
      all_goals rfl
    · have hl : ¬ (p + cntM xs.length p k * k < xs.length) := fun h => absurd ((cnt_lt xs.length p k _ (by omega)).2 h) (by omega)
      refine q_spec_l02Season_L2 _ _ _ _ _ _ _ ?_
      generalize p + cntM xs.length p k * k = i1 at *
      repeat' (first | with_reducible refine T.ok_ob ?_ (fun _ => ?_) | with_reducible refine T.ok_ite (fun _ => ?_) (fun _ => ?_) | with_reducible refine T.ok_leaf ?_)
      all_goals (try simp only [decide_eq_true_eq, decide_eq_false_iff_not, Bool.not_eq_true', Bool.not_eq_false', Bool.not_eq_eq_eq_not, Bool.not_true, Bool.not_false, Int.toNat_natCast, tab_len, List.length_append, List.length_singleton, List.length_cons, List.length_nil, List.length_drop, List.length_take, getD_drop', getD_nat, reduceCtorEq] at *)
      all_goals (try simp (disch := omega) only [wrap64_id] at *)
      all_goals first | omega | (exfalso; omega) | trivial | contradiction | (exfalso; simp_all; done) | skip
      all_goals rfl
  have fl := fold_len xs k
  refine q_spec_l02Season h xs _ ?_
  rw [Int.toNat_natCast]
  refine ⟨?_, fun _ => ⟨c1 _ (by rw [fl, maxLen_eq]; omega), fun _ => ⟨c2 _ _ (by omega), fun _ => rfl⟩⟩⟩
  refine for_up (e := .exit 0) k (fun p => h_spec_l02Season_L0 xs k (tab p fun p => fdiv .f32 (fsumM xs k p (cntM xs.length p k)) (fofi .f32 (cntM xs.length p k))) p) rfl (fun p hpk => ?_) ?_
  · refine q_spec_l02Season_L0 _ _ _ _ ?_
    simp only [Int.toNat_natCast]
    have hcl := cnt_le xs.length p k hpk hx
    repeat' (first | with_reducible refine T.ok_ob ?_ (fun _ => ?_) | with_reducible refine T.ok_ite (fun _ => ?_) (fun _ => ?_) | with_reducible refine T.ok_leaf ?_)
    all_goals (try simp only [decide_eq_true_eq, decide_eq_false_iff_not, Bool.not_eq_true', Bool.not_eq_false', Bool.not_eq_eq_eq_not, Bool.not_true, Bool.not_false, Int.toNat_natCast, tab_len, List.length_append, List.length_singleton, List.length_cons, List.length_nil, List.length_drop, List.length_take, getD_drop', getD_nat, reduceCtorEq] at *)
    all_goals (try simp (disch := omega) only [wrap64_id] at *)
    all_goals first | omega | (exfalso; omega) | trivial | contradiction | (exfalso; simp_all; done) | skip
    · exact inner p _ hpk
    · exact c1 _ (by rw [tab_len, maxLen_eq]; omega)
    · rw [mean_tab, tab_succ]; rfl
  · refine q_spec_l02Season_L0 _ _ _ _ ?_
    repeat' (first | with_reducible refine T.ok_ob ?_ (fun _ => ?_) | with_reducible refine T.ok_ite (fun _ => ?_) (fun _ => ?_) | with_reducible refine T.ok_leaf ?_)
    all_goals (try simp only [decide_eq_true_eq, decide_eq_false_iff_not, Bool.not_eq_true', Bool.not_eq_false', Bool.not_eq_eq_eq_not, Bool.not_true, Bool.not_false, Int.toNat_natCast, tab_len, List.length_append, List.length_singleton, List.length_cons, List.length_nil, List.length_drop, List.length_take, getD_drop', getD_nat, reduceCtorEq] at *)
    all_goals (try simp (disch := omega) only [wrap64_id] at *)
    all_goals first | omega | (exfalso; omega) | trivial | contradiction | (exfalso; simp_all; done) | skip
    all_goals rfl
theorem season_len (xs : List Nat) (per : Nat) : (seasonM xs per).length = per := by unfold seasonM; rw [lessOne_len, fold_len]
theorem k_impl_SeasonOf {P : Program} {f g1 g2 g3 : FuncId} (h : Is_impl_SeasonOf P f g1 g2 g3) (c1 : C_impl_isPeriodOf P g1) (c2 : C_impl_season P g2) (c3 : C_impl_ifAll P g3) : C_impl_SeasonOf P f := by
  intro xs per hx
  refine q_impl_SeasonOf h xs per ⟨c1 _ _ hx, fun _ => ⟨fun h0 => ?_, fun h0 => ?_⟩⟩
  · have : seasonOk xs per = false := by
      unfold seasonOk
      cases hs : seriesM xs <;> cases hi : inM per 1 xs.length <;> simp_all
    simp [T.ok, this]
  · simp at h0
    have hl := series_len h0.1
    have hi := in_1 h0.2
    refine ⟨c2 _ _ hi hl.2, fun _ => ⟨c3 _ (by rw [season_len, maxLen_eq]; omega), fun _ => ?_⟩⟩
    simp [T.ok, seasonOk, h0, ifAllM]
theorem k_spec_SeasonOf {P : Program} {f g1 g2 g3 g4 : FuncId} (h : Is_spec_SeasonOf P f g1 g2 g3 g4) (c1 : C_spec_l02Series P g1) (c2 : C_spec_l00In P g2) (c3 : C_spec_l02Season P g3) (c4 : C_spec_l02List P g4) : C_spec_SeasonOf P f := by
  intro xs per hx
  refine q_spec_SeasonOf h xs per ⟨c1 _ hx, fun _ => ⟨fun h0 => ?_, fun h0 => ⟨c2 _ _ _, fun _ => ⟨fun h1 => ?_, fun h1 => ?_⟩⟩⟩⟩
  · simp at h0; simp [T.ok, seasonOk, h0]
  · simp at h1; simp [T.ok, seasonOk, h1]
  · simp at h0 h1
    have hl := series_len h0
    have hi := in_1 h1
    refine ⟨c3 _ _ hi hl.2, fun _ => ⟨c4 _ (by rw [season_len, maxLen_eq]; omega), fun _ => ?_⟩⟩
    simp [T.ok, seasonOk, h0, h1, ifAllM]
theorem k_impl_areWorkers {P : Program} {f g_impl_within : FuncId} (h : Is_impl_areWorkers P f g_impl_within) (c1 : C_impl_within P g_impl_within) : C_impl_areWorkers P f := by
  intro n
  refine q_impl_areWorkers h n ?_
  repeat' (first | with_reducible refine T.ok_ob ?_ (fun _ => ?_) | with_reducible refine T.ok_ite (fun _ => ?_) (fun _ => ?_) | with_reducible refine T.ok_leaf ?_)
  all_goals first | with_reducible rfl | with_reducible assumption | with_reducible exact c1 _ _ _ | contradiction | exact fconvOk_32_64 _ | assumption | exact rfl | (simp_all []; done) | (simp_all [T.ok]; omega)

theorem k_impl_BestPeriod {P : Program} {f g1 g2 g3 g4 : FuncId} (h : Is_impl_BestPeriod P f g1 g2 g3 g4) (c1 : C_impl_IsSeries P g1) (c2 : C_impl_within P g2) (c3 : C_impl_areWorkers P g3) (c4 : C_impl_FoldedBy P g4) : C_impl_BestPeriod P f := by
  intro xs low top w hx
  have hm := ml64 hx
  have ew : IntKind.wrap .i64 (Int.tdiv (xs.length : Int) 2) = (xs.length / 2 : Nat) := by
    have : Int.tdiv (xs.length : Int) 2 = ((xs.length / 2 : Nat) : Int) := rfl
    rw [this, wrap64_id (by omega) (by omega)]
  refine q_impl_BestPeriod h xs low top w ?_
  rw [ew]
  refine ⟨c1 _ hx, fun _ => ⟨fun h0 => ?_, fun h0 => ⟨by omega, fun _ => ⟨c2 _ _ _, fun _ => ⟨fun h1 => ?_, fun h1 => ⟨c2 _ _ _, fun _ => ⟨fun h2 => ?_, fun h2 => ⟨c3 _, fun _ => ⟨fun h3 => ?_, fun h3 => ?_⟩⟩⟩⟩⟩⟩⟩⟩⟩
  · simp at h0; simp [T.ok, bpOk, h0]
  · have : bpOk xs low top w = false := by
      unfold bpOk
      cases h2 : inM low 2 top
      · simp
      · have h2 : 2 ≤ low ∧ low ≤ top := by simpa [inM] using h2
        have h1 : inM top 2 (xs.length / 2 : Nat) = false := by simpa using h1
        have : ¬ (top ≤ (xs.length / 2 : Nat)) := by
          intro h'
          have : inM top 2 (xs.length / 2 : Nat) = true := by simp only [inM, Bool.and_eq_true, decide_eq_true_eq]; omega
          rw [this] at h1; cases h1
        simp only [this, decide_false, Bool.false_and, Bool.and_false]
    simp [T.ok, this]
  · simp at h2; simp [T.ok, bpOk, h2]
  · simp at h3; simp [T.ok, bpOk, h3]
  · simp only [Bool.not_eq_false'] at h0 h1 h2 h3
    have hl := series_len h0
    have b1 : 2 ≤ top ∧ top ≤ (xs.length / 2 : Nat) := by simpa only [inM, Bool.and_eq_true, decide_eq_true_eq] using h1
    have b2 : 2 ≤ low ∧ low ≤ top := by simpa only [inM, Bool.and_eq_true, decide_eq_true_eq] using h2
    have hn : (bpN low top : Int) = top + 1 - low := by unfold bpN; omega
    have e : bpOk xs low top w = bpFin xs low top := by
      have : decide (top ≤ (xs.length / 2 : Nat)) = true := by simpa using b1.2
      unfold bpOk; rw [h0, h2, h3, this]; simp
    rw [e]
    have go : ∀ j, j < bpN low top → foldOk xs (low + j) = true → Exec (VCall P) ps_impl_BestPeriod (b_impl_BestPeriod_L0 g1 g2 g3 g4) (h_impl_BestPeriod_L0 xs low top w (bpAt xs low j).1 (bpAt xs low j).2 (low + j)) .normal (h_impl_BestPeriod_L0 xs low top w (bpAt xs low (j + 1)).1 (bpAt xs low (j + 1)).2 (low + (j + 1 : Nat))) := by
      intro j hj hc
      refine q_impl_BestPeriod_L0 _ _ _ _ _ _ _ ?_
      have e : bpAt xs low (j + 1) = if ((bpAt xs low j).1 == 0 || flt .f32 (bpSum xs (low + j)) (bpAt xs low j).2) = true then (low + j, bpSum xs (low + j)) else bpAt xs low j := rfl
      rw [e]
      have a4 := c4 xs (low + j) hx
      rw [hc] at a4 ⊢
      simp only [if_true] at a4 ⊢
      rw [show leftM xs (foldM xs (low + (j : Int)).toNat) = bpSum xs (low + j) from rfl] at a4 ⊢
      generalize bpSum xs (low + j) = S at *
      generalize bpAt xs low j = a at *
      cases hq : (a.1 == 0) <;> cases hf : flt .f32 S a.2 <;> simp only [Bool.or_self, Bool.or_true, Bool.true_or, Bool.false_eq_true, if_true, if_false]
      repeat' (first | with_reducible refine T.ok_ob ?_ (fun _ => ?_) | with_reducible refine T.ok_ite (fun _ => ?_) (fun _ => ?_) | with_reducible refine T.ok_leaf ?_)
      all_goals (try simp only [decide_eq_true_eq, decide_eq_false_iff_not, Bool.not_eq_true', Bool.not_eq_false', Bool.not_eq_eq_eq_not, Bool.not_true, Bool.not_false, Int.toNat_natCast, tab_len, List.length_append, List.length_singleton, List.length_cons, List.length_nil, List.length_drop, List.length_take, getD_drop', getD_nat, reduceCtorEq] at *)
      all_goals (try simp (disch := omega) only [wrap64_id] at *)
      all_goals first | omega | (exfalso; omega) | exact True.intro | skip
      all_goals first | exact a4 | rfl | (rw [show low + (j : Int) + 1 = low + (j + 1 : Nat) by omega])
    refine ⟨fun h4 => ⟨?_, fun _ => ?_⟩, fun h4 => ⟨?_, fun _ => ?_⟩⟩
    · refine for_all (e := .exit 0) _ (bpN low top) (fun j => h_impl_BestPeriod_L0 xs low top w (bpAt xs low j).1 (bpAt xs low j).2 (low + j)) h4 (by simp [bpAt]) go ?_
      refine q_impl_BestPeriod_L0 _ _ _ _ _ _ _ ?_
      rw [hn, show low + (top + 1 - low) = top + 1 by omega]
      repeat' (first | with_reducible refine T.ok_ob ?_ (fun _ => ?_) | with_reducible refine T.ok_ite (fun _ => ?_) (fun _ => ?_) | with_reducible refine T.ok_leaf ?_)
      all_goals (try simp only [decide_eq_true_eq, decide_eq_false_iff_not, Bool.not_eq_true', Bool.not_eq_false', Bool.not_eq_eq_eq_not, Bool.not_true, Bool.not_false, Int.toNat_natCast, tab_len, List.length_append, List.length_singleton, List.length_cons, List.length_nil, List.length_drop, List.length_take, getD_drop', getD_nat, reduceCtorEq] at *)
      all_goals (try simp (disch := omega) only [wrap64_id] at *)
      all_goals first | omega | (exfalso; omega) | exact True.intro | skip
      all_goals rfl
    · simp [T.ok, h4]
    · refine for_one (e := .ret) _ (bpN low top) (fun j => h_impl_BestPeriod_L0 xs low top w (bpAt xs low j).1 (bpAt xs low j).2 (low + j)) h4 (by simp [bpAt]) go (fun j hj hc => ?_)
      refine q_impl_BestPeriod_L0 _ _ _ _ _ _ _ ?_
      have a4 := c4 xs (low + j) hx
      rw [hc] at a4 ⊢
      simp only [if_false, Bool.false_eq_true] at a4 ⊢
      repeat' (first | with_reducible refine T.ok_ob ?_ (fun _ => ?_) | with_reducible refine T.ok_ite (fun _ => ?_) (fun _ => ?_) | with_reducible refine T.ok_leaf ?_)
      all_goals (try simp only [decide_eq_true_eq, decide_eq_false_iff_not, Bool.not_eq_true', Bool.not_eq_false', Bool.not_eq_eq_eq_not, Bool.not_true, Bool.not_false, Int.toNat_natCast, tab_len, List.length_append, List.length_singleton, List.length_cons, List.length_nil, List.length_drop, List.length_take, getD_drop', getD_nat, reduceCtorEq] at *)
      all_goals (try simp (disch := omega) only [wrap64_id] at *)
      all_goals first | omega | (exfalso; omega) | exact True.intro | skip
      all_goals first | exact a4 | rfl
    · simp [T.ok, h4]
theorem k_spec_BestPeriod {P : Program} {f g1 g2 g3 : FuncId} (h : Is_spec_BestPeriod P f g1 g2 g3) (c1 : C_spec_l02Series P g1) (c2 : C_spec_l00In P g2) (c4 : C_spec_FoldedBy P g3) : C_spec_BestPeriod P f := by
  intro xs low top w hx
  have hm := ml64 hx
  have ew : IntKind.wrap .i64 (Int.tdiv (xs.length : Int) 2) = (xs.length / 2 : Nat) := by
    have : Int.tdiv (xs.length : Int) 2 = ((xs.length / 2 : Nat) : Int) := rfl
    rw [this, wrap64_id (by omega) (by omega)]
  refine q_spec_BestPeriod h xs low top w ?_
  rw [ew]
  refine ⟨c1 _ hx, fun _ => ⟨fun h0 => ?_, fun h0 => ⟨c2 _ _ _, fun _ => ⟨fun h2 => ?_, fun h2 => ⟨by omega, fun _ => ⟨fun h1 => ?_, fun h1 => ⟨c2 _ _ _, fun _ => ⟨fun h3 => ?_, fun h3 => ?_⟩⟩⟩⟩⟩⟩⟩⟩
  · simp at h0; simp [T.ok, bpOk, h0]
  · simp at h2; simp [T.ok, bpOk, h2]
  · have h1 := of_decide_eq_true h1
    have : ¬ (top ≤ (xs.length / 2 : Nat)) := by omega
    have : bpOk xs low top w = false := by unfold bpOk; simp only [this, decide_false, Bool.false_and, Bool.and_false]
    simp [T.ok, this]
  · simp at h3; simp [T.ok, bpOk, h3]
  · simp only [Bool.not_eq_false'] at h0 h2 h3
    have h1 := of_decide_eq_false h1
    have hl := series_len h0
    have b1 : top ≤ (xs.length / 2 : Nat) := by omega
    have b2 : 2 ≤ low ∧ low ≤ top := by simpa only [inM, Bool.and_eq_true, decide_eq_true_eq] using h2
    have hn : (bpN low top : Int) = top + 1 - low := by unfold bpN; omega
    have e : bpOk xs low top w = bpFin xs low top := by
      have : decide (top ≤ (xs.length / 2 : Nat)) = true := by simpa using b1
      unfold bpOk; rw [h0, h2, h3, this]; simp
    rw [e]
    have go : ∀ j, j < bpN low top → foldOk xs (low + j) = true → Exec (VCall P) ps_spec_BestPeriod (b_spec_BestPeriod_L0 g1 g2 g3) (h_spec_BestPeriod_L0 xs low top w (bpAt xs low j).1 (bpAt xs low j).2 (low + j)) .normal (h_spec_BestPeriod_L0 xs low top w (bpAt xs low (j + 1)).1 (bpAt xs low (j + 1)).2 (low + (j + 1 : Nat))) := by
      intro j hj hc
      refine q_spec_BestPeriod_L0 _ _ _ _ _ _ _ ?_
      have e : bpAt xs low (j + 1) = if ((bpAt xs low j).1 == 0 || flt .f32 (bpSum xs (low + j)) (bpAt xs low j).2) = true then (low + j, bpSum xs (low + j)) else bpAt xs low j := rfl
      rw [e]
      have a4 := c4 xs (low + j) hx
      rw [hc] at a4 ⊢
      simp only [if_true] at a4 ⊢
      rw [show leftM xs (foldM xs (low + (j : Int)).toNat) = bpSum xs (low + j) from rfl] at a4 ⊢
      generalize bpSum xs (low + j) = S at *
      generalize bpAt xs low j = a at *
      cases hq : (a.1 == 0) <;> cases hf : flt .f32 S a.2 <;> simp only [Bool.or_self, Bool.or_true, Bool.true_or, Bool.false_eq_true, if_true, if_false]
      repeat' (first | with_reducible refine T.ok_ob ?_ (fun _ => ?_) | with_reducible refine T.ok_ite (fun _ => ?_) (fun _ => ?_) | with_reducible refine T.ok_leaf ?_)
      all_goals (try simp only [decide_eq_true_eq, decide_eq_false_iff_not, Bool.not_eq_true', Bool.not_eq_false', Bool.not_eq_eq_eq_not, Bool.not_true, Bool.not_false, Int.toNat_natCast, tab_len, List.length_append, List.length_singleton, List.length_cons, List.length_nil, List.length_drop, List.length_take, getD_drop', getD_nat, reduceCtorEq] at *)
      all_goals (try simp (disch := omega) only [wrap64_id] at *)
      all_goals first | omega | (exfalso; omega) | exact True.intro | skip
      all_goals first | exact a4 | rfl | (rw [show low + (j : Int) + 1 = low + (j + 1 : Nat) by omega])
    refine ⟨fun h4 => ⟨?_, fun _ => ?_⟩, fun h4 => ⟨?_, fun _ => ?_⟩⟩
    · refine for_all (e := .exit 0) _ (bpN low top) (fun j => h_spec_BestPeriod_L0 xs low top w (bpAt xs low j).1 (bpAt xs low j).2 (low + j)) h4 (by simp [bpAt]) go ?_
      refine q_spec_BestPeriod_L0 _ _ _ _ _ _ _ ?_
      rw [hn, show low + (top + 1 - low) = top + 1 by omega]
      repeat' (first | with_reducible refine T.ok_ob ?_ (fun _ => ?_) | with_reducible refine T.ok_ite (fun _ => ?_) (fun _ => ?_) | with_reducible refine T.ok_leaf ?_)
      all_goals (try simp only [decide_eq_true_eq, decide_eq_false_iff_not, Bool.not_eq_true', Bool.not_eq_false', Bool.not_eq_eq_eq_not, Bool.not_true, Bool.not_false, Int.toNat_natCast, tab_len, List.length_append, List.length_singleton, List.length_cons, List.length_nil, List.length_drop, List.length_take, getD_drop', getD_nat, reduceCtorEq] at *)
      all_goals (try simp (disch := omega) only [wrap64_id] at *)
      all_goals first | omega | (exfalso; omega) | exact True.intro | skip
      all_goals rfl
    · simp [T.ok, h4]
    · refine for_one (e := .ret) _ (bpN low top) (fun j => h_spec_BestPeriod_L0 xs low top w (bpAt xs low j).1 (bpAt xs low j).2 (low + j)) h4 (by simp [bpAt]) go (fun j hj hc => ?_)
      refine q_spec_BestPeriod_L0 _ _ _ _ _ _ _ ?_
      have a4 := c4 xs (low + j) hx
      rw [hc] at a4 ⊢
      simp only [if_false, Bool.false_eq_true] at a4 ⊢
      repeat' (first | with_reducible refine T.ok_ob ?_ (fun _ => ?_) | with_reducible refine T.ok_ite (fun _ => ?_) (fun _ => ?_) | with_reducible refine T.ok_leaf ?_)
      all_goals (try simp only [decide_eq_true_eq, decide_eq_false_iff_not, Bool.not_eq_true', Bool.not_eq_false', Bool.not_eq_eq_eq_not, Bool.not_true, Bool.not_false, Int.toNat_natCast, tab_len, List.length_append, List.length_singleton, List.length_cons, List.length_nil, List.length_drop, List.length_take, getD_drop', getD_nat, reduceCtorEq] at *)
      all_goals (try simp (disch := omega) only [wrap64_id] at *)
      all_goals first | omega | (exfalso; omega) | exact True.intro | skip
      all_goals first | exact a4 | rfl
    · simp [T.ok, h4]

end Go.Proofs.LV
