/- Sums, means, products, places, moving means, lines, folded periods. -/
import Derived.Test.YtjfgmnfkkehgfaaLvFnCX
namespace Go.Proofs.LV
open Go
set_option linter.unusedVariables false
set_option linter.unusedSimpArgs false

def sumM (xs : List Nat) : Nat := accN (fun i s => fadd .f32 s (xs.getD i 0)) xs.length 0
def meanM (xs : List Nat) : Nat := fdiv .f32 (sumM xs) (fofi .f32 xs.length)
def dotM (xs ys : List Nat) : Nat := accN (fun i s => fadd .f32 s (fmul .f32 (xs.getD i 0) (ys.getD i 0))) xs.length 0
def lessM (xs ys : List Nat) : List Nat := tab xs.length fun i => fsub .f32 (xs.getD i 0) (ys.getD i 0)
def lessOneM (xs : List Nat) (m : Nat) : List Nat := tab xs.length fun i => fsub .f32 (xs.getD i 0) m
def winM (xs : List Nat) (side i : Nat) : List Nat := (xs.drop (i - side)).take (min xs.length (i + side + 1) - (i - side))
def movM (g : List Nat → Nat) (xs : List Nat) (side : Nat) : List Nat := tab xs.length fun i => g (winM xs side i)

-- FN impl_addUp
/-- impl.addUp: slots 17, results [.t 2]; calls []; names [(list, 0), (list, 1), (sum, 3), (_, 4), (x, 5)] -/
def ps_impl_addUp : List Nat := [0, 2, 3, 5, 6, 7, 8, 9]
def lv_impl_addUp_L0 : List Nat := [3, 6, 7, 8]
def b_impl_addUp_L0 : VCode :=
  (.seq
   (.region false [
    ⟨some 9, (.bin .lss), [.t 8, .t 7], none⟩])
   (.seq
    (.cond (.t 9)
     .skip
     (.exit 0))
    (.seq
     (.block 1
      (.seq
       (.region false [
        ⟨some 10, .iaddr, [.t 6, .t 8], none⟩,
        ⟨some 11, .load, [.t 10], none⟩,
        ⟨some 5, .mv, [.t 11], none⟩])
       (.region false [
        ⟨some 12, .mv, [.t 3], none⟩,
        ⟨some 13, .mv, [.t 5], none⟩,
        ⟨some 14, (.bin .add), [.t 12, .t 13], none⟩,
        ⟨some 3, .mv, [.t 14], none⟩])))
     (.region false [
      ⟨some 15, (.bin .add), [.t 8, .k (.i .i64 1)], none⟩,
      ⟨some 8, .mv, [.t 15], none⟩]))))

def b_impl_addUp : VCode :=
  (.seq
   (.region false [
    ⟨some 2, .mv, [.k (.f .f32 0)], none⟩])
   (.seq
    (.region false [
     ⟨some 3, .mv, [.k (.f .f32 0)], none⟩])
    (.seq
     (.seq
      (.region false [
       ⟨some 6, .mv, [.t 0], none⟩,
       ⟨some 7, .len, [.t 6], none⟩,
       ⟨some 8, .mv, [.k (.i .i64 0)], none⟩])
      (.block 0 (.loop b_impl_addUp_L0)))
     (.seq
      (.region false [
       ⟨some 16, .mv, [.t 3], none⟩,
       ⟨some 2, .mv, [.t 16], none⟩])
      .ret))))

abbrev Is_impl_addUp (P : Program) (g_f : FuncId) : Prop := FnIs P g_f 17 [.t 2] (b_impl_addUp)

abbrev C_impl_addUp (P : Program) (g_f : FuncId) : Prop := ∀ (xs : List Nat) (hx : xs.length ≤ maxLen), VCall P g_f [PS [0] .f32 xs] (.f .f32 (sumM xs))
def oc1_impl_addUp (as : List AV) : T AV := match as with | [.sl _ _ (.f .f32 xs)] => .leaf (.f .f32 (sumM xs)) | _ => .fail
def h_impl_addUp_L0 (xs : List Nat) (sum : Nat) (v8 : Int) : Env := [.any, .any, .any, .f FloatKind.f32 sum, .any, .any, AV.sl (Tag.par [0]) 0 (Cont.f FloatKind.f32 xs), AV.i IntKind.i64 (↑(List.length xs) : Int), .i IntKind.i64 v8] ++ anys 8

theorem q_impl_addUp_L0 {VC : FuncId → List AV → AV → Prop} (xs : List Nat) (sum : Nat) (v8 : Int) {e_ : Ex} {σ_ : Env} (ht : T.ok (fun x_ => x_ = (e_, σ_)) (
      T.ite (decide (v8 < (↑(List.length xs) : Int)))
        (T.ob (0 ≤ v8 ∧ v8 < (↑(List.length xs) : Int)) (T.leaf (Ex.normal, h_impl_addUp_L0 xs (fadd FloatKind.f32 sum (List.getD xs (Int.toNat v8) 0)) (IntKind.wrap IntKind.i64 (v8 + 1)))))
        (T.leaf (Ex.exit 0, h_impl_addUp_L0 xs sum v8)))) :
    Exec VC ps_impl_addUp (b_impl_addUp_L0) (h_impl_addUp_L0 xs sum v8) e_ σ_ := evL_of (lv := lv_impl_addUp_L0) (rs := [2]) (O := ⟨fun _ _ => .fail, fun _ _ => none⟩) (by kernel_rfl) ht

theorem q_impl_addUp {P : Program} {g_f : FuncId} (h_ : Is_impl_addUp P g_f) (xs : List Nat) (ht : T.ok (fun x_ => x_ = .f .f32 (sumM xs)) (
      T.ob (Exec (VCall P) ps_impl_addUp (VCode.block 0 (VCode.loop b_impl_addUp_L0)) (h_impl_addUp_L0 xs 0 0) Ex.normal (h_impl_addUp_L0 xs (sumM xs) (↑(List.length xs) : Int))) (T.leaf (AV.f FloatKind.f32 (sumM xs))))) :
    VCall P g_f [PS [0] .f32 xs] (.f .f32 (sumM xs)) := h_.call_of ps_impl_addUp ⟨fun _ _ => .fail, fun id σ => match id with | 0 => some (lv_impl_addUp_L0, .leaf (.normal, h_impl_addUp_L0 xs (sumM xs) xs.length)) | _ => none⟩ (by kernel_rfl) ht

-- END impl_addUp


-- FN impl_mean
/-- impl.mean: slots 9, results [.t 2]; calls [4:g_impl_addUp]; names [(list, 0), (list, 1)] -/
def ps_impl_mean : List Nat := [0, 2]
def b_impl_mean (g_impl_addUp : FuncId) : VCode :=
  (.seq
   (.region false [
    ⟨some 2, .mv, [.k (.f .f32 0)], none⟩])
   (.seq
    (.region false [
     ⟨some 3, .mv, [.t 0], none⟩,
     ⟨some 4, (.call g_impl_addUp), [.t 3], none⟩,
     ⟨some 5, .mv, [.t 0], none⟩,
     ⟨some 6, .len, [.t 5], none⟩,
     ⟨some 7, (.convF .f32), [.t 6], none⟩,
     ⟨some 8, (.bin .quo), [.t 4, .t 7], none⟩,
     ⟨some 2, .mv, [.t 8], none⟩])
    .ret))

abbrev Is_impl_mean (P : Program) (g_f : FuncId) (g_impl_addUp : FuncId) : Prop := FnIs P g_f 9 [.t 2] (b_impl_mean g_impl_addUp)

abbrev C_impl_mean (P : Program) (g_f : FuncId) : Prop := ∀ (xs : List Nat) (hx : xs.length ≤ maxLen), VCall P g_f [PS [0] .f32 xs] (.f .f32 (meanM xs))
def oc1_impl_mean (as : List AV) : T AV := match as with | [.sl _ _ (.f .f32 xs)] => .leaf (.f .f32 (meanM xs)) | _ => .fail
def oc_impl_mean (xs : List Nat) (d : Nat) (as : List AV) : T AV := match d with | 4 => oc1_impl_addUp as | _ => .fail



theorem q_impl_mean {P : Program} {g_f : FuncId} {g_impl_addUp : FuncId} (h_ : Is_impl_mean P g_f g_impl_addUp) (xs : List Nat) (ht : T.ok (fun x_ => x_ = .f .f32 (meanM xs)) (
      T.ob ((VCall P) g_impl_addUp [AV.sl (Tag.par [0]) 0 (Cont.f FloatKind.f32 xs)] (AV.f FloatKind.f32 (sumM xs)))
        (T.ob True (T.ob True (T.leaf (AV.f FloatKind.f32 (fdiv FloatKind.f32 (sumM xs) (fofi FloatKind.f32 (↑(List.length xs) : Int))))))))) :
    VCall P g_f [PS [0] .f32 xs] (.f .f32 (meanM xs)) := h_.call_of ps_impl_mean ⟨oc_impl_mean xs, fun _ _ => none⟩ (by kernel_rfl) ht

-- END impl_mean



-- FN impl_dot
/-- impl.dot: slots 25, results [.t 4]; calls []; names [(a, 0), (b, 1), (a, 2), (b, 3), (sum, 5), (i, 6), (x, 7)] -/
def ps_impl_dot : List Nat := [0, 1, 4, 5, 6, 7, 8, 9, 10, 11]
def lv_impl_dot_L0 : List Nat := [1, 5, 8, 9, 10]
def b_impl_dot_L0 : VCode :=
  (.seq
   (.region false [
    ⟨some 11, (.bin .lss), [.t 10, .t 9], none⟩])
   (.seq
    (.cond (.t 11)
     .skip
     (.exit 0))
    (.seq
     (.block 1
      (.seq
       (.region false [
        ⟨some 12, .mv, [.t 10], none⟩,
        ⟨some 13, .iaddr, [.t 8, .t 10], none⟩,
        ⟨some 14, .load, [.t 13], none⟩,
        ⟨some 6, .mv, [.t 12], none⟩,
        ⟨some 7, .mv, [.t 14], none⟩])
       (.region false [
        ⟨some 15, .mv, [.t 5], none⟩,
        ⟨some 16, .mv, [.t 7], none⟩,
        ⟨some 17, .mv, [.t 1], none⟩,
        ⟨some 18, .mv, [.t 6], none⟩,
        ⟨some 19, .iaddr, [.t 17, .t 18], none⟩,
        ⟨some 20, .load, [.t 19], none⟩,
        ⟨some 21, (.bin .mul), [.t 16, .t 20], none⟩,
        ⟨some 22, (.bin .add), [.t 15, .t 21], none⟩,
        ⟨some 5, .mv, [.t 22], none⟩])))
     (.region false [
      ⟨some 23, (.bin .add), [.t 10, .k (.i .i64 1)], none⟩,
      ⟨some 10, .mv, [.t 23], none⟩]))))

def b_impl_dot : VCode :=
  (.seq
   (.region false [
    ⟨some 4, .mv, [.k (.f .f32 0)], none⟩])
   (.seq
    (.region false [
     ⟨some 5, .mv, [.k (.f .f32 0)], none⟩])
    (.seq
     (.seq
      (.region false [
       ⟨some 8, .mv, [.t 0], none⟩,
       ⟨some 9, .len, [.t 8], none⟩,
       ⟨some 10, .mv, [.k (.i .i64 0)], none⟩])
      (.block 0 (.loop b_impl_dot_L0)))
     (.seq
      (.region false [
       ⟨some 24, .mv, [.t 5], none⟩,
       ⟨some 4, .mv, [.t 24], none⟩])
      .ret))))

abbrev Is_impl_dot (P : Program) (g_f : FuncId) : Prop := FnIs P g_f 25 [.t 4] (b_impl_dot)

abbrev C_impl_dot (P : Program) (g_f : FuncId) : Prop := ∀ (xs : List Nat) (ys : List Nat) (hy : xs.length ≤ ys.length) (hx : xs.length ≤ maxLen), VCall P g_f [PS [0] .f32 xs, PS [1] .f32 ys] (.f .f32 (dotM xs ys))
def oc1_impl_dot (as : List AV) : T AV := match as with | [.sl _ _ (.f .f32 xs), .sl _ _ (.f .f32 ys)] => .leaf (.f .f32 (dotM xs ys)) | _ => .fail
def h_impl_dot_L0 (xs : List Nat) (ys : List Nat) (sum : Nat) (v10 : Int) : Env := [.any, AV.sl (Tag.par [1]) 0 (Cont.f FloatKind.f32 ys), .any, .any, .any, .f FloatKind.f32 sum, .any, .any, AV.sl (Tag.par [0]) 0 (Cont.f FloatKind.f32 xs), AV.i IntKind.i64 (↑(List.length xs) : Int), .i IntKind.i64 v10] ++ anys 14

theorem q_impl_dot_L0 {VC : FuncId → List AV → AV → Prop} (xs : List Nat) (ys : List Nat) (sum : Nat) (v10 : Int) {e_ : Ex} {σ_ : Env} (ht : T.ok (fun x_ => x_ = (e_, σ_)) (
      T.ite (decide (v10 < (↑(List.length xs) : Int)))
        (T.ob (0 ≤ v10 ∧ v10 < (↑(List.length xs) : Int))
          (T.ob (0 ≤ v10 ∧ v10 < (↑(List.length ys) : Int))
            (T.leaf (Ex.normal, h_impl_dot_L0 xs ys (fadd FloatKind.f32 sum (fmul FloatKind.f32 (List.getD xs (Int.toNat v10) 0) (List.getD ys (Int.toNat v10) 0))) (IntKind.wrap IntKind.i64 (v10 + 1))))))
        (T.leaf (Ex.exit 0, h_impl_dot_L0 xs ys sum v10)))) :
    Exec VC ps_impl_dot (b_impl_dot_L0) (h_impl_dot_L0 xs ys sum v10) e_ σ_ := evL_of (lv := lv_impl_dot_L0) (rs := [4]) (O := ⟨fun _ _ => .fail, fun _ _ => none⟩) (by kernel_rfl) ht

theorem q_impl_dot {P : Program} {g_f : FuncId} (h_ : Is_impl_dot P g_f) (xs : List Nat) (ys : List Nat) (ht : T.ok (fun x_ => x_ = .f .f32 (dotM xs ys)) (
      T.ob (Exec (VCall P) ps_impl_dot (VCode.block 0 (VCode.loop b_impl_dot_L0)) (h_impl_dot_L0 xs ys 0 0) Ex.normal (h_impl_dot_L0 xs ys (dotM xs ys) (↑(List.length xs) : Int))) (T.leaf (AV.f FloatKind.f32 (dotM xs ys))))) :
    VCall P g_f [PS [0] .f32 xs, PS [1] .f32 ys] (.f .f32 (dotM xs ys)) := h_.call_of ps_impl_dot ⟨fun _ _ => .fail, fun id σ => match id with | 0 => some (lv_impl_dot_L0, .leaf (.normal, h_impl_dot_L0 xs ys (dotM xs ys) xs.length)) | _ => none⟩ (by kernel_rfl) ht

-- END impl_dot

-- FN impl_lessOne
/-- impl.lessOne: slots 23, results [.t 4]; calls []; names [(a, 0), (m, 1), (a, 2), (m, 3), (out, 5), (_, 6), (x, 7)] -/
def ps_impl_lessOne : List Nat := [0, 1, 4, 5, 7, 9, 10, 11, 12]
def lv_impl_lessOne_L0 : List Nat := [1, 5, 9, 10, 11]
def b_impl_lessOne_L0 : VCode :=
  (.seq
   (.region false [
    ⟨some 12, (.bin .lss), [.t 11, .t 10], none⟩])
   (.seq
    (.cond (.t 12)
     .skip
     (.exit 0))
    (.seq
     (.block 1
      (.seq
       (.region false [
        ⟨some 13, .iaddr, [.t 9, .t 11], none⟩,
        ⟨some 14, .load, [.t 13], none⟩,
        ⟨some 7, .mv, [.t 14], none⟩])
       (.region false [
        ⟨some 15, .mv, [.t 5], none⟩,
        ⟨some 16, .mv, [.t 7], none⟩,
        ⟨some 17, .mv, [.t 1], none⟩,
        ⟨some 18, (.bin .sub), [.t 16, .t 17], none⟩,
        ⟨some 19, (.lit true (.f .f32 [])), [.t 18], none⟩,
        ⟨some 20, .app, [.t 15, .t 19], none⟩,
        ⟨some 5, .mv, [.t 20], none⟩])))
     (.region false [
      ⟨some 21, (.bin .add), [.t 11, .k (.i .i64 1)], none⟩,
      ⟨some 11, .mv, [.t 21], none⟩]))))

def b_impl_lessOne : VCode :=
  (.seq
   (.region false [
    ⟨some 4, (.nilsl (.f .f32 [])), [], none⟩])
   (.seq
    (.region false [
     ⟨some 8, (.lit true (.f .f32 [])), [], none⟩,
     ⟨some 5, .mv, [.t 8], none⟩])
    (.seq
     (.seq
      (.region false [
       ⟨some 9, .mv, [.t 0], none⟩,
       ⟨some 10, .len, [.t 9], none⟩,
       ⟨some 11, .mv, [.k (.i .i64 0)], none⟩])
      (.block 0 (.loop b_impl_lessOne_L0)))
     (.seq
      (.region false [
       ⟨some 22, .mv, [.t 5], none⟩,
       ⟨some 4, .mv, [.t 22], none⟩])
      .ret))))

abbrev Is_impl_lessOne (P : Program) (g_f : FuncId) : Prop := FnIs P g_f 23 [.t 4] (b_impl_lessOne)

abbrev C_impl_lessOne (P : Program) (g_f : FuncId) : Prop := ∀ (xs : List Nat) (m : Nat) (hx : xs.length ≤ 4294967295), VCall P g_f [PS [0] .f32 xs, .f .f32 m] (OS 0 .f32 (lessOneM xs m))
def oc1_impl_lessOne (as : List AV) : T AV := match as with | [.sl _ _ (.f .f32 xs), .f .f32 m] => .leaf (OS 0 .f32 (lessOneM xs m)) | _ => .fail
def h_impl_lessOne_L0 (xs : List Nat) (m : Nat) (out : List Nat) (v11 : Int) : Env := [.any, AV.f FloatKind.f32 m, .any, .any, .any, .sl (Tag.own 64) 0 (.f FloatKind.f32 out), .any, .any, .any, AV.sl (Tag.par [0]) 0 (Cont.f FloatKind.f32 xs), AV.i IntKind.i64 (↑(List.length xs) : Int), .i IntKind.i64 v11] ++ anys 11

theorem q_impl_lessOne_L0 {VC : FuncId → List AV → AV → Prop} (xs : List Nat) (m : Nat) (out : List Nat) (v11 : Int) {e_ : Ex} {σ_ : Env} (ht : T.ok (fun x_ => x_ = (e_, σ_)) (
      T.ite (decide (v11 < (↑(List.length xs) : Int)))
        (T.ob (0 ≤ v11 ∧ v11 < (↑(List.length xs) : Int))
          (T.ob (List.length out + List.length [fsub FloatKind.f32 (List.getD xs (Int.toNat v11) 0) m] ≤ 4294967296)
            (T.leaf (Ex.normal, h_impl_lessOne_L0 xs m (out ++ [fsub FloatKind.f32 (List.getD xs (Int.toNat v11) 0) m]) (IntKind.wrap IntKind.i64 (v11 + 1))))))
        (T.leaf (Ex.exit 0, h_impl_lessOne_L0 xs m out v11)))) :
    Exec VC ps_impl_lessOne (b_impl_lessOne_L0) (h_impl_lessOne_L0 xs m out v11) e_ σ_ := evL_of (lv := lv_impl_lessOne_L0) (rs := [4]) (O := ⟨fun _ _ => .fail, fun _ _ => none⟩) (by kernel_rfl) ht

theorem q_impl_lessOne {P : Program} {g_f : FuncId} (h_ : Is_impl_lessOne P g_f) (xs : List Nat) (m : Nat) (ht : T.ok (fun x_ => x_ = OS 0 .f32 (lessOneM xs m)) (
      T.ob (Exec (VCall P) ps_impl_lessOne (VCode.block 0 (VCode.loop b_impl_lessOne_L0)) (h_impl_lessOne_L0 xs m [] 0) Ex.normal (h_impl_lessOne_L0 xs m (lessOneM xs m) (↑(List.length xs) : Int)))
        (T.leaf (AV.sl (Tag.own 0) 0 (Cont.f FloatKind.f32 (lessOneM xs m)))))) :
    VCall P g_f [PS [0] .f32 xs, .f .f32 m] (OS 0 .f32 (lessOneM xs m)) := h_.call_of ps_impl_lessOne ⟨fun _ _ => .fail, fun id σ => match id with | 0 => some (lv_impl_lessOne_L0, .leaf (.normal, h_impl_lessOne_L0 xs m (lessOneM xs m) xs.length)) | _ => none⟩ (by kernel_rfl) ht

-- END impl_lessOne



-- FN impl_moving
/-- impl.moving: slots 36, results [.t 6]; calls [31:VALUE]; names [(list, 0), (side, 1), (of, 2), (list, 3), (side, 4), (of, 5), (out, 7), (n, 8), (i, 9)] -/
def ps_impl_moving : List Nat := [0, 1, 2, 6, 7, 8, 9, 13, 14, 15]
def lv_impl_moving_L0 : List Nat := [0, 1, 2, 7, 8, 13, 14]
def b_impl_moving_L0 : VCode :=
  (.seq
   (.region false [
    ⟨some 15, (.bin .lss), [.t 14, .t 13], none⟩])
   (.seq
    (.cond (.t 15)
     .skip
     (.exit 0))
    (.seq
     (.block 1
      (.seq
       (.region false [
        ⟨some 16, .mv, [.t 14], none⟩,
        ⟨some 9, .mv, [.t 16], none⟩])
       (.region false [
        ⟨some 17, .mv, [.t 7], none⟩,
        ⟨some 18, .mv, [.t 2], none⟩,
        ⟨some 19, .mv, [.t 0], none⟩,
        ⟨some 20, .mv, [.t 9], none⟩,
        ⟨some 21, .mv, [.t 1], none⟩,
        ⟨some 22, (.bin .sub), [.t 20, .t 21], none⟩,
        ⟨some 23, .max, [.k (.i .i64 0), .t 22], none⟩,
        ⟨some 24, .mv, [.t 8], none⟩,
        ⟨some 25, .mv, [.t 9], none⟩,
        ⟨some 26, .mv, [.t 1], none⟩,
        ⟨some 27, (.bin .add), [.t 25, .t 26], none⟩,
        ⟨some 28, (.bin .add), [.t 27, .k (.i .i64 1)], none⟩,
        ⟨some 29, .min, [.t 24, .t 28], none⟩,
        ⟨some 30, (.slice true true false), [.t 19, .t 23, .t 29], none⟩,
        ⟨some 31, .callv, [.t 18, .t 30], none⟩,
        ⟨some 32, (.lit true (.f .f32 [])), [.t 31], none⟩,
        ⟨some 33, .app, [.t 17, .t 32], none⟩,
        ⟨some 7, .mv, [.t 33], none⟩])))
     (.region false [
      ⟨some 34, (.bin .add), [.t 14, .k (.i .i64 1)], none⟩,
      ⟨some 14, .mv, [.t 34], none⟩]))))

def b_impl_moving : VCode :=
  (.seq
   (.region false [
    ⟨some 6, (.nilsl (.f .f32 [])), [], none⟩])
   (.seq
    (.region false [
     ⟨some 10, (.lit true (.f .f32 [])), [], none⟩,
     ⟨some 7, .mv, [.t 10], none⟩])
    (.seq
     (.region false [
      ⟨some 11, .mv, [.t 0], none⟩,
      ⟨some 12, .len, [.t 11], none⟩,
      ⟨some 8, .mv, [.t 12], none⟩])
     (.seq
      (.seq
       (.region false [
        ⟨some 13, .mv, [.t 8], none⟩,
        ⟨some 14, .mv, [.k (.i .i64 0)], none⟩])
       (.block 0 (.loop b_impl_moving_L0)))
      (.seq
       (.region false [
        ⟨some 35, .mv, [.t 7], none⟩,
        ⟨some 6, .mv, [.t 35], none⟩])
       .ret)))))

abbrev Is_impl_moving (P : Program) (g_f : FuncId) : Prop := FnIs P g_f 36 [.t 6] (b_impl_moving)

abbrev C_impl_moving (P : Program) (g_f : FuncId) : Prop := ∀ (xs : List Nat) (side : Int) (F : FuncId) (g : List Nat → Nat) (hF : ∃ Q : Nat → Prop, (∀ i, Q (xs.getD i 0)) ∧ ∀ ys : List Nat, 1 ≤ ys.length → ys.length ≤ 96 → (∀ i, Q (ys.getD i 0)) → VCall P F [PS [0] .f32 ys] (.f .f32 (g ys))) (hs : 0 ≤ side ∧ side ≤ 96) (hx : xs.length ≤ 96), VCall P g_f [PS [0] .f32 xs, .i .i64 side, .fn F []] (OS 0 .f32 (movM g xs side.toNat))
def oc_impl_moving (xs : List Nat) (side : Int) (F : FuncId) (g : List Nat → Nat) (d : Nat) (as : List AV) : T AV := match d with | 31 => (match as with | [.sl _ _ (.f _ ys)] => .leaf (.f .f32 (g ys)) | _ => .fail) | _ => .fail
def h_impl_moving_L0 (xs : List Nat) (side : Int) (F : FuncId) (g : List Nat → Nat) (out : List Nat) (v14 : Int) : Env := [AV.sl (Tag.par [0]) 0 (Cont.f FloatKind.f32 xs), AV.i IntKind.i64 side, AV.fn F []] ++ anys 4 ++ [.sl (Tag.own 80) 0 (.f FloatKind.f32 out), AV.i IntKind.i64 (↑(List.length xs) : Int)] ++ anys 4 ++ [AV.i IntKind.i64 (↑(List.length xs) : Int), .i IntKind.i64 v14] ++ anys 21

theorem q_impl_moving_L0 {VC : FuncId → List AV → AV → Prop} (xs : List Nat) (side : Int) (F : FuncId) (g : List Nat → Nat) (out : List Nat) (v14 : Int) {e_ : Ex} {σ_ : Env} (ht : T.ok (fun x_ => x_ = (e_, σ_)) (
      T.ite (decide (v14 < (↑(List.length xs) : Int)))
        (T.ob
          ((0 ≤ bif decide (IntKind.wrap IntKind.i64 (v14 - side) > 0) then IntKind.wrap IntKind.i64 (v14 - side) else 0) ∧
            ((bif decide (IntKind.wrap IntKind.i64 (v14 - side) > 0) then IntKind.wrap IntKind.i64 (v14 - side) else 0) ≤
                bif decide (IntKind.wrap IntKind.i64 (IntKind.wrap IntKind.i64 (v14 + side) + 1) < (↑(List.length xs) : Int)) then IntKind.wrap IntKind.i64 (IntKind.wrap IntKind.i64 (v14 + side) + 1)
                else (↑(List.length xs) : Int)) ∧
              (bif decide (IntKind.wrap IntKind.i64 (IntKind.wrap IntKind.i64 (v14 + side) + 1) < (↑(List.length xs) : Int)) then IntKind.wrap IntKind.i64 (IntKind.wrap IntKind.i64 (v14 + side) + 1)
                else (↑(List.length xs) : Int)) ≤
                (↑(List.length xs) : Int))
          (T.ob
            (VC F
              [AV.sl (Tag.par [0]) 0
                  (Cont.f FloatKind.f32
                    (List.take
                      (Int.toNat
                          (bif decide (IntKind.wrap IntKind.i64 (IntKind.wrap IntKind.i64 (v14 + side) + 1) < (↑(List.length xs) : Int)) then IntKind.wrap IntKind.i64 (IntKind.wrap IntKind.i64 (v14 + side) + 1)
                          else (↑(List.length xs) : Int)) -
                        Int.toNat (bif decide (IntKind.wrap IntKind.i64 (v14 - side) > 0) then IntKind.wrap IntKind.i64 (v14 - side) else 0))
                      (List.drop (Int.toNat (bif decide (IntKind.wrap IntKind.i64 (v14 - side) > 0) then IntKind.wrap IntKind.i64 (v14 - side) else 0)) xs)))]
              (AV.f FloatKind.f32
                (g
                  (List.take
                    (Int.toNat
                        (bif decide (IntKind.wrap IntKind.i64 (IntKind.wrap IntKind.i64 (v14 + side) + 1) < (↑(List.length xs) : Int)) then IntKind.wrap IntKind.i64 (IntKind.wrap IntKind.i64 (v14 + side) + 1)
                        else (↑(List.length xs) : Int)) -
                      Int.toNat (bif decide (IntKind.wrap IntKind.i64 (v14 - side) > 0) then IntKind.wrap IntKind.i64 (v14 - side) else 0))
                    (List.drop (Int.toNat (bif decide (IntKind.wrap IntKind.i64 (v14 - side) > 0) then IntKind.wrap IntKind.i64 (v14 - side) else 0)) xs)))))
            (T.ob
              (List.length out +
                  List.length
                    [g
                        (List.take
                          (Int.toNat
                              (bif decide (IntKind.wrap IntKind.i64 (IntKind.wrap IntKind.i64 (v14 + side) + 1) < (↑(List.length xs) : Int)) then IntKind.wrap IntKind.i64 (IntKind.wrap IntKind.i64 (v14 + side) + 1)
                              else (↑(List.length xs) : Int)) -
                            Int.toNat (bif decide (IntKind.wrap IntKind.i64 (v14 - side) > 0) then IntKind.wrap IntKind.i64 (v14 - side) else 0))
                          (List.drop (Int.toNat (bif decide (IntKind.wrap IntKind.i64 (v14 - side) > 0) then IntKind.wrap IntKind.i64 (v14 - side) else 0)) xs))] ≤
                4294967296)
              (T.leaf
                (Ex.normal,
                  h_impl_moving_L0 xs side F g
                    (out ++
                      [g
                          (List.take
                            (Int.toNat
                                (bif decide (IntKind.wrap IntKind.i64 (IntKind.wrap IntKind.i64 (v14 + side) + 1) < (↑(List.length xs) : Int)) then IntKind.wrap IntKind.i64 (IntKind.wrap IntKind.i64 (v14 + side) + 1)
                                else (↑(List.length xs) : Int)) -
                              Int.toNat (bif decide (IntKind.wrap IntKind.i64 (v14 - side) > 0) then IntKind.wrap IntKind.i64 (v14 - side) else 0))
                            (List.drop (Int.toNat (bif decide (IntKind.wrap IntKind.i64 (v14 - side) > 0) then IntKind.wrap IntKind.i64 (v14 - side) else 0)) xs))])
                    (IntKind.wrap IntKind.i64 (v14 + 1)))))))
        (T.leaf (Ex.exit 0, h_impl_moving_L0 xs side F g out v14)))) :
    Exec VC ps_impl_moving (b_impl_moving_L0) (h_impl_moving_L0 xs side F g out v14) e_ σ_ := evL_of (lv := lv_impl_moving_L0) (rs := [6]) (O := ⟨oc_impl_moving xs side F g, fun _ _ => none⟩) (by kernel_rfl) ht

theorem q_impl_moving {P : Program} {g_f : FuncId} (h_ : Is_impl_moving P g_f) (xs : List Nat) (side : Int) (F : FuncId) (g : List Nat → Nat) (ht : T.ok (fun x_ => x_ = OS 0 .f32 (movM g xs side.toNat)) (
      T.ob (Exec (VCall P) ps_impl_moving (VCode.block 0 (VCode.loop b_impl_moving_L0)) (h_impl_moving_L0 xs side F g [] 0) Ex.normal (h_impl_moving_L0 xs side F g (movM g xs (Int.toNat side)) (↑(List.length xs) : Int)))
        (T.leaf (AV.sl (Tag.own 0) 0 (Cont.f FloatKind.f32 (movM g xs (Int.toNat side))))))) :
    VCall P g_f [PS [0] .f32 xs, .i .i64 side, .fn F []] (OS 0 .f32 (movM g xs side.toNat)) := h_.call_of ps_impl_moving ⟨oc_impl_moving xs side F g, fun id σ => match id with | 0 => some (lv_impl_moving_L0, .leaf (.normal, h_impl_moving_L0 xs side F g (movM g xs side.toNat) xs.length)) | _ => none⟩ (by kernel_rfl) ht

-- END impl_moving



-- FN impl_isSide
/-- impl.isSide: slots 5, results [.t 2]; calls [4:g_impl_within]; names [(n, 0), (n, 1)] -/
def ps_impl_isSide : List Nat := [0, 2]
def b_impl_isSide (g_impl_within : FuncId) : VCode :=
  (.seq
   (.region false [
    ⟨some 2, .mv, [.k (.b false)], none⟩])
   (.seq
    (.region false [
     ⟨some 3, .mv, [.t 0], none⟩,
     ⟨some 4, (.call g_impl_within), [.t 3, .k (.i .i64 0), .k (.i .i64 96)], none⟩,
     ⟨some 2, .mv, [.t 4], none⟩])
    .ret))

abbrev Is_impl_isSide (P : Program) (g_f : FuncId) (g_impl_within : FuncId) : Prop := FnIs P g_f 5 [.t 2] (b_impl_isSide g_impl_within)

abbrev C_impl_isSide (P : Program) (g_f : FuncId) : Prop := ∀ (n : Int), VCall P g_f [.i .i64 n] (.b (inM n 0 96))
def oc1_impl_isSide (as : List AV) : T AV := match as with | [.i .i64 n] => .leaf (.b (inM n 0 96)) | _ => .fail
def oc_impl_isSide (n : Int) (d : Nat) (as : List AV) : T AV := match d with | 4 => oc1_impl_within as | _ => .fail



theorem q_impl_isSide {P : Program} {g_f : FuncId} {g_impl_within : FuncId} (h_ : Is_impl_isSide P g_f g_impl_within) (n : Int) (ht : T.ok (fun x_ => x_ = .b (inM n 0 96)) (
      T.ob ((VCall P) g_impl_within [AV.i IntKind.i64 n, AV.i IntKind.i64 0, AV.i IntKind.i64 96] (AV.b (inM n 0 96))) (T.leaf (AV.b (inM n 0 96))))) :
    VCall P g_f [.i .i64 n] (.b (inM n 0 96)) := h_.call_of ps_impl_isSide ⟨oc_impl_isSide n, fun _ _ => none⟩ (by kernel_rfl) ht

-- END impl_isSide



theorem k_impl_addUp {P : Program} {f : FuncId} (h : Is_impl_addUp P f) : C_impl_addUp P f := by
  intro xs hx
  refine q_impl_addUp h xs ?_
  have hm := ml64 hx
  refine ⟨?_, fun _ => rfl⟩
  refine for_up (e := .exit 0) (xs.length) (fun i => h_impl_addUp_L0 xs (accN (fun i s => fadd .f32 s (xs.getD i 0)) i 0) i) (by first | rfl | simp) (fun i hi => ?_) ?_
  · refine q_impl_addUp_L0 _ _ _ ?_
    repeat' (first | with_reducible refine T.ok_ob ?_ (fun _ => ?_) | with_reducible refine T.ok_ite (fun _ => ?_) (fun _ => ?_) | with_reducible refine T.ok_leaf ?_)
    all_goals (try simp only [decide_eq_true_eq, decide_eq_false_iff_not, Bool.not_eq_true', Bool.not_eq_false', Bool.not_eq_eq_eq_not, Bool.not_true, Bool.not_false, Int.toNat_natCast, tab_len, List.length_append, List.length_singleton, List.length_cons, List.length_nil, List.length_drop, List.length_take, getD_drop', getD_nat, reduceCtorEq] at *)
    all_goals (try simp (disch := omega) only [wrap64_id] at *)
    all_goals first | omega | (exfalso; omega) | trivial | contradiction | (exfalso; simp_all; done) | skip
    all_goals first | rfl | (rw [tab_succ]; rfl)
  · refine q_impl_addUp_L0 _ _ _ ?_
    repeat' (first | with_reducible refine T.ok_ob ?_ (fun _ => ?_) | with_reducible refine T.ok_ite (fun _ => ?_) (fun _ => ?_) | with_reducible refine T.ok_leaf ?_)
    all_goals (try simp only [decide_eq_true_eq, decide_eq_false_iff_not, Bool.not_eq_true', Bool.not_eq_false', Bool.not_eq_eq_eq_not, Bool.not_true, Bool.not_false, Int.toNat_natCast, tab_len, List.length_append, List.length_singleton, List.length_cons, List.length_nil, List.length_drop, List.length_take, getD_drop', getD_nat, reduceCtorEq] at *)
    all_goals (try simp (disch := omega) only [wrap64_id] at *)
    all_goals first | omega | (exfalso; omega) | trivial | contradiction | (exfalso; simp_all; done) | skip
    all_goals rfl
  repeat' (first | with_reducible refine T.ok_ob ?_ (fun _ => ?_) | with_reducible refine T.ok_ite (fun _ => ?_) (fun _ => ?_) | with_reducible refine T.ok_leaf ?_)
  all_goals first | with_reducible rfl | with_reducible assumption | contradiction | exact fconvOk_32_64 _ | assumption | exact rfl | (simp_all []; done) | (simp_all [T.ok]; omega)

theorem k_impl_mean {P : Program} {f g_impl_addUp : FuncId} (h : Is_impl_mean P f g_impl_addUp) (c1 : C_impl_addUp P g_impl_addUp) : C_impl_mean P f := by
  intro xs hx
  refine q_impl_mean h xs ?_
  repeat' (first | with_reducible refine T.ok_ob ?_ (fun _ => ?_) | with_reducible refine T.ok_ite (fun _ => ?_) (fun _ => ?_) | with_reducible refine T.ok_leaf ?_)
  all_goals first | with_reducible rfl | with_reducible assumption | ((with_reducible refine c1 _ ?_) <;> (first | assumption | omega | with_reducible rfl | (simp [maxLen_eq]; done) | (simp [maxLen_eq]; omega))) | contradiction | exact fconvOk_32_64 _ | assumption | exact rfl | (simp_all []; done) | (simp_all [T.ok]; omega)

theorem k_impl_dot {P : Program} {f : FuncId} (h : Is_impl_dot P f) : C_impl_dot P f := by
  intro xs ys hy hx
  refine q_impl_dot h xs ys ?_
  have hm := ml64 hx
  refine ⟨?_, fun _ => rfl⟩
  refine for_up (e := .exit 0) (xs.length) (fun i => h_impl_dot_L0 xs ys (accN (fun i s => fadd .f32 s (fmul .f32 (xs.getD i 0) (ys.getD i 0))) i 0) i) (by first | rfl | simp) (fun i hi => ?_) ?_
  · refine q_impl_dot_L0 _ _ _ _ ?_
    repeat' (first | with_reducible refine T.ok_ob ?_ (fun _ => ?_) | with_reducible refine T.ok_ite (fun _ => ?_) (fun _ => ?_) | with_reducible refine T.ok_leaf ?_)
    all_goals (try simp only [decide_eq_true_eq, decide_eq_false_iff_not, Bool.not_eq_true', Bool.not_eq_false', Bool.not_eq_eq_eq_not, Bool.not_true, Bool.not_false, Int.toNat_natCast, tab_len, List.length_append, List.length_singleton, List.length_cons, List.length_nil, List.length_drop, List.length_take, getD_drop', getD_nat, reduceCtorEq] at *)
    all_goals (try simp (disch := omega) only [wrap64_id] at *)
    all_goals first | omega | (exfalso; omega) | trivial | contradiction | (exfalso; simp_all; done) | skip
    all_goals first | rfl | (rw [tab_succ]; rfl)
  · refine q_impl_dot_L0 _ _ _ _ ?_
    repeat' (first | with_reducible refine T.ok_ob ?_ (fun _ => ?_) | with_reducible refine T.ok_ite (fun _ => ?_) (fun _ => ?_) | with_reducible refine T.ok_leaf ?_)
    all_goals (try simp only [decide_eq_true_eq, decide_eq_false_iff_not, Bool.not_eq_true', Bool.not_eq_false', Bool.not_eq_eq_eq_not, Bool.not_true, Bool.not_false, Int.toNat_natCast, tab_len, List.length_append, List.length_singleton, List.length_cons, List.length_nil, List.length_drop, List.length_take, getD_drop', getD_nat, reduceCtorEq] at *)
    all_goals (try simp (disch := omega) only [wrap64_id] at *)
    all_goals first | omega | (exfalso; omega) | trivial | contradiction | (exfalso; simp_all; done) | skip
    all_goals rfl
  repeat' (first | with_reducible refine T.ok_ob ?_ (fun _ => ?_) | with_reducible refine T.ok_ite (fun _ => ?_) (fun _ => ?_) | with_reducible refine T.ok_leaf ?_)
  all_goals first | with_reducible rfl | with_reducible assumption | contradiction | exact fconvOk_32_64 _ | assumption | exact rfl | (simp_all []; done) | (simp_all [T.ok]; omega)

theorem k_impl_lessOne {P : Program} {f : FuncId} (h : Is_impl_lessOne P f) : C_impl_lessOne P f := by
  intro xs m hx
  refine q_impl_lessOne h xs m ?_
  refine ⟨?_, fun _ => rfl⟩
  refine for_up (e := .exit 0) (xs.length) (fun i => h_impl_lessOne_L0 xs m (tab i fun i => fsub .f32 (xs.getD i 0) m) i) (by first | rfl | simp) (fun i hi => ?_) ?_
  · refine q_impl_lessOne_L0 _ _ _ _ ?_
    repeat' (first | with_reducible refine T.ok_ob ?_ (fun _ => ?_) | with_reducible refine T.ok_ite (fun _ => ?_) (fun _ => ?_) | with_reducible refine T.ok_leaf ?_)
    all_goals (try simp only [decide_eq_true_eq, decide_eq_false_iff_not, Bool.not_eq_true', Bool.not_eq_false', Bool.not_eq_eq_eq_not, Bool.not_true, Bool.not_false, Int.toNat_natCast, tab_len, List.length_append, List.length_singleton, List.length_cons, List.length_nil, List.length_drop, List.length_take, getD_drop', getD_nat, reduceCtorEq] at *)
    all_goals (try simp (disch := omega) only [wrap64_id] at *)
    all_goals first | omega | (exfalso; omega) | trivial | contradiction | (exfalso; simp_all; done) | skip
    all_goals first | rfl | (rw [tab_succ]; rfl)
  · refine q_impl_lessOne_L0 _ _ _ _ ?_
    repeat' (first | with_reducible refine T.ok_ob ?_ (fun _ => ?_) | with_reducible refine T.ok_ite (fun _ => ?_) (fun _ => ?_) | with_reducible refine T.ok_leaf ?_)
    all_goals (try simp only [decide_eq_true_eq, decide_eq_false_iff_not, Bool.not_eq_true', Bool.not_eq_false', Bool.not_eq_eq_eq_not, Bool.not_true, Bool.not_false, Int.toNat_natCast, tab_len, List.length_append, List.length_singleton, List.length_cons, List.length_nil, List.length_drop, List.length_take, getD_drop', getD_nat, reduceCtorEq] at *)
    all_goals (try simp (disch := omega) only [wrap64_id] at *)
    all_goals first | omega | (exfalso; omega) | trivial | contradiction | (exfalso; simp_all; done) | skip
    all_goals rfl
  repeat' (first | with_reducible refine T.ok_ob ?_ (fun _ => ?_) | with_reducible refine T.ok_ite (fun _ => ?_) (fun _ => ?_) | with_reducible refine T.ok_leaf ?_)
  all_goals first | with_reducible rfl | with_reducible assumption | contradiction | exact fconvOk_32_64 _ | assumption | exact rfl | (simp_all []; done) | (simp_all [T.ok]; omega)

theorem win_low (i s : Nat) (hi : i ≤ 96) (hs : s ≤ 96) : (bif decide (IntKind.wrap .i64 ((i : Int) - s) > 0) then IntKind.wrap .i64 ((i : Int) - s) else 0) = ((i - s : Nat) : Int) := by
  rw [wrap64_id (by omega) (by omega)]
  by_cases h : (i : Int) - s > 0
  · simp only [h, decide_true, cond_true]; omega
  · simp only [h, decide_false, cond_false]; omega
theorem win_high (n i s : Nat) (hn : n ≤ 96) (hi : i ≤ 96) (hs : s ≤ 96) : (bif decide (IntKind.wrap .i64 (IntKind.wrap .i64 ((i : Int) + s) + 1) < (n : Int)) then IntKind.wrap .i64 (IntKind.wrap .i64 ((i : Int) + s) + 1) else (n : Int)) = ((min n (i + s + 1) : Nat) : Int) := by
  rw [wrap64_id (n := (i : Int) + s) (by omega) (by omega), wrap64_id (by omega) (by omega)]
  by_cases h : (i : Int) + s + 1 < n
  · simp only [h, decide_true, cond_true]; omega
  · simp only [h, decide_false, cond_false]; omega
theorem win_len (xs : List Nat) (s i : Nat) (h : i < xs.length) : 1 ≤ (winM xs s i).length ∧ (winM xs s i).length ≤ xs.length := by
  unfold winM; rw [List.length_take, List.length_drop]; omega
theorem win_all {Q : Nat → Prop} {xs : List Nat} (hN : ∀ i, Q (xs.getD i 0)) (s i j : Nat) : Q ((winM xs s i).getD j 0) := by
  unfold winM
  by_cases h : j < min xs.length (i + s + 1) - (i - s)
  · rw [getD_sub _ _ _ _ _ h]; exact hN _
  · rw [show (List.take (min xs.length (i + s + 1) - (i - s)) (List.drop (i - s) xs)).getD j 0 = 0 by
      simp only [List.getD]
      rw [List.getElem?_eq_none (by rw [List.length_take]; omega)]; rfl]
    have h0 := hN xs.length
    rw [List.getD_eq_getElem?_getD, List.getElem?_eq_none (Nat.le_refl _)] at h0
    exact h0
theorem k_impl_moving {P : Program} {f : FuncId} (h : Is_impl_moving P f) : C_impl_moving P f := by
  intro xs side F g hF hs hx
  obtain ⟨Q, hN, hF⟩ := hF
  obtain ⟨s, rfl⟩ : ∃ s : Nat, side = s := ⟨side.toNat, by omega⟩
  refine q_impl_moving h xs _ F g ?_
  rw [Int.toNat_natCast]
  refine ⟨?_, fun _ => rfl⟩
  refine for_up (e := .exit 0) xs.length (fun i => h_impl_moving_L0 xs s F g (tab i fun i => g (winM xs s i)) i) rfl (fun i hi => ?_) ?_
  · refine q_impl_moving_L0 _ _ _ _ _ _ ?_
    rw [win_low _ _ (by omega) (by omega), win_high _ _ _ (by omega) (by omega) (by omega)]
    simp only [Int.toNat_natCast]
    have hl := win_len xs s i hi
    rw [show List.take (min xs.length (i + s + 1) - (i - s)) (List.drop (i - s) xs) = winM xs s i from rfl]
    repeat' (first | with_reducible refine T.ok_ob ?_ (fun _ => ?_) | with_reducible refine T.ok_ite (fun _ => ?_) (fun _ => ?_) | with_reducible refine T.ok_leaf ?_)
    all_goals (try simp only [decide_eq_true_eq, decide_eq_false_iff_not, Bool.not_eq_true', Bool.not_eq_false', Bool.not_eq_eq_eq_not, Bool.not_true, Bool.not_false, Int.toNat_natCast, tab_len, List.length_append, List.length_singleton, List.length_cons, List.length_nil, List.length_drop, List.length_take, getD_drop', getD_nat, reduceCtorEq] at *)
    all_goals (try simp (disch := omega) only [wrap64_id] at *)
    all_goals first | omega | (exfalso; omega) | trivial | contradiction | (exfalso; simp_all; done) | skip
    · exact hF _ hl.1 (by omega) (win_all hN s i)
    · rw [tab_succ]; rfl
  · refine q_impl_moving_L0 _ _ _ _ _ _ ?_
    rw [win_low _ _ (by omega) (by omega), win_high _ _ _ (by omega) (by omega) (by omega)]
    simp only [Int.toNat_natCast]
    repeat' (first | with_reducible refine T.ok_ob ?_ (fun _ => ?_) | with_reducible refine T.ok_ite (fun _ => ?_) (fun _ => ?_) | with_reducible refine T.ok_leaf ?_)
    all_goals (try simp only [decide_eq_true_eq, decide_eq_false_iff_not, Bool.not_eq_true', Bool.not_eq_false', Bool.not_eq_eq_eq_not, Bool.not_true, Bool.not_false, Int.toNat_natCast, tab_len, List.length_append, List.length_singleton, List.length_cons, List.length_nil, List.length_drop, List.length_take, getD_drop', getD_nat, reduceCtorEq] at *)
    all_goals (try simp (disch := omega) only [wrap64_id] at *)
    all_goals first | omega | (exfalso; omega) | trivial | contradiction | (exfalso; simp_all; done) | skip
    all_goals rfl
theorem k_impl_isSide {P : Program} {f g_impl_within : FuncId} (h : Is_impl_isSide P f g_impl_within) (c1 : C_impl_within P g_impl_within) : C_impl_isSide P f := by
  intro n
  refine q_impl_isSide h n ?_
  repeat' (first | with_reducible refine T.ok_ob ?_ (fun _ => ?_) | with_reducible refine T.ok_ite (fun _ => ?_) (fun _ => ?_) | with_reducible refine T.ok_leaf ?_)
  all_goals first | with_reducible rfl | with_reducible assumption | with_reducible exact c1 _ _ _ | contradiction | exact fconvOk_32_64 _ | assumption | exact rfl | (simp_all []; done) | (simp_all [T.ok]; omega)

theorem mov_len (g : List Nat → Nat) (xs : List Nat) (s : Nat) : (movM g xs s).length = xs.length := tab_len _ _
theorem lessOne_len (xs : List Nat) (m : Nat) : (lessOneM xs m).length = xs.length := tab_len _ _
theorem less_len (xs ys : List Nat) : (lessM xs ys).length = xs.length := tab_len _ _
end Go.Proofs.LV
