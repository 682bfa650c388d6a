/- Sums, means, products, places, moving means, lines, folded periods. -/
import Derived.Test.YtjfgmnfkkehgfaaLvFnE
namespace Go.Proofs.LV
open Go
set_option linter.unusedVariables false
set_option linter.unusedSimpArgs false

def sumM (xs : List Nat) : Nat := accN (fun i s => fadd .f32 s (xs.getD i 0)) xs.length 0
def meanM (xs : List Nat) : Nat := fdiv .f32 (sumM xs) (fofi .f32 xs.length)
def dotM (xs ys : List Nat) : Nat := accN (fun i s => fadd .f32 s (fmul .f32 (xs.getD i 0) (ys.getD i 0))) xs.length 0
def lessM (xs ys : List Nat) : List Nat := tab xs.length fun i => fsub .f32 (xs.getD i 0) (ys.getD i 0)
def lessOneM (xs : List Nat) (m : Nat) : List Nat := tab xs.length fun i => fsub .f32 (xs.getD i 0) m
def placesM (n : Nat) : List Nat := tab n fun i => fofi .f32 i
def winM (xs : List Nat) (side i : Nat) : List Nat := (xs.drop (i - side)).take (min xs.length (i + side + 1) - (i - side))
def movM (g : List Nat → Nat) (xs : List Nat) (side : Nat) : List Nat := tab xs.length fun i => g (winM xs side i)

-- FN impl_addUp
/-- impl.addUp: slots 17, results [.t 2]; calls []; names [(list, 0), (list, 1), (sum, 3), (_, 4), (x, 5)] -/
def ps_impl_addUp : List Nat := [0, 2, 3, 5, 6, 7, 8, 9]
def lv_impl_addUp_L0 : List Nat := [3, 6, 7, 8]
def b_impl_addUp_L0 : VCode :=
  (.seq
   (.region false [
    ⟨some 9, (.bin .lss), [.t 8, .t 7], none⟩])
   (.seq
    (.cond (.t 9)
     .skip
     (.exit 0))
    (.seq
     (.block 1
      (.seq
       (.region false [
        ⟨some 10, .iaddr, [.t 6, .t 8], none⟩,
        ⟨some 11, .load, [.t 10], none⟩,
        ⟨some 5, .mv, [.t 11], none⟩])
       (.region false [
        ⟨some 12, .mv, [.t 3], none⟩,
        ⟨some 13, .mv, [.t 5], none⟩,
        ⟨some 14, (.bin .add), [.t 12, .t 13], none⟩,
        ⟨some 3, .mv, [.t 14], none⟩])))
     (.region false [
      ⟨some 15, (.bin .add), [.t 8, .k (.i .i64 1)], none⟩,
      ⟨some 8, .mv, [.t 15], none⟩]))))

def b_impl_addUp : VCode :=
  (.seq
   (.region false [
    ⟨some 2, .mv, [.k (.f .f32 0)], none⟩])
   (.seq
    (.region false [
     ⟨some 3, .mv, [.k (.f .f32 0)], none⟩])
    (.seq
     (.seq
      (.region false [
       ⟨some 6, .mv, [.t 0], none⟩,
       ⟨some 7, .len, [.t 6], none⟩,
       ⟨some 8, .mv, [.k (.i .i64 0)], none⟩])
      (.block 0 (.loop b_impl_addUp_L0)))
     (.seq
      (.region false [
       ⟨some 16, .mv, [.t 3], none⟩,
       ⟨some 2, .mv, [.t 16], none⟩])
      .ret))))

abbrev Is_impl_addUp (P : Program) (g_f : FuncId) : Prop := FnIs P g_f 17 [.t 2] (b_impl_addUp)

abbrev C_impl_addUp (P : Program) (g_f : FuncId) : Prop := ∀ (xs : List Nat) (hx : xs.length ≤ maxLen), VCall P g_f [PS [0] .f32 xs] (.f .f32 (sumM xs))
def oc1_impl_addUp (as : List AV) : T AV := match as with | [.sl _ _ (.f .f32 xs)] => .leaf (.f .f32 (sumM xs)) | _ => .fail
def h_impl_addUp_L0 (xs : List Nat) (sum : Nat) (v8 : Int) : Env := [.any, .any, .any, .f FloatKind.f32 sum, .any, .any, AV.sl (Tag.par [0]) 0 (Cont.f FloatKind.f32 xs), AV.i IntKind.i64 (↑(List.length xs) : Int), .i IntKind.i64 v8] ++ anys 8

theorem q_impl_addUp_L0 {VC : FuncId → List AV → AV → Prop} (xs : List Nat) (sum : Nat) (v8 : Int) {e_ : Ex} {σ_ : Env} (ht : T.ok (fun x_ => x_ = (e_, σ_)) (
      T.ite (decide (v8 < (↑(List.length xs) : Int)))
        (T.ob (0 ≤ v8 ∧ v8 < (↑(List.length xs) : Int)) (T.leaf (Ex.normal, h_impl_addUp_L0 xs (fadd FloatKind.f32 sum (List.getD xs (Int.toNat v8) 0)) (IntKind.wrap IntKind.i64 (v8 + 1)))))
        (T.leaf (Ex.exit 0, h_impl_addUp_L0 xs sum v8)))) :
    Exec VC ps_impl_addUp (b_impl_addUp_L0) (h_impl_addUp_L0 xs sum v8) e_ σ_ := evL_of (lv := lv_impl_addUp_L0) (rs := [2]) (O := ⟨fun _ _ => .fail, fun _ _ => none⟩) (by kernel_rfl) ht

theorem q_impl_addUp {P : Program} {g_f : FuncId} (h_ : Is_impl_addUp P g_f) (xs : List Nat) (ht : T.ok (fun x_ => x_ = .f .f32 (sumM xs)) (
      T.ob (Exec (VCall P) ps_impl_addUp (VCode.block 0 (VCode.loop b_impl_addUp_L0)) (h_impl_addUp_L0 xs 0 0) Ex.normal (h_impl_addUp_L0 xs (sumM xs) (↑(List.length xs) : Int))) (T.leaf (AV.f FloatKind.f32 (sumM xs))))) :
    VCall P g_f [PS [0] .f32 xs] (.f .f32 (sumM xs)) := h_.call_of ps_impl_addUp ⟨fun _ _ => .fail, fun id σ => match id with | 0 => some (lv_impl_addUp_L0, .leaf (.normal, h_impl_addUp_L0 xs (sumM xs) xs.length)) | _ => none⟩ (by kernel_rfl) ht

-- END impl_addUp

-- FN spec_l02Sum
/-- spec.l02Sum: slots 18, results [.t 2]; calls []; names [(list, 0), (list, 1), (sum, 3), (i, 4)] -/
def ps_spec_l02Sum : List Nat := [0, 2, 3, 4, 8]
def lv_spec_l02Sum_L0 : List Nat := [0, 3, 4]
def b_spec_l02Sum_L0 : VCode :=
  (.seq
   (.seq
    (.region false [
     ⟨some 5, .mv, [.t 4], none⟩,
     ⟨some 6, .mv, [.t 0], none⟩,
     ⟨some 7, .len, [.t 6], none⟩,
     ⟨some 8, (.bin .lss), [.t 5, .t 7], none⟩])
    (.cond (.t 8)
     .skip
     (.exit 0)))
   (.seq
    (.block 1
     (.region false [
      ⟨some 11, .mv, [.t 3], none⟩,
      ⟨some 12, .mv, [.t 0], none⟩,
      ⟨some 13, .mv, [.t 4], none⟩,
      ⟨some 14, .iaddr, [.t 12, .t 13], none⟩,
      ⟨some 15, .load, [.t 14], none⟩,
      ⟨some 16, (.bin .add), [.t 11, .t 15], none⟩,
      ⟨some 3, .mv, [.t 16], none⟩]))
    (.region false [
     ⟨some 9, .mv, [.t 4], none⟩,
     ⟨some 10, (.bin .add), [.t 9, .k (.i .i64 1)], none⟩,
     ⟨some 4, .mv, [.t 10], none⟩])))

def b_spec_l02Sum : VCode :=
  (.seq
   (.region false [
    ⟨some 2, .mv, [.k (.f .f32 0)], none⟩])
   (.seq
    (.region false [
     ⟨some 3, .mv, [.k (.f .f32 0)], none⟩])
    (.seq
     (.seq
      (.region false [
       ⟨some 4, .mv, [.k (.i .i64 0)], none⟩])
      (.block 0 (.loop b_spec_l02Sum_L0)))
     (.seq
      (.region false [
       ⟨some 17, .mv, [.t 3], none⟩,
       ⟨some 2, .mv, [.t 17], none⟩])
      .ret))))

abbrev Is_spec_l02Sum (P : Program) (g_f : FuncId) : Prop := FnIs P g_f 18 [.t 2] (b_spec_l02Sum)

abbrev C_spec_l02Sum (P : Program) (g_f : FuncId) : Prop := ∀ (xs : List Nat) (hx : xs.length ≤ maxLen), VCall P g_f [PS [0] .f32 xs] (.f .f32 (sumM xs))
def oc1_spec_l02Sum (as : List AV) : T AV := match as with | [.sl _ _ (.f .f32 xs)] => .leaf (.f .f32 (sumM xs)) | _ => .fail
def h_spec_l02Sum_L0 (xs : List Nat) (sum : Nat) (i : Int) : Env := [AV.sl (Tag.par [0]) 0 (Cont.f FloatKind.f32 xs), .any, .any, .f FloatKind.f32 sum, .i IntKind.i64 i] ++ anys 13

theorem q_spec_l02Sum_L0 {VC : FuncId → List AV → AV → Prop} (xs : List Nat) (sum : Nat) (i : Int) {e_ : Ex} {σ_ : Env} (ht : T.ok (fun x_ => x_ = (e_, σ_)) (
      T.ite (decide (i < (↑(List.length xs) : Int)))
        (T.ob (0 ≤ i ∧ i < (↑(List.length xs) : Int)) (T.leaf (Ex.normal, h_spec_l02Sum_L0 xs (fadd FloatKind.f32 sum (List.getD xs (Int.toNat i) 0)) (IntKind.wrap IntKind.i64 (i + 1)))))
        (T.leaf (Ex.exit 0, h_spec_l02Sum_L0 xs sum i)))) :
    Exec VC ps_spec_l02Sum (b_spec_l02Sum_L0) (h_spec_l02Sum_L0 xs sum i) e_ σ_ := evL_of (lv := lv_spec_l02Sum_L0) (rs := [2]) (O := ⟨fun _ _ => .fail, fun _ _ => none⟩) (by kernel_rfl) ht

theorem q_spec_l02Sum {P : Program} {g_f : FuncId} (h_ : Is_spec_l02Sum P g_f) (xs : List Nat) (ht : T.ok (fun x_ => x_ = .f .f32 (sumM xs)) (
      T.ob (Exec (VCall P) ps_spec_l02Sum (VCode.block 0 (VCode.loop b_spec_l02Sum_L0)) (h_spec_l02Sum_L0 xs 0 0) Ex.normal (h_spec_l02Sum_L0 xs (sumM xs) (↑(List.length xs) : Int))) (T.leaf (AV.f FloatKind.f32 (sumM xs))))) :
    VCall P g_f [PS [0] .f32 xs] (.f .f32 (sumM xs)) := h_.call_of ps_spec_l02Sum ⟨fun _ _ => .fail, fun id σ => match id with | 0 => some (lv_spec_l02Sum_L0, .leaf (.normal, h_spec_l02Sum_L0 xs (sumM xs) xs.length)) | _ => none⟩ (by kernel_rfl) ht

-- END spec_l02Sum

-- FN impl_mean
/-- impl.mean: slots 9, results [.t 2]; calls [4:g_impl_addUp]; names [(list, 0), (list, 1)] -/
def ps_impl_mean : List Nat := [0, 2]
def b_impl_mean (g_impl_addUp : FuncId) : VCode :=
  (.seq
   (.region false [
    ⟨some 2, .mv, [.k (.f .f32 0)], none⟩])
   (.seq
    (.region false [
     ⟨some 3, .mv, [.t 0], none⟩,
     ⟨some 4, (.call g_impl_addUp), [.t 3], none⟩,
     ⟨some 5, .mv, [.t 0], none⟩,
     ⟨some 6, .len, [.t 5], none⟩,
     ⟨some 7, (.convF .f32), [.t 6], none⟩,
     ⟨some 8, (.bin .quo), [.t 4, .t 7], none⟩,
     ⟨some 2, .mv, [.t 8], none⟩])
    .ret))

abbrev Is_impl_mean (P : Program) (g_f : FuncId) (g_impl_addUp : FuncId) : Prop := FnIs P g_f 9 [.t 2] (b_impl_mean g_impl_addUp)

abbrev C_impl_mean (P : Program) (g_f : FuncId) : Prop := ∀ (xs : List Nat) (hx : xs.length ≤ maxLen), VCall P g_f [PS [0] .f32 xs] (.f .f32 (meanM xs))
def oc1_impl_mean (as : List AV) : T AV := match as with | [.sl _ _ (.f .f32 xs)] => .leaf (.f .f32 (meanM xs)) | _ => .fail
def oc_impl_mean (xs : List Nat) (d : Nat) (as : List AV) : T AV := match d with | 4 => oc1_impl_addUp as | _ => .fail



theorem q_impl_mean {P : Program} {g_f : FuncId} {g_impl_addUp : FuncId} (h_ : Is_impl_mean P g_f g_impl_addUp) (xs : List Nat) (ht : T.ok (fun x_ => x_ = .f .f32 (meanM xs)) (
      T.ob ((VCall P) g_impl_addUp [AV.sl (Tag.par [0]) 0 (Cont.f FloatKind.f32 xs)] (AV.f FloatKind.f32 (sumM xs)))
        (T.ob True (T.ob True (T.leaf (AV.f FloatKind.f32 (fdiv FloatKind.f32 (sumM xs) (fofi FloatKind.f32 (↑(List.length xs) : Int))))))))) :
    VCall P g_f [PS [0] .f32 xs] (.f .f32 (meanM xs)) := h_.call_of ps_impl_mean ⟨oc_impl_mean xs, fun _ _ => none⟩ (by kernel_rfl) ht

-- END impl_mean

-- FN spec_l02Mean
/-- spec.l02Mean: slots 9, results [.t 2]; calls [4:g_spec_l02Sum]; names [(list, 0), (list, 1)] -/
def ps_spec_l02Mean : List Nat := [0, 2]
def b_spec_l02Mean (g_spec_l02Sum : FuncId) : VCode :=
  (.seq
   (.region false [
    ⟨some 2, .mv, [.k (.f .f32 0)], none⟩])
   (.seq
    (.region false [
     ⟨some 3, .mv, [.t 0], none⟩,
     ⟨some 4, (.call g_spec_l02Sum), [.t 3], none⟩,
     ⟨some 5, .mv, [.t 0], none⟩,
     ⟨some 6, .len, [.t 5], none⟩,
     ⟨some 7, (.convF .f32), [.t 6], none⟩,
     ⟨some 8, (.bin .quo), [.t 4, .t 7], none⟩,
     ⟨some 2, .mv, [.t 8], none⟩])
    .ret))

abbrev Is_spec_l02Mean (P : Program) (g_f : FuncId) (g_spec_l02Sum : FuncId) : Prop := FnIs P g_f 9 [.t 2] (b_spec_l02Mean g_spec_l02Sum)

abbrev C_spec_l02Mean (P : Program) (g_f : FuncId) : Prop := ∀ (xs : List Nat) (hx : xs.length ≤ maxLen), VCall P g_f [PS [0] .f32 xs] (.f .f32 (meanM xs))
def oc1_spec_l02Mean (as : List AV) : T AV := match as with | [.sl _ _ (.f .f32 xs)] => .leaf (.f .f32 (meanM xs)) | _ => .fail
def oc_spec_l02Mean (xs : List Nat) (d : Nat) (as : List AV) : T AV := match d with | 4 => oc1_spec_l02Sum as | _ => .fail



theorem q_spec_l02Mean {P : Program} {g_f : FuncId} {g_spec_l02Sum : FuncId} (h_ : Is_spec_l02Mean P g_f g_spec_l02Sum) (xs : List Nat) (ht : T.ok (fun x_ => x_ = .f .f32 (meanM xs)) (
      T.ob ((VCall P) g_spec_l02Sum [AV.sl (Tag.par [0]) 0 (Cont.f FloatKind.f32 xs)] (AV.f FloatKind.f32 (sumM xs)))
        (T.ob True (T.ob True (T.leaf (AV.f FloatKind.f32 (fdiv FloatKind.f32 (sumM xs) (fofi FloatKind.f32 (↑(List.length xs) : Int))))))))) :
    VCall P g_f [PS [0] .f32 xs] (.f .f32 (meanM xs)) := h_.call_of ps_spec_l02Mean ⟨oc_spec_l02Mean xs, fun _ _ => none⟩ (by kernel_rfl) ht

-- END spec_l02Mean



-- FN impl_lessOne
/-- impl.lessOne: slots 23, results [.t 4]; calls []; names [(a, 0), (m, 1), (a, 2), (m, 3), (out, 5), (_, 6), (x, 7)] -/
def ps_impl_lessOne : List Nat := [0, 1, 4, 5, 7, 9, 10, 11, 12]
def lv_impl_lessOne_L0 : List Nat := [1, 5, 9, 10, 11]
def b_impl_lessOne_L0 : VCode :=
  (.seq
   (.region false [
    ⟨some 12, (.bin .lss), [.t 11, .t 10], none⟩])
   (.seq
    (.cond (.t 12)
     .skip
     (.exit 0))
    (.seq
     (.block 1
      (.seq
       (.region false [
        ⟨some 13, .iaddr, [.t 9, .t 11], none⟩,
        ⟨some 14, .load, [.t 13], none⟩,
        ⟨some 7, .mv, [.t 14], none⟩])
       (.region false [
        ⟨some 15, .mv, [.t 5], none⟩,
        ⟨some 16, .mv, [.t 7], none⟩,
        ⟨some 17, .mv, [.t 1], none⟩,
        ⟨some 18, (.bin .sub), [.t 16, .t 17], none⟩,
        ⟨some 19, (.lit true (.f .f32 [])), [.t 18], none⟩,
        ⟨some 20, .app, [.t 15, .t 19], none⟩,
        ⟨some 5, .mv, [.t 20], none⟩])))
     (.region false [
      ⟨some 21, (.bin .add), [.t 11, .k (.i .i64 1)], none⟩,
      ⟨some 11, .mv, [.t 21], none⟩]))))

def b_impl_lessOne : VCode :=
  (.seq
   (.region false [
    ⟨some 4, (.nilsl (.f .f32 [])), [], none⟩])
   (.seq
    (.region false [
     ⟨some 8, (.lit true (.f .f32 [])), [], none⟩,
     ⟨some 5, .mv, [.t 8], none⟩])
    (.seq
     (.seq
      (.region false [
       ⟨some 9, .mv, [.t 0], none⟩,
       ⟨some 10, .len, [.t 9], none⟩,
       ⟨some 11, .mv, [.k (.i .i64 0)], none⟩])
      (.block 0 (.loop b_impl_lessOne_L0)))
     (.seq
      (.region false [
       ⟨some 22, .mv, [.t 5], none⟩,
       ⟨some 4, .mv, [.t 22], none⟩])
      .ret))))

abbrev Is_impl_lessOne (P : Program) (g_f : FuncId) : Prop := FnIs P g_f 23 [.t 4] (b_impl_lessOne)

abbrev C_impl_lessOne (P : Program) (g_f : FuncId) : Prop := ∀ (xs : List Nat) (m : Nat) (hx : xs.length ≤ 4294967295), VCall P g_f [PS [0] .f32 xs, .f .f32 m] (OS 0 .f32 (lessOneM xs m))
def oc1_impl_lessOne (as : List AV) : T AV := match as with | [.sl _ _ (.f .f32 xs), .f .f32 m] => .leaf (OS 0 .f32 (lessOneM xs m)) | _ => .fail
def h_impl_lessOne_L0 (xs : List Nat) (m : Nat) (out : List Nat) (v11 : Int) : Env := [.any, AV.f FloatKind.f32 m, .any, .any, .any, .sl (Tag.own 64) 0 (.f FloatKind.f32 out), .any, .any, .any, AV.sl (Tag.par [0]) 0 (Cont.f FloatKind.f32 xs), AV.i IntKind.i64 (↑(List.length xs) : Int), .i IntKind.i64 v11] ++ anys 11

theorem q_impl_lessOne_L0 {VC : FuncId → List AV → AV → Prop} (xs : List Nat) (m : Nat) (out : List Nat) (v11 : Int) {e_ : Ex} {σ_ : Env} (ht : T.ok (fun x_ => x_ = (e_, σ_)) (
      T.ite (decide (v11 < (↑(List.length xs) : Int)))
        (T.ob (0 ≤ v11 ∧ v11 < (↑(List.length xs) : Int))
          (T.ob (List.length out + List.length [fsub FloatKind.f32 (List.getD xs (Int.toNat v11) 0) m] ≤ 4294967296)
            (T.leaf (Ex.normal, h_impl_lessOne_L0 xs m (out ++ [fsub FloatKind.f32 (List.getD xs (Int.toNat v11) 0) m]) (IntKind.wrap IntKind.i64 (v11 + 1))))))
        (T.leaf (Ex.exit 0, h_impl_lessOne_L0 xs m out v11)))) :
    Exec VC ps_impl_lessOne (b_impl_lessOne_L0) (h_impl_lessOne_L0 xs m out v11) e_ σ_ := evL_of (lv := lv_impl_lessOne_L0) (rs := [4]) (O := ⟨fun _ _ => .fail, fun _ _ => none⟩) (by kernel_rfl) ht

theorem q_impl_lessOne {P : Program} {g_f : FuncId} (h_ : Is_impl_lessOne P g_f) (xs : List Nat) (m : Nat) (ht : T.ok (fun x_ => x_ = OS 0 .f32 (lessOneM xs m)) (
      T.ob (Exec (VCall P) ps_impl_lessOne (VCode.block 0 (VCode.loop b_impl_lessOne_L0)) (h_impl_lessOne_L0 xs m [] 0) Ex.normal (h_impl_lessOne_L0 xs m (lessOneM xs m) (↑(List.length xs) : Int)))
        (T.leaf (AV.sl (Tag.own 0) 0 (Cont.f FloatKind.f32 (lessOneM xs m)))))) :
    VCall P g_f [PS [0] .f32 xs, .f .f32 m] (OS 0 .f32 (lessOneM xs m)) := h_.call_of ps_impl_lessOne ⟨fun _ _ => .fail, fun id σ => match id with | 0 => some (lv_impl_lessOne_L0, .leaf (.normal, h_impl_lessOne_L0 xs m (lessOneM xs m) xs.length)) | _ => none⟩ (by kernel_rfl) ht

-- END impl_lessOne



-- FN impl_moving
/-- impl.moving: slots 36, results [.t 6]; calls [31:VALUE]; names [(list, 0), (side, 1), (of, 2), (list, 3), (side, 4), (of, 5), (out, 7), (n, 8), (i, 9)] -/
def ps_impl_moving : List Nat := [0, 1, 2, 6, 7, 8, 9, 13, 14, 15]
def lv_impl_moving_L0 : List Nat := [0, 1, 2, 7, 8, 13, 14]
def b_impl_moving_L0 : VCode :=
  (.seq
   (.region false [
    ⟨some 15, (.bin .lss), [.t 14, .t 13], none⟩])
   (.seq
    (.cond (.t 15)
     .skip
     (.exit 0))
    (.seq
     (.block 1
      (.seq
       (.region false [
        ⟨some 16, .mv, [.t 14], none⟩,
        ⟨some 9, .mv, [.t 16], none⟩])
       (.region false [
        ⟨some 17, .mv, [.t 7], none⟩,
        ⟨some 18, .mv, [.t 2], none⟩,
        ⟨some 19, .mv, [.t 0], none⟩,
        ⟨some 20, .mv, [.t 9], none⟩,
        ⟨some 21, .mv, [.t 1], none⟩,
        ⟨some 22, (.bin .sub), [.t 20, .t 21], none⟩,
        ⟨some 23, .max, [.k (.i .i64 0), .t 22], none⟩,
        ⟨some 24, .mv, [.t 8], none⟩,
        ⟨some 25, .mv, [.t 9], none⟩,
        ⟨some 26, .mv, [.t 1], none⟩,
        ⟨some 27, (.bin .add), [.t 25, .t 26], none⟩,
        ⟨some 28, (.bin .add), [.t 27, .k (.i .i64 1)], none⟩,
        ⟨some 29, .min, [.t 24, .t 28], none⟩,
        ⟨some 30, (.slice true true false), [.t 19, .t 23, .t 29], none⟩,
        ⟨some 31, .callv, [.t 18, .t 30], none⟩,
        ⟨some 32, (.lit true (.f .f32 [])), [.t 31], none⟩,
        ⟨some 33, .app, [.t 17, .t 32], none⟩,
        ⟨some 7, .mv, [.t 33], none⟩])))
     (.region false [
      ⟨some 34, (.bin .add), [.t 14, .k (.i .i64 1)], none⟩,
      ⟨some 14, .mv, [.t 34], none⟩]))))

def b_impl_moving : VCode :=
  (.seq
   (.region false [
    ⟨some 6, (.nilsl (.f .f32 [])), [], none⟩])
   (.seq
    (.region false [
     ⟨some 10, (.lit true (.f .f32 [])), [], none⟩,
     ⟨some 7, .mv, [.t 10], none⟩])
    (.seq
     (.region false [
      ⟨some 11, .mv, [.t 0], none⟩,
      ⟨some 12, .len, [.t 11], none⟩,
      ⟨some 8, .mv, [.t 12], none⟩])
     (.seq
      (.seq
       (.region false [
        ⟨some 13, .mv, [.t 8], none⟩,
        ⟨some 14, .mv, [.k (.i .i64 0)], none⟩])
       (.block 0 (.loop b_impl_moving_L0)))
      (.seq
       (.region false [
        ⟨some 35, .mv, [.t 7], none⟩,
        ⟨some 6, .mv, [.t 35], none⟩])
       .ret)))))

abbrev Is_impl_moving (P : Program) (g_f : FuncId) : Prop := FnIs P g_f 36 [.t 6] (b_impl_moving)

abbrev C_impl_moving (P : Program) (g_f : FuncId) : Prop := ∀ (xs : List Nat) (side : Int) (F : FuncId) (g : List Nat → Nat) (hF : ∃ Q : Nat → Prop, (∀ i, Q (xs.getD i 0)) ∧ ∀ ys : List Nat, 1 ≤ ys.length → ys.length ≤ 96 → (∀ i, Q (ys.getD i 0)) → VCall P F [PS [0] .f32 ys] (.f .f32 (g ys))) (hs : 0 ≤ side ∧ side ≤ 96) (hx : xs.length ≤ 96), VCall P g_f [PS [0] .f32 xs, .i .i64 side, .fn F []] (OS 0 .f32 (movM g xs side.toNat))
def oc_impl_moving (xs : List Nat) (side : Int) (F : FuncId) (g : List Nat → Nat) (d : Nat) (as : List AV) : T AV := match d with | 31 => (match as with | [.sl _ _ (.f _ ys)] => .leaf (.f .f32 (g ys)) | _ => .fail) | _ => .fail
def h_impl_moving_L0 (xs : List Nat) (side : Int) (F : FuncId) (g : List Nat → Nat) (out : List Nat) (v14 : Int) : Env := [AV.sl (Tag.par [0]) 0 (Cont.f FloatKind.f32 xs), AV.i IntKind.i64 side, AV.fn F []] ++ anys 4 ++ [.sl (Tag.own 80) 0 (.f FloatKind.f32 out), AV.i IntKind.i64 (↑(List.length xs) : Int)] ++ anys 4 ++ [AV.i IntKind.i64 (↑(List.length xs) : Int), .i IntKind.i64 v14] ++ anys 21

theorem q_impl_moving_L0 {VC : FuncId → List AV → AV → Prop} (xs : List Nat) (side : Int) (F : FuncId) (g : List Nat → Nat) (out : List Nat) (v14 : Int) {e_ : Ex} {σ_ : Env} (ht : T.ok (fun x_ => x_ = (e_, σ_)) (
      T.ite (decide (v14 < (↑(List.length xs) : Int)))
        (T.ob
          ((0 ≤ bif decide (IntKind.wrap IntKind.i64 (v14 - side) > 0) then IntKind.wrap IntKind.i64 (v14 - side) else 0) ∧
            ((bif decide (IntKind.wrap IntKind.i64 (v14 - side) > 0) then IntKind.wrap IntKind.i64 (v14 - side) else 0) ≤
                bif decide (IntKind.wrap IntKind.i64 (IntKind.wrap IntKind.i64 (v14 + side) + 1) < (↑(List.length xs) : Int)) then IntKind.wrap IntKind.i64 (IntKind.wrap IntKind.i64 (v14 + side) + 1)
                else (↑(List.length xs) : Int)) ∧
              (bif decide (IntKind.wrap IntKind.i64 (IntKind.wrap IntKind.i64 (v14 + side) + 1) < (↑(List.length xs) : Int)) then IntKind.wrap IntKind.i64 (IntKind.wrap IntKind.i64 (v14 + side) + 1)
                else (↑(List.length xs) : Int)) ≤
                (↑(List.length xs) : Int))
          (T.ob
            (VC F
              [AV.sl (Tag.par [0]) 0
                  (Cont.f FloatKind.f32
                    (List.take
                      (Int.toNat
                          (bif decide (IntKind.wrap IntKind.i64 (IntKind.wrap IntKind.i64 (v14 + side) + 1) < (↑(List.length xs) : Int)) then IntKind.wrap IntKind.i64 (IntKind.wrap IntKind.i64 (v14 + side) + 1)
                          else (↑(List.length xs) : Int)) -
                        Int.toNat (bif decide (IntKind.wrap IntKind.i64 (v14 - side) > 0) then IntKind.wrap IntKind.i64 (v14 - side) else 0))
                      (List.drop (Int.toNat (bif decide (IntKind.wrap IntKind.i64 (v14 - side) > 0) then IntKind.wrap IntKind.i64 (v14 - side) else 0)) xs)))]
              (AV.f FloatKind.f32
                (g
                  (List.take
                    (Int.toNat
                        (bif decide (IntKind.wrap IntKind.i64 (IntKind.wrap IntKind.i64 (v14 + side) + 1) < (↑(List.length xs) : Int)) then IntKind.wrap IntKind.i64 (IntKind.wrap IntKind.i64 (v14 + side) + 1)
                        else (↑(List.length xs) : Int)) -
                      Int.toNat (bif decide (IntKind.wrap IntKind.i64 (v14 - side) > 0) then IntKind.wrap IntKind.i64 (v14 - side) else 0))
                    (List.drop (Int.toNat (bif decide (IntKind.wrap IntKind.i64 (v14 - side) > 0) then IntKind.wrap IntKind.i64 (v14 - side) else 0)) xs)))))
            (T.ob
              (List.length out +
                  List.length
                    [g
                        (List.take
                          (Int.toNat
                              (bif decide (IntKind.wrap IntKind.i64 (IntKind.wrap IntKind.i64 (v14 + side) + 1) < (↑(List.length xs) : Int)) then IntKind.wrap IntKind.i64 (IntKind.wrap IntKind.i64 (v14 + side) + 1)
                              else (↑(List.length xs) : Int)) -
                            Int.toNat (bif decide (IntKind.wrap IntKind.i64 (v14 - side) > 0) then IntKind.wrap IntKind.i64 (v14 - side) else 0))
                          (List.drop (Int.toNat (bif decide (IntKind.wrap IntKind.i64 (v14 - side) > 0) then IntKind.wrap IntKind.i64 (v14 - side) else 0)) xs))] ≤
                4294967296)
              (T.leaf
                (Ex.normal,
                  h_impl_moving_L0 xs side F g
                    (out ++
                      [g
                          (List.take
                            (Int.toNat
                                (bif decide (IntKind.wrap IntKind.i64 (IntKind.wrap IntKind.i64 (v14 + side) + 1) < (↑(List.length xs) : Int)) then IntKind.wrap IntKind.i64 (IntKind.wrap IntKind.i64 (v14 + side) + 1)
                                else (↑(List.length xs) : Int)) -
                              Int.toNat (bif decide (IntKind.wrap IntKind.i64 (v14 - side) > 0) then IntKind.wrap IntKind.i64 (v14 - side) else 0))
                            (List.drop (Int.toNat (bif decide (IntKind.wrap IntKind.i64 (v14 - side) > 0) then IntKind.wrap IntKind.i64 (v14 - side) else 0)) xs))])
                    (IntKind.wrap IntKind.i64 (v14 + 1)))))))
        (T.leaf (Ex.exit 0, h_impl_moving_L0 xs side F g out v14)))) :
    Exec VC ps_impl_moving (b_impl_moving_L0) (h_impl_moving_L0 xs side F g out v14) e_ σ_ := evL_of (lv := lv_impl_moving_L0) (rs := [6]) (O := ⟨oc_impl_moving xs side F g, fun _ _ => none⟩) (by kernel_rfl) ht

theorem q_impl_moving {P : Program} {g_f : FuncId} (h_ : Is_impl_moving P g_f) (xs : List Nat) (side : Int) (F : FuncId) (g : List Nat → Nat) (ht : T.ok (fun x_ => x_ = OS 0 .f32 (movM g xs side.toNat)) (
      T.ob (Exec (VCall P) ps_impl_moving (VCode.block 0 (VCode.loop b_impl_moving_L0)) (h_impl_moving_L0 xs side F g [] 0) Ex.normal (h_impl_moving_L0 xs side F g (movM g xs (Int.toNat side)) (↑(List.length xs) : Int)))
        (T.leaf (AV.sl (Tag.own 0) 0 (Cont.f FloatKind.f32 (movM g xs (Int.toNat side))))))) :
    VCall P g_f [PS [0] .f32 xs, .i .i64 side, .fn F []] (OS 0 .f32 (movM g xs side.toNat)) := h_.call_of ps_impl_moving ⟨oc_impl_moving xs side F g, fun id σ => match id with | 0 => some (lv_impl_moving_L0, .leaf (.normal, h_impl_moving_L0 xs side F g (movM g xs side.toNat) xs.length)) | _ => none⟩ (by kernel_rfl) ht

-- END impl_moving

-- FN spec_l02Near
/-- spec.l02Near: slots 25, results [.t 6]; calls []; names [(list, 0), (at, 1), (side, 2), (list, 3), (at, 4), (side, 5), (low, 7), (high, 8)] -/
def ps_spec_l02Near : List Nat := [0, 1, 2, 6, 7, 8]
def b_spec_l02Near : VCode :=
  (.seq
   (.region false [
    ⟨some 6, (.nilsl (.f .f32 [])), [], none⟩])
   (.seq
    (.region false [
     ⟨some 9, .mv, [.t 1], none⟩,
     ⟨some 10, .mv, [.t 2], none⟩,
     ⟨some 11, (.bin .sub), [.t 9, .t 10], none⟩,
     ⟨some 12, .max, [.k (.i .i64 0), .t 11], none⟩,
     ⟨some 7, .mv, [.t 12], none⟩])
    (.seq
     (.region false [
      ⟨some 13, .mv, [.t 0], none⟩,
      ⟨some 14, .len, [.t 13], none⟩,
      ⟨some 15, (.bin .sub), [.t 14, .k (.i .i64 1)], none⟩,
      ⟨some 16, .mv, [.t 1], none⟩,
      ⟨some 17, .mv, [.t 2], none⟩,
      ⟨some 18, (.bin .add), [.t 16, .t 17], none⟩,
      ⟨some 19, .min, [.t 15, .t 18], none⟩,
      ⟨some 8, .mv, [.t 19], none⟩])
     (.seq
      (.region false [
       ⟨some 20, .mv, [.t 0], none⟩,
       ⟨some 21, .mv, [.t 7], none⟩,
       ⟨some 22, .mv, [.t 8], none⟩,
       ⟨some 23, (.bin .add), [.t 22, .k (.i .i64 1)], none⟩,
       ⟨some 24, (.slice true true false), [.t 20, .t 21, .t 23], none⟩,
       ⟨some 6, .mv, [.t 24], none⟩])
      .ret))))

abbrev Is_spec_l02Near (P : Program) (g_f : FuncId) : Prop := FnIs P g_f 25 [.t 6] (b_spec_l02Near)

abbrev C_spec_l02Near (P : Program) (g_f : FuncId) : Prop := ∀ (xs : List Nat) (i : Int) (side : Int) (hs : 0 ≤ side ∧ side ≤ 96) (hi : 0 ≤ i ∧ i < xs.length) (hx : xs.length ≤ 96), VCall P g_f [PS [0] .f32 xs, .i .i64 i, .i .i64 side] (.sl (.par [0]) (0 + (i.toNat - side.toNat)) (.f .f32 (winM xs side.toNat i.toNat)))
def oc1_spec_l02Near (as : List AV) : T AV := match as with | [.sl _ _ (.f .f32 xs), .i .i64 i, .i .i64 side] => .leaf (.sl (.par [0]) (0 + (i.toNat - side.toNat)) (.f .f32 (winM xs side.toNat i.toNat))) | _ => .fail



theorem q_spec_l02Near {P : Program} {g_f : FuncId} (h_ : Is_spec_l02Near P g_f) (xs : List Nat) (i : Int) (side : Int) (ht : T.ok (fun x_ => x_ = .sl (.par [0]) (0 + (i.toNat - side.toNat)) (.f .f32 (winM xs side.toNat i.toNat))) (
      T.ob
        ((0 ≤ bif decide (IntKind.wrap IntKind.i64 (i - side) > 0) then IntKind.wrap IntKind.i64 (i - side) else 0) ∧
          (bif decide (IntKind.wrap IntKind.i64 (i - side) > 0) then IntKind.wrap IntKind.i64 (i - side) else 0) ≤
              IntKind.wrap IntKind.i64
                ((bif decide (IntKind.wrap IntKind.i64 (i + side) < IntKind.wrap IntKind.i64 ((↑(List.length xs) : Int) - 1)) then IntKind.wrap IntKind.i64 (i + side)
                  else IntKind.wrap IntKind.i64 ((↑(List.length xs) : Int) - 1)) +
                  1) ∧
            IntKind.wrap IntKind.i64
                ((bif decide (IntKind.wrap IntKind.i64 (i + side) < IntKind.wrap IntKind.i64 ((↑(List.length xs) : Int) - 1)) then IntKind.wrap IntKind.i64 (i + side)
                  else IntKind.wrap IntKind.i64 ((↑(List.length xs) : Int) - 1)) +
                  1) ≤
              (↑(List.length xs) : Int))
        (T.leaf
          (AV.sl (Tag.par [0]) (0 + Int.toNat (bif decide (IntKind.wrap IntKind.i64 (i - side) > 0) then IntKind.wrap IntKind.i64 (i - side) else 0))
            (Cont.f FloatKind.f32
              (List.take
                (Int.toNat
                    (IntKind.wrap IntKind.i64
                      ((bif decide (IntKind.wrap IntKind.i64 (i + side) < IntKind.wrap IntKind.i64 ((↑(List.length xs) : Int) - 1)) then IntKind.wrap IntKind.i64 (i + side)
                        else IntKind.wrap IntKind.i64 ((↑(List.length xs) : Int) - 1)) +
                        1)) -
                  Int.toNat (bif decide (IntKind.wrap IntKind.i64 (i - side) > 0) then IntKind.wrap IntKind.i64 (i - side) else 0))
                (List.drop (Int.toNat (bif decide (IntKind.wrap IntKind.i64 (i - side) > 0) then IntKind.wrap IntKind.i64 (i - side) else 0)) xs))))))) :
    VCall P g_f [PS [0] .f32 xs, .i .i64 i, .i .i64 side] (.sl (.par [0]) (0 + (i.toNat - side.toNat)) (.f .f32 (winM xs side.toNat i.toNat))) := h_.call_of ps_spec_l02Near ⟨fun _ _ => .fail, fun _ _ => none⟩ (by kernel_rfl) ht

-- END spec_l02Near

-- FN spec_l02Moving
/-- spec.l02Moving: slots 23, results [.t 4]; calls [18:g_spec_l02Near, 19:g_spec_l02Mean]; names [(list, 0), (side, 1), (list, 2), (side, 3), (out, 5), (i, 6)] -/
def ps_spec_l02Moving : List Nat := [0, 1, 4, 5, 6, 11]
def lv_spec_l02Moving_L0 : List Nat := [0, 1, 5, 6]
def b_spec_l02Moving_L0 (g_spec_l02Near g_spec_l02Mean : FuncId) : VCode :=
  (.seq
   (.seq
    (.region false [
     ⟨some 8, .mv, [.t 6], none⟩,
     ⟨some 9, .mv, [.t 0], none⟩,
     ⟨some 10, .len, [.t 9], none⟩,
     ⟨some 11, (.bin .lss), [.t 8, .t 10], none⟩])
    (.cond (.t 11)
     .skip
     (.exit 0)))
   (.seq
    (.block 1
     (.region false [
      ⟨some 14, .mv, [.t 5], none⟩,
      ⟨some 15, .mv, [.t 0], none⟩,
      ⟨some 16, .mv, [.t 6], none⟩,
      ⟨some 17, .mv, [.t 1], none⟩,
      ⟨some 18, (.call g_spec_l02Near), [.t 15, .t 16, .t 17], none⟩,
      ⟨some 19, (.call g_spec_l02Mean), [.t 18], none⟩,
      ⟨some 20, (.lit true (.f .f32 [])), [.t 19], none⟩,
      ⟨some 21, .app, [.t 14, .t 20], none⟩,
      ⟨some 5, .mv, [.t 21], none⟩]))
    (.region false [
     ⟨some 12, .mv, [.t 6], none⟩,
     ⟨some 13, (.bin .add), [.t 12, .k (.i .i64 1)], none⟩,
     ⟨some 6, .mv, [.t 13], none⟩])))

def b_spec_l02Moving (g_spec_l02Near g_spec_l02Mean : FuncId) : VCode :=
  (.seq
   (.region false [
    ⟨some 4, (.nilsl (.f .f32 [])), [], none⟩])
   (.seq
    (.region false [
     ⟨some 7, (.lit true (.f .f32 [])), [], none⟩,
     ⟨some 5, .mv, [.t 7], none⟩])
    (.seq
     (.seq
      (.region false [
       ⟨some 6, .mv, [.k (.i .i64 0)], none⟩])
      (.block 0 (.loop (b_spec_l02Moving_L0 g_spec_l02Near g_spec_l02Mean))))
     (.seq
      (.region false [
       ⟨some 22, .mv, [.t 5], none⟩,
       ⟨some 4, .mv, [.t 22], none⟩])
      .ret))))

abbrev Is_spec_l02Moving (P : Program) (g_f : FuncId) (g_spec_l02Near g_spec_l02Mean : FuncId) : Prop := FnIs P g_f 23 [.t 4] (b_spec_l02Moving g_spec_l02Near g_spec_l02Mean)

abbrev C_spec_l02Moving (P : Program) (g_f : FuncId) : Prop := ∀ (xs : List Nat) (side : Int) (hs : 0 ≤ side ∧ side ≤ 96) (hx : xs.length ≤ 96), VCall P g_f [PS [0] .f32 xs, .i .i64 side] (OS 0 .f32 (movM meanM xs side.toNat))
def oc1_spec_l02Moving (as : List AV) : T AV := match as with | [.sl _ _ (.f .f32 xs), .i .i64 side] => .leaf (OS 0 .f32 (movM meanM xs side.toNat)) | _ => .fail
def oc_spec_l02Moving (xs : List Nat) (side : Int) (d : Nat) (as : List AV) : T AV := match d with | 18 => oc1_spec_l02Near as | 19 => oc1_spec_l02Mean as | _ => .fail
def h_spec_l02Moving_L0 (xs : List Nat) (side : Int) (out : List Nat) (i : Int) : Env := [AV.sl (Tag.par [0]) 0 (Cont.f FloatKind.f32 xs), AV.i IntKind.i64 side, .any, .any, .any, .sl (Tag.own 56) 0 (.f FloatKind.f32 out), .i IntKind.i64 i] ++ anys 16

theorem q_spec_l02Moving_L0 {VC : FuncId → List AV → AV → Prop} {g_spec_l02Near g_spec_l02Mean : FuncId} (xs : List Nat) (side : Int) (out : List Nat) (i : Int) {e_ : Ex} {σ_ : Env} (ht : T.ok (fun x_ => x_ = (e_, σ_)) (
      T.ite (decide (i < (↑(List.length xs) : Int)))
        (T.ob
          (VC g_spec_l02Near [AV.sl (Tag.par [0]) 0 (Cont.f FloatKind.f32 xs), AV.i IntKind.i64 i, AV.i IntKind.i64 side]
            (AV.sl (Tag.par [0]) (0 + (Int.toNat i - Int.toNat side)) (Cont.f FloatKind.f32 (winM xs (Int.toNat side) (Int.toNat i)))))
          (T.ob (VC g_spec_l02Mean [AV.sl (Tag.par [0]) 0 (Cont.f FloatKind.f32 (winM xs (Int.toNat side) (Int.toNat i)))] (AV.f FloatKind.f32 (meanM (winM xs (Int.toNat side) (Int.toNat i)))))
            (T.ob (List.length out + List.length [meanM (winM xs (Int.toNat side) (Int.toNat i))] ≤ 4294967296)
              (T.leaf (Ex.normal, h_spec_l02Moving_L0 xs side (out ++ [meanM (winM xs (Int.toNat side) (Int.toNat i))]) (IntKind.wrap IntKind.i64 (i + 1)))))))
        (T.leaf (Ex.exit 0, h_spec_l02Moving_L0 xs side out i)))) :
    Exec VC ps_spec_l02Moving (b_spec_l02Moving_L0 g_spec_l02Near g_spec_l02Mean) (h_spec_l02Moving_L0 xs side out i) e_ σ_ := evL_of (lv := lv_spec_l02Moving_L0) (rs := [4]) (O := ⟨oc_spec_l02Moving xs side, fun _ _ => none⟩) (by kernel_rfl) ht

theorem q_spec_l02Moving {P : Program} {g_f : FuncId} {g_spec_l02Near g_spec_l02Mean : FuncId} (h_ : Is_spec_l02Moving P g_f g_spec_l02Near g_spec_l02Mean) (xs : List Nat) (side : Int) (ht : T.ok (fun x_ => x_ = OS 0 .f32 (movM meanM xs side.toNat)) (
      T.ob
        (Exec (VCall P) ps_spec_l02Moving (VCode.block 0 (VCode.loop (b_spec_l02Moving_L0 g_spec_l02Near g_spec_l02Mean))) (h_spec_l02Moving_L0 xs side [] 0) Ex.normal
          (h_spec_l02Moving_L0 xs side (movM meanM xs (Int.toNat side)) (↑(List.length xs) : Int)))
        (T.leaf (AV.sl (Tag.own 0) 0 (Cont.f FloatKind.f32 (movM meanM xs (Int.toNat side))))))) :
    VCall P g_f [PS [0] .f32 xs, .i .i64 side] (OS 0 .f32 (movM meanM xs side.toNat)) := h_.call_of ps_spec_l02Moving ⟨oc_spec_l02Moving xs side, fun id σ => match id with | 0 => some (lv_spec_l02Moving_L0, .leaf (.normal, h_spec_l02Moving_L0 xs side (movM meanM xs side.toNat) xs.length)) | _ => none⟩ (by kernel_rfl) ht

-- END spec_l02Moving

def mmOk (g : List Nat → Nat) (xs : List Nat) (side : Int) : Bool := seriesM xs && (inM side 0 96 && finAllM (movM g xs side.toNat))

-- FN impl_isSide
/-- impl.isSide: slots 5, results [.t 2]; calls [4:g_impl_within]; names [(n, 0), (n, 1)] -/
def ps_impl_isSide : List Nat := [0, 2]
def b_impl_isSide (g_impl_within : FuncId) : VCode :=
  (.seq
   (.region false [
    ⟨some 2, .mv, [.k (.b false)], none⟩])
   (.seq
    (.region false [
     ⟨some 3, .mv, [.t 0], none⟩,
     ⟨some 4, (.call g_impl_within), [.t 3, .k (.i .i64 0), .k (.i .i64 96)], none⟩,
     ⟨some 2, .mv, [.t 4], none⟩])
    .ret))

abbrev Is_impl_isSide (P : Program) (g_f : FuncId) (g_impl_within : FuncId) : Prop := FnIs P g_f 5 [.t 2] (b_impl_isSide g_impl_within)

abbrev C_impl_isSide (P : Program) (g_f : FuncId) : Prop := ∀ (n : Int), VCall P g_f [.i .i64 n] (.b (inM n 0 96))
def oc1_impl_isSide (as : List AV) : T AV := match as with | [.i .i64 n] => .leaf (.b (inM n 0 96)) | _ => .fail
def oc_impl_isSide (n : Int) (d : Nat) (as : List AV) : T AV := match d with | 4 => oc1_impl_within as | _ => .fail



theorem q_impl_isSide {P : Program} {g_f : FuncId} {g_impl_within : FuncId} (h_ : Is_impl_isSide P g_f g_impl_within) (n : Int) (ht : T.ok (fun x_ => x_ = .b (inM n 0 96)) (
      T.ob ((VCall P) g_impl_within [AV.i IntKind.i64 n, AV.i IntKind.i64 0, AV.i IntKind.i64 96] (AV.b (inM n 0 96))) (T.leaf (AV.b (inM n 0 96))))) :
    VCall P g_f [.i .i64 n] (.b (inM n 0 96)) := h_.call_of ps_impl_isSide ⟨oc_impl_isSide n, fun _ _ => none⟩ (by kernel_rfl) ht

-- END impl_isSide



def lfMid (xs : List Nat) : Nat := meanM (placesM xs.length)
def lfU (xs : List Nat) : List Nat := lessOneM (placesM xs.length) (lfMid xs)
def lfSlope (xs : List Nat) : Nat := fdiv .f32 (dotM (lfU xs) (lessOneM xs (meanM xs))) (dotM (lfU xs) (lfU xs))
def lfBase (xs : List Nat) : Nat := fsub .f32 (meanM xs) (fmul .f32 (lfSlope xs) (lfMid xs))
def lfOk (xs : List Nat) : Bool := seriesM xs && (decide (2 ≤ xs.length) && (finM (lfBase xs) && finM (lfSlope xs)))

def two1 (x y : Nat) : Nat := if (finM x && finM y) = true then x else 0
def two2 (x y : Nat) : Nat := if (finM x && finM y) = true then y else 0


theorem k_impl_addUp {P : Program} {f : FuncId} (h : Is_impl_addUp P f) : C_impl_addUp P f := by
  intro xs hx
  refine q_impl_addUp h xs ?_
  have hm := ml64 hx
  refine ⟨?_, fun _ => rfl⟩
  refine for_up (e := .exit 0) (xs.length) (fun i => h_impl_addUp_L0 xs (accN (fun i s => fadd .f32 s (xs.getD i 0)) i 0) i) (by first | rfl | simp) (fun i hi => ?_) ?_
  · refine q_impl_addUp_L0 _ _ _ ?_
    repeat' (first | with_reducible refine T.ok_ob ?_ (fun _ => ?_) | with_reducible refine T.ok_ite (fun _ => ?_) (fun _ => ?_) | with_reducible refine T.ok_leaf ?_)
    all_goals (try simp only [decide_eq_true_eq, decide_eq_false_iff_not, Bool.not_eq_true', Bool.not_eq_false', Bool.not_eq_eq_eq_not, Bool.not_true, Bool.not_false, Int.toNat_natCast, tab_len, List.length_append, List.length_singleton, List.length_cons, List.length_nil, List.length_drop, List.length_take, getD_drop', getD_nat, reduceCtorEq] at *)
    all_goals (try simp (disch := omega) only [wrap64_id] at *)
    all_goals first | omega | (exfalso; omega) | trivial | contradiction | (exfalso; simp_all; done) | skip
    all_goals first | rfl | (rw [tab_succ]; rfl)
  · refine q_impl_addUp_L0 _ _ _ ?_
    repeat' (first | with_reducible refine T.ok_ob ?_ (fun _ => ?_) | with_reducible refine T.ok_ite (fun _ => ?_) (fun _ => ?_) | with_reducible refine T.ok_leaf ?_)
    all_goals (try simp only [decide_eq_true_eq, decide_eq_false_iff_not, Bool.not_eq_true', Bool.not_eq_false', Bool.not_eq_eq_eq_not, Bool.not_true, Bool.not_false, Int.toNat_natCast, tab_len, List.length_append, List.length_singleton, List.length_cons, List.length_nil, List.length_drop, List.length_take, getD_drop', getD_nat, reduceCtorEq] at *)
    all_goals (try simp (disch := omega) only [wrap64_id] at *)
    all_goals first | omega | (exfalso; omega) | trivial | contradiction | (exfalso; simp_all; done) | skip
    all_goals rfl
  repeat' (first | with_reducible refine T.ok_ob ?_ (fun _ => ?_) | with_reducible refine T.ok_ite (fun _ => ?_) (fun _ => ?_) | with_reducible refine T.ok_leaf ?_)
  all_goals first | with_reducible rfl | with_reducible assumption | contradiction | exact fconvOk_32_64 _ | assumption | exact rfl | (simp_all []; done) | (simp_all [T.ok]; omega)

theorem k_spec_l02Sum {P : Program} {f : FuncId} (h : Is_spec_l02Sum P f) : C_spec_l02Sum P f := by
  intro xs hx
  refine q_spec_l02Sum h xs ?_
  have hm := ml64 hx
  refine ⟨?_, fun _ => rfl⟩
  refine for_up (e := .exit 0) (xs.length) (fun i => h_spec_l02Sum_L0 xs (accN (fun i s => fadd .f32 s (xs.getD i 0)) i 0) i) (by first | rfl | simp) (fun i hi => ?_) ?_
  · refine q_spec_l02Sum_L0 _ _ _ ?_
    repeat' (first | with_reducible refine T.ok_ob ?_ (fun _ => ?_) | with_reducible refine T.ok_ite (fun _ => ?_) (fun _ => ?_) | with_reducible refine T.ok_leaf ?_)
    all_goals (try simp only [decide_eq_true_eq, decide_eq_false_iff_not, Bool.not_eq_true', Bool.not_eq_false', Bool.not_eq_eq_eq_not, Bool.not_true, Bool.not_false, Int.toNat_natCast, tab_len, List.length_append, List.length_singleton, List.length_cons, List.length_nil, List.length_drop, List.length_take, getD_drop', getD_nat, reduceCtorEq] at *)
    all_goals (try simp (disch := omega) only [wrap64_id] at *)
    all_goals first | omega | (exfalso; omega) | trivial | contradiction | (exfalso; simp_all; done) | skip
    all_goals first | rfl | (rw [tab_succ]; rfl)
  · refine q_spec_l02Sum_L0 _ _ _ ?_
    repeat' (first | with_reducible refine T.ok_ob ?_ (fun _ => ?_) | with_reducible refine T.ok_ite (fun _ => ?_) (fun _ => ?_) | with_reducible refine T.ok_leaf ?_)
    all_goals (try simp only [decide_eq_true_eq, decide_eq_false_iff_not, Bool.not_eq_true', Bool.not_eq_false', Bool.not_eq_eq_eq_not, Bool.not_true, Bool.not_false, Int.toNat_natCast, tab_len, List.length_append, List.length_singleton, List.length_cons, List.length_nil, List.length_drop, List.length_take, getD_drop', getD_nat, reduceCtorEq] at *)
    all_goals (try simp (disch := omega) only [wrap64_id] at *)
    all_goals first | omega | (exfalso; omega) | trivial | contradiction | (exfalso; simp_all; done) | skip
    all_goals rfl
  repeat' (first | with_reducible refine T.ok_ob ?_ (fun _ => ?_) | with_reducible refine T.ok_ite (fun _ => ?_) (fun _ => ?_) | with_reducible refine T.ok_leaf ?_)
  all_goals first | with_reducible rfl | with_reducible assumption | contradiction | exact fconvOk_32_64 _ | assumption | exact rfl | (simp_all []; done) | (simp_all [T.ok]; omega)

theorem k_impl_mean {P : Program} {f g_impl_addUp : FuncId} (h : Is_impl_mean P f g_impl_addUp) (c1 : C_impl_addUp P g_impl_addUp) : C_impl_mean P f := by
  intro xs hx
  refine q_impl_mean h xs ?_
  repeat' (first | with_reducible refine T.ok_ob ?_ (fun _ => ?_) | with_reducible refine T.ok_ite (fun _ => ?_) (fun _ => ?_) | with_reducible refine T.ok_leaf ?_)
  all_goals first | with_reducible rfl | with_reducible assumption | ((with_reducible refine c1 _ ?_) <;> (first | assumption | omega | with_reducible rfl | (simp [maxLen_eq]; done) | (simp [maxLen_eq]; omega))) | contradiction | exact fconvOk_32_64 _ | assumption | exact rfl | (simp_all []; done) | (simp_all [T.ok]; omega)

theorem k_spec_l02Mean {P : Program} {f g_spec_l02Sum : FuncId} (h : Is_spec_l02Mean P f g_spec_l02Sum) (c1 : C_spec_l02Sum P g_spec_l02Sum) : C_spec_l02Mean P f := by
  intro xs hx
  refine q_spec_l02Mean h xs ?_
  repeat' (first | with_reducible refine T.ok_ob ?_ (fun _ => ?_) | with_reducible refine T.ok_ite (fun _ => ?_) (fun _ => ?_) | with_reducible refine T.ok_leaf ?_)
  all_goals first | with_reducible rfl | with_reducible assumption | ((with_reducible refine c1 _ ?_) <;> (first | assumption | omega | with_reducible rfl | (simp [maxLen_eq]; done) | (simp [maxLen_eq]; omega))) | contradiction | exact fconvOk_32_64 _ | assumption | exact rfl | (simp_all []; done) | (simp_all [T.ok]; omega)

theorem k_impl_lessOne {P : Program} {f : FuncId} (h : Is_impl_lessOne P f) : C_impl_lessOne P f := by
  intro xs m hx
  refine q_impl_lessOne h xs m ?_
  refine ⟨?_, fun _ => rfl⟩
  refine for_up (e := .exit 0) (xs.length) (fun i => h_impl_lessOne_L0 xs m (tab i fun i => fsub .f32 (xs.getD i 0) m) i) (by first | rfl | simp) (fun i hi => ?_) ?_
  · refine q_impl_lessOne_L0 _ _ _ _ ?_
    repeat' (first | with_reducible refine T.ok_ob ?_ (fun _ => ?_) | with_reducible refine T.ok_ite (fun _ => ?_) (fun _ => ?_) | with_reducible refine T.ok_leaf ?_)
    all_goals (try simp only [decide_eq_true_eq, decide_eq_false_iff_not, Bool.not_eq_true', Bool.not_eq_false', Bool.not_eq_eq_eq_not, Bool.not_true, Bool.not_false, Int.toNat_natCast, tab_len, List.length_append, List.length_singleton, List.length_cons, List.length_nil, List.length_drop, List.length_take, getD_drop', getD_nat, reduceCtorEq] at *)
    all_goals (try simp (disch := omega) only [wrap64_id] at *)
    all_goals first | omega | (exfalso; omega) | trivial | contradiction | (exfalso; simp_all; done) | skip
    all_goals first | rfl | (rw [tab_succ]; rfl)
  · refine q_impl_lessOne_L0 _ _ _ _ ?_
    repeat' (first | with_reducible refine T.ok_ob ?_ (fun _ => ?_) | with_reducible refine T.ok_ite (fun _ => ?_) (fun _ => ?_) | with_reducible refine T.ok_leaf ?_)
    all_goals (try simp only [decide_eq_true_eq, decide_eq_false_iff_not, Bool.not_eq_true', Bool.not_eq_false', Bool.not_eq_eq_eq_not, Bool.not_true, Bool.not_false, Int.toNat_natCast, tab_len, List.length_append, List.length_singleton, List.length_cons, List.length_nil, List.length_drop, List.length_take, getD_drop', getD_nat, reduceCtorEq] at *)
    all_goals (try simp (disch := omega) only [wrap64_id] at *)
    all_goals first | omega | (exfalso; omega) | trivial | contradiction | (exfalso; simp_all; done) | skip
    all_goals rfl
  repeat' (first | with_reducible refine T.ok_ob ?_ (fun _ => ?_) | with_reducible refine T.ok_ite (fun _ => ?_) (fun _ => ?_) | with_reducible refine T.ok_leaf ?_)
  all_goals first | with_reducible rfl | with_reducible assumption | contradiction | exact fconvOk_32_64 _ | assumption | exact rfl | (simp_all []; done) | (simp_all [T.ok]; omega)

theorem win_low (i s : Nat) (hi : i ≤ 96) (hs : s ≤ 96) : (bif decide (IntKind.wrap .i64 ((i : Int) - s) > 0) then IntKind.wrap .i64 ((i : Int) - s) else 0) = ((i - s : Nat) : Int) := by
  rw [wrap64_id (by omega) (by omega)]
  by_cases h : (i : Int) - s > 0
  · simp only [h, decide_true, cond_true]; omega
  · simp only [h, decide_false, cond_false]; omega
theorem win_high (n i s : Nat) (hn : n ≤ 96) (hi : i ≤ 96) (hs : s ≤ 96) : (bif decide (IntKind.wrap .i64 (IntKind.wrap .i64 ((i : Int) + s) + 1) < (n : Int)) then IntKind.wrap .i64 (IntKind.wrap .i64 ((i : Int) + s) + 1) else (n : Int)) = ((min n (i + s + 1) : Nat) : Int) := by
  rw [wrap64_id (n := (i : Int) + s) (by omega) (by omega), wrap64_id (by omega) (by omega)]
  by_cases h : (i : Int) + s + 1 < n
  · simp only [h, decide_true, cond_true]; omega
  · simp only [h, decide_false, cond_false]; omega
theorem win_high2 (n i s : Nat) (h1 : 1 ≤ n) (hn : n ≤ 96) (hi : i ≤ 96) (hs : s ≤ 96) : IntKind.wrap .i64 ((bif decide (IntKind.wrap .i64 ((i : Int) + s) < IntKind.wrap .i64 ((n : Int) - 1)) then IntKind.wrap .i64 ((i : Int) + s) else IntKind.wrap .i64 ((n : Int) - 1)) + 1) = ((min n (i + s + 1) : Nat) : Int) := by
  rw [wrap64_id (n := (i : Int) + s) (by omega) (by omega), wrap64_id (n := (n : Int) - 1) (by omega) (by omega)]
  by_cases h : (i : Int) + s < n - 1
  · simp only [h, decide_true, cond_true]; rw [wrap64_id (by omega) (by omega)]; omega
  · simp only [h, decide_false, cond_false]; rw [wrap64_id (by omega) (by omega)]; omega
theorem win_len (xs : List Nat) (s i : Nat) (h : i < xs.length) : 1 ≤ (winM xs s i).length ∧ (winM xs s i).length ≤ xs.length := by
  unfold winM; rw [List.length_take, List.length_drop]; omega
theorem nan_zero : nanB .f32 0 = false := by decide
theorem win_all {Q : Nat → Prop} {xs : List Nat} (hN : ∀ i, Q (xs.getD i 0)) (s i j : Nat) : Q ((winM xs s i).getD j 0) := by
  unfold winM
  by_cases h : j < min xs.length (i + s + 1) - (i - s)
  · rw [getD_sub _ _ _ _ _ h]; exact hN _
  · rw [show (List.take (min xs.length (i + s + 1) - (i - s)) (List.drop (i - s) xs)).getD j 0 = 0 by
      simp only [List.getD]
      rw [List.getElem?_eq_none (by rw [List.length_take]; omega)]; rfl]
    have h0 := hN xs.length
    rw [List.getD_eq_getElem?_getD, List.getElem?_eq_none (Nat.le_refl _)] at h0
    exact h0
theorem win_nan {xs : List Nat} (hN : ∀ i, nanB .f32 (xs.getD i 0) = false) (s i j : Nat) : nanB .f32 ((winM xs s i).getD j 0) = false := win_all (Q := fun x => nanB .f32 x = false) hN s i j
theorem fin_nan0 {x : Nat} (h : finM x = true) : nanB .f32 x = false := by
  cases hr : Ieee.single.read x with
  | nan s t =>
    exfalso
    have e : fsub .f32 x x = fnan .f32 := by
      unfold fsub Ieee.Format.sub
      show (Option.map _ ((Ieee.single.read x).sum (Ieee.single.read x).opposite)).getD _ = _
      rw [hr]; rfl
    unfold finM at h
    rw [e] at h
    revert h; decide
  | infinity s => show (Ieee.single.read x).isNaN = false; rw [hr]; rfl
  | number s m e => show (Ieee.single.read x).isNaN = false; rw [hr]; rfl
theorem series_nan {xs : List Nat} (h : seriesM xs = true) (i : Nat) : nanB .f32 (xs.getD i 0) = false := by
  simp [seriesM, finAllM] at h
  by_cases hi : i < xs.length
  · refine fin_nan0 ?_
    have := h.2.2 xs[i] (List.getElem_mem hi)
    simpa [List.getD, List.getElem?_eq_getElem hi] using this
  · rw [show xs.getD i 0 = 0 by simp [List.getD, List.getElem?_eq_none (Nat.le_of_not_lt hi)]]
    exact nan_zero
theorem k_impl_moving {P : Program} {f : FuncId} (h : Is_impl_moving P f) : C_impl_moving P f := by
  intro xs side F g hF hs hx
  obtain ⟨Q, hN, hF⟩ := hF
  obtain ⟨s, rfl⟩ : ∃ s : Nat, side = s := ⟨side.toNat, by omega⟩
  refine q_impl_moving h xs _ F g ?_
  rw [Int.toNat_natCast]
  refine ⟨?_, fun _ => rfl⟩
  refine for_up (e := .exit 0) xs.length (fun i => h_impl_moving_L0 xs s F g (tab i fun i => g (winM xs s i)) i) rfl (fun i hi => ?_) ?_
  · refine q_impl_moving_L0 _ _ _ _ _ _ ?_
    rw [win_low _ _ (by omega) (by omega), win_high _ _ _ (by omega) (by omega) (by omega)]
    simp only [Int.toNat_natCast]
    have hl := win_len xs s i hi
    rw [show List.take (min xs.length (i + s + 1) - (i - s)) (List.drop (i - s) xs) = winM xs s i from rfl]
    repeat' (first | with_reducible refine T.ok_ob ?_ (fun _ => ?_) | with_reducible refine T.ok_ite (fun _ => ?_) (fun _ => ?_) | with_reducible refine T.ok_leaf ?_)
    all_goals (try simp only [decide_eq_true_eq, decide_eq_false_iff_not, Bool.not_eq_true', Bool.not_eq_false', Bool.not_eq_eq_eq_not, Bool.not_true, Bool.not_false, Int.toNat_natCast, tab_len, List.length_append, List.length_singleton, List.length_cons, List.length_nil, List.length_drop, List.length_take, getD_drop', getD_nat, reduceCtorEq] at *)
    all_goals (try simp (disch := omega) only [wrap64_id] at *)
    all_goals first | omega | (exfalso; omega) | trivial | contradiction | (exfalso; simp_all; done) | skip
    · exact hF _ hl.1 (by omega) (win_all hN s i)
    · rw [tab_succ]; rfl
  · refine q_impl_moving_L0 _ _ _ _ _ _ ?_
    rw [win_low _ _ (by omega) (by omega), win_high _ _ _ (by omega) (by omega) (by omega)]
    simp only [Int.toNat_natCast]
    repeat' (first | with_reducible refine T.ok_ob ?_ (fun _ => ?_) | with_reducible refine T.ok_ite (fun _ => ?_) (fun _ => ?_) | with_reducible refine T.ok_leaf ?_)
    all_goals (try simp only [decide_eq_true_eq, decide_eq_false_iff_not, Bool.not_eq_true', Bool.not_eq_false', Bool.not_eq_eq_eq_not, Bool.not_true, Bool.not_false, Int.toNat_natCast, tab_len, List.length_append, List.length_singleton, List.length_cons, List.length_nil, List.length_drop, List.length_take, getD_drop', getD_nat, reduceCtorEq] at *)
    all_goals (try simp (disch := omega) only [wrap64_id] at *)
    all_goals first | omega | (exfalso; omega) | trivial | contradiction | (exfalso; simp_all; done) | skip
    all_goals rfl
theorem k_spec_l02Near {P : Program} {f : FuncId} (h : Is_spec_l02Near P f) : C_spec_l02Near P f := by
  intro xs i side hs hi hx
  obtain ⟨s, rfl⟩ : ∃ s : Nat, side = s := ⟨side.toNat, by omega⟩
  obtain ⟨k, rfl⟩ : ∃ k : Nat, i = k := ⟨i.toNat, by omega⟩
  refine q_spec_l02Near h xs _ _ ?_
  rw [win_low _ _ (by omega) (by omega), win_high2 _ _ _ (by omega) (by omega) (by omega) (by omega)]
  simp only [Int.toNat_natCast]
  exact ⟨by omega, fun _ => rfl⟩
theorem k_spec_l02Moving {P : Program} {f g1 g2 : FuncId} (h : Is_spec_l02Moving P f g1 g2) (c1 : C_spec_l02Near P g1) (c2 : C_spec_l02Mean P g2) : C_spec_l02Moving P f := by
  intro xs side hs hx
  obtain ⟨s, rfl⟩ : ∃ s : Nat, side = s := ⟨side.toNat, by omega⟩
  refine q_spec_l02Moving h xs _ ?_
  rw [Int.toNat_natCast]
  refine ⟨?_, fun _ => rfl⟩
  refine for_up (e := .exit 0) xs.length (fun i => h_spec_l02Moving_L0 xs s (tab i fun i => meanM (winM xs s i)) i) rfl (fun i hi => ?_) ?_
  · refine q_spec_l02Moving_L0 _ _ _ _ ?_
    simp only [Int.toNat_natCast]
    have hl := win_len xs s i hi
    have a1 := c1 xs i s (by omega) (by omega) hx
    have a2 := c2 (winM xs s i) (by rw [maxLen_eq]; omega)
    repeat' (first | with_reducible refine T.ok_ob ?_ (fun _ => ?_) | with_reducible refine T.ok_ite (fun _ => ?_) (fun _ => ?_) | with_reducible refine T.ok_leaf ?_)
    all_goals (try simp only [decide_eq_true_eq, decide_eq_false_iff_not, Bool.not_eq_true', Bool.not_eq_false', Bool.not_eq_eq_eq_not, Bool.not_true, Bool.not_false, Int.toNat_natCast, tab_len, List.length_append, List.length_singleton, List.length_cons, List.length_nil, List.length_drop, List.length_take, getD_drop', getD_nat, reduceCtorEq] at *)
    all_goals (try simp (disch := omega) only [wrap64_id] at *)
    all_goals first | omega | (exfalso; omega) | trivial | contradiction | (exfalso; simp_all; done) | skip
    all_goals first | exact a1 | exact a2 | (rw [tab_succ]; rfl)
  · refine q_spec_l02Moving_L0 _ _ _ _ ?_
    simp only [Int.toNat_natCast]
    repeat' (first | with_reducible refine T.ok_ob ?_ (fun _ => ?_) | with_reducible refine T.ok_ite (fun _ => ?_) (fun _ => ?_) | with_reducible refine T.ok_leaf ?_)
    all_goals (try simp only [decide_eq_true_eq, decide_eq_false_iff_not, Bool.not_eq_true', Bool.not_eq_false', Bool.not_eq_eq_eq_not, Bool.not_true, Bool.not_false, Int.toNat_natCast, tab_len, List.length_append, List.length_singleton, List.length_cons, List.length_nil, List.length_drop, List.length_take, getD_drop', getD_nat, reduceCtorEq] at *)
    all_goals (try simp (disch := omega) only [wrap64_id] at *)
    all_goals first | omega | (exfalso; omega) | trivial | contradiction | (exfalso; simp_all; done) | skip
    all_goals rfl
theorem k_impl_isSide {P : Program} {f g_impl_within : FuncId} (h : Is_impl_isSide P f g_impl_within) (c1 : C_impl_within P g_impl_within) : C_impl_isSide P f := by
  intro n
  refine q_impl_isSide h n ?_
  repeat' (first | with_reducible refine T.ok_ob ?_ (fun _ => ?_) | with_reducible refine T.ok_ite (fun _ => ?_) (fun _ => ?_) | with_reducible refine T.ok_leaf ?_)
  all_goals first | with_reducible rfl | with_reducible assumption | with_reducible exact c1 _ _ _ | contradiction | exact fconvOk_32_64 _ | assumption | exact rfl | (simp_all []; done) | (simp_all [T.ok]; omega)

theorem mov_len (g : List Nat → Nat) (xs : List Nat) (s : Nat) : (movM g xs s).length = xs.length := tab_len _ _
theorem places_len (n : Nat) : (placesM n).length = n := tab_len _ _
theorem lessOne_len (xs : List Nat) (m : Nat) : (lessOneM xs m).length = xs.length := tab_len _ _
theorem less_len (xs ys : List Nat) : (lessM xs ys).length = xs.length := tab_len _ _
theorem lessOne_get (xs : List Nat) (m i : Nat) (h : i < xs.length) : (lessOneM xs m).getD i 0 = fsub .f32 (xs.getD i 0) m := tab_get _ _ _ _ h
theorem less_get (xs ys : List Nat) (i : Nat) (h : i < xs.length) : (lessM xs ys).getD i 0 = fsub .f32 (xs.getD i 0) (ys.getD i 0) := tab_get _ _ _ _ h
end Go.Proofs.LV
