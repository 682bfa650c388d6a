/- Sums, means, products, places, moving means, lines, folded periods. -/
import Derived.Test.YtjpihhdjmoldjaaLvFnE
namespace Go.Proofs.LV
open Go
set_option linter.unusedVariables false
set_option linter.unusedSimpArgs false

def sumM (xs : List Nat) : Nat := accN (fun i s => fadd .f32 s (xs.getD i 0)) xs.length 0
def meanM (xs : List Nat) : Nat := fdiv .f32 (sumM xs) (fofi .f32 xs.length)
def dotM (xs ys : List Nat) : Nat := accN (fun i s => fadd .f32 s (fmul .f32 (xs.getD i 0) (ys.getD i 0))) xs.length 0
def lessM (xs ys : List Nat) : List Nat := tab xs.length fun i => fsub .f32 (xs.getD i 0) (ys.getD i 0)
def lessOneM (xs : List Nat) (m : Nat) : List Nat := tab xs.length fun i => fsub .f32 (xs.getD i 0) m
def placesM (n : Nat) : List Nat := tab n fun i => fofi .f32 i
def winM (xs : List Nat) (side i : Nat) : List Nat := (xs.drop (i - side)).take (min xs.length (i + side + 1) - (i - side))
def movM (g : List Nat → Nat) (xs : List Nat) (side : Nat) : List Nat := tab xs.length fun i => g (winM xs side i)

/-- impl.addUp: slots 17, results [.t 2]; calls []; names [(list, 0), (list, 1), (sum, 3), (_, 4), (x, 5)] -/
def ps_impl_addUp : List Nat := [0, 2, 3, 5, 6, 7, 8, 9]
def lv_impl_addUp_L0 : List Nat := [3, 6, 7, 8]
def b_impl_addUp_L0 : VCode :=
  (.seq
   (.region false [
    ⟨some 9, (.bin .lss), [.t 8, .t 7], none⟩])
   (.seq
    (.cond (.t 9)
     .skip
     (.exit 0))
    (.seq
     (.block 1
      (.seq
       (.region false [
        ⟨some 10, .iaddr, [.t 6, .t 8], none⟩,
        ⟨some 11, .load, [.t 10], none⟩,
        ⟨some 5, .mv, [.t 11], none⟩])
       (.region false [
        ⟨some 12, .mv, [.t 3], none⟩,
        ⟨some 13, .mv, [.t 5], none⟩,
        ⟨some 14, (.bin .add), [.t 12, .t 13], none⟩,
        ⟨some 3, .mv, [.t 14], none⟩])))
     (.region false [
      ⟨some 15, (.bin .add), [.t 8, .k (.i .i64 1)], none⟩,
      ⟨some 8, .mv, [.t 15], none⟩]))))

def b_impl_addUp : VCode :=
  (.seq
   (.region false [
    ⟨some 2, .mv, [.k (.f .f32 0)], none⟩])
   (.seq
    (.region false [
     ⟨some 3, .mv, [.k (.f .f32 0)], none⟩])
    (.seq
     (.seq
      (.region false [
       ⟨some 6, .mv, [.t 0], none⟩,
       ⟨some 7, .len, [.t 6], none⟩,
       ⟨some 8, .mv, [.k (.i .i64 0)], none⟩])
      (.block 0 (.loop b_impl_addUp_L0)))
     (.seq
      (.region false [
       ⟨some 16, .mv, [.t 3], none⟩,
       ⟨some 2, .mv, [.t 16], none⟩])
      .ret))))

abbrev Is_impl_addUp (P : Program) (g_f : FuncId) : Prop := FnIs P g_f 17 [.t 2] (b_impl_addUp)

abbrev C_impl_addUp (P : Program) (g_f : FuncId) : Prop := ∀ (xs : List Nat) (hx : xs.length ≤ maxLen), VCall P g_f [PS [0] .f32 xs] (.f .f32 (sumM xs))
def oc1_impl_addUp (as : List AV) : T AV := match as with | [.sl _ _ (.f .f32 xs)] => .leaf (.f .f32 (sumM xs)) | _ => .fail
def h_impl_addUp_L0 (xs : List Nat) (sum : Nat) (v8 : Int) : Env := [.any, .any, .any, .f FloatKind.f32 sum, .any, .any, AV.sl (Tag.par [0]) 0 (Cont.f FloatKind.f32 xs), AV.i IntKind.i64 (↑(List.length xs) : Int), .i IntKind.i64 v8] ++ anys 8

theorem q_impl_addUp_L0 {VC : FuncId → List AV → AV → Prop} (xs : List Nat) (sum : Nat) (v8 : Int) {e_ : Ex} {σ_ : Env} (ht : T.ok (fun x_ => x_ = (e_, σ_)) (
      T.ite (decide (v8 < (↑(List.length xs) : Int)))
        (T.ob (0 ≤ v8 ∧ v8 < (↑(List.length xs) : Int)) (T.leaf (Ex.normal, h_impl_addUp_L0 xs (fadd FloatKind.f32 sum (List.getD xs (Int.toNat v8) 0)) (IntKind.wrap IntKind.i64 (v8 + 1)))))
        (T.leaf (Ex.exit 0, h_impl_addUp_L0 xs sum v8)))) :
    Exec VC ps_impl_addUp (b_impl_addUp_L0) (h_impl_addUp_L0 xs sum v8) e_ σ_ := evL_of (lv := lv_impl_addUp_L0) (rs := [2]) (O := ⟨fun _ _ => .fail, fun _ _ => none⟩) (by kernel_rfl) ht

theorem q_impl_addUp {P : Program} {g_f : FuncId} (h_ : Is_impl_addUp P g_f) (xs : List Nat) (ht : T.ok (fun x_ => x_ = .f .f32 (sumM xs)) (
      T.ob (Exec (VCall P) ps_impl_addUp (VCode.block 0 (VCode.loop b_impl_addUp_L0)) (h_impl_addUp_L0 xs 0 0) Ex.normal (h_impl_addUp_L0 xs (sumM xs) (↑(List.length xs) : Int))) (T.leaf (AV.f FloatKind.f32 (sumM xs))))) :
    VCall P g_f [PS [0] .f32 xs] (.f .f32 (sumM xs)) := h_.call_of ps_impl_addUp ⟨fun _ _ => .fail, fun id σ => match id with | 0 => some (lv_impl_addUp_L0, .leaf (.normal, h_impl_addUp_L0 xs (sumM xs) xs.length)) | _ => none⟩ (by kernel_rfl) ht


/-- spec.l02Sum: slots 18, results [.t 2]; calls []; names [(list, 0), (list, 1), (sum, 3), (i, 4)] -/
def ps_spec_l02Sum : List Nat := [0, 2, 3, 4, 8]
def lv_spec_l02Sum_L0 : List Nat := [0, 3, 4]
def b_spec_l02Sum_L0 : VCode :=
  (.seq
   (.seq
    (.region false [
     ⟨some 5, .mv, [.t 4], none⟩,
     ⟨some 6, .mv, [.t 0], none⟩,
     ⟨some 7, .len, [.t 6], none⟩,
     ⟨some 8, (.bin .lss), [.t 5, .t 7], none⟩])
    (.cond (.t 8)
     .skip
     (.exit 0)))
   (.seq
    (.block 1
     (.region false [
      ⟨some 11, .mv, [.t 3], none⟩,
      ⟨some 12, .mv, [.t 0], none⟩,
      ⟨some 13, .mv, [.t 4], none⟩,
      ⟨some 14, .iaddr, [.t 12, .t 13], none⟩,
      ⟨some 15, .load, [.t 14], none⟩,
      ⟨some 16, (.bin .add), [.t 11, .t 15], none⟩,
      ⟨some 3, .mv, [.t 16], none⟩]))
    (.region false [
     ⟨some 9, .mv, [.t 4], none⟩,
     ⟨some 10, (.bin .add), [.t 9, .k (.i .i64 1)], none⟩,
     ⟨some 4, .mv, [.t 10], none⟩])))

def b_spec_l02Sum : VCode :=
  (.seq
   (.region false [
    ⟨some 2, .mv, [.k (.f .f32 0)], none⟩])
   (.seq
    (.region false [
     ⟨some 3, .mv, [.k (.f .f32 0)], none⟩])
    (.seq
     (.seq
      (.region false [
       ⟨some 4, .mv, [.k (.i .i64 0)], none⟩])
      (.block 0 (.loop b_spec_l02Sum_L0)))
     (.seq
      (.region false [
       ⟨some 17, .mv, [.t 3], none⟩,
       ⟨some 2, .mv, [.t 17], none⟩])
      .ret))))

abbrev Is_spec_l02Sum (P : Program) (g_f : FuncId) : Prop := FnIs P g_f 18 [.t 2] (b_spec_l02Sum)

abbrev C_spec_l02Sum (P : Program) (g_f : FuncId) : Prop := ∀ (xs : List Nat) (hx : xs.length ≤ maxLen), VCall P g_f [PS [0] .f32 xs] (.f .f32 (sumM xs))
def oc1_spec_l02Sum (as : List AV) : T AV := match as with | [.sl _ _ (.f .f32 xs)] => .leaf (.f .f32 (sumM xs)) | _ => .fail
def h_spec_l02Sum_L0 (xs : List Nat) (sum : Nat) (i : Int) : Env := [AV.sl (Tag.par [0]) 0 (Cont.f FloatKind.f32 xs), .any, .any, .f FloatKind.f32 sum, .i IntKind.i64 i] ++ anys 13

theorem q_spec_l02Sum_L0 {VC : FuncId → List AV → AV → Prop} (xs : List Nat) (sum : Nat) (i : Int) {e_ : Ex} {σ_ : Env} (ht : T.ok (fun x_ => x_ = (e_, σ_)) (
      T.ite (decide (i < (↑(List.length xs) : Int)))
        (T.ob (0 ≤ i ∧ i < (↑(List.length xs) : Int)) (T.leaf (Ex.normal, h_spec_l02Sum_L0 xs (fadd FloatKind.f32 sum (List.getD xs (Int.toNat i) 0)) (IntKind.wrap IntKind.i64 (i + 1)))))
        (T.leaf (Ex.exit 0, h_spec_l02Sum_L0 xs sum i)))) :
    Exec VC ps_spec_l02Sum (b_spec_l02Sum_L0) (h_spec_l02Sum_L0 xs sum i) e_ σ_ := evL_of (lv := lv_spec_l02Sum_L0) (rs := [2]) (O := ⟨fun _ _ => .fail, fun _ _ => none⟩) (by kernel_rfl) ht

theorem q_spec_l02Sum {P : Program} {g_f : FuncId} (h_ : Is_spec_l02Sum P g_f) (xs : List Nat) (ht : T.ok (fun x_ => x_ = .f .f32 (sumM xs)) (
      T.ob (Exec (VCall P) ps_spec_l02Sum (VCode.block 0 (VCode.loop b_spec_l02Sum_L0)) (h_spec_l02Sum_L0 xs 0 0) Ex.normal (h_spec_l02Sum_L0 xs (sumM xs) (↑(List.length xs) : Int))) (T.leaf (AV.f FloatKind.f32 (sumM xs))))) :
    VCall P g_f [PS [0] .f32 xs] (.f .f32 (sumM xs)) := h_.call_of ps_spec_l02Sum ⟨fun _ _ => .fail, fun id σ => match id with | 0 => some (lv_spec_l02Sum_L0, .leaf (.normal, h_spec_l02Sum_L0 xs (sumM xs) xs.length)) | _ => none⟩ (by kernel_rfl) ht


/-- impl.mean: slots 9, results [.t 2]; calls [4:g_impl_addUp]; names [(list, 0), (list, 1)] -/
def ps_impl_mean : List Nat := [0, 2]
def b_impl_mean (g_impl_addUp : FuncId) : VCode :=
  (.seq
   (.region false [
    ⟨some 2, .mv, [.k (.f .f32 0)], none⟩])
   (.seq
    (.region false [
     ⟨some 3, .mv, [.t 0], none⟩,
     ⟨some 4, (.call g_impl_addUp), [.t 3], none⟩,
     ⟨some 5, .mv, [.t 0], none⟩,
     ⟨some 6, .len, [.t 5], none⟩,
     ⟨some 7, (.convF .f32), [.t 6], none⟩,
     ⟨some 8, (.bin .quo), [.t 4, .t 7], none⟩,
     ⟨some 2, .mv, [.t 8], none⟩])
    .ret))

abbrev Is_impl_mean (P : Program) (g_f : FuncId) (g_impl_addUp : FuncId) : Prop := FnIs P g_f 9 [.t 2] (b_impl_mean g_impl_addUp)

abbrev C_impl_mean (P : Program) (g_f : FuncId) : Prop := ∀ (xs : List Nat) (hx : xs.length ≤ maxLen), VCall P g_f [PS [0] .f32 xs] (.f .f32 (meanM xs))
def oc1_impl_mean (as : List AV) : T AV := match as with | [.sl _ _ (.f .f32 xs)] => .leaf (.f .f32 (meanM xs)) | _ => .fail
def oc_impl_mean (xs : List Nat) (d : Nat) (as : List AV) : T AV := match d with | 4 => oc1_impl_addUp as | _ => .fail



theorem q_impl_mean {P : Program} {g_f : FuncId} {g_impl_addUp : FuncId} (h_ : Is_impl_mean P g_f g_impl_addUp) (xs : List Nat) (ht : T.ok (fun x_ => x_ = .f .f32 (meanM xs)) (
      T.ob ((VCall P) g_impl_addUp [AV.sl (Tag.par [0]) 0 (Cont.f FloatKind.f32 xs)] (AV.f FloatKind.f32 (sumM xs)))
        (T.ob True (T.ob True (T.leaf (AV.f FloatKind.f32 (fdiv FloatKind.f32 (sumM xs) (fofi FloatKind.f32 (↑(List.length xs) : Int))))))))) :
    VCall P g_f [PS [0] .f32 xs] (.f .f32 (meanM xs)) := h_.call_of ps_impl_mean ⟨oc_impl_mean xs, fun _ _ => none⟩ (by kernel_rfl) ht


/-- spec.l02Mean: slots 9, results [.t 2]; calls [4:g_spec_l02Sum]; names [(list, 0), (list, 1)] -/
def ps_spec_l02Mean : List Nat := [0, 2]
def b_spec_l02Mean (g_spec_l02Sum : FuncId) : VCode :=
  (.seq
   (.region false [
    ⟨some 2, .mv, [.k (.f .f32 0)], none⟩])
   (.seq
    (.region false [
     ⟨some 3, .mv, [.t 0], none⟩,
     ⟨some 4, (.call g_spec_l02Sum), [.t 3], none⟩,
     ⟨some 5, .mv, [.t 0], none⟩,
     ⟨some 6, .len, [.t 5], none⟩,
     ⟨some 7, (.convF .f32), [.t 6], none⟩,
     ⟨some 8, (.bin .quo), [.t 4, .t 7], none⟩,
     ⟨some 2, .mv, [.t 8], none⟩])
    .ret))

abbrev Is_spec_l02Mean (P : Program) (g_f : FuncId) (g_spec_l02Sum : FuncId) : Prop := FnIs P g_f 9 [.t 2] (b_spec_l02Mean g_spec_l02Sum)

abbrev C_spec_l02Mean (P : Program) (g_f : FuncId) : Prop := ∀ (xs : List Nat) (hx : xs.length ≤ maxLen), VCall P g_f [PS [0] .f32 xs] (.f .f32 (meanM xs))
def oc1_spec_l02Mean (as : List AV) : T AV := match as with | [.sl _ _ (.f .f32 xs)] => .leaf (.f .f32 (meanM xs)) | _ => .fail
def oc_spec_l02Mean (xs : List Nat) (d : Nat) (as : List AV) : T AV := match d with | 4 => oc1_spec_l02Sum as | _ => .fail



theorem q_spec_l02Mean {P : Program} {g_f : FuncId} {g_spec_l02Sum : FuncId} (h_ : Is_spec_l02Mean P g_f g_spec_l02Sum) (xs : List Nat) (ht : T.ok (fun x_ => x_ = .f .f32 (meanM xs)) (
      T.ob ((VCall P) g_spec_l02Sum [AV.sl (Tag.par [0]) 0 (Cont.f FloatKind.f32 xs)] (AV.f FloatKind.f32 (sumM xs)))
        (T.ob True (T.ob True (T.leaf (AV.f FloatKind.f32 (fdiv FloatKind.f32 (sumM xs) (fofi FloatKind.f32 (↑(List.length xs) : Int))))))))) :
    VCall P g_f [PS [0] .f32 xs] (.f .f32 (meanM xs)) := h_.call_of ps_spec_l02Mean ⟨oc_spec_l02Mean xs, fun _ _ => none⟩ (by kernel_rfl) ht


/-- spec.l03Mean: slots 22, results [.t 2]; calls []; names [(a, 0), (a, 1), (sum, 3), (i, 4)] -/
def ps_spec_l03Mean : List Nat := [0, 2, 3, 4, 6, 7, 8]
def lv_spec_l03Mean_L0 : List Nat := [0, 3, 6, 7]
def b_spec_l03Mean_L0 : VCode :=
  (.seq
   (.region false [
    ⟨some 8, (.bin .lss), [.t 7, .t 6], none⟩])
   (.seq
    (.cond (.t 8)
     .skip
     (.exit 0))
    (.seq
     (.block 1
      (.seq
       (.region false [
        ⟨some 9, .mv, [.t 7], none⟩,
        ⟨some 4, .mv, [.t 9], none⟩])
       (.region false [
        ⟨some 10, .mv, [.t 3], none⟩,
        ⟨some 11, .mv, [.t 0], none⟩,
        ⟨some 12, .mv, [.t 4], none⟩,
        ⟨some 13, .iaddr, [.t 11, .t 12], none⟩,
        ⟨some 14, .load, [.t 13], none⟩,
        ⟨some 15, (.bin .add), [.t 10, .t 14], none⟩,
        ⟨some 3, .mv, [.t 15], none⟩])))
     (.region false [
      ⟨some 16, (.bin .add), [.t 7, .k (.i .i64 1)], none⟩,
      ⟨some 7, .mv, [.t 16], none⟩]))))

def b_spec_l03Mean : VCode :=
  (.seq
   (.region false [
    ⟨some 2, .mv, [.k (.f .f32 0)], none⟩])
   (.seq
    (.region false [
     ⟨some 3, .mv, [.k (.f .f32 0)], none⟩])
    (.seq
     (.seq
      (.region false [
       ⟨some 5, .mv, [.t 0], none⟩,
       ⟨some 6, .len, [.t 5], none⟩,
       ⟨some 7, .mv, [.k (.i .i64 0)], none⟩])
      (.block 0 (.loop b_spec_l03Mean_L0)))
     (.seq
      (.region false [
       ⟨some 17, .mv, [.t 3], none⟩,
       ⟨some 18, .mv, [.t 0], none⟩,
       ⟨some 19, .len, [.t 18], none⟩,
       ⟨some 20, (.convF .f32), [.t 19], none⟩,
       ⟨some 21, (.bin .quo), [.t 17, .t 20], none⟩,
       ⟨some 2, .mv, [.t 21], none⟩])
      .ret))))

abbrev Is_spec_l03Mean (P : Program) (g_f : FuncId) : Prop := FnIs P g_f 22 [.t 2] (b_spec_l03Mean)

abbrev C_spec_l03Mean (P : Program) (g_f : FuncId) : Prop := ∀ (xs : List Nat) (hx : xs.length ≤ maxLen), VCall P g_f [PS [0] .f32 xs] (.f .f32 (meanM xs))
def oc1_spec_l03Mean (as : List AV) : T AV := match as with | [.sl _ _ (.f .f32 xs)] => .leaf (.f .f32 (meanM xs)) | _ => .fail
def h_spec_l03Mean_L0 (xs : List Nat) (sum : Nat) (v7 : Int) : Env := [AV.sl (Tag.par [0]) 0 (Cont.f FloatKind.f32 xs), .any, .any, .f FloatKind.f32 sum, .any, .any, AV.i IntKind.i64 (↑(List.length xs) : Int), .i IntKind.i64 v7] ++ anys 14

theorem q_spec_l03Mean_L0 {VC : FuncId → List AV → AV → Prop} (xs : List Nat) (sum : Nat) (v7 : Int) {e_ : Ex} {σ_ : Env} (ht : T.ok (fun x_ => x_ = (e_, σ_)) (
      T.ite (decide (v7 < (↑(List.length xs) : Int)))
        (T.ob (0 ≤ v7 ∧ v7 < (↑(List.length xs) : Int)) (T.leaf (Ex.normal, h_spec_l03Mean_L0 xs (fadd FloatKind.f32 sum (List.getD xs (Int.toNat v7) 0)) (IntKind.wrap IntKind.i64 (v7 + 1)))))
        (T.leaf (Ex.exit 0, h_spec_l03Mean_L0 xs sum v7)))) :
    Exec VC ps_spec_l03Mean (b_spec_l03Mean_L0) (h_spec_l03Mean_L0 xs sum v7) e_ σ_ := evL_of (lv := lv_spec_l03Mean_L0) (rs := [2]) (O := ⟨fun _ _ => .fail, fun _ _ => none⟩) (by kernel_rfl) ht

theorem q_spec_l03Mean {P : Program} {g_f : FuncId} (h_ : Is_spec_l03Mean P g_f) (xs : List Nat) (ht : T.ok (fun x_ => x_ = .f .f32 (meanM xs)) (
      T.ob (Exec (VCall P) ps_spec_l03Mean (VCode.block 0 (VCode.loop b_spec_l03Mean_L0)) (h_spec_l03Mean_L0 xs 0 0) Ex.normal (h_spec_l03Mean_L0 xs (sumM xs) (↑(List.length xs) : Int)))
        (T.ob True (T.ob True (T.leaf (AV.f FloatKind.f32 (fdiv FloatKind.f32 (sumM xs) (fofi FloatKind.f32 (↑(List.length xs) : Int))))))))) :
    VCall P g_f [PS [0] .f32 xs] (.f .f32 (meanM xs)) := h_.call_of ps_spec_l03Mean ⟨fun _ _ => .fail, fun id σ => match id with | 0 => some (lv_spec_l03Mean_L0, .leaf (.normal, h_spec_l03Mean_L0 xs (sumM xs) xs.length)) | _ => none⟩ (by kernel_rfl) ht


/-- impl.dot: slots 25, results [.t 4]; calls []; names [(a, 0), (b, 1), (a, 2), (b, 3), (sum, 5), (i, 6), (x, 7)] -/
def ps_impl_dot : List Nat := [0, 1, 4, 5, 6, 7, 8, 9, 10, 11]
def lv_impl_dot_L0 : List Nat := [1, 5, 8, 9, 10]
def b_impl_dot_L0 : VCode :=
  (.seq
   (.region false [
    ⟨some 11, (.bin .lss), [.t 10, .t 9], none⟩])
   (.seq
    (.cond (.t 11)
     .skip
     (.exit 0))
    (.seq
     (.block 1
      (.seq
       (.region false [
        ⟨some 12, .mv, [.t 10], none⟩,
        ⟨some 13, .iaddr, [.t 8, .t 10], none⟩,
        ⟨some 14, .load, [.t 13], none⟩,
        ⟨some 6, .mv, [.t 12], none⟩,
        ⟨some 7, .mv, [.t 14], none⟩])
       (.region false [
        ⟨some 15, .mv, [.t 5], none⟩,
        ⟨some 16, .mv, [.t 7], none⟩,
        ⟨some 17, .mv, [.t 1], none⟩,
        ⟨some 18, .mv, [.t 6], none⟩,
        ⟨some 19, .iaddr, [.t 17, .t 18], none⟩,
        ⟨some 20, .load, [.t 19], none⟩,
        ⟨some 21, (.bin .mul), [.t 16, .t 20], none⟩,
        ⟨some 22, (.bin .add), [.t 15, .t 21], none⟩,
        ⟨some 5, .mv, [.t 22], none⟩])))
     (.region false [
      ⟨some 23, (.bin .add), [.t 10, .k (.i .i64 1)], none⟩,
      ⟨some 10, .mv, [.t 23], none⟩]))))

def b_impl_dot : VCode :=
  (.seq
   (.region false [
    ⟨some 4, .mv, [.k (.f .f32 0)], none⟩])
   (.seq
    (.region false [
     ⟨some 5, .mv, [.k (.f .f32 0)], none⟩])
    (.seq
     (.seq
      (.region false [
       ⟨some 8, .mv, [.t 0], none⟩,
       ⟨some 9, .len, [.t 8], none⟩,
       ⟨some 10, .mv, [.k (.i .i64 0)], none⟩])
      (.block 0 (.loop b_impl_dot_L0)))
     (.seq
      (.region false [
       ⟨some 24, .mv, [.t 5], none⟩,
       ⟨some 4, .mv, [.t 24], none⟩])
      .ret))))

abbrev Is_impl_dot (P : Program) (g_f : FuncId) : Prop := FnIs P g_f 25 [.t 4] (b_impl_dot)

abbrev C_impl_dot (P : Program) (g_f : FuncId) : Prop := ∀ (xs : List Nat) (ys : List Nat) (hy : xs.length ≤ ys.length) (hx : xs.length ≤ maxLen), VCall P g_f [PS [0] .f32 xs, PS [1] .f32 ys] (.f .f32 (dotM xs ys))
def oc1_impl_dot (as : List AV) : T AV := match as with | [.sl _ _ (.f .f32 xs), .sl _ _ (.f .f32 ys)] => .leaf (.f .f32 (dotM xs ys)) | _ => .fail
def h_impl_dot_L0 (xs : List Nat) (ys : List Nat) (sum : Nat) (v10 : Int) : Env := [.any, AV.sl (Tag.par [1]) 0 (Cont.f FloatKind.f32 ys), .any, .any, .any, .f FloatKind.f32 sum, .any, .any, AV.sl (Tag.par [0]) 0 (Cont.f FloatKind.f32 xs), AV.i IntKind.i64 (↑(List.length xs) : Int), .i IntKind.i64 v10] ++ anys 14

theorem q_impl_dot_L0 {VC : FuncId → List AV → AV → Prop} (xs : List Nat) (ys : List Nat) (sum : Nat) (v10 : Int) {e_ : Ex} {σ_ : Env} (ht : T.ok (fun x_ => x_ = (e_, σ_)) (
      T.ite (decide (v10 < (↑(List.length xs) : Int)))
        (T.ob (0 ≤ v10 ∧ v10 < (↑(List.length xs) : Int))
          (T.ob (0 ≤ v10 ∧ v10 < (↑(List.length ys) : Int))
            (T.leaf (Ex.normal, h_impl_dot_L0 xs ys (fadd FloatKind.f32 sum (fmul FloatKind.f32 (List.getD xs (Int.toNat v10) 0) (List.getD ys (Int.toNat v10) 0))) (IntKind.wrap IntKind.i64 (v10 + 1))))))
        (T.leaf (Ex.exit 0, h_impl_dot_L0 xs ys sum v10)))) :
    Exec VC ps_impl_dot (b_impl_dot_L0) (h_impl_dot_L0 xs ys sum v10) e_ σ_ := evL_of (lv := lv_impl_dot_L0) (rs := [4]) (O := ⟨fun _ _ => .fail, fun _ _ => none⟩) (by kernel_rfl) ht

theorem q_impl_dot {P : Program} {g_f : FuncId} (h_ : Is_impl_dot P g_f) (xs : List Nat) (ys : List Nat) (ht : T.ok (fun x_ => x_ = .f .f32 (dotM xs ys)) (
      T.ob (Exec (VCall P) ps_impl_dot (VCode.block 0 (VCode.loop b_impl_dot_L0)) (h_impl_dot_L0 xs ys 0 0) Ex.normal (h_impl_dot_L0 xs ys (dotM xs ys) (↑(List.length xs) : Int))) (T.leaf (AV.f FloatKind.f32 (dotM xs ys))))) :
    VCall P g_f [PS [0] .f32 xs, PS [1] .f32 ys] (.f .f32 (dotM xs ys)) := h_.call_of ps_impl_dot ⟨fun _ _ => .fail, fun id σ => match id with | 0 => some (lv_impl_dot_L0, .leaf (.normal, h_impl_dot_L0 xs ys (dotM xs ys) xs.length)) | _ => none⟩ (by kernel_rfl) ht


/-- impl.lessOne: slots 23, results [.t 4]; calls []; names [(a, 0), (m, 1), (a, 2), (m, 3), (out, 5), (_, 6), (x, 7)] -/
def ps_impl_lessOne : List Nat := [0, 1, 4, 5, 7, 9, 10, 11, 12]
def lv_impl_lessOne_L0 : List Nat := [1, 5, 9, 10, 11]
def b_impl_lessOne_L0 : VCode :=
  (.seq
   (.region false [
    ⟨some 12, (.bin .lss), [.t 11, .t 10], none⟩])
   (.seq
    (.cond (.t 12)
     .skip
     (.exit 0))
    (.seq
     (.block 1
      (.seq
       (.region false [
        ⟨some 13, .iaddr, [.t 9, .t 11], none⟩,
        ⟨some 14, .load, [.t 13], none⟩,
        ⟨some 7, .mv, [.t 14], none⟩])
       (.region false [
        ⟨some 15, .mv, [.t 5], none⟩,
        ⟨some 16, .mv, [.t 7], none⟩,
        ⟨some 17, .mv, [.t 1], none⟩,
        ⟨some 18, (.bin .sub), [.t 16, .t 17], none⟩,
        ⟨some 19, (.lit true (.f .f32 [])), [.t 18], none⟩,
        ⟨some 20, .app, [.t 15, .t 19], none⟩,
        ⟨some 5, .mv, [.t 20], none⟩])))
     (.region false [
      ⟨some 21, (.bin .add), [.t 11, .k (.i .i64 1)], none⟩,
      ⟨some 11, .mv, [.t 21], none⟩]))))

def b_impl_lessOne : VCode :=
  (.seq
   (.region false [
    ⟨some 4, (.nilsl (.f .f32 [])), [], none⟩])
   (.seq
    (.region false [
     ⟨some 8, (.lit true (.f .f32 [])), [], none⟩,
     ⟨some 5, .mv, [.t 8], none⟩])
    (.seq
     (.seq
      (.region false [
       ⟨some 9, .mv, [.t 0], none⟩,
       ⟨some 10, .len, [.t 9], none⟩,
       ⟨some 11, .mv, [.k (.i .i64 0)], none⟩])
      (.block 0 (.loop b_impl_lessOne_L0)))
     (.seq
      (.region false [
       ⟨some 22, .mv, [.t 5], none⟩,
       ⟨some 4, .mv, [.t 22], none⟩])
      .ret))))

abbrev Is_impl_lessOne (P : Program) (g_f : FuncId) : Prop := FnIs P g_f 23 [.t 4] (b_impl_lessOne)

abbrev C_impl_lessOne (P : Program) (g_f : FuncId) : Prop := ∀ (xs : List Nat) (m : Nat) (hx : xs.length ≤ 4294967295), VCall P g_f [PS [0] .f32 xs, .f .f32 m] (OS 0 .f32 (lessOneM xs m))
def oc1_impl_lessOne (as : List AV) : T AV := match as with | [.sl _ _ (.f .f32 xs), .f .f32 m] => .leaf (OS 0 .f32 (lessOneM xs m)) | _ => .fail
def h_impl_lessOne_L0 (xs : List Nat) (m : Nat) (out : List Nat) (v11 : Int) : Env := [.any, AV.f FloatKind.f32 m, .any, .any, .any, .sl (Tag.own 64) 0 (.f FloatKind.f32 out), .any, .any, .any, AV.sl (Tag.par [0]) 0 (Cont.f FloatKind.f32 xs), AV.i IntKind.i64 (↑(List.length xs) : Int), .i IntKind.i64 v11] ++ anys 11

theorem q_impl_lessOne_L0 {VC : FuncId → List AV → AV → Prop} (xs : List Nat) (m : Nat) (out : List Nat) (v11 : Int) {e_ : Ex} {σ_ : Env} (ht : T.ok (fun x_ => x_ = (e_, σ_)) (
      T.ite (decide (v11 < (↑(List.length xs) : Int)))
        (T.ob (0 ≤ v11 ∧ v11 < (↑(List.length xs) : Int))
          (T.ob (List.length out + List.length [fsub FloatKind.f32 (List.getD xs (Int.toNat v11) 0) m] ≤ 4294967296)
            (T.leaf (Ex.normal, h_impl_lessOne_L0 xs m (out ++ [fsub FloatKind.f32 (List.getD xs (Int.toNat v11) 0) m]) (IntKind.wrap IntKind.i64 (v11 + 1))))))
        (T.leaf (Ex.exit 0, h_impl_lessOne_L0 xs m out v11)))) :
    Exec VC ps_impl_lessOne (b_impl_lessOne_L0) (h_impl_lessOne_L0 xs m out v11) e_ σ_ := evL_of (lv := lv_impl_lessOne_L0) (rs := [4]) (O := ⟨fun _ _ => .fail, fun _ _ => none⟩) (by kernel_rfl) ht

theorem q_impl_lessOne {P : Program} {g_f : FuncId} (h_ : Is_impl_lessOne P g_f) (xs : List Nat) (m : Nat) (ht : T.ok (fun x_ => x_ = OS 0 .f32 (lessOneM xs m)) (
      T.ob (Exec (VCall P) ps_impl_lessOne (VCode.block 0 (VCode.loop b_impl_lessOne_L0)) (h_impl_lessOne_L0 xs m [] 0) Ex.normal (h_impl_lessOne_L0 xs m (lessOneM xs m) (↑(List.length xs) : Int)))
        (T.leaf (AV.sl (Tag.own 0) 0 (Cont.f FloatKind.f32 (lessOneM xs m)))))) :
    VCall P g_f [PS [0] .f32 xs, .f .f32 m] (OS 0 .f32 (lessOneM xs m)) := h_.call_of ps_impl_lessOne ⟨fun _ _ => .fail, fun id σ => match id with | 0 => some (lv_impl_lessOne_L0, .leaf (.normal, h_impl_lessOne_L0 xs m (lessOneM xs m) xs.length)) | _ => none⟩ (by kernel_rfl) ht


/-- impl.places: slots 17, results [.t 2]; calls []; names [(n, 0), (n, 1), (out, 3), (i, 4)] -/
def ps_impl_places : List Nat := [0, 2, 3, 4, 6, 7, 8]
def lv_impl_places_L0 : List Nat := [3, 6, 7]
def b_impl_places_L0 : VCode :=
  (.seq
   (.region false [
    ⟨some 8, (.bin .lss), [.t 7, .t 6], none⟩])
   (.seq
    (.cond (.t 8)
     .skip
     (.exit 0))
    (.seq
     (.block 1
      (.seq
       (.region false [
        ⟨some 9, .mv, [.t 7], none⟩,
        ⟨some 4, .mv, [.t 9], none⟩])
       (.region false [
        ⟨some 10, .mv, [.t 3], none⟩,
        ⟨some 11, .mv, [.t 4], none⟩,
        ⟨some 12, (.convF .f32), [.t 11], none⟩,
        ⟨some 13, (.lit true (.f .f32 [])), [.t 12], none⟩,
        ⟨some 14, .app, [.t 10, .t 13], none⟩,
        ⟨some 3, .mv, [.t 14], none⟩])))
     (.region false [
      ⟨some 15, (.bin .add), [.t 7, .k (.i .i64 1)], none⟩,
      ⟨some 7, .mv, [.t 15], none⟩]))))

def b_impl_places : VCode :=
  (.seq
   (.region false [
    ⟨some 2, (.nilsl (.f .f32 [])), [], none⟩])
   (.seq
    (.region false [
     ⟨some 5, (.lit true (.f .f32 [])), [], none⟩,
     ⟨some 3, .mv, [.t 5], none⟩])
    (.seq
     (.seq
      (.region false [
       ⟨some 6, .mv, [.t 0], none⟩,
       ⟨some 7, .mv, [.k (.i .i64 0)], none⟩])
      (.block 0 (.loop b_impl_places_L0)))
     (.seq
      (.region false [
       ⟨some 16, .mv, [.t 3], none⟩,
       ⟨some 2, .mv, [.t 16], none⟩])
      .ret))))

abbrev Is_impl_places (P : Program) (g_f : FuncId) : Prop := FnIs P g_f 17 [.t 2] (b_impl_places)

abbrev C_impl_places (P : Program) (g_f : FuncId) : Prop := ∀ (n : Int) (hn : 0 ≤ n ∧ n ≤ 4294967295), VCall P g_f [.i .i64 n] (OS 0 .f32 (placesM n.toNat))
def oc1_impl_places (as : List AV) : T AV := match as with | [.i .i64 n] => .leaf (OS 0 .f32 (placesM n.toNat)) | _ => .fail
def h_impl_places_L0 (n : Int) (out : List Nat) (v7 : Int) : Env := [.any, .any, .any, .sl (Tag.own 40) 0 (.f FloatKind.f32 out), .any, .any, AV.i IntKind.i64 n, .i IntKind.i64 v7] ++ anys 9

theorem q_impl_places_L0 {VC : FuncId → List AV → AV → Prop} (n : Int) (out : List Nat) (v7 : Int) {e_ : Ex} {σ_ : Env} (ht : T.ok (fun x_ => x_ = (e_, σ_)) (
      T.ite (decide (v7 < n))
        (T.ob True (T.ob (List.length out + List.length [fofi FloatKind.f32 v7] ≤ 4294967296) (T.leaf (Ex.normal, h_impl_places_L0 n (out ++ [fofi FloatKind.f32 v7]) (IntKind.wrap IntKind.i64 (v7 + 1))))))
        (T.leaf (Ex.exit 0, h_impl_places_L0 n out v7)))) :
    Exec VC ps_impl_places (b_impl_places_L0) (h_impl_places_L0 n out v7) e_ σ_ := evL_of (lv := lv_impl_places_L0) (rs := [2]) (O := ⟨fun _ _ => .fail, fun _ _ => none⟩) (by kernel_rfl) ht

theorem q_impl_places {P : Program} {g_f : FuncId} (h_ : Is_impl_places P g_f) (n : Int) (ht : T.ok (fun x_ => x_ = OS 0 .f32 (placesM n.toNat)) (
      T.ob (Exec (VCall P) ps_impl_places (VCode.block 0 (VCode.loop b_impl_places_L0)) (h_impl_places_L0 n [] 0) Ex.normal (h_impl_places_L0 n (placesM (Int.toNat n)) n))
        (T.leaf (AV.sl (Tag.own 0) 0 (Cont.f FloatKind.f32 (placesM (Int.toNat n))))))) :
    VCall P g_f [.i .i64 n] (OS 0 .f32 (placesM n.toNat)) := h_.call_of ps_impl_places ⟨fun _ _ => .fail, fun id σ => match id with | 0 => some (lv_impl_places_L0, .leaf (.normal, h_impl_places_L0 n (placesM n.toNat) n)) | _ => none⟩ (by kernel_rfl) ht


/-- spec.l03Places: slots 17, results [.t 2]; calls []; names [(n, 0), (n, 1), (out, 3), (i, 4)] -/
def ps_spec_l03Places : List Nat := [0, 2, 3, 4, 8]
def lv_spec_l03Places_L0 : List Nat := [0, 3, 4]
def b_spec_l03Places_L0 : VCode :=
  (.seq
   (.seq
    (.region false [
     ⟨some 6, .mv, [.t 4], none⟩,
     ⟨some 7, .mv, [.t 0], none⟩,
     ⟨some 8, (.bin .lss), [.t 6, .t 7], none⟩])
    (.cond (.t 8)
     .skip
     (.exit 0)))
   (.seq
    (.block 1
     (.region false [
      ⟨some 11, .mv, [.t 3], none⟩,
      ⟨some 12, .mv, [.t 4], none⟩,
      ⟨some 13, (.convF .f32), [.t 12], none⟩,
      ⟨some 14, (.lit true (.f .f32 [])), [.t 13], none⟩,
      ⟨some 15, .app, [.t 11, .t 14], none⟩,
      ⟨some 3, .mv, [.t 15], none⟩]))
    (.region false [
     ⟨some 9, .mv, [.t 4], none⟩,
     ⟨some 10, (.bin .add), [.t 9, .k (.i .i64 1)], none⟩,
     ⟨some 4, .mv, [.t 10], none⟩])))

def b_spec_l03Places : VCode :=
  (.seq
   (.region false [
    ⟨some 2, (.nilsl (.f .f32 [])), [], none⟩])
   (.seq
    (.region false [
     ⟨some 5, (.lit true (.f .f32 [])), [], none⟩,
     ⟨some 3, .mv, [.t 5], none⟩])
    (.seq
     (.seq
      (.region false [
       ⟨some 4, .mv, [.k (.i .i64 0)], none⟩])
      (.block 0 (.loop b_spec_l03Places_L0)))
     (.seq
      (.region false [
       ⟨some 16, .mv, [.t 3], none⟩,
       ⟨some 2, .mv, [.t 16], none⟩])
      .ret))))

abbrev Is_spec_l03Places (P : Program) (g_f : FuncId) : Prop := FnIs P g_f 17 [.t 2] (b_spec_l03Places)

abbrev C_spec_l03Places (P : Program) (g_f : FuncId) : Prop := ∀ (n : Int) (hn : 0 ≤ n ∧ n ≤ 4294967295), VCall P g_f [.i .i64 n] (OS 0 .f32 (placesM n.toNat))
def oc1_spec_l03Places (as : List AV) : T AV := match as with | [.i .i64 n] => .leaf (OS 0 .f32 (placesM n.toNat)) | _ => .fail
def h_spec_l03Places_L0 (n : Int) (out : List Nat) (i : Int) : Env := [AV.i IntKind.i64 n, .any, .any, .sl (Tag.own 40) 0 (.f FloatKind.f32 out), .i IntKind.i64 i] ++ anys 12

theorem q_spec_l03Places_L0 {VC : FuncId → List AV → AV → Prop} (n : Int) (out : List Nat) (i : Int) {e_ : Ex} {σ_ : Env} (ht : T.ok (fun x_ => x_ = (e_, σ_)) (
      T.ite (decide (i < n)) (T.ob True (T.ob (List.length out + List.length [fofi FloatKind.f32 i] ≤ 4294967296) (T.leaf (Ex.normal, h_spec_l03Places_L0 n (out ++ [fofi FloatKind.f32 i]) (IntKind.wrap IntKind.i64 (i + 1))))))
        (T.leaf (Ex.exit 0, h_spec_l03Places_L0 n out i)))) :
    Exec VC ps_spec_l03Places (b_spec_l03Places_L0) (h_spec_l03Places_L0 n out i) e_ σ_ := evL_of (lv := lv_spec_l03Places_L0) (rs := [2]) (O := ⟨fun _ _ => .fail, fun _ _ => none⟩) (by kernel_rfl) ht

theorem q_spec_l03Places {P : Program} {g_f : FuncId} (h_ : Is_spec_l03Places P g_f) (n : Int) (ht : T.ok (fun x_ => x_ = OS 0 .f32 (placesM n.toNat)) (
      T.ob (Exec (VCall P) ps_spec_l03Places (VCode.block 0 (VCode.loop b_spec_l03Places_L0)) (h_spec_l03Places_L0 n [] 0) Ex.normal (h_spec_l03Places_L0 n (placesM (Int.toNat n)) n))
        (T.leaf (AV.sl (Tag.own 0) 0 (Cont.f FloatKind.f32 (placesM (Int.toNat n))))))) :
    VCall P g_f [.i .i64 n] (OS 0 .f32 (placesM n.toNat)) := h_.call_of ps_spec_l03Places ⟨fun _ _ => .fail, fun id σ => match id with | 0 => some (lv_spec_l03Places_L0, .leaf (.normal, h_spec_l03Places_L0 n (placesM n.toNat) n)) | _ => none⟩ (by kernel_rfl) ht


/-- impl.moving: slots 36, results [.t 6]; calls [31:VALUE]; names [(list, 0), (side, 1), (of, 2), (list, 3), (side, 4), (of, 5), (out, 7), (n, 8), (i, 9)] -/
def ps_impl_moving : List Nat := [0, 1, 2, 6, 7, 8, 9, 13, 14, 15]
def lv_impl_moving_L0 : List Nat := [0, 1, 2, 7, 8, 13, 14]
def b_impl_moving_L0 : VCode :=
  (.seq
   (.region false [
    ⟨some 15, (.bin .lss), [.t 14, .t 13], none⟩])
   (.seq
    (.cond (.t 15)
     .skip
     (.exit 0))
    (.seq
     (.block 1
      (.seq
       (.region false [
        ⟨some 16, .mv, [.t 14], none⟩,
        ⟨some 9, .mv, [.t 16], none⟩])
       (.region false [
        ⟨some 17, .mv, [.t 7], none⟩,
        ⟨some 18, .mv, [.t 2], none⟩,
        ⟨some 19, .mv, [.t 0], none⟩,
        ⟨some 20, .mv, [.t 9], none⟩,
        ⟨some 21, .mv, [.t 1], none⟩,
        ⟨some 22, (.bin .sub), [.t 20, .t 21], none⟩,
        ⟨some 23, .max, [.k (.i .i64 0), .t 22], none⟩,
        ⟨some 24, .mv, [.t 8], none⟩,
        ⟨some 25, .mv, [.t 9], none⟩,
        ⟨some 26, .mv, [.t 1], none⟩,
        ⟨some 27, (.bin .add), [.t 25, .t 26], none⟩,
        ⟨some 28, (.bin .add), [.t 27, .k (.i .i64 1)], none⟩,
        ⟨some 29, .min, [.t 24, .t 28], none⟩,
        ⟨some 30, (.slice true true false), [.t 19, .t 23, .t 29], none⟩,
        ⟨some 31, .callv, [.t 18, .t 30], none⟩,
        ⟨some 32, (.lit true (.f .f32 [])), [.t 31], none⟩,
        ⟨some 33, .app, [.t 17, .t 32], none⟩,
        ⟨some 7, .mv, [.t 33], none⟩])))
     (.region false [
      ⟨some 34, (.bin .add), [.t 14, .k (.i .i64 1)], none⟩,
      ⟨some 14, .mv, [.t 34], none⟩]))))

def b_impl_moving : VCode :=
  (.seq
   (.region false [
    ⟨some 6, (.nilsl (.f .f32 [])), [], none⟩])
   (.seq
    (.region false [
     ⟨some 10, (.lit true (.f .f32 [])), [], none⟩,
     ⟨some 7, .mv, [.t 10], none⟩])
    (.seq
     (.region false [
      ⟨some 11, .mv, [.t 0], none⟩,
      ⟨some 12, .len, [.t 11], none⟩,
      ⟨some 8, .mv, [.t 12], none⟩])
     (.seq
      (.seq
       (.region false [
        ⟨some 13, .mv, [.t 8], none⟩,
        ⟨some 14, .mv, [.k (.i .i64 0)], none⟩])
       (.block 0 (.loop b_impl_moving_L0)))
      (.seq
       (.region false [
        ⟨some 35, .mv, [.t 7], none⟩,
        ⟨some 6, .mv, [.t 35], none⟩])
       .ret)))))

abbrev Is_impl_moving (P : Program) (g_f : FuncId) : Prop := FnIs P g_f 36 [.t 6] (b_impl_moving)

abbrev C_impl_moving (P : Program) (g_f : FuncId) : Prop := ∀ (xs : List Nat) (side : Int) (F : FuncId) (g : List Nat → Nat) (hF : ∀ ys : List Nat, 1 ≤ ys.length → ys.length ≤ 96 → VCall P F [PS [0] .f32 ys] (.f .f32 (g ys))) (hs : 0 ≤ side ∧ side ≤ 96) (hx : xs.length ≤ 96), VCall P g_f [PS [0] .f32 xs, .i .i64 side, .fn F []] (OS 0 .f32 (movM g xs side.toNat))
def oc_impl_moving (xs : List Nat) (side : Int) (F : FuncId) (g : List Nat → Nat) (d : Nat) (as : List AV) : T AV := match d with | 31 => (match as with | [.sl _ _ (.f _ ys)] => .leaf (.f .f32 (g ys)) | _ => .fail) | _ => .fail
def h_impl_moving_L0 (xs : List Nat) (side : Int) (F : FuncId) (g : List Nat → Nat) (out : List Nat) (v14 : Int) : Env := [AV.sl (Tag.par [0]) 0 (Cont.f FloatKind.f32 xs), AV.i IntKind.i64 side, AV.fn F []] ++ anys 4 ++ [.sl (Tag.own 80) 0 (.f FloatKind.f32 out), AV.i IntKind.i64 (↑(List.length xs) : Int)] ++ anys 4 ++ [AV.i IntKind.i64 (↑(List.length xs) : Int), .i IntKind.i64 v14] ++ anys 21

theorem q_impl_moving_L0 {VC : FuncId → List AV → AV → Prop} (xs : List Nat) (side : Int) (F : FuncId) (g : List Nat → Nat) (out : List Nat) (v14 : Int) {e_ : Ex} {σ_ : Env} (ht : T.ok (fun x_ => x_ = (e_, σ_)) (
      T.ite (decide (v14 < (↑(List.length xs) : Int)))
        (T.ob
          ((0 ≤ bif decide (IntKind.wrap IntKind.i64 (v14 - side) > 0) then IntKind.wrap IntKind.i64 (v14 - side) else 0) ∧
            ((bif decide (IntKind.wrap IntKind.i64 (v14 - side) > 0) then IntKind.wrap IntKind.i64 (v14 - side) else 0) ≤
                bif decide (IntKind.wrap IntKind.i64 (IntKind.wrap IntKind.i64 (v14 + side) + 1) < (↑(List.length xs) : Int)) then IntKind.wrap IntKind.i64 (IntKind.wrap IntKind.i64 (v14 + side) + 1)
                else (↑(List.length xs) : Int)) ∧
              (bif decide (IntKind.wrap IntKind.i64 (IntKind.wrap IntKind.i64 (v14 + side) + 1) < (↑(List.length xs) : Int)) then IntKind.wrap IntKind.i64 (IntKind.wrap IntKind.i64 (v14 + side) + 1)
                else (↑(List.length xs) : Int)) ≤
                (↑(List.length xs) : Int))
          (T.ob
            (VC F
              [AV.sl (Tag.par [0]) 0
                  (Cont.f FloatKind.f32
                    (List.take
                      (Int.toNat
                          (bif decide (IntKind.wrap IntKind.i64 (IntKind.wrap IntKind.i64 (v14 + side) + 1) < (↑(List.length xs) : Int)) then IntKind.wrap IntKind.i64 (IntKind.wrap IntKind.i64 (v14 + side) + 1)
                          else (↑(List.length xs) : Int)) -
                        Int.toNat (bif decide (IntKind.wrap IntKind.i64 (v14 - side) > 0) then IntKind.wrap IntKind.i64 (v14 - side) else 0))
                      (List.drop (Int.toNat (bif decide (IntKind.wrap IntKind.i64 (v14 - side) > 0) then IntKind.wrap IntKind.i64 (v14 - side) else 0)) xs)))]
              (AV.f FloatKind.f32
                (g
                  (List.take
                    (Int.toNat
                        (bif decide (IntKind.wrap IntKind.i64 (IntKind.wrap IntKind.i64 (v14 + side) + 1) < (↑(List.length xs) : Int)) then IntKind.wrap IntKind.i64 (IntKind.wrap IntKind.i64 (v14 + side) + 1)
                        else (↑(List.length xs) : Int)) -
                      Int.toNat (bif decide (IntKind.wrap IntKind.i64 (v14 - side) > 0) then IntKind.wrap IntKind.i64 (v14 - side) else 0))
                    (List.drop (Int.toNat (bif decide (IntKind.wrap IntKind.i64 (v14 - side) > 0) then IntKind.wrap IntKind.i64 (v14 - side) else 0)) xs)))))
            (T.ob
              (List.length out +
                  List.length
                    [g
                        (List.take
                          (Int.toNat
                              (bif decide (IntKind.wrap IntKind.i64 (IntKind.wrap IntKind.i64 (v14 + side) + 1) < (↑(List.length xs) : Int)) then IntKind.wrap IntKind.i64 (IntKind.wrap IntKind.i64 (v14 + side) + 1)
                              else (↑(List.length xs) : Int)) -
                            Int.toNat (bif decide (IntKind.wrap IntKind.i64 (v14 - side) > 0) then IntKind.wrap IntKind.i64 (v14 - side) else 0))
                          (List.drop (Int.toNat (bif decide (IntKind.wrap IntKind.i64 (v14 - side) > 0) then IntKind.wrap IntKind.i64 (v14 - side) else 0)) xs))] ≤
                4294967296)
              (T.leaf
                (Ex.normal,
                  h_impl_moving_L0 xs side F g
                    (out ++
                      [g
                          (List.take
                            (Int.toNat
                                (bif decide (IntKind.wrap IntKind.i64 (IntKind.wrap IntKind.i64 (v14 + side) + 1) < (↑(List.length xs) : Int)) then IntKind.wrap IntKind.i64 (IntKind.wrap IntKind.i64 (v14 + side) + 1)
                                else (↑(List.length xs) : Int)) -
                              Int.toNat (bif decide (IntKind.wrap IntKind.i64 (v14 - side) > 0) then IntKind.wrap IntKind.i64 (v14 - side) else 0))
                            (List.drop (Int.toNat (bif decide (IntKind.wrap IntKind.i64 (v14 - side) > 0) then IntKind.wrap IntKind.i64 (v14 - side) else 0)) xs))])
                    (IntKind.wrap IntKind.i64 (v14 + 1)))))))
        (T.leaf (Ex.exit 0, h_impl_moving_L0 xs side F g out v14)))) :
    Exec VC ps_impl_moving (b_impl_moving_L0) (h_impl_moving_L0 xs side F g out v14) e_ σ_ := evL_of (lv := lv_impl_moving_L0) (rs := [6]) (O := ⟨oc_impl_moving xs side F g, fun _ _ => none⟩) (by kernel_rfl) ht

theorem q_impl_moving {P : Program} {g_f : FuncId} (h_ : Is_impl_moving P g_f) (xs : List Nat) (side : Int) (F : FuncId) (g : List Nat → Nat) (ht : T.ok (fun x_ => x_ = OS 0 .f32 (movM g xs side.toNat)) (
      T.ob (Exec (VCall P) ps_impl_moving (VCode.block 0 (VCode.loop b_impl_moving_L0)) (h_impl_moving_L0 xs side F g [] 0) Ex.normal (h_impl_moving_L0 xs side F g (movM g xs (Int.toNat side)) (↑(List.length xs) : Int)))
        (T.leaf (AV.sl (Tag.own 0) 0 (Cont.f FloatKind.f32 (movM g xs (Int.toNat side))))))) :
    VCall P g_f [PS [0] .f32 xs, .i .i64 side, .fn F []] (OS 0 .f32 (movM g xs side.toNat)) := h_.call_of ps_impl_moving ⟨oc_impl_moving xs side F g, fun id σ => match id with | 0 => some (lv_impl_moving_L0, .leaf (.normal, h_impl_moving_L0 xs side F g (movM g xs side.toNat) xs.length)) | _ => none⟩ (by kernel_rfl) ht


/-- spec.l02Near: slots 25, results [.t 6]; calls []; names [(list, 0), (at, 1), (side, 2), (list, 3), (at, 4), (side, 5), (low, 7), (high, 8)] -/
def ps_spec_l02Near : List Nat := [0, 1, 2, 6, 7, 8]
def b_spec_l02Near : VCode :=
  (.seq
   (.region false [
    ⟨some 6, (.nilsl (.f .f32 [])), [], none⟩])
   (.seq
    (.region false [
     ⟨some 9, .mv, [.t 1], none⟩,
     ⟨some 10, .mv, [.t 2], none⟩,
     ⟨some 11, (.bin .sub), [.t 9, .t 10], none⟩,
     ⟨some 12, .max, [.k (.i .i64 0), .t 11], none⟩,
     ⟨some 7, .mv, [.t 12], none⟩])
    (.seq
     (.region false [
      ⟨some 13, .mv, [.t 0], none⟩,
      ⟨some 14, .len, [.t 13], none⟩,
      ⟨some 15, (.bin .sub), [.t 14, .k (.i .i64 1)], none⟩,
      ⟨some 16, .mv, [.t 1], none⟩,
      ⟨some 17, .mv, [.t 2], none⟩,
      ⟨some 18, (.bin .add), [.t 16, .t 17], none⟩,
      ⟨some 19, .min, [.t 15, .t 18], none⟩,
      ⟨some 8, .mv, [.t 19], none⟩])
     (.seq
      (.region false [
       ⟨some 20, .mv, [.t 0], none⟩,
       ⟨some 21, .mv, [.t 7], none⟩,
       ⟨some 22, .mv, [.t 8], none⟩,
       ⟨some 23, (.bin .add), [.t 22, .k (.i .i64 1)], none⟩,
       ⟨some 24, (.slice true true false), [.t 20, .t 21, .t 23], none⟩,
       ⟨some 6, .mv, [.t 24], none⟩])
      .ret))))

abbrev Is_spec_l02Near (P : Program) (g_f : FuncId) : Prop := FnIs P g_f 25 [.t 6] (b_spec_l02Near)

abbrev C_spec_l02Near (P : Program) (g_f : FuncId) : Prop := ∀ (xs : List Nat) (i : Int) (side : Int) (hs : 0 ≤ side ∧ side ≤ 96) (hi : 0 ≤ i ∧ i < xs.length) (hx : xs.length ≤ 96), VCall P g_f [PS [0] .f32 xs, .i .i64 i, .i .i64 side] (.sl (.par [0]) (0 + (i.toNat - side.toNat)) (.f .f32 (winM xs side.toNat i.toNat)))
def oc1_spec_l02Near (as : List AV) : T AV := match as with | [.sl _ _ (.f .f32 xs), .i .i64 i, .i .i64 side] => .leaf (.sl (.par [0]) (0 + (i.toNat - side.toNat)) (.f .f32 (winM xs side.toNat i.toNat))) | _ => .fail



theorem q_spec_l02Near {P : Program} {g_f : FuncId} (h_ : Is_spec_l02Near P g_f) (xs : List Nat) (i : Int) (side : Int) (ht : T.ok (fun x_ => x_ = .sl (.par [0]) (0 + (i.toNat - side.toNat)) (.f .f32 (winM xs side.toNat i.toNat))) (
      T.ob
        ((0 ≤ bif decide (IntKind.wrap IntKind.i64 (i - side) > 0) then IntKind.wrap IntKind.i64 (i - side) else 0) ∧
          (bif decide (IntKind.wrap IntKind.i64 (i - side) > 0) then IntKind.wrap IntKind.i64 (i - side) else 0) ≤
              IntKind.wrap IntKind.i64
                ((bif decide (IntKind.wrap IntKind.i64 (i + side) < IntKind.wrap IntKind.i64 ((↑(List.length xs) : Int) - 1)) then IntKind.wrap IntKind.i64 (i + side)
                  else IntKind.wrap IntKind.i64 ((↑(List.length xs) : Int) - 1)) +
                  1) ∧
            IntKind.wrap IntKind.i64
                ((bif decide (IntKind.wrap IntKind.i64 (i + side) < IntKind.wrap IntKind.i64 ((↑(List.length xs) : Int) - 1)) then IntKind.wrap IntKind.i64 (i + side)
                  else IntKind.wrap IntKind.i64 ((↑(List.length xs) : Int) - 1)) +
                  1) ≤
              (↑(List.length xs) : Int))
        (T.leaf
          (AV.sl (Tag.par [0]) (0 + Int.toNat (bif decide (IntKind.wrap IntKind.i64 (i - side) > 0) then IntKind.wrap IntKind.i64 (i - side) else 0))
            (Cont.f FloatKind.f32
              (List.take
                (Int.toNat
                    (IntKind.wrap IntKind.i64
                      ((bif decide (IntKind.wrap IntKind.i64 (i + side) < IntKind.wrap IntKind.i64 ((↑(List.length xs) : Int) - 1)) then IntKind.wrap IntKind.i64 (i + side)
                        else IntKind.wrap IntKind.i64 ((↑(List.length xs) : Int) - 1)) +
                        1)) -
                  Int.toNat (bif decide (IntKind.wrap IntKind.i64 (i - side) > 0) then IntKind.wrap IntKind.i64 (i - side) else 0))
                (List.drop (Int.toNat (bif decide (IntKind.wrap IntKind.i64 (i - side) > 0) then IntKind.wrap IntKind.i64 (i - side) else 0)) xs))))))) :
    VCall P g_f [PS [0] .f32 xs, .i .i64 i, .i .i64 side] (.sl (.par [0]) (0 + (i.toNat - side.toNat)) (.f .f32 (winM xs side.toNat i.toNat))) := h_.call_of ps_spec_l02Near ⟨fun _ _ => .fail, fun _ _ => none⟩ (by kernel_rfl) ht


/-- spec.l02Moving: slots 23, results [.t 4]; calls [18:g_spec_l02Near, 19:g_spec_l02Mean]; names [(list, 0), (side, 1), (list, 2), (side, 3), (out, 5), (i, 6)] -/
def ps_spec_l02Moving : List Nat := [0, 1, 4, 5, 6, 11]
def lv_spec_l02Moving_L0 : List Nat := [0, 1, 5, 6]
def b_spec_l02Moving_L0 (g_spec_l02Near g_spec_l02Mean : FuncId) : VCode :=
  (.seq
   (.seq
    (.region false [
     ⟨some 8, .mv, [.t 6], none⟩,
     ⟨some 9, .mv, [.t 0], none⟩,
     ⟨some 10, .len, [.t 9], none⟩,
     ⟨some 11, (.bin .lss), [.t 8, .t 10], none⟩])
    (.cond (.t 11)
     .skip
     (.exit 0)))
   (.seq
    (.block 1
     (.region false [
      ⟨some 14, .mv, [.t 5], none⟩,
      ⟨some 15, .mv, [.t 0], none⟩,
      ⟨some 16, .mv, [.t 6], none⟩,
      ⟨some 17, .mv, [.t 1], none⟩,
      ⟨some 18, (.call g_spec_l02Near), [.t 15, .t 16, .t 17], none⟩,
      ⟨some 19, (.call g_spec_l02Mean), [.t 18], none⟩,
      ⟨some 20, (.lit true (.f .f32 [])), [.t 19], none⟩,
      ⟨some 21, .app, [.t 14, .t 20], none⟩,
      ⟨some 5, .mv, [.t 21], none⟩]))
    (.region false [
     ⟨some 12, .mv, [.t 6], none⟩,
     ⟨some 13, (.bin .add), [.t 12, .k (.i .i64 1)], none⟩,
     ⟨some 6, .mv, [.t 13], none⟩])))

def b_spec_l02Moving (g_spec_l02Near g_spec_l02Mean : FuncId) : VCode :=
  (.seq
   (.region false [
    ⟨some 4, (.nilsl (.f .f32 [])), [], none⟩])
   (.seq
    (.region false [
     ⟨some 7, (.lit true (.f .f32 [])), [], none⟩,
     ⟨some 5, .mv, [.t 7], none⟩])
    (.seq
     (.seq
      (.region false [
       ⟨some 6, .mv, [.k (.i .i64 0)], none⟩])
      (.block 0 (.loop (b_spec_l02Moving_L0 g_spec_l02Near g_spec_l02Mean))))
     (.seq
      (.region false [
       ⟨some 22, .mv, [.t 5], none⟩,
       ⟨some 4, .mv, [.t 22], none⟩])
      .ret))))

abbrev Is_spec_l02Moving (P : Program) (g_f : FuncId) (g_spec_l02Near g_spec_l02Mean : FuncId) : Prop := FnIs P g_f 23 [.t 4] (b_spec_l02Moving g_spec_l02Near g_spec_l02Mean)

abbrev C_spec_l02Moving (P : Program) (g_f : FuncId) : Prop := ∀ (xs : List Nat) (side : Int) (hs : 0 ≤ side ∧ side ≤ 96) (hx : xs.length ≤ 96), VCall P g_f [PS [0] .f32 xs, .i .i64 side] (OS 0 .f32 (movM meanM xs side.toNat))
def oc1_spec_l02Moving (as : List AV) : T AV := match as with | [.sl _ _ (.f .f32 xs), .i .i64 side] => .leaf (OS 0 .f32 (movM meanM xs side.toNat)) | _ => .fail
def oc_spec_l02Moving (xs : List Nat) (side : Int) (d : Nat) (as : List AV) : T AV := match d with | 18 => oc1_spec_l02Near as | 19 => oc1_spec_l02Mean as | _ => .fail
def h_spec_l02Moving_L0 (xs : List Nat) (side : Int) (out : List Nat) (i : Int) : Env := [AV.sl (Tag.par [0]) 0 (Cont.f FloatKind.f32 xs), AV.i IntKind.i64 side, .any, .any, .any, .sl (Tag.own 56) 0 (.f FloatKind.f32 out), .i IntKind.i64 i] ++ anys 16

theorem q_spec_l02Moving_L0 {VC : FuncId → List AV → AV → Prop} {g_spec_l02Near g_spec_l02Mean : FuncId} (xs : List Nat) (side : Int) (out : List Nat) (i : Int) {e_ : Ex} {σ_ : Env} (ht : T.ok (fun x_ => x_ = (e_, σ_)) (
      T.ite (decide (i < (↑(List.length xs) : Int)))
        (T.ob
          (VC g_spec_l02Near [AV.sl (Tag.par [0]) 0 (Cont.f FloatKind.f32 xs), AV.i IntKind.i64 i, AV.i IntKind.i64 side]
            (AV.sl (Tag.par [0]) (0 + (Int.toNat i - Int.toNat side)) (Cont.f FloatKind.f32 (winM xs (Int.toNat side) (Int.toNat i)))))
          (T.ob (VC g_spec_l02Mean [AV.sl (Tag.par [0]) 0 (Cont.f FloatKind.f32 (winM xs (Int.toNat side) (Int.toNat i)))] (AV.f FloatKind.f32 (meanM (winM xs (Int.toNat side) (Int.toNat i)))))
            (T.ob (List.length out + List.length [meanM (winM xs (Int.toNat side) (Int.toNat i))] ≤ 4294967296)
              (T.leaf (Ex.normal, h_spec_l02Moving_L0 xs side (out ++ [meanM (winM xs (Int.toNat side) (Int.toNat i))]) (IntKind.wrap IntKind.i64 (i + 1)))))))
        (T.leaf (Ex.exit 0, h_spec_l02Moving_L0 xs side out i)))) :
    Exec VC ps_spec_l02Moving (b_spec_l02Moving_L0 g_spec_l02Near g_spec_l02Mean) (h_spec_l02Moving_L0 xs side out i) e_ σ_ := evL_of (lv := lv_spec_l02Moving_L0) (rs := [4]) (O := ⟨oc_spec_l02Moving xs side, fun _ _ => none⟩) (by kernel_rfl) ht

theorem q_spec_l02Moving {P : Program} {g_f : FuncId} {g_spec_l02Near g_spec_l02Mean : FuncId} (h_ : Is_spec_l02Moving P g_f g_spec_l02Near g_spec_l02Mean) (xs : List Nat) (side : Int) (ht : T.ok (fun x_ => x_ = OS 0 .f32 (movM meanM xs side.toNat)) (
      T.ob
        (Exec (VCall P) ps_spec_l02Moving (VCode.block 0 (VCode.loop (b_spec_l02Moving_L0 g_spec_l02Near g_spec_l02Mean))) (h_spec_l02Moving_L0 xs side [] 0) Ex.normal
          (h_spec_l02Moving_L0 xs side (movM meanM xs (Int.toNat side)) (↑(List.length xs) : Int)))
        (T.leaf (AV.sl (Tag.own 0) 0 (Cont.f FloatKind.f32 (movM meanM xs (Int.toNat side))))))) :
    VCall P g_f [PS [0] .f32 xs, .i .i64 side] (OS 0 .f32 (movM meanM xs side.toNat)) := h_.call_of ps_spec_l02Moving ⟨oc_spec_l02Moving xs side, fun id σ => match id with | 0 => some (lv_spec_l02Moving_L0, .leaf (.normal, h_spec_l02Moving_L0 xs side (movM meanM xs side.toNat) xs.length)) | _ => none⟩ (by kernel_rfl) ht


def mmOk (g : List Nat → Nat) (xs : List Nat) (side : Int) : Bool := seriesM xs && (inM side 0 96 && finAllM (movM g xs side.toNat))

/-- impl.isSide: slots 5, results [.t 2]; calls [4:g_impl_within]; names [(n, 0), (n, 1)] -/
def ps_impl_isSide : List Nat := [0, 2]
def b_impl_isSide (g_impl_within : FuncId) : VCode :=
  (.seq
   (.region false [
    ⟨some 2, .mv, [.k (.b false)], none⟩])
   (.seq
    (.region false [
     ⟨some 3, .mv, [.t 0], none⟩,
     ⟨some 4, (.call g_impl_within), [.t 3, .k (.i .i64 0), .k (.i .i64 96)], none⟩,
     ⟨some 2, .mv, [.t 4], none⟩])
    .ret))

abbrev Is_impl_isSide (P : Program) (g_f : FuncId) (g_impl_within : FuncId) : Prop := FnIs P g_f 5 [.t 2] (b_impl_isSide g_impl_within)

abbrev C_impl_isSide (P : Program) (g_f : FuncId) : Prop := ∀ (n : Int), VCall P g_f [.i .i64 n] (.b (inM n 0 96))
def oc1_impl_isSide (as : List AV) : T AV := match as with | [.i .i64 n] => .leaf (.b (inM n 0 96)) | _ => .fail
def oc_impl_isSide (n : Int) (d : Nat) (as : List AV) : T AV := match d with | 4 => oc1_impl_within as | _ => .fail



theorem q_impl_isSide {P : Program} {g_f : FuncId} {g_impl_within : FuncId} (h_ : Is_impl_isSide P g_f g_impl_within) (n : Int) (ht : T.ok (fun x_ => x_ = .b (inM n 0 96)) (
      T.ob ((VCall P) g_impl_within [AV.i IntKind.i64 n, AV.i IntKind.i64 0, AV.i IntKind.i64 96] (AV.b (inM n 0 96))) (T.leaf (AV.b (inM n 0 96))))) :
    VCall P g_f [.i .i64 n] (.b (inM n 0 96)) := h_.call_of ps_impl_isSide ⟨oc_impl_isSide n, fun _ _ => none⟩ (by kernel_rfl) ht


/-- impl.MovingMean: slots 20, results [.t 4, .t 5]; calls [7:g_impl_IsSeries, 11:g_impl_isSide, 16:g_impl_moving, 17:g_impl_ifAll]; names [(list, 0), (side, 1), (list, 2), (side, 3)] -/
def ps_impl_MovingMean : List Nat := [0, 1, 4, 5, 13]
def b_impl_MovingMean (g_impl_IsSeries g_impl_isSide g_impl_moving g_impl_mean g_impl_ifAll : FuncId) : VCode :=
  (.seq
   (.region false [
    ⟨some 4, (.nilsl (.f .f32 [])), [], none⟩,
    ⟨some 5, .mv, [.k (.b false)], none⟩])
   (.seq
    (.seq
     (.region false [
      ⟨some 6, .mv, [.t 0], none⟩,
      ⟨some 7, (.call g_impl_IsSeries), [.t 6], none⟩,
      ⟨some 8, .not, [.t 7], none⟩,
      ⟨some 9, .mv, [.t 8], none⟩,
      ⟨some 10, .mv, [.t 1], some (9, false)⟩,
      ⟨some 11, (.call g_impl_isSide), [.t 10], some (9, false)⟩,
      ⟨some 12, .not, [.t 11], some (9, false)⟩,
      ⟨some 13, .pick, [.t 9, .k (.b true), .t 12], none⟩])
     (.cond (.t 13)
      (.seq
       (.region false [
        ⟨some 4, (.nilsl (.f .f32 [])), [], none⟩,
        ⟨some 5, .mv, [.k (.b false)], none⟩])
       .ret)
      .skip))
    (.seq
     (.region false [
      ⟨some 14, .mv, [.t 0], none⟩,
      ⟨some 15, .mv, [.t 1], none⟩,
      ⟨some 16, (.call g_impl_moving), [.t 14, .t 15, .k (.fn g_impl_mean [])], none⟩,
      ⟨some 17, (.call g_impl_ifAll), [.t 16], none⟩,
      ⟨some 18, (.extract 0), [.t 17], none⟩,
      ⟨some 19, (.extract 1), [.t 17], none⟩,
      ⟨some 4, .mv, [.t 18], none⟩,
      ⟨some 5, .mv, [.t 19], none⟩])
     .ret)))

abbrev Is_impl_MovingMean (P : Program) (g_f : FuncId) (g_impl_IsSeries g_impl_isSide g_impl_moving g_impl_mean g_impl_ifAll : FuncId) : Prop := FnIs P g_f 20 [.t 4, .t 5] (b_impl_MovingMean g_impl_IsSeries g_impl_isSide g_impl_moving g_impl_mean g_impl_ifAll)

abbrev C_impl_MovingMean (P : Program) (g_f : FuncId) : Prop := ∀ (xs : List Nat) (side : Int) (hx : xs.length ≤ maxLen), VCall P g_f [PS [0] .f32 xs, .i .i64 side] (.tup [OS 0 .f32 (if mmOk meanM xs side = true then movM meanM xs side.toNat else []), .b (mmOk meanM xs side)])
def oc1_impl_MovingMean (as : List AV) : T AV := match as with | [.sl _ _ (.f .f32 xs), .i .i64 side] => .leaf (.tup [OS 0 .f32 (if mmOk meanM xs side = true then movM meanM xs side.toNat else []), .b (mmOk meanM xs side)]) | _ => .fail
def oc_impl_MovingMean (xs : List Nat) (side : Int) (d : Nat) (as : List AV) : T AV := match d with | 7 => oc1_impl_IsSeries as | 11 => oc1_impl_isSide as | 16 => .leaf (OS 0 .f32 (movM meanM xs side.toNat)) | 17 => oc1_impl_ifAll as | _ => .fail



theorem q_impl_MovingMean {P : Program} {g_f : FuncId} {g_impl_IsSeries g_impl_isSide g_impl_moving g_impl_mean g_impl_ifAll : FuncId} (h_ : Is_impl_MovingMean P g_f g_impl_IsSeries g_impl_isSide g_impl_moving g_impl_mean g_impl_ifAll) (xs : List Nat) (side : Int) (ht : T.ok (fun x_ => x_ = .tup [OS 0 .f32 (if mmOk meanM xs side = true then movM meanM xs side.toNat else []), .b (mmOk meanM xs side)]) (
      T.ob ((VCall P) g_impl_IsSeries [AV.sl (Tag.par [0]) 0 (Cont.f FloatKind.f32 xs)] (AV.b (seriesM xs)))
        (T.ite (!seriesM xs) (T.leaf (AV.tup [AV.sl (Tag.own 0) 0 (Cont.f FloatKind.f32 []), AV.b false]))
          (T.ob ((VCall P) g_impl_isSide [AV.i IntKind.i64 side] (AV.b (inM side 0 96)))
            (T.ite (!inM side 0 96) (T.leaf (AV.tup [AV.sl (Tag.own 0) 0 (Cont.f FloatKind.f32 []), AV.b false]))
              (T.ob ((VCall P) g_impl_moving [AV.sl (Tag.par [0]) 0 (Cont.f FloatKind.f32 xs), AV.i IntKind.i64 side, AV.fn g_impl_mean []] (AV.sl (Tag.own 0) 0 (Cont.f FloatKind.f32 (movM meanM xs (Int.toNat side)))))
                (T.ob
                  ((VCall P) g_impl_ifAll [AV.sl (Tag.par [0]) 0 (Cont.f FloatKind.f32 (movM meanM xs (Int.toNat side)))]
                    (AV.tup [AV.sl (Tag.par [0]) 0 (Cont.f FloatKind.f32 (ifAllM (movM meanM xs (Int.toNat side)))), AV.b (finAllM (movM meanM xs (Int.toNat side)))]))
                  (T.leaf (AV.tup [AV.sl (Tag.own 0) 0 (Cont.f FloatKind.f32 (ifAllM (movM meanM xs (Int.toNat side)))), AV.b (finAllM (movM meanM xs (Int.toNat side)))]))))))))) :
    VCall P g_f [PS [0] .f32 xs, .i .i64 side] (.tup [OS 0 .f32 (if mmOk meanM xs side = true then movM meanM xs side.toNat else []), .b (mmOk meanM xs side)]) := h_.call_of ps_impl_MovingMean ⟨oc_impl_MovingMean xs side, fun _ _ => none⟩ (by kernel_rfl) ht


/-- spec.MovingMean: slots 20, results [.t 4, .t 5]; calls [7:g_spec_l02Series, 11:g_spec_l00In, 16:g_spec_l02Moving, 17:g_spec_l02List]; names [(list, 0), (side, 1), (list, 2), (side, 3)] -/
def ps_spec_MovingMean : List Nat := [0, 1, 4, 5, 13]
def b_spec_MovingMean (g_spec_l02Series g_spec_l00In g_spec_l02Moving g_spec_l02List : FuncId) : VCode :=
  (.seq
   (.region false [
    ⟨some 4, (.nilsl (.f .f32 [])), [], none⟩,
    ⟨some 5, .mv, [.k (.b false)], none⟩])
   (.seq
    (.seq
     (.region false [
      ⟨some 6, .mv, [.t 0], none⟩,
      ⟨some 7, (.call g_spec_l02Series), [.t 6], none⟩,
      ⟨some 8, .not, [.t 7], none⟩,
      ⟨some 9, .mv, [.t 8], none⟩,
      ⟨some 10, .mv, [.t 1], some (9, false)⟩,
      ⟨some 11, (.call g_spec_l00In), [.t 10, .k (.i .i64 0), .k (.i .i64 96)], some (9, false)⟩,
      ⟨some 12, .not, [.t 11], some (9, false)⟩,
      ⟨some 13, .pick, [.t 9, .k (.b true), .t 12], none⟩])
     (.cond (.t 13)
      (.seq
       (.region false [
        ⟨some 4, (.nilsl (.f .f32 [])), [], none⟩,
        ⟨some 5, .mv, [.k (.b false)], none⟩])
       .ret)
      .skip))
    (.seq
     (.region false [
      ⟨some 14, .mv, [.t 0], none⟩,
      ⟨some 15, .mv, [.t 1], none⟩,
      ⟨some 16, (.call g_spec_l02Moving), [.t 14, .t 15], none⟩,
      ⟨some 17, (.call g_spec_l02List), [.t 16], none⟩,
      ⟨some 18, (.extract 0), [.t 17], none⟩,
      ⟨some 19, (.extract 1), [.t 17], none⟩,
      ⟨some 4, .mv, [.t 18], none⟩,
      ⟨some 5, .mv, [.t 19], none⟩])
     .ret)))

abbrev Is_spec_MovingMean (P : Program) (g_f : FuncId) (g_spec_l02Series g_spec_l00In g_spec_l02Moving g_spec_l02List : FuncId) : Prop := FnIs P g_f 20 [.t 4, .t 5] (b_spec_MovingMean g_spec_l02Series g_spec_l00In g_spec_l02Moving g_spec_l02List)

abbrev C_spec_MovingMean (P : Program) (g_f : FuncId) : Prop := ∀ (xs : List Nat) (side : Int) (hx : xs.length ≤ maxLen), VCall P g_f [PS [0] .f32 xs, .i .i64 side] (.tup [OS 0 .f32 (if mmOk meanM xs side = true then movM meanM xs side.toNat else []), .b (mmOk meanM xs side)])
def oc1_spec_MovingMean (as : List AV) : T AV := match as with | [.sl _ _ (.f .f32 xs), .i .i64 side] => .leaf (.tup [OS 0 .f32 (if mmOk meanM xs side = true then movM meanM xs side.toNat else []), .b (mmOk meanM xs side)]) | _ => .fail
def oc_spec_MovingMean (xs : List Nat) (side : Int) (d : Nat) (as : List AV) : T AV := match d with | 7 => oc1_spec_l02Series as | 11 => oc1_spec_l00In as | 16 => oc1_spec_l02Moving as | 17 => oc1_spec_l02List as | _ => .fail



theorem q_spec_MovingMean {P : Program} {g_f : FuncId} {g_spec_l02Series g_spec_l00In g_spec_l02Moving g_spec_l02List : FuncId} (h_ : Is_spec_MovingMean P g_f g_spec_l02Series g_spec_l00In g_spec_l02Moving g_spec_l02List) (xs : List Nat) (side : Int) (ht : T.ok (fun x_ => x_ = .tup [OS 0 .f32 (if mmOk meanM xs side = true then movM meanM xs side.toNat else []), .b (mmOk meanM xs side)]) (
      T.ob ((VCall P) g_spec_l02Series [AV.sl (Tag.par [0]) 0 (Cont.f FloatKind.f32 xs)] (AV.b (seriesM xs)))
        (T.ite (!seriesM xs) (T.leaf (AV.tup [AV.sl (Tag.own 0) 0 (Cont.f FloatKind.f32 []), AV.b false]))
          (T.ob ((VCall P) g_spec_l00In [AV.i IntKind.i64 side, AV.i IntKind.i64 0, AV.i IntKind.i64 96] (AV.b (inM side 0 96)))
            (T.ite (!inM side 0 96) (T.leaf (AV.tup [AV.sl (Tag.own 0) 0 (Cont.f FloatKind.f32 []), AV.b false]))
              (T.ob ((VCall P) g_spec_l02Moving [AV.sl (Tag.par [0]) 0 (Cont.f FloatKind.f32 xs), AV.i IntKind.i64 side] (AV.sl (Tag.own 0) 0 (Cont.f FloatKind.f32 (movM meanM xs (Int.toNat side)))))
                (T.ob
                  ((VCall P) g_spec_l02List [AV.sl (Tag.par [0]) 0 (Cont.f FloatKind.f32 (movM meanM xs (Int.toNat side)))]
                    (AV.tup [AV.sl (Tag.par [0]) 0 (Cont.f FloatKind.f32 (ifAllM (movM meanM xs (Int.toNat side)))), AV.b (finAllM (movM meanM xs (Int.toNat side)))]))
                  (T.leaf (AV.tup [AV.sl (Tag.own 0) 0 (Cont.f FloatKind.f32 (ifAllM (movM meanM xs (Int.toNat side)))), AV.b (finAllM (movM meanM xs (Int.toNat side)))]))))))))) :
    VCall P g_f [PS [0] .f32 xs, .i .i64 side] (.tup [OS 0 .f32 (if mmOk meanM xs side = true then movM meanM xs side.toNat else []), .b (mmOk meanM xs side)]) := h_.call_of ps_spec_MovingMean ⟨oc_spec_MovingMean xs side, fun _ _ => none⟩ (by kernel_rfl) ht


def lfMid (xs : List Nat) : Nat := meanM (placesM xs.length)
def lfU (xs : List Nat) : List Nat := lessOneM (placesM xs.length) (lfMid xs)
def lfSlope (xs : List Nat) : Nat := fdiv .f32 (dotM (lfU xs) (lessOneM xs (meanM xs))) (dotM (lfU xs) (lfU xs))
def lfBase (xs : List Nat) : Nat := fsub .f32 (meanM xs) (fmul .f32 (lfSlope xs) (lfMid xs))
def lfOk (xs : List Nat) : Bool := seriesM xs && (decide (2 ≤ xs.length) && (finM (lfBase xs) && finM (lfSlope xs)))

def two1 (x y : Nat) : Nat := if (finM x && finM y) = true then x else 0
def two2 (x y : Nat) : Nat := if (finM x && finM y) = true then y else 0
/-- impl.LineFit: slots 47, results [.t 2, .t 3, .t 4]; calls [11:g_impl_IsSeries, 20:g_impl_places, 22:g_impl_mean, 24:g_impl_mean, 27:g_impl_lessOne, 31:g_impl_lessOne, 32:g_impl_dot, 35:g_impl_dot, 43:g_impl_ifTwo]; names [(a, 0), (a, 1), (at, 5), (middle, 6), (m, 7), (u, 8), (slope, 9)] -/
def ps_impl_LineFit : List Nat := [0, 2, 3, 4, 5, 6, 7, 8, 9, 17]
def b_impl_LineFit (g_impl_IsSeries g_impl_places g_impl_mean g_impl_lessOne g_impl_dot g_impl_ifTwo : FuncId) : VCode :=
  (.seq
   (.region false [
    ⟨some 2, .mv, [.k (.f .f32 0)], none⟩,
    ⟨some 3, .mv, [.k (.f .f32 0)], none⟩,
    ⟨some 4, .mv, [.k (.b false)], none⟩])
   (.seq
    (.seq
     (.region false [
      ⟨some 10, .mv, [.t 0], none⟩,
      ⟨some 11, (.call g_impl_IsSeries), [.t 10], none⟩,
      ⟨some 12, .not, [.t 11], none⟩,
      ⟨some 13, .mv, [.t 12], none⟩,
      ⟨some 14, .mv, [.t 0], some (13, false)⟩,
      ⟨some 15, .len, [.t 14], some (13, false)⟩,
      ⟨some 16, (.bin .lss), [.t 15, .k (.i .i64 2)], some (13, false)⟩,
      ⟨some 17, .pick, [.t 13, .k (.b true), .t 16], none⟩])
     (.cond (.t 17)
      (.seq
       (.region false [
        ⟨some 2, .mv, [.k (.f .f32 0)], none⟩,
        ⟨some 3, .mv, [.k (.f .f32 0)], none⟩,
        ⟨some 4, .mv, [.k (.b false)], none⟩])
       .ret)
      .skip))
    (.seq
     (.region false [
      ⟨some 18, .mv, [.t 0], none⟩,
      ⟨some 19, .len, [.t 18], none⟩,
      ⟨some 20, (.call g_impl_places), [.t 19], none⟩,
      ⟨some 5, .mv, [.t 20], none⟩])
     (.seq
      (.region false [
       ⟨some 21, .mv, [.t 5], none⟩,
       ⟨some 22, (.call g_impl_mean), [.t 21], none⟩,
       ⟨some 23, .mv, [.t 0], none⟩,
       ⟨some 24, (.call g_impl_mean), [.t 23], none⟩,
       ⟨some 6, .mv, [.t 22], none⟩,
       ⟨some 7, .mv, [.t 24], none⟩])
      (.seq
       (.region false [
        ⟨some 25, .mv, [.t 5], none⟩,
        ⟨some 26, .mv, [.t 6], none⟩,
        ⟨some 27, (.call g_impl_lessOne), [.t 25, .t 26], none⟩,
        ⟨some 8, .mv, [.t 27], none⟩])
       (.seq
        (.region false [
         ⟨some 28, .mv, [.t 8], none⟩,
         ⟨some 29, .mv, [.t 0], none⟩,
         ⟨some 30, .mv, [.t 7], none⟩,
         ⟨some 31, (.call g_impl_lessOne), [.t 29, .t 30], none⟩,
         ⟨some 32, (.call g_impl_dot), [.t 28, .t 31], none⟩,
         ⟨some 33, .mv, [.t 8], none⟩,
         ⟨some 34, .mv, [.t 8], none⟩,
         ⟨some 35, (.call g_impl_dot), [.t 33, .t 34], none⟩,
         ⟨some 36, (.bin .quo), [.t 32, .t 35], none⟩,
         ⟨some 9, .mv, [.t 36], none⟩])
        (.seq
         (.region false [
          ⟨some 37, .mv, [.t 7], none⟩,
          ⟨some 38, .mv, [.t 9], none⟩,
          ⟨some 39, .mv, [.t 6], none⟩,
          ⟨some 40, (.bin .mul), [.t 38, .t 39], none⟩,
          ⟨some 41, (.bin .sub), [.t 37, .t 40], none⟩,
          ⟨some 42, .mv, [.t 9], none⟩,
          ⟨some 43, (.call g_impl_ifTwo), [.t 41, .t 42], none⟩,
          ⟨some 44, (.extract 0), [.t 43], none⟩,
          ⟨some 45, (.extract 1), [.t 43], none⟩,
          ⟨some 46, (.extract 2), [.t 43], none⟩,
          ⟨some 2, .mv, [.t 44], none⟩,
          ⟨some 3, .mv, [.t 45], none⟩,
          ⟨some 4, .mv, [.t 46], none⟩])
         .ret)))))))

abbrev Is_impl_LineFit (P : Program) (g_f : FuncId) (g_impl_IsSeries g_impl_places g_impl_mean g_impl_lessOne g_impl_dot g_impl_ifTwo : FuncId) : Prop := FnIs P g_f 47 [.t 2, .t 3, .t 4] (b_impl_LineFit g_impl_IsSeries g_impl_places g_impl_mean g_impl_lessOne g_impl_dot g_impl_ifTwo)

abbrev C_impl_LineFit (P : Program) (g_f : FuncId) : Prop := ∀ (xs : List Nat) (hx : xs.length ≤ maxLen), VCall P g_f [PS [0] .f32 xs] (.tup [.f .f32 (if lfOk xs = true then lfBase xs else 0), .f .f32 (if lfOk xs = true then lfSlope xs else 0), .b (lfOk xs)])
def oc1_impl_LineFit (as : List AV) : T AV := match as with | [.sl _ _ (.f .f32 xs)] => .leaf (.tup [.f .f32 (if lfOk xs = true then lfBase xs else 0), .f .f32 (if lfOk xs = true then lfSlope xs else 0), .b (lfOk xs)]) | _ => .fail
def oc_impl_LineFit (xs : List Nat) (d : Nat) (as : List AV) : T AV := match d with | 11 => oc1_impl_IsSeries as | 20 => oc1_impl_places as | 22 => oc1_impl_mean as | 24 => oc1_impl_mean as | 27 => oc1_impl_lessOne as | 31 => oc1_impl_lessOne as | 32 => oc1_impl_dot as | 35 => oc1_impl_dot as | 43 => .leaf (.tup [.f .f32 (two1 (lfBase xs) (lfSlope xs)), .f .f32 (two2 (lfBase xs) (lfSlope xs)), .b (finM (lfBase xs) && finM (lfSlope xs))]) | _ => .fail



theorem q_impl_LineFit {P : Program} {g_f : FuncId} {g_impl_IsSeries g_impl_places g_impl_mean g_impl_lessOne g_impl_dot g_impl_ifTwo : FuncId} (h_ : Is_impl_LineFit P g_f g_impl_IsSeries g_impl_places g_impl_mean g_impl_lessOne g_impl_dot g_impl_ifTwo) (xs : List Nat) (ht : T.ok (fun x_ => x_ = .tup [.f .f32 (if lfOk xs = true then lfBase xs else 0), .f .f32 (if lfOk xs = true then lfSlope xs else 0), .b (lfOk xs)]) (
      T.ob ((VCall P) g_impl_IsSeries [AV.sl (Tag.par [0]) 0 (Cont.f FloatKind.f32 xs)] (AV.b (seriesM xs)))
        (T.ite (!seriesM xs) (T.leaf (AV.tup [AV.f FloatKind.f32 0, AV.f FloatKind.f32 0, AV.b false]))
          (T.ite (decide ((↑(List.length xs) : Int) < 2)) (T.leaf (AV.tup [AV.f FloatKind.f32 0, AV.f FloatKind.f32 0, AV.b false]))
            (T.ob ((VCall P) g_impl_places [AV.i IntKind.i64 (↑(List.length xs) : Int)] (AV.sl (Tag.own 0) 0 (Cont.f FloatKind.f32 (placesM (Int.toNat (↑(List.length xs) : Int))))))
              (T.ob ((VCall P) g_impl_mean [AV.sl (Tag.par [0]) 0 (Cont.f FloatKind.f32 (placesM (Int.toNat (↑(List.length xs) : Int))))] (AV.f FloatKind.f32 (meanM (placesM (Int.toNat (↑(List.length xs) : Int))))))
                (T.ob ((VCall P) g_impl_mean [AV.sl (Tag.par [0]) 0 (Cont.f FloatKind.f32 xs)] (AV.f FloatKind.f32 (meanM xs)))
                  (T.ob
                    ((VCall P) g_impl_lessOne [AV.sl (Tag.par [0]) 0 (Cont.f FloatKind.f32 (placesM (Int.toNat (↑(List.length xs) : Int)))), AV.f FloatKind.f32 (meanM (placesM (Int.toNat (↑(List.length xs) : Int))))]
                      (AV.sl (Tag.own 0) 0 (Cont.f FloatKind.f32 (lessOneM (placesM (Int.toNat (↑(List.length xs) : Int))) (meanM (placesM (Int.toNat (↑(List.length xs) : Int))))))))
                    (T.ob ((VCall P) g_impl_lessOne [AV.sl (Tag.par [0]) 0 (Cont.f FloatKind.f32 xs), AV.f FloatKind.f32 (meanM xs)] (AV.sl (Tag.own 0) 0 (Cont.f FloatKind.f32 (lessOneM xs (meanM xs)))))
                      (T.ob
                        ((VCall P) g_impl_dot
                          [AV.sl (Tag.par [0]) 0 (Cont.f FloatKind.f32 (lessOneM (placesM (Int.toNat (↑(List.length xs) : Int))) (meanM (placesM (Int.toNat (↑(List.length xs) : Int)))))),
                            AV.sl (Tag.par [1]) 0 (Cont.f FloatKind.f32 (lessOneM xs (meanM xs)))]
                          (AV.f FloatKind.f32 (dotM (lessOneM (placesM (Int.toNat (↑(List.length xs) : Int))) (meanM (placesM (Int.toNat (↑(List.length xs) : Int))))) (lessOneM xs (meanM xs)))))
                        (T.ob
                          ((VCall P) g_impl_dot
                            [AV.sl (Tag.par [0]) 0 (Cont.f FloatKind.f32 (lessOneM (placesM (Int.toNat (↑(List.length xs) : Int))) (meanM (placesM (Int.toNat (↑(List.length xs) : Int)))))),
                              AV.sl (Tag.par [1]) 0 (Cont.f FloatKind.f32 (lessOneM (placesM (Int.toNat (↑(List.length xs) : Int))) (meanM (placesM (Int.toNat (↑(List.length xs) : Int))))))]
                            (AV.f FloatKind.f32
                              (dotM (lessOneM (placesM (Int.toNat (↑(List.length xs) : Int))) (meanM (placesM (Int.toNat (↑(List.length xs) : Int)))))
                                (lessOneM (placesM (Int.toNat (↑(List.length xs) : Int))) (meanM (placesM (Int.toNat (↑(List.length xs) : Int))))))))
                          (T.ob True
                            (T.ob
                              ((VCall P) g_impl_ifTwo
                                [AV.f FloatKind.f32
                                    (fsub FloatKind.f32 (meanM xs)
                                      (fmul FloatKind.f32
                                        (fdiv FloatKind.f32 (dotM (lessOneM (placesM (Int.toNat (↑(List.length xs) : Int))) (meanM (placesM (Int.toNat (↑(List.length xs) : Int))))) (lessOneM xs (meanM xs)))
                                          (dotM (lessOneM (placesM (Int.toNat (↑(List.length xs) : Int))) (meanM (placesM (Int.toNat (↑(List.length xs) : Int)))))
                                            (lessOneM (placesM (Int.toNat (↑(List.length xs) : Int))) (meanM (placesM (Int.toNat (↑(List.length xs) : Int)))))))
                                        (meanM (placesM (Int.toNat (↑(List.length xs) : Int)))))),
                                  AV.f FloatKind.f32
                                    (fdiv FloatKind.f32 (dotM (lessOneM (placesM (Int.toNat (↑(List.length xs) : Int))) (meanM (placesM (Int.toNat (↑(List.length xs) : Int))))) (lessOneM xs (meanM xs)))
                                      (dotM (lessOneM (placesM (Int.toNat (↑(List.length xs) : Int))) (meanM (placesM (Int.toNat (↑(List.length xs) : Int)))))
                                        (lessOneM (placesM (Int.toNat (↑(List.length xs) : Int))) (meanM (placesM (Int.toNat (↑(List.length xs) : Int)))))))]
                                (AV.tup [AV.f FloatKind.f32 (two1 (lfBase xs) (lfSlope xs)), AV.f FloatKind.f32 (two2 (lfBase xs) (lfSlope xs)), AV.b (finM (lfBase xs) && finM (lfSlope xs))]))
                              (T.leaf (AV.tup [AV.f FloatKind.f32 (two1 (lfBase xs) (lfSlope xs)), AV.f FloatKind.f32 (two2 (lfBase xs) (lfSlope xs)), AV.b (finM (lfBase xs) && finM (lfSlope xs))]))))))))))))))) :
    VCall P g_f [PS [0] .f32 xs] (.tup [.f .f32 (if lfOk xs = true then lfBase xs else 0), .f .f32 (if lfOk xs = true then lfSlope xs else 0), .b (lfOk xs)]) := h_.call_of ps_impl_LineFit ⟨oc_impl_LineFit xs, fun _ _ => none⟩ (by kernel_rfl) ht


/-- spec.LineFit: slots 68, results [.t 2, .t 3, .t 4]; calls [14:g_spec_l02Series, 23:g_spec_l03Places, 25:g_spec_l03Mean, 27:g_spec_l03Mean, 64:g_spec_l03Two]; names [(a, 0), (a, 1), (x, 5), (mx, 6), (my, 7), (up, 8), (wide, 9), (i, 10), (u, 11), (slope, 12)] -/
def ps_spec_LineFit : List Nat := [0, 2, 3, 4, 5, 6, 7, 8, 9, 10, 11, 12, 20, 29, 30, 31]
def lv_spec_LineFit_L0 : List Nat := [0, 5, 6, 7, 8, 9, 29, 30]
def b_spec_LineFit_L0 (g_spec_l02Series g_spec_l03Places g_spec_l03Mean g_spec_l03Two : FuncId) : VCode :=
  (.seq
   (.region false [
    ⟨some 31, (.bin .lss), [.t 30, .t 29], none⟩])
   (.seq
    (.cond (.t 31)
     .skip
     (.exit 0))
    (.seq
     (.block 1
      (.seq
       (.region false [
        ⟨some 32, .mv, [.t 30], none⟩,
        ⟨some 10, .mv, [.t 32], none⟩])
       (.seq
        (.region false [
         ⟨some 33, .mv, [.t 5], none⟩,
         ⟨some 34, .mv, [.t 10], none⟩,
         ⟨some 35, .iaddr, [.t 33, .t 34], none⟩,
         ⟨some 36, .load, [.t 35], none⟩,
         ⟨some 37, .mv, [.t 6], none⟩,
         ⟨some 38, (.bin .sub), [.t 36, .t 37], none⟩,
         ⟨some 11, .mv, [.t 38], none⟩])
        (.seq
         (.region false [
          ⟨some 39, .mv, [.t 8], none⟩,
          ⟨some 40, .mv, [.t 11], none⟩,
          ⟨some 41, .mv, [.t 0], none⟩,
          ⟨some 42, .mv, [.t 10], none⟩,
          ⟨some 43, .iaddr, [.t 41, .t 42], none⟩,
          ⟨some 44, .load, [.t 43], none⟩,
          ⟨some 45, .mv, [.t 7], none⟩,
          ⟨some 46, (.bin .sub), [.t 44, .t 45], none⟩,
          ⟨some 47, (.bin .mul), [.t 40, .t 46], none⟩,
          ⟨some 48, (.bin .add), [.t 39, .t 47], none⟩,
          ⟨some 8, .mv, [.t 48], none⟩])
         (.region false [
          ⟨some 49, .mv, [.t 9], none⟩,
          ⟨some 50, .mv, [.t 11], none⟩,
          ⟨some 51, .mv, [.t 11], none⟩,
          ⟨some 52, (.bin .mul), [.t 50, .t 51], none⟩,
          ⟨some 53, (.bin .add), [.t 49, .t 52], none⟩,
          ⟨some 9, .mv, [.t 53], none⟩])))))
     (.region false [
      ⟨some 54, (.bin .add), [.t 30, .k (.i .i64 1)], none⟩,
      ⟨some 30, .mv, [.t 54], none⟩]))))

def b_spec_LineFit (g_spec_l02Series g_spec_l03Places g_spec_l03Mean g_spec_l03Two : FuncId) : VCode :=
  (.seq
   (.region false [
    ⟨some 2, .mv, [.k (.f .f32 0)], none⟩,
    ⟨some 3, .mv, [.k (.f .f32 0)], none⟩,
    ⟨some 4, .mv, [.k (.b false)], none⟩])
   (.seq
    (.seq
     (.region false [
      ⟨some 13, .mv, [.t 0], none⟩,
      ⟨some 14, (.call g_spec_l02Series), [.t 13], none⟩,
      ⟨some 15, .not, [.t 14], none⟩,
      ⟨some 16, .mv, [.t 15], none⟩,
      ⟨some 17, .mv, [.t 0], some (16, false)⟩,
      ⟨some 18, .len, [.t 17], some (16, false)⟩,
      ⟨some 19, (.bin .lss), [.t 18, .k (.i .i64 2)], some (16, false)⟩,
      ⟨some 20, .pick, [.t 16, .k (.b true), .t 19], none⟩])
     (.cond (.t 20)
      (.seq
       (.region false [
        ⟨some 2, .mv, [.k (.f .f32 0)], none⟩,
        ⟨some 3, .mv, [.k (.f .f32 0)], none⟩,
        ⟨some 4, .mv, [.k (.b false)], none⟩])
       .ret)
      .skip))
    (.seq
     (.region false [
      ⟨some 21, .mv, [.t 0], none⟩,
      ⟨some 22, .len, [.t 21], none⟩,
      ⟨some 23, (.call g_spec_l03Places), [.t 22], none⟩,
      ⟨some 5, .mv, [.t 23], none⟩])
     (.seq
      (.region false [
       ⟨some 24, .mv, [.t 5], none⟩,
       ⟨some 25, (.call g_spec_l03Mean), [.t 24], none⟩,
       ⟨some 6, .mv, [.t 25], none⟩])
      (.seq
       (.region false [
        ⟨some 26, .mv, [.t 0], none⟩,
        ⟨some 27, (.call g_spec_l03Mean), [.t 26], none⟩,
        ⟨some 7, .mv, [.t 27], none⟩])
       (.seq
        (.region false [
         ⟨some 8, .mv, [.k (.f .f32 0)], none⟩])
        (.seq
         (.region false [
          ⟨some 9, .mv, [.k (.f .f32 0)], none⟩])
         (.seq
          (.seq
           (.region false [
            ⟨some 28, .mv, [.t 0], none⟩,
            ⟨some 29, .len, [.t 28], none⟩,
            ⟨some 30, .mv, [.k (.i .i64 0)], none⟩])
           (.block 0 (.loop (b_spec_LineFit_L0 g_spec_l02Series g_spec_l03Places g_spec_l03Mean g_spec_l03Two))))
          (.seq
           (.region false [
            ⟨some 55, .mv, [.t 8], none⟩,
            ⟨some 56, .mv, [.t 9], none⟩,
            ⟨some 57, (.bin .quo), [.t 55, .t 56], none⟩,
            ⟨some 12, .mv, [.t 57], none⟩])
           (.seq
            (.region false [
             ⟨some 58, .mv, [.t 7], none⟩,
             ⟨some 59, .mv, [.t 12], none⟩,
             ⟨some 60, .mv, [.t 6], none⟩,
             ⟨some 61, (.bin .mul), [.t 59, .t 60], none⟩,
             ⟨some 62, (.bin .sub), [.t 58, .t 61], none⟩,
             ⟨some 63, .mv, [.t 12], none⟩,
             ⟨some 64, (.call g_spec_l03Two), [.t 62, .t 63], none⟩,
             ⟨some 65, (.extract 0), [.t 64], none⟩,
             ⟨some 66, (.extract 1), [.t 64], none⟩,
             ⟨some 67, (.extract 2), [.t 64], none⟩,
             ⟨some 2, .mv, [.t 65], none⟩,
             ⟨some 3, .mv, [.t 66], none⟩,
             ⟨some 4, .mv, [.t 67], none⟩])
            .ret))))))))))

abbrev Is_spec_LineFit (P : Program) (g_f : FuncId) (g_spec_l02Series g_spec_l03Places g_spec_l03Mean g_spec_l03Two : FuncId) : Prop := FnIs P g_f 68 [.t 2, .t 3, .t 4] (b_spec_LineFit g_spec_l02Series g_spec_l03Places g_spec_l03Mean g_spec_l03Two)

abbrev C_spec_LineFit (P : Program) (g_f : FuncId) : Prop := ∀ (xs : List Nat) (hx : xs.length ≤ maxLen), VCall P g_f [PS [0] .f32 xs] (.tup [.f .f32 (if lfOk xs = true then lfBase xs else 0), .f .f32 (if lfOk xs = true then lfSlope xs else 0), .b (lfOk xs)])
def oc1_spec_LineFit (as : List AV) : T AV := match as with | [.sl _ _ (.f .f32 xs)] => .leaf (.tup [.f .f32 (if lfOk xs = true then lfBase xs else 0), .f .f32 (if lfOk xs = true then lfSlope xs else 0), .b (lfOk xs)]) | _ => .fail
def oc_spec_LineFit (xs : List Nat) (d : Nat) (as : List AV) : T AV := match d with | 14 => oc1_spec_l02Series as | 23 => oc1_spec_l03Places as | 25 => oc1_spec_l03Mean as | 27 => oc1_spec_l03Mean as | 64 => .leaf (.tup [.f .f32 (two1 (lfBase xs) (lfSlope xs)), .f .f32 (two2 (lfBase xs) (lfSlope xs)), .b (finM (lfBase xs) && finM (lfSlope xs))]) | _ => .fail
def h_spec_LineFit_L0 (xs : List Nat) (up : Nat) (wide : Nat) (v30 : Int) : Env := [AV.sl (Tag.par [0]) 0 (Cont.f FloatKind.f32 xs)] ++ anys 4 ++ [AV.sl (Tag.own 184) 0 (Cont.f FloatKind.f32 (placesM (Int.toNat (↑(List.length xs) : Int)))), AV.f FloatKind.f32 (meanM (placesM (Int.toNat (↑(List.length xs) : Int)))), AV.f FloatKind.f32 (meanM xs), .f FloatKind.f32 up, .f FloatKind.f32 wide] ++ anys 19 ++ [AV.i IntKind.i64 (↑(List.length xs) : Int), .i IntKind.i64 v30] ++ anys 37

theorem q_spec_LineFit_L0 {VC : FuncId → List AV → AV → Prop} {g_spec_l02Series g_spec_l03Places g_spec_l03Mean g_spec_l03Two : FuncId} (xs : List Nat) (up : Nat) (wide : Nat) (v30 : Int) {e_ : Ex} {σ_ : Env} (ht : T.ok (fun x_ => x_ = (e_, σ_)) (
      T.ite (decide (v30 < (↑(List.length xs) : Int)))
        (T.ob (0 ≤ v30 ∧ v30 < (↑(List.length (placesM (Int.toNat (↑(List.length xs) : Int)))) : Int))
          (T.ob (0 ≤ v30 ∧ v30 < (↑(List.length xs) : Int))
            (T.leaf
              (Ex.normal,
                h_spec_LineFit_L0 xs
                  (fadd FloatKind.f32 up
                    (fmul FloatKind.f32 (fsub FloatKind.f32 (List.getD (placesM (Int.toNat (↑(List.length xs) : Int))) (Int.toNat v30) 0) (meanM (placesM (Int.toNat (↑(List.length xs) : Int)))))
                      (fsub FloatKind.f32 (List.getD xs (Int.toNat v30) 0) (meanM xs))))
                  (fadd FloatKind.f32 wide
                    (fmul FloatKind.f32 (fsub FloatKind.f32 (List.getD (placesM (Int.toNat (↑(List.length xs) : Int))) (Int.toNat v30) 0) (meanM (placesM (Int.toNat (↑(List.length xs) : Int)))))
                      (fsub FloatKind.f32 (List.getD (placesM (Int.toNat (↑(List.length xs) : Int))) (Int.toNat v30) 0) (meanM (placesM (Int.toNat (↑(List.length xs) : Int)))))))
                  (IntKind.wrap IntKind.i64 (v30 + 1))))))
        (T.leaf (Ex.exit 0, h_spec_LineFit_L0 xs up wide v30)))) :
    Exec VC ps_spec_LineFit (b_spec_LineFit_L0 g_spec_l02Series g_spec_l03Places g_spec_l03Mean g_spec_l03Two) (h_spec_LineFit_L0 xs up wide v30) e_ σ_ := evL_of (lv := lv_spec_LineFit_L0) (rs := [2, 3, 4]) (O := ⟨oc_spec_LineFit xs, fun _ _ => none⟩) (by kernel_rfl) ht

theorem q_spec_LineFit {P : Program} {g_f : FuncId} {g_spec_l02Series g_spec_l03Places g_spec_l03Mean g_spec_l03Two : FuncId} (h_ : Is_spec_LineFit P g_f g_spec_l02Series g_spec_l03Places g_spec_l03Mean g_spec_l03Two) (xs : List Nat) (ht : T.ok (fun x_ => x_ = .tup [.f .f32 (if lfOk xs = true then lfBase xs else 0), .f .f32 (if lfOk xs = true then lfSlope xs else 0), .b (lfOk xs)]) (
      T.ob ((VCall P) g_spec_l02Series [AV.sl (Tag.par [0]) 0 (Cont.f FloatKind.f32 xs)] (AV.b (seriesM xs)))
        (T.ite (!seriesM xs) (T.leaf (AV.tup [AV.f FloatKind.f32 0, AV.f FloatKind.f32 0, AV.b false]))
          (T.ite (decide ((↑(List.length xs) : Int) < 2)) (T.leaf (AV.tup [AV.f FloatKind.f32 0, AV.f FloatKind.f32 0, AV.b false]))
            (T.ob ((VCall P) g_spec_l03Places [AV.i IntKind.i64 (↑(List.length xs) : Int)] (AV.sl (Tag.own 0) 0 (Cont.f FloatKind.f32 (placesM (Int.toNat (↑(List.length xs) : Int))))))
              (T.ob ((VCall P) g_spec_l03Mean [AV.sl (Tag.par [0]) 0 (Cont.f FloatKind.f32 (placesM (Int.toNat (↑(List.length xs) : Int))))] (AV.f FloatKind.f32 (meanM (placesM (Int.toNat (↑(List.length xs) : Int))))))
                (T.ob ((VCall P) g_spec_l03Mean [AV.sl (Tag.par [0]) 0 (Cont.f FloatKind.f32 xs)] (AV.f FloatKind.f32 (meanM xs)))
                  (T.ob
                    (Exec (VCall P) ps_spec_LineFit (VCode.block 0 (VCode.loop (b_spec_LineFit_L0 g_spec_l02Series g_spec_l03Places g_spec_l03Mean g_spec_l03Two))) (h_spec_LineFit_L0 xs 0 0 0) Ex.normal
                      (h_spec_LineFit_L0 xs (dotM (lfU xs) (lessOneM xs (meanM xs))) (dotM (lfU xs) (lfU xs)) (↑(List.length xs) : Int)))
                    (T.ob True
                      (T.ob
                        ((VCall P) g_spec_l03Two
                          [AV.f FloatKind.f32
                              (fsub FloatKind.f32 (meanM xs) (fmul FloatKind.f32 (fdiv FloatKind.f32 (dotM (lfU xs) (lessOneM xs (meanM xs))) (dotM (lfU xs) (lfU xs))) (meanM (placesM (Int.toNat (↑(List.length xs) : Int)))))),
                            AV.f FloatKind.f32 (fdiv FloatKind.f32 (dotM (lfU xs) (lessOneM xs (meanM xs))) (dotM (lfU xs) (lfU xs)))]
                          (AV.tup [AV.f FloatKind.f32 (two1 (lfBase xs) (lfSlope xs)), AV.f FloatKind.f32 (two2 (lfBase xs) (lfSlope xs)), AV.b (finM (lfBase xs) && finM (lfSlope xs))]))
                        (T.leaf (AV.tup [AV.f FloatKind.f32 (two1 (lfBase xs) (lfSlope xs)), AV.f FloatKind.f32 (two2 (lfBase xs) (lfSlope xs)), AV.b (finM (lfBase xs) && finM (lfSlope xs))])))))))))))) :
    VCall P g_f [PS [0] .f32 xs] (.tup [.f .f32 (if lfOk xs = true then lfBase xs else 0), .f .f32 (if lfOk xs = true then lfSlope xs else 0), .b (lfOk xs)]) := h_.call_of ps_spec_LineFit ⟨oc_spec_LineFit xs, fun id σ => match id with | 0 => some (lv_spec_LineFit_L0, .leaf (.normal, h_spec_LineFit_L0 xs (dotM (lfU xs) (lessOneM xs (meanM xs))) (dotM (lfU xs) (lfU xs)) xs.length)) | _ => none⟩ (by kernel_rfl) ht


theorem k_impl_addUp {P : Program} {f : FuncId} (h : Is_impl_addUp P f) : C_impl_addUp P f := by
  intro xs hx
  refine q_impl_addUp h xs ?_
  have hm := ml64 hx
  refine ⟨?_, fun _ => rfl⟩
  refine for_up (e := .exit 0) (xs.length) (fun i => h_impl_addUp_L0 xs (accN (fun i s => fadd .f32 s (xs.getD i 0)) i 0) i) (by first | rfl | simp) (fun i hi => ?_) ?_
  · refine q_impl_addUp_L0 _ _ _ ?_
    repeat' (first | with_reducible refine T.ok_ob ?_ (fun _ => ?_) | with_reducible refine T.ok_ite (fun _ => ?_) (fun _ => ?_) | with_reducible refine T.ok_leaf ?_)
    all_goals (try simp only [decide_eq_true_eq, decide_eq_false_iff_not, Bool.not_eq_true', Bool.not_eq_false', Bool.not_eq_eq_eq_not, Bool.not_true, Bool.not_false, Int.toNat_natCast, tab_len, List.length_append, List.length_singleton, List.length_cons, List.length_nil, List.length_drop, List.length_take, getD_drop', getD_nat] at *)
    all_goals (try simp (disch := omega) only [wrap64_id] at *)
    all_goals first | omega | (exfalso; omega) | trivial | contradiction | (exfalso; simp_all; done) | skip
    all_goals first | rfl | (rw [tab_succ]; rfl)
  · refine q_impl_addUp_L0 _ _ _ ?_
    repeat' (first | with_reducible refine T.ok_ob ?_ (fun _ => ?_) | with_reducible refine T.ok_ite (fun _ => ?_) (fun _ => ?_) | with_reducible refine T.ok_leaf ?_)
    all_goals (try simp only [decide_eq_true_eq, decide_eq_false_iff_not, Bool.not_eq_true', Bool.not_eq_false', Bool.not_eq_eq_eq_not, Bool.not_true, Bool.not_false, Int.toNat_natCast, tab_len, List.length_append, List.length_singleton, List.length_cons, List.length_nil, List.length_drop, List.length_take, getD_drop', getD_nat] at *)
    all_goals (try simp (disch := omega) only [wrap64_id] at *)
    all_goals first | omega | (exfalso; omega) | trivial | contradiction | (exfalso; simp_all; done) | skip
    all_goals rfl
  repeat' (first | with_reducible refine T.ok_ob ?_ (fun _ => ?_) | with_reducible refine T.ok_ite (fun _ => ?_) (fun _ => ?_) | with_reducible refine T.ok_leaf ?_)
  all_goals first | with_reducible rfl | with_reducible assumption | contradiction | exact fconvOk_32_64 _ | assumption | exact rfl | (simp_all []; done) | (simp_all [T.ok]; omega)

theorem k_spec_l02Sum {P : Program} {f : FuncId} (h : Is_spec_l02Sum P f) : C_spec_l02Sum P f := by
  intro xs hx
  refine q_spec_l02Sum h xs ?_
  have hm := ml64 hx
  refine ⟨?_, fun _ => rfl⟩
  refine for_up (e := .exit 0) (xs.length) (fun i => h_spec_l02Sum_L0 xs (accN (fun i s => fadd .f32 s (xs.getD i 0)) i 0) i) (by first | rfl | simp) (fun i hi => ?_) ?_
  · refine q_spec_l02Sum_L0 _ _ _ ?_
    repeat' (first | with_reducible refine T.ok_ob ?_ (fun _ => ?_) | with_reducible refine T.ok_ite (fun _ => ?_) (fun _ => ?_) | with_reducible refine T.ok_leaf ?_)
    all_goals (try simp only [decide_eq_true_eq, decide_eq_false_iff_not, Bool.not_eq_true', Bool.not_eq_false', Bool.not_eq_eq_eq_not, Bool.not_true, Bool.not_false, Int.toNat_natCast, tab_len, List.length_append, List.length_singleton, List.length_cons, List.length_nil, List.length_drop, List.length_take, getD_drop', getD_nat] at *)
    all_goals (try simp (disch := omega) only [wrap64_id] at *)
    all_goals first | omega | (exfalso; omega) | trivial | contradiction | (exfalso; simp_all; done) | skip
    all_goals first | rfl | (rw [tab_succ]; rfl)
  · refine q_spec_l02Sum_L0 _ _ _ ?_
    repeat' (first | with_reducible refine T.ok_ob ?_ (fun _ => ?_) | with_reducible refine T.ok_ite (fun _ => ?_) (fun _ => ?_) | with_reducible refine T.ok_leaf ?_)
    all_goals (try simp only [decide_eq_true_eq, decide_eq_false_iff_not, Bool.not_eq_true', Bool.not_eq_false', Bool.not_eq_eq_eq_not, Bool.not_true, Bool.not_false, Int.toNat_natCast, tab_len, List.length_append, List.length_singleton, List.length_cons, List.length_nil, List.length_drop, List.length_take, getD_drop', getD_nat] at *)
    all_goals (try simp (disch := omega) only [wrap64_id] at *)
    all_goals first | omega | (exfalso; omega) | trivial | contradiction | (exfalso; simp_all; done) | skip
    all_goals rfl
  repeat' (first | with_reducible refine T.ok_ob ?_ (fun _ => ?_) | with_reducible refine T.ok_ite (fun _ => ?_) (fun _ => ?_) | with_reducible refine T.ok_leaf ?_)
  all_goals first | with_reducible rfl | with_reducible assumption | contradiction | exact fconvOk_32_64 _ | assumption | exact rfl | (simp_all []; done) | (simp_all [T.ok]; omega)

theorem k_impl_mean {P : Program} {f g_impl_addUp : FuncId} (h : Is_impl_mean P f g_impl_addUp) (c1 : C_impl_addUp P g_impl_addUp) : C_impl_mean P f := by
  intro xs hx
  refine q_impl_mean h xs ?_
  repeat' (first | with_reducible refine T.ok_ob ?_ (fun _ => ?_) | with_reducible refine T.ok_ite (fun _ => ?_) (fun _ => ?_) | with_reducible refine T.ok_leaf ?_)
  all_goals first | with_reducible rfl | with_reducible assumption | ((with_reducible refine c1 _ ?_) <;> (first | assumption | omega | with_reducible rfl | (simp [maxLen_eq]; done) | (simp [maxLen_eq]; omega))) | contradiction | exact fconvOk_32_64 _ | assumption | exact rfl | (simp_all []; done) | (simp_all [T.ok]; omega)

theorem k_spec_l02Mean {P : Program} {f g_spec_l02Sum : FuncId} (h : Is_spec_l02Mean P f g_spec_l02Sum) (c1 : C_spec_l02Sum P g_spec_l02Sum) : C_spec_l02Mean P f := by
  intro xs hx
  refine q_spec_l02Mean h xs ?_
  repeat' (first | with_reducible refine T.ok_ob ?_ (fun _ => ?_) | with_reducible refine T.ok_ite (fun _ => ?_) (fun _ => ?_) | with_reducible refine T.ok_leaf ?_)
  all_goals first | with_reducible rfl | with_reducible assumption | ((with_reducible refine c1 _ ?_) <;> (first | assumption | omega | with_reducible rfl | (simp [maxLen_eq]; done) | (simp [maxLen_eq]; omega))) | contradiction | exact fconvOk_32_64 _ | assumption | exact rfl | (simp_all []; done) | (simp_all [T.ok]; omega)

theorem k_spec_l03Mean {P : Program} {f : FuncId} (h : Is_spec_l03Mean P f) : C_spec_l03Mean P f := by
  intro xs hx
  refine q_spec_l03Mean h xs ?_
  have hm := ml64 hx
  refine ⟨?_, fun _ => ⟨trivial, fun _ => ⟨trivial, fun _ => rfl⟩⟩⟩
  refine for_up (e := .exit 0) (xs.length) (fun i => h_spec_l03Mean_L0 xs (accN (fun i s => fadd .f32 s (xs.getD i 0)) i 0) i) (by first | rfl | simp) (fun i hi => ?_) ?_
  · refine q_spec_l03Mean_L0 _ _ _ ?_
    repeat' (first | with_reducible refine T.ok_ob ?_ (fun _ => ?_) | with_reducible refine T.ok_ite (fun _ => ?_) (fun _ => ?_) | with_reducible refine T.ok_leaf ?_)
    all_goals (try simp only [decide_eq_true_eq, decide_eq_false_iff_not, Bool.not_eq_true', Bool.not_eq_false', Bool.not_eq_eq_eq_not, Bool.not_true, Bool.not_false, Int.toNat_natCast, tab_len, List.length_append, List.length_singleton, List.length_cons, List.length_nil, List.length_drop, List.length_take, getD_drop', getD_nat] at *)
    all_goals (try simp (disch := omega) only [wrap64_id] at *)
    all_goals first | omega | (exfalso; omega) | trivial | contradiction | (exfalso; simp_all; done) | skip
    all_goals first | rfl | (rw [tab_succ]; rfl)
  · refine q_spec_l03Mean_L0 _ _ _ ?_
    repeat' (first | with_reducible refine T.ok_ob ?_ (fun _ => ?_) | with_reducible refine T.ok_ite (fun _ => ?_) (fun _ => ?_) | with_reducible refine T.ok_leaf ?_)
    all_goals (try simp only [decide_eq_true_eq, decide_eq_false_iff_not, Bool.not_eq_true', Bool.not_eq_false', Bool.not_eq_eq_eq_not, Bool.not_true, Bool.not_false, Int.toNat_natCast, tab_len, List.length_append, List.length_singleton, List.length_cons, List.length_nil, List.length_drop, List.length_take, getD_drop', getD_nat] at *)
    all_goals (try simp (disch := omega) only [wrap64_id] at *)
    all_goals first | omega | (exfalso; omega) | trivial | contradiction | (exfalso; simp_all; done) | skip
    all_goals rfl
  repeat' (first | with_reducible refine T.ok_ob ?_ (fun _ => ?_) | with_reducible refine T.ok_ite (fun _ => ?_) (fun _ => ?_) | with_reducible refine T.ok_leaf ?_)
  all_goals first | with_reducible rfl | with_reducible assumption | contradiction | exact fconvOk_32_64 _ | assumption | exact rfl | (simp_all []; done) | (simp_all [T.ok]; omega)

theorem k_impl_dot {P : Program} {f : FuncId} (h : Is_impl_dot P f) : C_impl_dot P f := by
  intro xs ys hy hx
  refine q_impl_dot h xs ys ?_
  have hm := ml64 hx
  refine ⟨?_, fun _ => rfl⟩
  refine for_up (e := .exit 0) (xs.length) (fun i => h_impl_dot_L0 xs ys (accN (fun i s => fadd .f32 s (fmul .f32 (xs.getD i 0) (ys.getD i 0))) i 0) i) (by first | rfl | simp) (fun i hi => ?_) ?_
  · refine q_impl_dot_L0 _ _ _ _ ?_
    repeat' (first | with_reducible refine T.ok_ob ?_ (fun _ => ?_) | with_reducible refine T.ok_ite (fun _ => ?_) (fun _ => ?_) | with_reducible refine T.ok_leaf ?_)
    all_goals (try simp only [decide_eq_true_eq, decide_eq_false_iff_not, Bool.not_eq_true', Bool.not_eq_false', Bool.not_eq_eq_eq_not, Bool.not_true, Bool.not_false, Int.toNat_natCast, tab_len, List.length_append, List.length_singleton, List.length_cons, List.length_nil, List.length_drop, List.length_take, getD_drop', getD_nat] at *)
    all_goals (try simp (disch := omega) only [wrap64_id] at *)
    all_goals first | omega | (exfalso; omega) | trivial | contradiction | (exfalso; simp_all; done) | skip
    all_goals first | rfl | (rw [tab_succ]; rfl)
  · refine q_impl_dot_L0 _ _ _ _ ?_
    repeat' (first | with_reducible refine T.ok_ob ?_ (fun _ => ?_) | with_reducible refine T.ok_ite (fun _ => ?_) (fun _ => ?_) | with_reducible refine T.ok_leaf ?_)
    all_goals (try simp only [decide_eq_true_eq, decide_eq_false_iff_not, Bool.not_eq_true', Bool.not_eq_false', Bool.not_eq_eq_eq_not, Bool.not_true, Bool.not_false, Int.toNat_natCast, tab_len, List.length_append, List.length_singleton, List.length_cons, List.length_nil, List.length_drop, List.length_take, getD_drop', getD_nat] at *)
    all_goals (try simp (disch := omega) only [wrap64_id] at *)
    all_goals first | omega | (exfalso; omega) | trivial | contradiction | (exfalso; simp_all; done) | skip
    all_goals rfl
  repeat' (first | with_reducible refine T.ok_ob ?_ (fun _ => ?_) | with_reducible refine T.ok_ite (fun _ => ?_) (fun _ => ?_) | with_reducible refine T.ok_leaf ?_)
  all_goals first | with_reducible rfl | with_reducible assumption | contradiction | exact fconvOk_32_64 _ | assumption | exact rfl | (simp_all []; done) | (simp_all [T.ok]; omega)

theorem k_impl_lessOne {P : Program} {f : FuncId} (h : Is_impl_lessOne P f) : C_impl_lessOne P f := by
  intro xs m hx
  refine q_impl_lessOne h xs m ?_
  refine ⟨?_, fun _ => rfl⟩
  refine for_up (e := .exit 0) (xs.length) (fun i => h_impl_lessOne_L0 xs m (tab i fun i => fsub .f32 (xs.getD i 0) m) i) (by first | rfl | simp) (fun i hi => ?_) ?_
  · refine q_impl_lessOne_L0 _ _ _ _ ?_
    repeat' (first | with_reducible refine T.ok_ob ?_ (fun _ => ?_) | with_reducible refine T.ok_ite (fun _ => ?_) (fun _ => ?_) | with_reducible refine T.ok_leaf ?_)
    all_goals (try simp only [decide_eq_true_eq, decide_eq_false_iff_not, Bool.not_eq_true', Bool.not_eq_false', Bool.not_eq_eq_eq_not, Bool.not_true, Bool.not_false, Int.toNat_natCast, tab_len, List.length_append, List.length_singleton, List.length_cons, List.length_nil, List.length_drop, List.length_take, getD_drop', getD_nat] at *)
    all_goals (try simp (disch := omega) only [wrap64_id] at *)
    all_goals first | omega | (exfalso; omega) | trivial | contradiction | (exfalso; simp_all; done) | skip
    all_goals first | rfl | (rw [tab_succ]; rfl)
  · refine q_impl_lessOne_L0 _ _ _ _ ?_
    repeat' (first | with_reducible refine T.ok_ob ?_ (fun _ => ?_) | with_reducible refine T.ok_ite (fun _ => ?_) (fun _ => ?_) | with_reducible refine T.ok_leaf ?_)
    all_goals (try simp only [decide_eq_true_eq, decide_eq_false_iff_not, Bool.not_eq_true', Bool.not_eq_false', Bool.not_eq_eq_eq_not, Bool.not_true, Bool.not_false, Int.toNat_natCast, tab_len, List.length_append, List.length_singleton, List.length_cons, List.length_nil, List.length_drop, List.length_take, getD_drop', getD_nat] at *)
    all_goals (try simp (disch := omega) only [wrap64_id] at *)
    all_goals first | omega | (exfalso; omega) | trivial | contradiction | (exfalso; simp_all; done) | skip
    all_goals rfl
  repeat' (first | with_reducible refine T.ok_ob ?_ (fun _ => ?_) | with_reducible refine T.ok_ite (fun _ => ?_) (fun _ => ?_) | with_reducible refine T.ok_leaf ?_)
  all_goals first | with_reducible rfl | with_reducible assumption | contradiction | exact fconvOk_32_64 _ | assumption | exact rfl | (simp_all []; done) | (simp_all [T.ok]; omega)

theorem k_impl_places {P : Program} {f : FuncId} (h : Is_impl_places P f) : C_impl_places P f := by
  intro n hn
  obtain ⟨k, rfl⟩ : ∃ k : Nat, n = k := ⟨n.toNat, by omega⟩
  refine q_impl_places h _ ?_
  rw [Int.toNat_natCast]
  refine ⟨?_, fun _ => rfl⟩
  refine for_up (e := .exit 0) (k) (fun i => h_impl_places_L0 k (tab i fun i => fofi .f32 i) i) (by first | rfl | simp) (fun i hi => ?_) ?_
  · refine q_impl_places_L0 _ _ _ ?_
    repeat' (first | with_reducible refine T.ok_ob ?_ (fun _ => ?_) | with_reducible refine T.ok_ite (fun _ => ?_) (fun _ => ?_) | with_reducible refine T.ok_leaf ?_)
    all_goals (try simp only [decide_eq_true_eq, decide_eq_false_iff_not, Bool.not_eq_true', Bool.not_eq_false', Bool.not_eq_eq_eq_not, Bool.not_true, Bool.not_false, Int.toNat_natCast, tab_len, List.length_append, List.length_singleton, List.length_cons, List.length_nil, List.length_drop, List.length_take, getD_drop', getD_nat] at *)
    all_goals (try simp (disch := omega) only [wrap64_id] at *)
    all_goals first | omega | (exfalso; omega) | trivial | contradiction | (exfalso; simp_all; done) | skip
    all_goals first | rfl | (rw [tab_succ]; rfl)
  · refine q_impl_places_L0 _ _ _ ?_
    repeat' (first | with_reducible refine T.ok_ob ?_ (fun _ => ?_) | with_reducible refine T.ok_ite (fun _ => ?_) (fun _ => ?_) | with_reducible refine T.ok_leaf ?_)
    all_goals (try simp only [decide_eq_true_eq, decide_eq_false_iff_not, Bool.not_eq_true', Bool.not_eq_false', Bool.not_eq_eq_eq_not, Bool.not_true, Bool.not_false, Int.toNat_natCast, tab_len, List.length_append, List.length_singleton, List.length_cons, List.length_nil, List.length_drop, List.length_take, getD_drop', getD_nat] at *)
    all_goals (try simp (disch := omega) only [wrap64_id] at *)
    all_goals first | omega | (exfalso; omega) | trivial | contradiction | (exfalso; simp_all; done) | skip
    all_goals rfl
theorem k_spec_l03Places {P : Program} {f : FuncId} (h : Is_spec_l03Places P f) : C_spec_l03Places P f := by
  intro n hn
  obtain ⟨k, rfl⟩ : ∃ k : Nat, n = k := ⟨n.toNat, by omega⟩
  refine q_spec_l03Places h _ ?_
  rw [Int.toNat_natCast]
  refine ⟨?_, fun _ => rfl⟩
  refine for_up (e := .exit 0) (k) (fun i => h_spec_l03Places_L0 k (tab i fun i => fofi .f32 i) i) (by first | rfl | simp) (fun i hi => ?_) ?_
  · refine q_spec_l03Places_L0 _ _ _ ?_
    repeat' (first | with_reducible refine T.ok_ob ?_ (fun _ => ?_) | with_reducible refine T.ok_ite (fun _ => ?_) (fun _ => ?_) | with_reducible refine T.ok_leaf ?_)
    all_goals (try simp only [decide_eq_true_eq, decide_eq_false_iff_not, Bool.not_eq_true', Bool.not_eq_false', Bool.not_eq_eq_eq_not, Bool.not_true, Bool.not_false, Int.toNat_natCast, tab_len, List.length_append, List.length_singleton, List.length_cons, List.length_nil, List.length_drop, List.length_take, getD_drop', getD_nat] at *)
    all_goals (try simp (disch := omega) only [wrap64_id] at *)
    all_goals first | omega | (exfalso; omega) | trivial | contradiction | (exfalso; simp_all; done) | skip
    all_goals first | rfl | (rw [tab_succ]; rfl)
  · refine q_spec_l03Places_L0 _ _ _ ?_
    repeat' (first | with_reducible refine T.ok_ob ?_ (fun _ => ?_) | with_reducible refine T.ok_ite (fun _ => ?_) (fun _ => ?_) | with_reducible refine T.ok_leaf ?_)
    all_goals (try simp only [decide_eq_true_eq, decide_eq_false_iff_not, Bool.not_eq_true', Bool.not_eq_false', Bool.not_eq_eq_eq_not, Bool.not_true, Bool.not_false, Int.toNat_natCast, tab_len, List.length_append, List.length_singleton, List.length_cons, List.length_nil, List.length_drop, List.length_take, getD_drop', getD_nat] at *)
    all_goals (try simp (disch := omega) only [wrap64_id] at *)
    all_goals first | omega | (exfalso; omega) | trivial | contradiction | (exfalso; simp_all; done) | skip
    all_goals rfl
theorem win_low (i s : Nat) (hi : i ≤ 96) (hs : s ≤ 96) : (bif decide (IntKind.wrap .i64 ((i : Int) - s) > 0) then IntKind.wrap .i64 ((i : Int) - s) else 0) = ((i - s : Nat) : Int) := by
  rw [wrap64_id (by omega) (by omega)]
  by_cases h : (i : Int) - s > 0
  · simp only [h, decide_true, cond_true]; omega
  · simp only [h, decide_false, cond_false]; omega
theorem win_high (n i s : Nat) (hn : n ≤ 96) (hi : i ≤ 96) (hs : s ≤ 96) : (bif decide (IntKind.wrap .i64 (IntKind.wrap .i64 ((i : Int) + s) + 1) < (n : Int)) then IntKind.wrap .i64 (IntKind.wrap .i64 ((i : Int) + s) + 1) else (n : Int)) = ((min n (i + s + 1) : Nat) : Int) := by
  rw [wrap64_id (n := (i : Int) + s) (by omega) (by omega), wrap64_id (by omega) (by omega)]
  by_cases h : (i : Int) + s + 1 < n
  · simp only [h, decide_true, cond_true]; omega
  · simp only [h, decide_false, cond_false]; omega
theorem win_high2 (n i s : Nat) (h1 : 1 ≤ n) (hn : n ≤ 96) (hi : i ≤ 96) (hs : s ≤ 96) : IntKind.wrap .i64 ((bif decide (IntKind.wrap .i64 ((i : Int) + s) < IntKind.wrap .i64 ((n : Int) - 1)) then IntKind.wrap .i64 ((i : Int) + s) else IntKind.wrap .i64 ((n : Int) - 1)) + 1) = ((min n (i + s + 1) : Nat) : Int) := by
  rw [wrap64_id (n := (i : Int) + s) (by omega) (by omega), wrap64_id (n := (n : Int) - 1) (by omega) (by omega)]
  by_cases h : (i : Int) + s < n - 1
  · simp only [h, decide_true, cond_true]; rw [wrap64_id (by omega) (by omega)]; omega
  · simp only [h, decide_false, cond_false]; rw [wrap64_id (by omega) (by omega)]; omega
theorem win_len (xs : List Nat) (s i : Nat) (h : i < xs.length) : 1 ≤ (winM xs s i).length ∧ (winM xs s i).length ≤ xs.length := by
  unfold winM; rw [List.length_take, List.length_drop]; omega
theorem k_impl_moving {P : Program} {f : FuncId} (h : Is_impl_moving P f) : C_impl_moving P f := by
  intro xs side F g hF hs hx
  obtain ⟨s, rfl⟩ : ∃ s : Nat, side = s := ⟨side.toNat, by omega⟩
  refine q_impl_moving h xs _ F g ?_
  rw [Int.toNat_natCast]
  refine ⟨?_, fun _ => rfl⟩
  refine for_up (e := .exit 0) xs.length (fun i => h_impl_moving_L0 xs s F g (tab i fun i => g (winM xs s i)) i) rfl (fun i hi => ?_) ?_
  · refine q_impl_moving_L0 _ _ _ _ _ _ ?_
    rw [win_low _ _ (by omega) (by omega), win_high _ _ _ (by omega) (by omega) (by omega)]
    simp only [Int.toNat_natCast]
    have hl := win_len xs s i hi
    rw [show List.take (min xs.length (i + s + 1) - (i - s)) (List.drop (i - s) xs) = winM xs s i from rfl]
    repeat' (first | with_reducible refine T.ok_ob ?_ (fun _ => ?_) | with_reducible refine T.ok_ite (fun _ => ?_) (fun _ => ?_) | with_reducible refine T.ok_leaf ?_)
    all_goals (try simp only [decide_eq_true_eq, decide_eq_false_iff_not, Bool.not_eq_true', Bool.not_eq_false', Bool.not_eq_eq_eq_not, Bool.not_true, Bool.not_false, Int.toNat_natCast, tab_len, List.length_append, List.length_singleton, List.length_cons, List.length_nil, List.length_drop, List.length_take, getD_drop', getD_nat] at *)
    all_goals (try simp (disch := omega) only [wrap64_id] at *)
    all_goals first | omega | (exfalso; omega) | trivial | contradiction | (exfalso; simp_all; done) | skip
    · exact hF _ hl.1 (by omega)
    · rw [tab_succ]; rfl
  · refine q_impl_moving_L0 _ _ _ _ _ _ ?_
    rw [win_low _ _ (by omega) (by omega), win_high _ _ _ (by omega) (by omega) (by omega)]
    simp only [Int.toNat_natCast]
    repeat' (first | with_reducible refine T.ok_ob ?_ (fun _ => ?_) | with_reducible refine T.ok_ite (fun _ => ?_) (fun _ => ?_) | with_reducible refine T.ok_leaf ?_)
    all_goals (try simp only [decide_eq_true_eq, decide_eq_false_iff_not, Bool.not_eq_true', Bool.not_eq_false', Bool.not_eq_eq_eq_not, Bool.not_true, Bool.not_false, Int.toNat_natCast, tab_len, List.length_append, List.length_singleton, List.length_cons, List.length_nil, List.length_drop, List.length_take, getD_drop', getD_nat] at *)
    all_goals (try simp (disch := omega) only [wrap64_id] at *)
    all_goals first | omega | (exfalso; omega) | trivial | contradiction | (exfalso; simp_all; done) | skip
    all_goals rfl
theorem k_spec_l02Near {P : Program} {f : FuncId} (h : Is_spec_l02Near P f) : C_spec_l02Near P f := by
  intro xs i side hs hi hx
  obtain ⟨s, rfl⟩ : ∃ s : Nat, side = s := ⟨side.toNat, by omega⟩
  obtain ⟨k, rfl⟩ : ∃ k : Nat, i = k := ⟨i.toNat, by omega⟩
  refine q_spec_l02Near h xs _ _ ?_
  rw [win_low _ _ (by omega) (by omega), win_high2 _ _ _ (by omega) (by omega) (by omega) (by omega)]
  simp only [Int.toNat_natCast]
  exact ⟨by omega, fun _ => rfl⟩
theorem k_spec_l02Moving {P : Program} {f g1 g2 : FuncId} (h : Is_spec_l02Moving P f g1 g2) (c1 : C_spec_l02Near P g1) (c2 : C_spec_l02Mean P g2) : C_spec_l02Moving P f := by
  intro xs side hs hx
  obtain ⟨s, rfl⟩ : ∃ s : Nat, side = s := ⟨side.toNat, by omega⟩
  refine q_spec_l02Moving h xs _ ?_
  rw [Int.toNat_natCast]
  refine ⟨?_, fun _ => rfl⟩
  refine for_up (e := .exit 0) xs.length (fun i => h_spec_l02Moving_L0 xs s (tab i fun i => meanM (winM xs s i)) i) rfl (fun i hi => ?_) ?_
  · refine q_spec_l02Moving_L0 _ _ _ _ ?_
    simp only [Int.toNat_natCast]
    have hl := win_len xs s i hi
    have a1 := c1 xs i s (by omega) (by omega) hx
    have a2 := c2 (winM xs s i) (by rw [maxLen_eq]; omega)
    repeat' (first | with_reducible refine T.ok_ob ?_ (fun _ => ?_) | with_reducible refine T.ok_ite (fun _ => ?_) (fun _ => ?_) | with_reducible refine T.ok_leaf ?_)
    all_goals (try simp only [decide_eq_true_eq, decide_eq_false_iff_not, Bool.not_eq_true', Bool.not_eq_false', Bool.not_eq_eq_eq_not, Bool.not_true, Bool.not_false, Int.toNat_natCast, tab_len, List.length_append, List.length_singleton, List.length_cons, List.length_nil, List.length_drop, List.length_take, getD_drop', getD_nat] at *)
    all_goals (try simp (disch := omega) only [wrap64_id] at *)
    all_goals first | omega | (exfalso; omega) | trivial | contradiction | (exfalso; simp_all; done) | skip
    all_goals first | exact a1 | exact a2 | (rw [tab_succ]; rfl)
  · refine q_spec_l02Moving_L0 _ _ _ _ ?_
    simp only [Int.toNat_natCast]
    repeat' (first | with_reducible refine T.ok_ob ?_ (fun _ => ?_) | with_reducible refine T.ok_ite (fun _ => ?_) (fun _ => ?_) | with_reducible refine T.ok_leaf ?_)
    all_goals (try simp only [decide_eq_true_eq, decide_eq_false_iff_not, Bool.not_eq_true', Bool.not_eq_false', Bool.not_eq_eq_eq_not, Bool.not_true, Bool.not_false, Int.toNat_natCast, tab_len, List.length_append, List.length_singleton, List.length_cons, List.length_nil, List.length_drop, List.length_take, getD_drop', getD_nat] at *)
    all_goals (try simp (disch := omega) only [wrap64_id] at *)
    all_goals first | omega | (exfalso; omega) | trivial | contradiction | (exfalso; simp_all; done) | skip
    all_goals rfl
theorem k_impl_isSide {P : Program} {f g_impl_within : FuncId} (h : Is_impl_isSide P f g_impl_within) (c1 : C_impl_within P g_impl_within) : C_impl_isSide P f := by
  intro n
  refine q_impl_isSide h n ?_
  repeat' (first | with_reducible refine T.ok_ob ?_ (fun _ => ?_) | with_reducible refine T.ok_ite (fun _ => ?_) (fun _ => ?_) | with_reducible refine T.ok_leaf ?_)
  all_goals first | with_reducible rfl | with_reducible assumption | with_reducible exact c1 _ _ _ | contradiction | exact fconvOk_32_64 _ | assumption | exact rfl | (simp_all []; done) | (simp_all [T.ok]; omega)

theorem mov_len (g : List Nat → Nat) (xs : List Nat) (s : Nat) : (movM g xs s).length = xs.length := tab_len _ _
theorem k_impl_MovingMean {P : Program} {f g1 g2 g3 g4 g5 : FuncId} (h : Is_impl_MovingMean P f g1 g2 g3 g4 g5) (c1 : C_impl_IsSeries P g1) (c2 : C_impl_isSide P g2) (c3 : C_impl_moving P g3) (c4 : C_impl_mean P g4) (c5 : C_impl_ifAll P g5) : C_impl_MovingMean P f := by
  intro xs side hx
  refine q_impl_MovingMean h xs side ?_
  have hl := fun h => series_len (xs := xs) h
  have hi : inM side 0 96 = true → 0 ≤ side ∧ side ≤ 96 := by intro h; simpa [inM] using h
  have ml := mov_len meanM xs side.toNat
  repeat' (first | with_reducible refine T.ok_ob ?_ (fun _ => ?_) | with_reducible refine T.ok_ite (fun _ => ?_) (fun _ => ?_) | with_reducible refine T.ok_leaf ?_)
  all_goals first | with_reducible rfl | with_reducible exact c1 _ hx | with_reducible exact c2 _ | exact c3 xs side _ meanM (fun ys _ _ => c4 ys (by rw [maxLen_eq]; omega)) (hi (by simp_all)) (hl (by simp_all)).2 | exact c5 _ (by rw [ml]; exact hx) | (simp_all [mmOk, ifAllM]; done)
theorem k_spec_MovingMean {P : Program} {f g1 g2 g3 g4 : FuncId} (h : Is_spec_MovingMean P f g1 g2 g3 g4) (c1 : C_spec_l02Series P g1) (c2 : C_spec_l00In P g2) (c3 : C_spec_l02Moving P g3) (c4 : C_spec_l02List P g4) : C_spec_MovingMean P f := by
  intro xs side hx
  refine q_spec_MovingMean h xs side ?_
  have hl := fun h => series_len (xs := xs) h
  have hi : inM side 0 96 = true → 0 ≤ side ∧ side ≤ 96 := by intro h; simpa [inM] using h
  have ml := mov_len meanM xs side.toNat
  repeat' (first | with_reducible refine T.ok_ob ?_ (fun _ => ?_) | with_reducible refine T.ok_ite (fun _ => ?_) (fun _ => ?_) | with_reducible refine T.ok_leaf ?_)
  all_goals first | with_reducible rfl | with_reducible exact c1 _ hx | with_reducible exact c2 _ _ _ | exact c3 xs side (hi (by simp_all)) (hl (by simp_all)).2 | exact c4 _ (by rw [ml]; exact hx) | (simp_all [mmOk, ifAllM]; done)
theorem places_len (n : Nat) : (placesM n).length = n := tab_len _ _
theorem lessOne_len (xs : List Nat) (m : Nat) : (lessOneM xs m).length = xs.length := tab_len _ _
theorem less_len (xs ys : List Nat) : (lessM xs ys).length = xs.length := tab_len _ _
theorem lessOne_get (xs : List Nat) (m i : Nat) (h : i < xs.length) : (lessOneM xs m).getD i 0 = fsub .f32 (xs.getD i 0) m := tab_get _ _ _ _ h
theorem less_get (xs ys : List Nat) (i : Nat) (h : i < xs.length) : (lessM xs ys).getD i 0 = fsub .f32 (xs.getD i 0) (ys.getD i 0) := tab_get _ _ _ _ h
theorem k_impl_LineFit {P : Program} {f g1 g2 g3 g4 g5 g6 : FuncId} (h : Is_impl_LineFit P f g1 g2 g3 g4 g5 g6) (c1 : C_impl_IsSeries P g1) (c2 : C_impl_places P g2) (c3 : C_impl_mean P g3) (c4 : C_impl_lessOne P g4) (c5 : C_impl_dot P g5) (c6 : C_impl_ifTwo P g6) : C_impl_LineFit P f := by
  intro xs hx
  refine q_impl_LineFit h xs ⟨c1 _ hx, fun _ => ⟨fun h0 => ?_, fun h0 => ⟨fun h1 => ?_, fun h1 => ?_⟩⟩⟩
  · simp at h0; simp [T.ok, lfOk, h0]
  · simp at h1
    have : ¬ (2 ≤ xs.length) := by omega
    simp [T.ok, lfOk, this]
  · simp at h0 h1
    have hl := series_len h0
    have pl := places_len xs.length
    have ll := lessOne_len xs (meanM xs)
    have lu : (lfU xs).length = xs.length := by unfold lfU; rw [lessOne_len, pl]
    rw [Int.toNat_natCast]
    refine ⟨c2 _ (by omega), fun _ => ⟨c3 _ (by rw [pl]; exact hx), fun _ => ⟨c3 _ hx, fun _ => ⟨c4 _ _ (by omega), fun _ => ⟨c4 _ _ (by omega), fun _ => ⟨c5 (lfU xs) _ (by omega) (by rw [lu]; exact hx), fun _ => ⟨c5 (lfU xs) (lfU xs) (by omega) (by rw [lu]; exact hx), fun _ => ⟨trivial, fun _ => ⟨c6 (lfBase xs) (lfSlope xs), fun _ => ?_⟩⟩⟩⟩⟩⟩⟩⟩⟩
    have h2 : 2 ≤ xs.length := by omega
    have e : lfOk xs = (finM (lfBase xs) && finM (lfSlope xs)) := by simp [lfOk, h0, h2]
    simp only [T.ok, e, two1, two2]
theorem k_spec_LineFit {P : Program} {f g1 g2 g3 g4 : FuncId} (h : Is_spec_LineFit P f g1 g2 g3 g4) (c1 : C_spec_l02Series P g1) (c2 : C_spec_l03Places P g2) (c3 : C_spec_l03Mean P g3) (c4 : C_spec_l03Two P g4) : C_spec_LineFit P f := by
  intro xs hx
  refine q_spec_LineFit h xs ⟨c1 _ hx, fun _ => ⟨fun h0 => ?_, fun h0 => ⟨fun h1 => ?_, fun h1 => ?_⟩⟩⟩
  · simp at h0; simp [T.ok, lfOk, h0]
  · simp at h1
    have : ¬ (2 ≤ xs.length) := by omega
    simp [T.ok, lfOk, this]
  · simp at h0 h1
    have hl := series_len h0
    have pl := places_len xs.length
    rw [Int.toNat_natCast]
    refine ⟨c2 _ (by omega), fun _ => ⟨c3 _ (by rw [pl]; exact hx), fun _ => ⟨c3 _ hx, fun _ => ⟨?_, fun _ => ⟨trivial, fun _ => ⟨c4 (lfBase xs) (lfSlope xs), fun _ => ?_⟩⟩⟩⟩⟩⟩
    · have e1 : dotM (lfU xs) (lessOneM xs (meanM xs)) = accN (fun i s => fadd .f32 s (fmul .f32 (fsub .f32 ((placesM xs.length).getD i 0) (meanM (placesM xs.length))) (fsub .f32 (xs.getD i 0) (meanM xs)))) xs.length 0 := by
        unfold dotM lfU
        rw [lessOne_len, pl]
        refine accN_congr fun i x hi => ?_
        rw [lessOne_get _ _ _ (by omega), lessOne_get _ _ _ hi]; rfl
      have e2 : dotM (lfU xs) (lfU xs) = accN (fun i s => fadd .f32 s (fmul .f32 (fsub .f32 ((placesM xs.length).getD i 0) (meanM (placesM xs.length))) (fsub .f32 ((placesM xs.length).getD i 0) (meanM (placesM xs.length))))) xs.length 0 := by
        unfold dotM lfU
        rw [lessOne_len, pl]
        refine accN_congr fun i x hi => ?_
        rw [lessOne_get _ _ _ (by omega)]; rfl
      rw [e1, e2]
      refine for_up (e := .exit 0) xs.length (fun i => h_spec_LineFit_L0 xs (accN (fun i s => fadd .f32 s (fmul .f32 (fsub .f32 ((placesM xs.length).getD i 0) (meanM (placesM xs.length))) (fsub .f32 (xs.getD i 0) (meanM xs)))) i 0) (accN (fun i s => fadd .f32 s (fmul .f32 (fsub .f32 ((placesM xs.length).getD i 0) (meanM (placesM xs.length))) (fsub .f32 ((placesM xs.length).getD i 0) (meanM (placesM xs.length))))) i 0) i) rfl (fun i hi => ?_) ?_
      · refine q_spec_LineFit_L0 _ _ _ _ ?_
        rw [Int.toNat_natCast, pl]
        repeat' (first | with_reducible refine T.ok_ob ?_ (fun _ => ?_) | with_reducible refine T.ok_ite (fun _ => ?_) (fun _ => ?_) | with_reducible refine T.ok_leaf ?_)
        all_goals (try simp only [decide_eq_true_eq, decide_eq_false_iff_not, Bool.not_eq_true', Bool.not_eq_false', Bool.not_eq_eq_eq_not, Bool.not_true, Bool.not_false, Int.toNat_natCast, tab_len, List.length_append, List.length_singleton, List.length_cons, List.length_nil, List.length_drop, List.length_take, getD_drop', getD_nat] at *)
        all_goals (try simp (disch := omega) only [wrap64_id] at *)
        all_goals first | omega | (exfalso; omega) | trivial | contradiction | (exfalso; simp_all; done) | skip
        all_goals rfl
      · refine q_spec_LineFit_L0 _ _ _ _ ?_
        rw [Int.toNat_natCast, pl]
        repeat' (first | with_reducible refine T.ok_ob ?_ (fun _ => ?_) | with_reducible refine T.ok_ite (fun _ => ?_) (fun _ => ?_) | with_reducible refine T.ok_leaf ?_)
        all_goals (try simp only [decide_eq_true_eq, decide_eq_false_iff_not, Bool.not_eq_true', Bool.not_eq_false', Bool.not_eq_eq_eq_not, Bool.not_true, Bool.not_false, Int.toNat_natCast, tab_len, List.length_append, List.length_singleton, List.length_cons, List.length_nil, List.length_drop, List.length_take, getD_drop', getD_nat] at *)
        all_goals (try simp (disch := omega) only [wrap64_id] at *)
        all_goals first | omega | (exfalso; omega) | trivial | contradiction | (exfalso; simp_all; done) | skip
        all_goals rfl
    · have h2 : 2 ≤ xs.length := by omega
      have e : lfOk xs = (finM (lfBase xs) && finM (lfSlope xs)) := by simp [lfOk, h0, h2]
      simp only [T.ok, e, two1, two2]

end Go.Proofs.LV
