/- Gaps that are filled. -/
import Derived.Test.YtjpihhdjmoldjaaLvFnF
namespace Go.Proofs.LV
open Go
set_option linter.unusedVariables false
set_option linter.unusedSimpArgs false

abbrev PB (p : List Nat) (xs : List Bool) : AV := .sl (.par p) 0 (.b xs)
abbrev OB (n : Nat) (xs : List Bool) : AV := .sl (.own n) 0 (.b xs)
/-- the last known place up to this one, or -1 -/
def dnK (ks : List Bool) : Nat → Int
  | 0 => if ks.getD 0 false = true then 0 else -1
  | n + 1 => if ks.getD (n + 1) false = true then ((n + 1 : Nat) : Int) else dnK ks n
/-- the first known place from this one on, or the length -/
def upK (ks : List Bool) (n : Nat) : Nat := n + (ks.drop n).findIdx id
def knownM (ks : List Bool) (n : Nat) (by_ : Int) : Int := if by_ = 1 then (if upK ks n < ks.length then (upK ks n : Int) else -1) else dnK ks n
def gapM (xs : List Nat) (ks : List Bool) (n : Nat) : Nat :=
  if ks.getD n false = true then xs.getD n 0
  else if dnK ks n < 0 then xs.getD (upK ks n) 0
  else if upK ks n = xs.length then xs.getD (dnK ks n).toNat 0
  else fadd .f32 (xs.getD (dnK ks n).toNat 0) (fmul .f32 (fsub .f32 (xs.getD (upK ks n) 0) (xs.getD (dnK ks n).toNat 0)) (fdiv .f32 (fofi .f32 (n - dnK ks n)) (fofi .f32 (upK ks n - dnK ks n))))
def gapsM (xs : List Nat) (ks : List Bool) : List Nat := tab xs.length (gapM xs ks)
def knFin (xs : List Nat) (ks : List Bool) : Bool := allN xs.length fun i => !(ks.getD i false && !finM (xs.getD i 0))
def fgOk (xs : List Nat) (ks : List Bool) : Bool := decide (1 ≤ xs.length) && (decide (xs.length ≤ 96) && (decide (ks.length = xs.length) && (ks.any (fun x => true == x) && (knFin xs ks && finAllM (gapsM xs ks)))))

-- FN slices_Index___bool_bool_
/-- slices.Index[[]bool,bool]: slots 19, results [.t 4]; calls []; names [(s, 0), (v, 1), (s, 2), (v, 3), (i, 5)] -/
def ps_slices_Index___bool_bool_ : List Nat := [0, 1, 4, 5, 7, 8, 9, 16]
def lv_slices_Index___bool_bool__L0 : List Nat := [0, 1, 7, 8]
def b_slices_Index___bool_bool__L0 : VCode :=
  (.seq
   (.region false [
    ⟨some 9, (.bin .lss), [.t 8, .t 7], none⟩])
   (.seq
    (.cond (.t 9)
     .skip
     (.exit 0))
    (.seq
     (.block 1
      (.seq
       (.region false [
        ⟨some 10, .mv, [.t 8], none⟩,
        ⟨some 5, .mv, [.t 10], none⟩])
       (.seq
        (.region false [
         ⟨some 11, .mv, [.t 1], none⟩,
         ⟨some 12, .mv, [.t 0], none⟩,
         ⟨some 13, .mv, [.t 5], none⟩,
         ⟨some 14, .iaddr, [.t 12, .t 13], none⟩,
         ⟨some 15, .load, [.t 14], none⟩,
         ⟨some 16, (.binb .eql), [.t 11, .t 15], none⟩])
        (.cond (.t 16)
         (.seq
          (.region false [
           ⟨some 17, .mv, [.t 5], none⟩,
           ⟨some 4, .mv, [.t 17], none⟩])
          .ret)
         .skip))))
     (.region false [
      ⟨some 18, (.bin .add), [.t 8, .k (.i .i64 1)], none⟩,
      ⟨some 8, .mv, [.t 18], none⟩]))))

def b_slices_Index___bool_bool_ : VCode :=
  (.seq
   (.region false [
    ⟨some 4, .mv, [.k (.i .i64 0)], none⟩])
   (.seq
    (.seq
     (.region false [
      ⟨some 6, .mv, [.t 0], none⟩,
      ⟨some 7, .len, [.t 6], none⟩,
      ⟨some 8, .mv, [.k (.i .i64 0)], none⟩])
     (.block 0 (.loop b_slices_Index___bool_bool__L0)))
    (.seq
     (.region false [
      ⟨some 4, .mv, [.k (.i .i64 (-1))], none⟩])
     .ret)))

abbrev Is_slices_Index___bool_bool_ (P : Program) (g_f : FuncId) : Prop := FnIs P g_f 19 [.t 4] (b_slices_Index___bool_bool_)

abbrev C_slices_Index___bool_bool_ (P : Program) (g_f : FuncId) : Prop := ∀ (xs : List Bool) (v : Bool) (hx : xs.length ≤ maxLen), VCall P g_f [PB [0] xs, .b v] (.i .i64 (idxM (fun x => v == x) xs))
def oc1_slices_Index___bool_bool_ (as : List AV) : T AV := match as with | [.sl _ _ (.b xs), .b v] => .leaf (.i .i64 (idxM (fun x => v == x) xs)) | _ => .fail
def h_slices_Index___bool_bool__L0 (xs : List Bool) (v : Bool) (v8 : Int) : Env := [AV.sl (Tag.par [0]) 0 (Cont.b xs), AV.b v] ++ anys 5 ++ [AV.i IntKind.i64 (↑(List.length xs) : Int), .i IntKind.i64 v8] ++ anys 10

theorem q_slices_Index___bool_bool__L0 {VC : FuncId → List AV → AV → Prop} (xs : List Bool) (v : Bool) (v8 : Int) {e_ : Ex} {σ_ : Env} (ht : T.ok (fun x_ => x_ = (e_, σ_)) (
      T.ite (decide (v8 < (↑(List.length xs) : Int)))
        (T.ob (0 ≤ v8 ∧ v8 < (↑(List.length xs) : Int))
          (T.ite (v == List.getD xs (Int.toNat v8) false) (T.leaf (Ex.ret, anys 4 ++ AV.i IntKind.i64 v8 :: anys 14)) (T.leaf (Ex.normal, h_slices_Index___bool_bool__L0 xs v (IntKind.wrap IntKind.i64 (v8 + 1))))))
        (T.leaf (Ex.exit 0, h_slices_Index___bool_bool__L0 xs v v8)))) :
    Exec VC ps_slices_Index___bool_bool_ (b_slices_Index___bool_bool__L0) (h_slices_Index___bool_bool__L0 xs v v8) e_ σ_ := evL_of (lv := lv_slices_Index___bool_bool__L0) (rs := [4]) (O := ⟨fun _ _ => .fail, fun _ _ => none⟩) (by kernel_rfl) ht

theorem q_slices_Index___bool_bool_ {P : Program} {g_f : FuncId} (h_ : Is_slices_Index___bool_bool_ P g_f) (xs : List Bool) (v : Bool) (ht : T.ok (fun x_ => x_ = .i .i64 (idxM (fun x => v == x) xs)) (
      T.ite (decide (List.findIdx (fun (x : Bool) => v == x) xs < List.length xs))
        (T.ob
          (Exec (VCall P) ps_slices_Index___bool_bool_ (VCode.block 0 (VCode.loop b_slices_Index___bool_bool__L0)) (h_slices_Index___bool_bool__L0 xs v 0) Ex.ret
            (anys 4 ++ AV.i IntKind.i64 (↑(List.findIdx (fun (x : Bool) => v == x) xs) : Int) :: anys 14))
          (T.leaf (AV.i IntKind.i64 (↑(List.findIdx (fun (x : Bool) => v == x) xs) : Int))))
        (T.ob (Exec (VCall P) ps_slices_Index___bool_bool_ (VCode.block 0 (VCode.loop b_slices_Index___bool_bool__L0)) (h_slices_Index___bool_bool__L0 xs v 0) Ex.normal (h_slices_Index___bool_bool__L0 xs v (↑(List.length xs) : Int)))
          (T.leaf (AV.i IntKind.i64 (-1)))))) :
    VCall P g_f [PB [0] xs, .b v] (.i .i64 (idxM (fun x => v == x) xs)) := h_.call_of ps_slices_Index___bool_bool_ ⟨fun _ _ => .fail, fun id σ => match id with | 0 => some (lv_slices_Index___bool_bool__L0, .ite (decide (xs.findIdx (fun x => v == x) < xs.length)) (.leaf (.ret, ret1 19 4 (.i .i64 (xs.findIdx (fun x => v == x))))) (.leaf (.normal, h_slices_Index___bool_bool__L0 xs v xs.length))) | _ => none⟩ (by kernel_rfl) ht

-- END slices_Index___bool_bool_

-- FN slices_Contains___bool_bool_
/-- slices.Contains[[]bool,bool]: slots 9, results [.t 4]; calls [7:g_slices_Index___bool_bool_]; names [(s, 0), (v, 1), (s, 2), (v, 3)] -/
def ps_slices_Contains___bool_bool_ : List Nat := [0, 1, 4]
def b_slices_Contains___bool_bool_ (g_slices_Index___bool_bool_ : FuncId) : VCode :=
  (.seq
   (.region false [
    ⟨some 4, .mv, [.k (.b false)], none⟩])
   (.seq
    (.region false [
     ⟨some 5, .mv, [.t 0], none⟩,
     ⟨some 6, .mv, [.t 1], none⟩,
     ⟨some 7, (.call g_slices_Index___bool_bool_), [.t 5, .t 6], none⟩,
     ⟨some 8, (.bin .geq), [.t 7, .k (.i .i64 0)], none⟩,
     ⟨some 4, .mv, [.t 8], none⟩])
    .ret))

abbrev Is_slices_Contains___bool_bool_ (P : Program) (g_f : FuncId) (g_slices_Index___bool_bool_ : FuncId) : Prop := FnIs P g_f 9 [.t 4] (b_slices_Contains___bool_bool_ g_slices_Index___bool_bool_)

abbrev C_slices_Contains___bool_bool_ (P : Program) (g_f : FuncId) : Prop := ∀ (xs : List Bool) (v : Bool) (hx : xs.length ≤ maxLen), VCall P g_f [PB [0] xs, .b v] (.b (xs.any fun x => v == x))
def oc1_slices_Contains___bool_bool_ (as : List AV) : T AV := match as with | [.sl _ _ (.b xs), .b v] => .leaf (.b (xs.any fun x => v == x)) | _ => .fail
def oc_slices_Contains___bool_bool_ (xs : List Bool) (v : Bool) (d : Nat) (as : List AV) : T AV := match d with | 7 => oc1_slices_Index___bool_bool_ as | _ => .fail



theorem q_slices_Contains___bool_bool_ {P : Program} {g_f : FuncId} {g_slices_Index___bool_bool_ : FuncId} (h_ : Is_slices_Contains___bool_bool_ P g_f g_slices_Index___bool_bool_) (xs : List Bool) (v : Bool) (ht : T.ok (fun x_ => x_ = .b (xs.any fun x => v == x)) (
      T.ob ((VCall P) g_slices_Index___bool_bool_ [AV.sl (Tag.par [0]) 0 (Cont.b xs), AV.b v] (AV.i IntKind.i64 (idxM (fun (x : Bool) => v == x) xs))) (T.leaf (AV.b (decide (idxM (fun (x : Bool) => v == x) xs ≥ 0)))))) :
    VCall P g_f [PB [0] xs, .b v] (.b (xs.any fun x => v == x)) := h_.call_of ps_slices_Contains___bool_bool_ ⟨oc_slices_Contains___bool_bool_ xs v, fun _ _ => none⟩ (by kernel_rfl) ht

-- END slices_Contains___bool_bool_

-- FN spec_l02Known
/-- spec.l02Known: slots 25, results [.t 6]; calls []; names [(known, 0), (at, 1), (by, 2), (known, 3), (at, 4), (by, 5), (i, 7)] -/
def ps_spec_l02Known : List Nat := [0, 1, 2, 6, 7, 16, 23]
def lv_spec_l02Known_L0 : List Nat := [0, 2, 7]
def b_spec_l02Known_L0 : VCode :=
  (.seq
   (.seq
    (.region false [
     ⟨some 9, .mv, [.t 7], none⟩,
     ⟨some 10, (.bin .geq), [.t 9, .k (.i .i64 0)], none⟩,
     ⟨some 11, .mv, [.t 10], none⟩,
     ⟨some 12, .mv, [.t 7], some (11, true)⟩,
     ⟨some 13, .mv, [.t 0], some (11, true)⟩,
     ⟨some 14, .len, [.t 13], some (11, true)⟩,
     ⟨some 15, (.bin .lss), [.t 12, .t 14], some (11, true)⟩,
     ⟨some 16, .pick, [.t 11, .t 15, .k (.b false)], none⟩])
    (.cond (.t 16)
     .skip
     (.exit 0)))
   (.seq
    (.block 1
     (.seq
      (.region false [
       ⟨some 20, .mv, [.t 0], none⟩,
       ⟨some 21, .mv, [.t 7], none⟩,
       ⟨some 22, .iaddr, [.t 20, .t 21], none⟩,
       ⟨some 23, .load, [.t 22], none⟩])
      (.cond (.t 23)
       (.seq
        (.region false [
         ⟨some 24, .mv, [.t 7], none⟩,
         ⟨some 6, .mv, [.t 24], none⟩])
        .ret)
       .skip)))
    (.region false [
     ⟨some 17, .mv, [.t 7], none⟩,
     ⟨some 18, .mv, [.t 2], none⟩,
     ⟨some 19, (.bin .add), [.t 17, .t 18], none⟩,
     ⟨some 7, .mv, [.t 19], none⟩])))

def b_spec_l02Known : VCode :=
  (.seq
   (.region false [
    ⟨some 6, .mv, [.k (.i .i64 0)], none⟩])
   (.seq
    (.seq
     (.region false [
      ⟨some 8, .mv, [.t 1], none⟩,
      ⟨some 7, .mv, [.t 8], none⟩])
     (.block 0 (.loop b_spec_l02Known_L0)))
    (.seq
     (.region false [
      ⟨some 6, .mv, [.k (.i .i64 (-1))], none⟩])
     .ret)))

abbrev Is_spec_l02Known (P : Program) (g_f : FuncId) : Prop := FnIs P g_f 25 [.t 6] (b_spec_l02Known)

abbrev C_spec_l02Known (P : Program) (g_f : FuncId) : Prop := ∀ (ks : List Bool) (n : Int) (d : Int) (hd : d = 1 ∨ d = -1) (hn : 0 ≤ n ∧ n < ks.length) (hx : ks.length ≤ 96), VCall P g_f [PB [0] ks, .i .i64 n, .i .i64 d] (.i .i64 (knownM ks n.toNat d))
def oc1_spec_l02Known (as : List AV) : T AV := match as with | [.sl _ _ (.b ks), .i .i64 n, .i .i64 d] => .leaf (.i .i64 (knownM ks n.toNat d)) | _ => .fail
def h_spec_l02Known_L0 (ks : List Bool) (n : Int) (d : Int) (i : Int) : Env := [AV.sl (Tag.par [0]) 0 (Cont.b ks), .any, AV.i IntKind.i64 d] ++ anys 4 ++ [.i IntKind.i64 i] ++ anys 17

theorem q_spec_l02Known_L0 {VC : FuncId → List AV → AV → Prop} (ks : List Bool) (n : Int) (d : Int) (i : Int) {e_ : Ex} {σ_ : Env} (ht : T.ok (fun x_ => x_ = (e_, σ_)) (
      T.ite (decide (i ≥ 0))
        (T.ite (decide (i < (↑(List.length ks) : Int)))
          (T.ob (0 ≤ i ∧ i < (↑(List.length ks) : Int))
            (T.ite (List.getD ks (Int.toNat i) false) (T.leaf (Ex.ret, anys 6 ++ AV.i IntKind.i64 i :: anys 18)) (T.leaf (Ex.normal, h_spec_l02Known_L0 ks n d (IntKind.wrap IntKind.i64 (i + d))))))
          (T.leaf (Ex.exit 0, h_spec_l02Known_L0 ks n d i)))
        (T.leaf (Ex.exit 0, h_spec_l02Known_L0 ks n d i)))) :
    Exec VC ps_spec_l02Known (b_spec_l02Known_L0) (h_spec_l02Known_L0 ks n d i) e_ σ_ := evL_of (lv := lv_spec_l02Known_L0) (rs := [6]) (O := ⟨fun _ _ => .fail, fun _ _ => none⟩) (by kernel_rfl) ht

theorem q_spec_l02Known {P : Program} {g_f : FuncId} (h_ : Is_spec_l02Known P g_f) (ks : List Bool) (n : Int) (d : Int) (ht : T.ok (fun x_ => x_ = .i .i64 (knownM ks n.toNat d)) (
      T.ite (decide (knownM ks (Int.toNat n) d < 0))
        (T.ob (Exec (VCall P) ps_spec_l02Known (VCode.block 0 (VCode.loop b_spec_l02Known_L0)) (h_spec_l02Known_L0 ks n d n) Ex.normal (h_spec_l02Known_L0 ks n d (if d = 1 then (↑(List.length ks) : Int) else -1)))
          (T.leaf (AV.i IntKind.i64 (-1))))
        (T.ob (Exec (VCall P) ps_spec_l02Known (VCode.block 0 (VCode.loop b_spec_l02Known_L0)) (h_spec_l02Known_L0 ks n d n) Ex.ret (anys 6 ++ AV.i IntKind.i64 (knownM ks (Int.toNat n) d) :: anys 18))
          (T.leaf (AV.i IntKind.i64 (knownM ks (Int.toNat n) d)))))) :
    VCall P g_f [PB [0] ks, .i .i64 n, .i .i64 d] (.i .i64 (knownM ks n.toNat d)) := h_.call_of ps_spec_l02Known ⟨fun _ _ => .fail, fun id σ => match id with | 0 => some (lv_spec_l02Known_L0, .ite (decide (knownM ks n.toNat d < 0)) (.leaf (.normal, h_spec_l02Known_L0 ks n d (if d = 1 then ks.length else -1))) (.leaf (.ret, ret1 25 6 (.i .i64 (knownM ks n.toNat d))))) | _ => none⟩ (by kernel_rfl) ht

-- END spec_l02Known

-- FN impl_FillGaps
/-- impl.FillGaps: slots 141, results [.t 4, .t 5]; calls [30:g_slices_Contains___bool_bool_, 46:g_impl_IsFinite, 138:g_impl_ifAll]; names [(list, 0), (known, 1), (list, 2), (known, 3), (i, 6), (x, 7), (out, 8), (at, 9), (x, 10), (i, 11), (k, 12)] -/
def ps_impl_FillGaps : List Nat := [0, 1, 4, 5, 6, 7, 8, 9, 10, 11, 12, 32, 33, 34, 35, 36, 48, 51, 52, 53, 54, 61, 76, 89, 116, 123]
def lv_impl_FillGaps_L0 : List Nat := [0, 1, 33, 34, 35]
def lv_impl_FillGaps_L2 : List Nat := [0, 1, 8, 51, 52, 53]
def lv_impl_FillGaps_L4 : List Nat := [0, 1, 8, 9, 11, 12, 51, 52, 53]
def lv_impl_FillGaps_L6 : List Nat := [0, 1, 8, 9, 11, 12, 51, 52, 53]
def b_impl_FillGaps_L0 (g_slices_Contains___bool_bool_ g_impl_IsFinite g_impl_ifAll : FuncId) : VCode :=
  (.seq
   (.region false [
    ⟨some 36, (.bin .lss), [.t 35, .t 34], none⟩])
   (.seq
    (.cond (.t 36)
     .skip
     (.exit 0))
    (.seq
     (.block 1
      (.seq
       (.region false [
        ⟨some 37, .mv, [.t 35], none⟩,
        ⟨some 38, .iaddr, [.t 33, .t 35], none⟩,
        ⟨some 39, .load, [.t 38], none⟩,
        ⟨some 6, .mv, [.t 37], none⟩,
        ⟨some 7, .mv, [.t 39], none⟩])
       (.seq
        (.region false [
         ⟨some 40, .mv, [.t 1], none⟩,
         ⟨some 41, .mv, [.t 6], none⟩,
         ⟨some 42, .iaddr, [.t 40, .t 41], none⟩,
         ⟨some 43, .load, [.t 42], none⟩,
         ⟨some 44, .mv, [.t 43], none⟩,
         ⟨some 45, .mv, [.t 7], some (44, true)⟩,
         ⟨some 46, (.call g_impl_IsFinite), [.t 45], some (44, true)⟩,
         ⟨some 47, .not, [.t 46], some (44, true)⟩,
         ⟨some 48, .pick, [.t 44, .t 47, .k (.b false)], none⟩])
        (.cond (.t 48)
         (.seq
          (.region false [
           ⟨some 4, (.nilsl (.f .f32 [])), [], none⟩,
           ⟨some 5, .mv, [.k (.b false)], none⟩])
          .ret)
         .skip))))
     (.region false [
      ⟨some 49, (.bin .add), [.t 35, .k (.i .i64 1)], none⟩,
      ⟨some 35, .mv, [.t 49], none⟩]))))

def b_impl_FillGaps_L4 (g_slices_Contains___bool_bool_ g_impl_IsFinite g_impl_ifAll : FuncId) : VCode :=
  (.seq
   (.seq
    (.region false [
     ⟨some 68, .mv, [.t 11], none⟩,
     ⟨some 69, (.bin .geq), [.t 68, .k (.i .i64 0)], none⟩,
     ⟨some 70, .mv, [.t 69], none⟩,
     ⟨some 71, .mv, [.t 1], some (70, true)⟩,
     ⟨some 72, .mv, [.t 11], some (70, true)⟩,
     ⟨some 73, .iaddr, [.t 71, .t 72], some (70, true)⟩,
     ⟨some 74, .load, [.t 73], some (70, true)⟩,
     ⟨some 75, .not, [.t 74], some (70, true)⟩,
     ⟨some 76, .pick, [.t 70, .t 75, .k (.b false)], none⟩])
    (.cond (.t 76)
     .skip
     (.exit 4)))
   (.block 5
    (.region false [
     ⟨some 77, .mv, [.t 11], none⟩,
     ⟨some 78, (.bin .sub), [.t 77, .k (.i .i64 1)], none⟩,
     ⟨some 11, .mv, [.t 78], none⟩])))

def b_impl_FillGaps_L6 (g_slices_Contains___bool_bool_ g_impl_IsFinite g_impl_ifAll : FuncId) : VCode :=
  (.seq
   (.seq
    (.region false [
     ⟨some 79, .mv, [.t 12], none⟩,
     ⟨some 80, .mv, [.t 0], none⟩,
     ⟨some 81, .len, [.t 80], none⟩,
     ⟨some 82, (.bin .lss), [.t 79, .t 81], none⟩,
     ⟨some 83, .mv, [.t 82], none⟩,
     ⟨some 84, .mv, [.t 1], some (83, true)⟩,
     ⟨some 85, .mv, [.t 12], some (83, true)⟩,
     ⟨some 86, .iaddr, [.t 84, .t 85], some (83, true)⟩,
     ⟨some 87, .load, [.t 86], some (83, true)⟩,
     ⟨some 88, .not, [.t 87], some (83, true)⟩,
     ⟨some 89, .pick, [.t 83, .t 88, .k (.b false)], none⟩])
    (.cond (.t 89)
     .skip
     (.exit 6)))
   (.block 7
    (.region false [
     ⟨some 90, .mv, [.t 12], none⟩,
     ⟨some 91, (.bin .add), [.t 90, .k (.i .i64 1)], none⟩,
     ⟨some 12, .mv, [.t 91], none⟩])))

def b_impl_FillGaps_L2 (g_slices_Contains___bool_bool_ g_impl_IsFinite g_impl_ifAll : FuncId) : VCode :=
  (.seq
   (.region false [
    ⟨some 54, (.bin .lss), [.t 53, .t 52], none⟩])
   (.seq
    (.cond (.t 54)
     .skip
     (.exit 2))
    (.seq
     (.block 3
      (.seq
       (.region false [
        ⟨some 55, .mv, [.t 53], none⟩,
        ⟨some 56, .iaddr, [.t 51, .t 53], none⟩,
        ⟨some 57, .load, [.t 56], none⟩,
        ⟨some 9, .mv, [.t 55], none⟩,
        ⟨some 10, .mv, [.t 57], none⟩])
       (.seq
        (.seq
         (.region false [
          ⟨some 58, .mv, [.t 1], none⟩,
          ⟨some 59, .mv, [.t 9], none⟩,
          ⟨some 60, .iaddr, [.t 58, .t 59], none⟩,
          ⟨some 61, .load, [.t 60], none⟩])
         (.cond (.t 61)
          (.seq
           (.region false [
            ⟨some 62, .mv, [.t 8], none⟩,
            ⟨some 63, .mv, [.t 10], none⟩,
            ⟨some 64, (.lit true (.f .f32 [])), [.t 63], none⟩,
            ⟨some 65, .app, [.t 62, .t 64], none⟩,
            ⟨some 8, .mv, [.t 65], none⟩])
           (.exit 3))
          .skip))
        (.seq
         (.region false [
          ⟨some 66, .mv, [.t 9], none⟩,
          ⟨some 67, .mv, [.t 9], none⟩,
          ⟨some 11, .mv, [.t 66], none⟩,
          ⟨some 12, .mv, [.t 67], none⟩])
         (.seq
          (.block 4 (.loop (b_impl_FillGaps_L4 g_slices_Contains___bool_bool_ g_impl_IsFinite g_impl_ifAll)))
          (.seq
           (.block 6 (.loop (b_impl_FillGaps_L6 g_slices_Contains___bool_bool_ g_impl_IsFinite g_impl_ifAll)))
           (.seq
            (.block 8
             (.seq
              (.region false [
               ⟨some 117, .mv, [.t 11], none⟩,
               ⟨some 118, (.bin .lss), [.t 117, .k (.i .i64 0)], none⟩,
               ⟨some 116, .mv, [.t 118], none⟩])
              (.cond (.t 116)
               (.region false [
                ⟨some 119, .mv, [.t 0], none⟩,
                ⟨some 120, .mv, [.t 12], none⟩,
                ⟨some 121, .iaddr, [.t 119, .t 120], none⟩,
                ⟨some 122, .load, [.t 121], none⟩,
                ⟨some 10, .mv, [.t 122], none⟩])
               (.seq
                (.region false [
                 ⟨some 124, .mv, [.t 12], none⟩,
                 ⟨some 125, .mv, [.t 0], none⟩,
                 ⟨some 126, .len, [.t 125], none⟩,
                 ⟨some 127, (.bin .eql), [.t 124, .t 126], none⟩,
                 ⟨some 123, .mv, [.t 127], none⟩])
                (.cond (.t 123)
                 (.region false [
                  ⟨some 128, .mv, [.t 0], none⟩,
                  ⟨some 129, .mv, [.t 11], none⟩,
                  ⟨some 130, .iaddr, [.t 128, .t 129], none⟩,
                  ⟨some 131, .load, [.t 130], none⟩,
                  ⟨some 10, .mv, [.t 131], none⟩])
                 (.region true [
                  ⟨some 92, .mv, [.t 0], none⟩,
                  ⟨some 93, .mv, [.t 11], none⟩,
                  ⟨some 94, .iaddr, [.t 92, .t 93], none⟩,
                  ⟨some 95, .load, [.t 94], none⟩,
                  ⟨some 96, .mv, [.t 0], none⟩,
                  ⟨some 97, .mv, [.t 12], none⟩,
                  ⟨some 98, .iaddr, [.t 96, .t 97], none⟩,
                  ⟨some 99, .load, [.t 98], none⟩,
                  ⟨some 100, .mv, [.t 0], none⟩,
                  ⟨some 101, .mv, [.t 11], none⟩,
                  ⟨some 102, .iaddr, [.t 100, .t 101], none⟩,
                  ⟨some 103, .load, [.t 102], none⟩,
                  ⟨some 104, (.bin .sub), [.t 99, .t 103], none⟩,
                  ⟨some 105, .mv, [.t 9], none⟩,
                  ⟨some 106, .mv, [.t 11], none⟩,
                  ⟨some 107, (.bin .sub), [.t 105, .t 106], none⟩,
                  ⟨some 108, (.convF .f32), [.t 107], none⟩,
                  ⟨some 109, .mv, [.t 12], none⟩,
                  ⟨some 110, .mv, [.t 11], none⟩,
                  ⟨some 111, (.bin .sub), [.t 109, .t 110], none⟩,
                  ⟨some 112, (.convF .f32), [.t 111], none⟩,
                  ⟨some 113, (.bin .quo), [.t 108, .t 112], none⟩,
                  ⟨some 114, (.bin .mul), [.t 104, .t 113], none⟩,
                  ⟨some 115, (.bin .add), [.t 95, .t 114], none⟩,
                  ⟨some 10, .mv, [.t 115], none⟩]))))))
            (.region false [
             ⟨some 132, .mv, [.t 8], none⟩,
             ⟨some 133, .mv, [.t 10], none⟩,
             ⟨some 134, (.lit true (.f .f32 [])), [.t 133], none⟩,
             ⟨some 135, .app, [.t 132, .t 134], none⟩,
             ⟨some 8, .mv, [.t 135], none⟩]))))))))
     (.region false [
      ⟨some 136, (.bin .add), [.t 53, .k (.i .i64 1)], none⟩,
      ⟨some 53, .mv, [.t 136], none⟩]))))

def b_impl_FillGaps (g_slices_Contains___bool_bool_ g_impl_IsFinite g_impl_ifAll : FuncId) : VCode :=
  (.seq
   (.region false [
    ⟨some 4, (.nilsl (.f .f32 [])), [], none⟩,
    ⟨some 5, .mv, [.k (.b false)], none⟩])
   (.seq
    (.seq
     (.region false [
      ⟨some 13, .mv, [.t 0], none⟩,
      ⟨some 14, .len, [.t 13], none⟩,
      ⟨some 15, (.bin .lss), [.t 14, .k (.i .i64 1)], none⟩,
      ⟨some 16, .mv, [.t 15], none⟩,
      ⟨some 17, .mv, [.t 0], some (16, false)⟩,
      ⟨some 18, .len, [.t 17], some (16, false)⟩,
      ⟨some 19, (.bin .gtr), [.t 18, .k (.i .i64 96)], some (16, false)⟩,
      ⟨some 20, .pick, [.t 16, .k (.b true), .t 19], none⟩,
      ⟨some 21, .mv, [.t 20], none⟩,
      ⟨some 22, .mv, [.t 1], some (21, false)⟩,
      ⟨some 23, .len, [.t 22], some (21, false)⟩,
      ⟨some 24, .mv, [.t 0], some (21, false)⟩,
      ⟨some 25, .len, [.t 24], some (21, false)⟩,
      ⟨some 26, (.bin .neq), [.t 23, .t 25], some (21, false)⟩,
      ⟨some 27, .pick, [.t 21, .k (.b true), .t 26], none⟩,
      ⟨some 28, .mv, [.t 27], none⟩,
      ⟨some 29, .mv, [.t 1], some (28, false)⟩,
      ⟨some 30, (.call g_slices_Contains___bool_bool_), [.t 29, .k (.b true)], some (28, false)⟩,
      ⟨some 31, .not, [.t 30], some (28, false)⟩,
      ⟨some 32, .pick, [.t 28, .k (.b true), .t 31], none⟩])
     (.cond (.t 32)
      (.seq
       (.region false [
        ⟨some 4, (.nilsl (.f .f32 [])), [], none⟩,
        ⟨some 5, .mv, [.k (.b false)], none⟩])
       .ret)
      .skip))
    (.seq
     (.seq
      (.region false [
       ⟨some 33, .mv, [.t 0], none⟩,
       ⟨some 34, .len, [.t 33], none⟩,
       ⟨some 35, .mv, [.k (.i .i64 0)], none⟩])
      (.block 0 (.loop (b_impl_FillGaps_L0 g_slices_Contains___bool_bool_ g_impl_IsFinite g_impl_ifAll))))
     (.seq
      (.region false [
       ⟨some 50, (.lit true (.f .f32 [])), [], none⟩,
       ⟨some 8, .mv, [.t 50], none⟩])
      (.seq
       (.seq
        (.region false [
         ⟨some 51, .mv, [.t 0], none⟩,
         ⟨some 52, .len, [.t 51], none⟩,
         ⟨some 53, .mv, [.k (.i .i64 0)], none⟩])
        (.block 2 (.loop (b_impl_FillGaps_L2 g_slices_Contains___bool_bool_ g_impl_IsFinite g_impl_ifAll))))
       (.seq
        (.region false [
         ⟨some 137, .mv, [.t 8], none⟩,
         ⟨some 138, (.call g_impl_ifAll), [.t 137], none⟩,
         ⟨some 139, (.extract 0), [.t 138], none⟩,
         ⟨some 140, (.extract 1), [.t 138], none⟩,
         ⟨some 4, .mv, [.t 139], none⟩,
         ⟨some 5, .mv, [.t 140], none⟩])
        .ret))))))

abbrev Is_impl_FillGaps (P : Program) (g_f : FuncId) (g_slices_Contains___bool_bool_ g_impl_IsFinite g_impl_ifAll : FuncId) : Prop := FnIs P g_f 141 [.t 4, .t 5] (b_impl_FillGaps g_slices_Contains___bool_bool_ g_impl_IsFinite g_impl_ifAll)

abbrev C_impl_FillGaps (P : Program) (g_f : FuncId) : Prop := ∀ (xs : List Nat) (ks : List Bool) (hx : xs.length ≤ maxLen) (hy : ks.length ≤ maxLen), VCall P g_f [PS [0] .f32 xs, PB [1] ks] (.tup [OS 0 .f32 (if fgOk xs ks = true then gapsM xs ks else []), .b (fgOk xs ks)])
def oc1_impl_FillGaps (as : List AV) : T AV := match as with | [.sl _ _ (.f .f32 xs), .sl _ _ (.b ks)] => .leaf (.tup [OS 0 .f32 (if fgOk xs ks = true then gapsM xs ks else []), .b (fgOk xs ks)]) | _ => .fail
def oc_impl_FillGaps (xs : List Nat) (ks : List Bool) (d : Nat) (as : List AV) : T AV := match d with | 30 => oc1_slices_Contains___bool_bool_ as | 46 => oc1_impl_IsFinite as | 138 => oc1_impl_ifAll as | _ => .fail
def h_impl_FillGaps_L0 (xs : List Nat) (ks : List Bool) (v35 : Int) : Env := [AV.sl (Tag.par [0]) 0 (Cont.f FloatKind.f32 xs), AV.sl (Tag.par [1]) 0 (Cont.b ks)] ++ anys 31 ++ [AV.sl (Tag.par [0]) 0 (Cont.f FloatKind.f32 xs), AV.i IntKind.i64 (↑(List.length xs) : Int), .i IntKind.i64 v35] ++ anys 105
def h_impl_FillGaps_L2 (xs : List Nat) (ks : List Bool) (out : List Nat) (v53 : Int) : Env := [AV.sl (Tag.par [0]) 0 (Cont.f FloatKind.f32 xs), AV.sl (Tag.par [1]) 0 (Cont.b ks)] ++ anys 6 ++ [.sl (Tag.own 400) 0 (.f FloatKind.f32 out)] ++ anys 42 ++ [AV.sl (Tag.par [0]) 0 (Cont.f FloatKind.f32 xs), AV.i IntKind.i64 (↑(List.length xs) : Int), .i IntKind.i64 v53] ++ anys 87
def h_impl_FillGaps_L4 (xs : List Nat) (ks : List Bool) (out : List Nat) (v53 : Int) (i : Int) : Env := [AV.sl (Tag.par [0]) 0 (Cont.f FloatKind.f32 xs), AV.sl (Tag.par [1]) 0 (Cont.b ks)] ++ anys 6 ++ [AV.sl (Tag.own 400) 0 (Cont.f FloatKind.f32 out), AV.i IntKind.i64 v53, .any, .i IntKind.i64 i, AV.i IntKind.i64 v53] ++ anys 38 ++ [AV.sl (Tag.par [0]) 0 (Cont.f FloatKind.f32 xs), AV.i IntKind.i64 (↑(List.length xs) : Int), AV.i IntKind.i64 v53] ++ anys 87
def h_impl_FillGaps_L6 (xs : List Nat) (ks : List Bool) (out : List Nat) (v53 : Int) (k : Int) : Env := [AV.sl (Tag.par [0]) 0 (Cont.f FloatKind.f32 xs), AV.sl (Tag.par [1]) 0 (Cont.b ks)] ++ anys 6 ++ [AV.sl (Tag.own 400) 0 (Cont.f FloatKind.f32 out), AV.i IntKind.i64 v53, .any, AV.i IntKind.i64 (dnK ks (Int.toNat v53)), .i IntKind.i64 k] ++ anys 38 ++ [AV.sl (Tag.par [0]) 0 (Cont.f FloatKind.f32 xs), AV.i IntKind.i64 (↑(List.length xs) : Int), AV.i IntKind.i64 v53] ++ anys 87

theorem q_impl_FillGaps_L0 {VC : FuncId → List AV → AV → Prop} {g_slices_Contains___bool_bool_ g_impl_IsFinite g_impl_ifAll : FuncId} (xs : List Nat) (ks : List Bool) (v35 : Int) {e_ : Ex} {σ_ : Env} (ht : T.ok (fun x_ => x_ = (e_, σ_)) (
      T.ite (decide (v35 < (↑(List.length xs) : Int)))
        (T.ob (0 ≤ v35 ∧ v35 < (↑(List.length xs) : Int))
          (T.ob (0 ≤ v35 ∧ v35 < (↑(List.length ks) : Int))
            (T.ite (List.getD ks (Int.toNat v35) false)
              (T.ob (VC g_impl_IsFinite [AV.f FloatKind.f32 (List.getD xs (Int.toNat v35) 0)] (AV.b (finM (List.getD xs (Int.toNat v35) 0))))
                (T.ite (!finM (List.getD xs (Int.toNat v35) 0)) (T.leaf (Ex.ret, anys 4 ++ AV.sl Tag.nil 0 (Cont.f FloatKind.f32 []) :: AV.b false :: anys 135))
                  (T.leaf (Ex.normal, h_impl_FillGaps_L0 xs ks (IntKind.wrap IntKind.i64 (v35 + 1))))))
              (T.leaf (Ex.normal, h_impl_FillGaps_L0 xs ks (IntKind.wrap IntKind.i64 (v35 + 1)))))))
        (T.leaf (Ex.exit 0, h_impl_FillGaps_L0 xs ks v35)))) :
    Exec VC ps_impl_FillGaps (b_impl_FillGaps_L0 g_slices_Contains___bool_bool_ g_impl_IsFinite g_impl_ifAll) (h_impl_FillGaps_L0 xs ks v35) e_ σ_ := evL_of (lv := lv_impl_FillGaps_L0) (rs := [4, 5]) (O := ⟨oc_impl_FillGaps xs ks, fun _ _ => none⟩) (by kernel_rfl) ht

theorem q_impl_FillGaps_L2 {VC : FuncId → List AV → AV → Prop} {g_slices_Contains___bool_bool_ g_impl_IsFinite g_impl_ifAll : FuncId} (xs : List Nat) (ks : List Bool) (out : List Nat) (v53 : Int) {e_ : Ex} {σ_ : Env} (ht : T.ok (fun x_ => x_ = (e_, σ_)) (
      T.ite (decide (v53 < (↑(List.length xs) : Int)))
        (T.ob (0 ≤ v53 ∧ v53 < (↑(List.length xs) : Int))
          (T.ob (0 ≤ v53 ∧ v53 < (↑(List.length ks) : Int))
            (T.ite (List.getD ks (Int.toNat v53) false)
              (T.ob (List.length out + List.length [List.getD xs (Int.toNat v53) 0] ≤ 4294967296) (T.leaf (Ex.normal, h_impl_FillGaps_L2 xs ks (out ++ [List.getD xs (Int.toNat v53) 0]) (IntKind.wrap IntKind.i64 (v53 + 1)))))
              (T.ob
                (Exec VC ps_impl_FillGaps (VCode.block 4 (VCode.loop (b_impl_FillGaps_L4 g_slices_Contains___bool_bool_ g_impl_IsFinite g_impl_ifAll))) (h_impl_FillGaps_L4 xs ks out v53 v53) Ex.normal
                  (h_impl_FillGaps_L4 xs ks out v53 (dnK ks (Int.toNat v53))))
                (T.ob
                  (Exec VC ps_impl_FillGaps (VCode.block 6 (VCode.loop (b_impl_FillGaps_L6 g_slices_Contains___bool_bool_ g_impl_IsFinite g_impl_ifAll))) (h_impl_FillGaps_L4 xs ks out v53 (dnK ks (Int.toNat v53))) Ex.normal
                    (h_impl_FillGaps_L6 xs ks out v53 (↑(upK ks (Int.toNat v53)) : Int)))
                  (T.ite (decide (dnK ks (Int.toNat v53) < 0))
                    (T.ob (0 ≤ (↑(upK ks (Int.toNat v53)) : Int) ∧ (↑(upK ks (Int.toNat v53)) : Int) < (↑(List.length xs) : Int))
                      (T.ob (List.length out + List.length [List.getD xs (Int.toNat (↑(upK ks (Int.toNat v53)) : Int)) 0] ≤ 4294967296)
                        (T.leaf (Ex.normal, h_impl_FillGaps_L2 xs ks (out ++ [List.getD xs (Int.toNat (↑(upK ks (Int.toNat v53)) : Int)) 0]) (IntKind.wrap IntKind.i64 (v53 + 1))))))
                    (T.ite ((↑(upK ks (Int.toNat v53)) : Int) == (↑(List.length xs) : Int))
                      (T.ob (0 ≤ dnK ks (Int.toNat v53) ∧ dnK ks (Int.toNat v53) < (↑(List.length xs) : Int))
                        (T.ob (List.length out + List.length [List.getD xs (Int.toNat (dnK ks (Int.toNat v53))) 0] ≤ 4294967296)
                          (T.leaf (Ex.normal, h_impl_FillGaps_L2 xs ks (out ++ [List.getD xs (Int.toNat (dnK ks (Int.toNat v53))) 0]) (IntKind.wrap IntKind.i64 (v53 + 1))))))
                      (T.ob (0 ≤ dnK ks (Int.toNat v53) ∧ dnK ks (Int.toNat v53) < (↑(List.length xs) : Int))
                        (T.ob (0 ≤ (↑(upK ks (Int.toNat v53)) : Int) ∧ (↑(upK ks (Int.toNat v53)) : Int) < (↑(List.length xs) : Int))
                          (T.ob (0 ≤ dnK ks (Int.toNat v53) ∧ dnK ks (Int.toNat v53) < (↑(List.length xs) : Int))
                            (T.ob True
                              (T.ob True
                                (T.ob True
                                  (T.ob
                                    (List.length out +
                                        List.length
                                          [fadd FloatKind.f32 (List.getD xs (Int.toNat (dnK ks (Int.toNat v53))) 0)
                                              (fmul FloatKind.f32 (fsub FloatKind.f32 (List.getD xs (Int.toNat (↑(upK ks (Int.toNat v53)) : Int)) 0) (List.getD xs (Int.toNat (dnK ks (Int.toNat v53))) 0))
                                                (fdiv FloatKind.f32 (fofi FloatKind.f32 (IntKind.wrap IntKind.i64 (v53 - dnK ks (Int.toNat v53))))
                                                  (fofi FloatKind.f32 (IntKind.wrap IntKind.i64 ((↑(upK ks (Int.toNat v53)) : Int) - dnK ks (Int.toNat v53))))))] ≤
                                      4294967296)
                                    (T.leaf
                                      (Ex.normal,
                                        h_impl_FillGaps_L2 xs ks
                                          (out ++
                                            [fadd FloatKind.f32 (List.getD xs (Int.toNat (dnK ks (Int.toNat v53))) 0)
                                                (fmul FloatKind.f32 (fsub FloatKind.f32 (List.getD xs (Int.toNat (↑(upK ks (Int.toNat v53)) : Int)) 0) (List.getD xs (Int.toNat (dnK ks (Int.toNat v53))) 0))
                                                  (fdiv FloatKind.f32 (fofi FloatKind.f32 (IntKind.wrap IntKind.i64 (v53 - dnK ks (Int.toNat v53))))
                                                    (fofi FloatKind.f32 (IntKind.wrap IntKind.i64 ((↑(upK ks (Int.toNat v53)) : Int) - dnK ks (Int.toNat v53))))))])
                                          (IntKind.wrap IntKind.i64 (v53 + 1))))))))))))))))))
        (T.leaf (Ex.exit 2, h_impl_FillGaps_L2 xs ks out v53)))) :
    Exec VC ps_impl_FillGaps (b_impl_FillGaps_L2 g_slices_Contains___bool_bool_ g_impl_IsFinite g_impl_ifAll) (h_impl_FillGaps_L2 xs ks out v53) e_ σ_ := evL_of (lv := lv_impl_FillGaps_L2) (rs := [4, 5]) (O := ⟨oc_impl_FillGaps xs ks, fun id σ => match id with | 4 => some (lv_impl_FillGaps_L4, .leaf (.normal, h_impl_FillGaps_L4 xs ks out v53 (dnK ks v53.toNat))) | 6 => some (lv_impl_FillGaps_L6, .leaf (.normal, h_impl_FillGaps_L6 xs ks out v53 (upK ks v53.toNat))) | _ => none⟩) (by kernel_rfl) ht

theorem q_impl_FillGaps_L4 {VC : FuncId → List AV → AV → Prop} {g_slices_Contains___bool_bool_ g_impl_IsFinite g_impl_ifAll : FuncId} (xs : List Nat) (ks : List Bool) (out : List Nat) (v53 : Int) (i : Int) {e_ : Ex} {σ_ : Env} (ht : T.ok (fun x_ => x_ = (e_, σ_)) (
      T.ite (decide (i ≥ 0))
        (T.ob (0 ≤ i ∧ i < (↑(List.length ks) : Int))
          (T.ite (!List.getD ks (Int.toNat i) false) (T.leaf (Ex.normal, h_impl_FillGaps_L4 xs ks out v53 (IntKind.wrap IntKind.i64 (i - 1)))) (T.leaf (Ex.exit 4, h_impl_FillGaps_L4 xs ks out v53 i))))
        (T.leaf (Ex.exit 4, h_impl_FillGaps_L4 xs ks out v53 i)))) :
    Exec VC ps_impl_FillGaps (b_impl_FillGaps_L4 g_slices_Contains___bool_bool_ g_impl_IsFinite g_impl_ifAll) (h_impl_FillGaps_L4 xs ks out v53 i) e_ σ_ := evL_of (lv := lv_impl_FillGaps_L4) (rs := [4, 5]) (O := ⟨oc_impl_FillGaps xs ks, fun _ _ => none⟩) (by kernel_rfl) ht

theorem q_impl_FillGaps_L6 {VC : FuncId → List AV → AV → Prop} {g_slices_Contains___bool_bool_ g_impl_IsFinite g_impl_ifAll : FuncId} (xs : List Nat) (ks : List Bool) (out : List Nat) (v53 : Int) (k : Int) {e_ : Ex} {σ_ : Env} (ht : T.ok (fun x_ => x_ = (e_, σ_)) (
      T.ite (decide (k < (↑(List.length xs) : Int)))
        (T.ob (0 ≤ k ∧ k < (↑(List.length ks) : Int))
          (T.ite (!List.getD ks (Int.toNat k) false) (T.leaf (Ex.normal, h_impl_FillGaps_L6 xs ks out v53 (IntKind.wrap IntKind.i64 (k + 1)))) (T.leaf (Ex.exit 6, h_impl_FillGaps_L6 xs ks out v53 k))))
        (T.leaf (Ex.exit 6, h_impl_FillGaps_L6 xs ks out v53 k)))) :
    Exec VC ps_impl_FillGaps (b_impl_FillGaps_L6 g_slices_Contains___bool_bool_ g_impl_IsFinite g_impl_ifAll) (h_impl_FillGaps_L6 xs ks out v53 k) e_ σ_ := evL_of (lv := lv_impl_FillGaps_L6) (rs := [4, 5]) (O := ⟨oc_impl_FillGaps xs ks, fun _ _ => none⟩) (by kernel_rfl) ht

theorem q_impl_FillGaps {P : Program} {g_f : FuncId} {g_slices_Contains___bool_bool_ g_impl_IsFinite g_impl_ifAll : FuncId} (h_ : Is_impl_FillGaps P g_f g_slices_Contains___bool_bool_ g_impl_IsFinite g_impl_ifAll) (xs : List Nat) (ks : List Bool) (ht : T.ok (fun x_ => x_ = .tup [OS 0 .f32 (if fgOk xs ks = true then gapsM xs ks else []), .b (fgOk xs ks)]) (
      T.ite (decide ((↑(List.length xs) : Int) < 1)) (T.leaf (AV.tup [AV.sl (Tag.own 0) 0 (Cont.f FloatKind.f32 []), AV.b false]))
        (T.ite (decide ((↑(List.length xs) : Int) > 96)) (T.leaf (AV.tup [AV.sl (Tag.own 0) 0 (Cont.f FloatKind.f32 []), AV.b false]))
          (T.ite ((↑(List.length ks) : Int) != (↑(List.length xs) : Int)) (T.leaf (AV.tup [AV.sl (Tag.own 0) 0 (Cont.f FloatKind.f32 []), AV.b false]))
            (T.ob ((VCall P) g_slices_Contains___bool_bool_ [AV.sl (Tag.par [0]) 0 (Cont.b ks), AV.b true] (AV.b (List.any ks fun (x : Bool) => true == x)))
              (T.ite (!List.any ks fun (x : Bool) => true == x) (T.leaf (AV.tup [AV.sl (Tag.own 0) 0 (Cont.f FloatKind.f32 []), AV.b false]))
                (T.ite (knFin xs ks)
                  (T.ob
                    (Exec (VCall P) ps_impl_FillGaps (VCode.block 0 (VCode.loop (b_impl_FillGaps_L0 g_slices_Contains___bool_bool_ g_impl_IsFinite g_impl_ifAll))) (h_impl_FillGaps_L0 xs ks 0) Ex.normal
                      (h_impl_FillGaps_L0 xs ks (↑(List.length xs) : Int)))
                    (T.ob
                      (Exec (VCall P) ps_impl_FillGaps (VCode.block 2 (VCode.loop (b_impl_FillGaps_L2 g_slices_Contains___bool_bool_ g_impl_IsFinite g_impl_ifAll))) (h_impl_FillGaps_L2 xs ks [] 0) Ex.normal
                        (h_impl_FillGaps_L2 xs ks (gapsM xs ks) (↑(List.length xs) : Int)))
                      (T.ob ((VCall P) g_impl_ifAll [AV.sl (Tag.par [0]) 0 (Cont.f FloatKind.f32 (gapsM xs ks))] (AV.tup [AV.sl (Tag.par [0]) 0 (Cont.f FloatKind.f32 (ifAllM (gapsM xs ks))), AV.b (finAllM (gapsM xs ks))]))
                        (T.leaf (AV.tup [AV.sl (Tag.own 0) 0 (Cont.f FloatKind.f32 (ifAllM (gapsM xs ks))), AV.b (finAllM (gapsM xs ks))])))))
                  (T.ob
                    (Exec (VCall P) ps_impl_FillGaps (VCode.block 0 (VCode.loop (b_impl_FillGaps_L0 g_slices_Contains___bool_bool_ g_impl_IsFinite g_impl_ifAll))) (h_impl_FillGaps_L0 xs ks 0) Ex.ret
                      (anys 4 ++ AV.sl Tag.nil 0 (Cont.f FloatKind.f32 []) :: AV.b false :: anys 135))
                    (T.leaf (AV.tup [AV.sl (Tag.own 0) 0 (Cont.f FloatKind.f32 []), AV.b false])))))))))) :
    VCall P g_f [PS [0] .f32 xs, PB [1] ks] (.tup [OS 0 .f32 (if fgOk xs ks = true then gapsM xs ks else []), .b (fgOk xs ks)]) := h_.call_of ps_impl_FillGaps ⟨oc_impl_FillGaps xs ks, fun id σ => match id with | 0 => some (lv_impl_FillGaps_L0, .ite (knFin xs ks) (.leaf (.normal, h_impl_FillGaps_L0 xs ks xs.length)) (.leaf (.ret, anys 4 ++ .sl .nil 0 (.f .f32 []) :: .b false :: anys 135))) | 2 => some (lv_impl_FillGaps_L2, .leaf (.normal, h_impl_FillGaps_L2 xs ks (gapsM xs ks) xs.length)) | _ => none⟩ (by kernel_rfl) ht

-- END impl_FillGaps

-- FN spec_FillGaps
/-- spec.FillGaps: slots 124, results [.t 4, .t 5]; calls [29:g_spec_l02Known, 46:g_spec_l01Finite, 57:g_spec_l02Known, 60:g_spec_l02Known, 121:g_spec_l02List]; names [(list, 0), (known, 1), (list, 2), (known, 3), (n, 6), (i, 7), (out, 8), (at, 9), (i, 10), (k, 11), (q, 12)] -/
def ps_spec_FillGaps : List Nat := [0, 1, 4, 5, 6, 7, 8, 9, 10, 11, 12, 31, 34, 48, 52, 89, 100, 110]
def lv_spec_FillGaps_L0 : List Nat := [0, 1, 6, 7]
def lv_spec_FillGaps_L2 : List Nat := [0, 1, 6, 8, 9]
def b_spec_FillGaps_L0 (g_spec_l02Known g_spec_l01Finite g_spec_l02List : FuncId) : VCode :=
  (.seq
   (.seq
    (.region false [
     ⟨some 32, .mv, [.t 7], none⟩,
     ⟨some 33, .mv, [.t 6], none⟩,
     ⟨some 34, (.bin .lss), [.t 32, .t 33], none⟩])
    (.cond (.t 34)
     .skip
     (.exit 0)))
   (.seq
    (.block 1
     (.seq
      (.region false [
       ⟨some 37, .mv, [.t 1], none⟩,
       ⟨some 38, .mv, [.t 7], none⟩,
       ⟨some 39, .iaddr, [.t 37, .t 38], none⟩,
       ⟨some 40, .load, [.t 39], none⟩,
       ⟨some 41, .mv, [.t 40], none⟩,
       ⟨some 42, .mv, [.t 0], some (41, true)⟩,
       ⟨some 43, .mv, [.t 7], some (41, true)⟩,
       ⟨some 44, .iaddr, [.t 42, .t 43], some (41, true)⟩,
       ⟨some 45, .load, [.t 44], some (41, true)⟩,
       ⟨some 46, (.call g_spec_l01Finite), [.t 45], some (41, true)⟩,
       ⟨some 47, .not, [.t 46], some (41, true)⟩,
       ⟨some 48, .pick, [.t 41, .t 47, .k (.b false)], none⟩])
      (.cond (.t 48)
       (.seq
        (.region false [
         ⟨some 4, (.nilsl (.f .f32 [])), [], none⟩,
         ⟨some 5, .mv, [.k (.b false)], none⟩])
        .ret)
       .skip)))
    (.region false [
     ⟨some 35, .mv, [.t 7], none⟩,
     ⟨some 36, (.bin .add), [.t 35, .k (.i .i64 1)], none⟩,
     ⟨some 7, .mv, [.t 36], none⟩])))

def b_spec_FillGaps_L2 (g_spec_l02Known g_spec_l01Finite g_spec_l02List : FuncId) : VCode :=
  (.seq
   (.seq
    (.region false [
     ⟨some 50, .mv, [.t 9], none⟩,
     ⟨some 51, .mv, [.t 6], none⟩,
     ⟨some 52, (.bin .lss), [.t 50, .t 51], none⟩])
    (.cond (.t 52)
     .skip
     (.exit 2)))
   (.seq
    (.block 3
     (.seq
      (.region false [
       ⟨some 55, .mv, [.t 1], none⟩,
       ⟨some 56, .mv, [.t 9], none⟩,
       ⟨some 57, (.call g_spec_l02Known), [.t 55, .t 56, .k (.i .i64 (-1))], none⟩,
       ⟨some 10, .mv, [.t 57], none⟩])
      (.seq
       (.region false [
        ⟨some 58, .mv, [.t 1], none⟩,
        ⟨some 59, .mv, [.t 9], none⟩,
        ⟨some 60, (.call g_spec_l02Known), [.t 58, .t 59, .k (.i .i64 1)], none⟩,
        ⟨some 11, .mv, [.t 60], none⟩])
       (.block 4
        (.seq
         (.region false [
          ⟨some 90, .mv, [.t 10], none⟩,
          ⟨some 91, .mv, [.t 9], none⟩,
          ⟨some 92, (.bin .eql), [.t 90, .t 91], none⟩,
          ⟨some 89, .mv, [.t 92], none⟩])
         (.cond (.t 89)
          (.region false [
           ⟨some 93, .mv, [.t 8], none⟩,
           ⟨some 94, .mv, [.t 0], none⟩,
           ⟨some 95, .mv, [.t 9], none⟩,
           ⟨some 96, .iaddr, [.t 94, .t 95], none⟩,
           ⟨some 97, .load, [.t 96], none⟩,
           ⟨some 98, (.lit true (.f .f32 [])), [.t 97], none⟩,
           ⟨some 99, .app, [.t 93, .t 98], none⟩,
           ⟨some 8, .mv, [.t 99], none⟩])
          (.seq
           (.region false [
            ⟨some 101, .mv, [.t 10], none⟩,
            ⟨some 102, (.bin .lss), [.t 101, .k (.i .i64 0)], none⟩,
            ⟨some 100, .mv, [.t 102], none⟩])
           (.cond (.t 100)
            (.region false [
             ⟨some 103, .mv, [.t 8], none⟩,
             ⟨some 104, .mv, [.t 0], none⟩,
             ⟨some 105, .mv, [.t 11], none⟩,
             ⟨some 106, .iaddr, [.t 104, .t 105], none⟩,
             ⟨some 107, .load, [.t 106], none⟩,
             ⟨some 108, (.lit true (.f .f32 [])), [.t 107], none⟩,
             ⟨some 109, .app, [.t 103, .t 108], none⟩,
             ⟨some 8, .mv, [.t 109], none⟩])
            (.seq
             (.region false [
              ⟨some 111, .mv, [.t 11], none⟩,
              ⟨some 112, (.bin .lss), [.t 111, .k (.i .i64 0)], none⟩,
              ⟨some 110, .mv, [.t 112], none⟩])
             (.cond (.t 110)
              (.region false [
               ⟨some 113, .mv, [.t 8], none⟩,
               ⟨some 114, .mv, [.t 0], none⟩,
               ⟨some 115, .mv, [.t 10], none⟩,
               ⟨some 116, .iaddr, [.t 114, .t 115], none⟩,
               ⟨some 117, .load, [.t 116], none⟩,
               ⟨some 118, (.lit true (.f .f32 [])), [.t 117], none⟩,
               ⟨some 119, .app, [.t 113, .t 118], none⟩,
               ⟨some 8, .mv, [.t 119], none⟩])
              (.seq
               (.region false [
                ⟨some 61, .mv, [.t 9], none⟩,
                ⟨some 62, .mv, [.t 10], none⟩,
                ⟨some 63, (.bin .sub), [.t 61, .t 62], none⟩,
                ⟨some 64, (.convF .f32), [.t 63], none⟩,
                ⟨some 65, .mv, [.t 11], none⟩,
                ⟨some 66, .mv, [.t 10], none⟩,
                ⟨some 67, (.bin .sub), [.t 65, .t 66], none⟩,
                ⟨some 68, (.convF .f32), [.t 67], none⟩,
                ⟨some 69, (.bin .quo), [.t 64, .t 68], none⟩,
                ⟨some 12, .mv, [.t 69], none⟩])
               (.region true [
                ⟨some 70, .mv, [.t 8], none⟩,
                ⟨some 71, .mv, [.t 0], none⟩,
                ⟨some 72, .mv, [.t 10], none⟩,
                ⟨some 73, .iaddr, [.t 71, .t 72], none⟩,
                ⟨some 74, .load, [.t 73], none⟩,
                ⟨some 75, .mv, [.t 0], none⟩,
                ⟨some 76, .mv, [.t 11], none⟩,
                ⟨some 77, .iaddr, [.t 75, .t 76], none⟩,
                ⟨some 78, .load, [.t 77], none⟩,
                ⟨some 79, .mv, [.t 0], none⟩,
                ⟨some 80, .mv, [.t 10], none⟩,
                ⟨some 81, .iaddr, [.t 79, .t 80], none⟩,
                ⟨some 82, .load, [.t 81], none⟩,
                ⟨some 83, (.bin .sub), [.t 78, .t 82], none⟩,
                ⟨some 84, .mv, [.t 12], none⟩,
                ⟨some 85, (.bin .mul), [.t 83, .t 84], none⟩,
                ⟨some 86, (.bin .add), [.t 74, .t 85], none⟩,
                ⟨some 87, (.lit true (.f .f32 [])), [.t 86], none⟩,
                ⟨some 88, .app, [.t 70, .t 87], none⟩,
                ⟨some 8, .mv, [.t 88], none⟩]))))))))))))
    (.region false [
     ⟨some 53, .mv, [.t 9], none⟩,
     ⟨some 54, (.bin .add), [.t 53, .k (.i .i64 1)], none⟩,
     ⟨some 9, .mv, [.t 54], none⟩])))

def b_spec_FillGaps (g_spec_l02Known g_spec_l01Finite g_spec_l02List : FuncId) : VCode :=
  (.seq
   (.region false [
    ⟨some 4, (.nilsl (.f .f32 [])), [], none⟩,
    ⟨some 5, .mv, [.k (.b false)], none⟩])
   (.seq
    (.region false [
     ⟨some 13, .mv, [.t 0], none⟩,
     ⟨some 14, .len, [.t 13], none⟩,
     ⟨some 6, .mv, [.t 14], none⟩])
    (.seq
     (.seq
      (.region false [
       ⟨some 15, .mv, [.t 6], none⟩,
       ⟨some 16, (.bin .lss), [.t 15, .k (.i .i64 1)], none⟩,
       ⟨some 17, .mv, [.t 16], none⟩,
       ⟨some 18, .mv, [.t 6], some (17, false)⟩,
       ⟨some 19, (.bin .gtr), [.t 18, .k (.i .i64 96)], some (17, false)⟩,
       ⟨some 20, .pick, [.t 17, .k (.b true), .t 19], none⟩,
       ⟨some 21, .mv, [.t 20], none⟩,
       ⟨some 22, .mv, [.t 1], some (21, false)⟩,
       ⟨some 23, .len, [.t 22], some (21, false)⟩,
       ⟨some 24, .mv, [.t 6], some (21, false)⟩,
       ⟨some 25, (.bin .neq), [.t 23, .t 24], some (21, false)⟩,
       ⟨some 26, .pick, [.t 21, .k (.b true), .t 25], none⟩,
       ⟨some 27, .mv, [.t 26], none⟩,
       ⟨some 28, .mv, [.t 1], some (27, false)⟩,
       ⟨some 29, (.call g_spec_l02Known), [.t 28, .k (.i .i64 0), .k (.i .i64 1)], some (27, false)⟩,
       ⟨some 30, (.bin .lss), [.t 29, .k (.i .i64 0)], some (27, false)⟩,
       ⟨some 31, .pick, [.t 27, .k (.b true), .t 30], none⟩])
      (.cond (.t 31)
       (.seq
        (.region false [
         ⟨some 4, (.nilsl (.f .f32 [])), [], none⟩,
         ⟨some 5, .mv, [.k (.b false)], none⟩])
        .ret)
       .skip))
     (.seq
      (.seq
       (.region false [
        ⟨some 7, .mv, [.k (.i .i64 0)], none⟩])
       (.block 0 (.loop (b_spec_FillGaps_L0 g_spec_l02Known g_spec_l01Finite g_spec_l02List))))
      (.seq
       (.region false [
        ⟨some 49, (.lit true (.f .f32 [])), [], none⟩,
        ⟨some 8, .mv, [.t 49], none⟩])
       (.seq
        (.seq
         (.region false [
          ⟨some 9, .mv, [.k (.i .i64 0)], none⟩])
         (.block 2 (.loop (b_spec_FillGaps_L2 g_spec_l02Known g_spec_l01Finite g_spec_l02List))))
        (.seq
         (.region false [
          ⟨some 120, .mv, [.t 8], none⟩,
          ⟨some 121, (.call g_spec_l02List), [.t 120], none⟩,
          ⟨some 122, (.extract 0), [.t 121], none⟩,
          ⟨some 123, (.extract 1), [.t 121], none⟩,
          ⟨some 4, .mv, [.t 122], none⟩,
          ⟨some 5, .mv, [.t 123], none⟩])
         .ret)))))))

abbrev Is_spec_FillGaps (P : Program) (g_f : FuncId) (g_spec_l02Known g_spec_l01Finite g_spec_l02List : FuncId) : Prop := FnIs P g_f 124 [.t 4, .t 5] (b_spec_FillGaps g_spec_l02Known g_spec_l01Finite g_spec_l02List)

abbrev C_spec_FillGaps (P : Program) (g_f : FuncId) : Prop := ∀ (xs : List Nat) (ks : List Bool) (hx : xs.length ≤ maxLen) (hy : ks.length ≤ maxLen), VCall P g_f [PS [0] .f32 xs, PB [1] ks] (.tup [OS 0 .f32 (if fgOk xs ks = true then gapsM xs ks else []), .b (fgOk xs ks)])
def oc1_spec_FillGaps (as : List AV) : T AV := match as with | [.sl _ _ (.f .f32 xs), .sl _ _ (.b ks)] => .leaf (.tup [OS 0 .f32 (if fgOk xs ks = true then gapsM xs ks else []), .b (fgOk xs ks)]) | _ => .fail
def oc_spec_FillGaps (xs : List Nat) (ks : List Bool) (d : Nat) (as : List AV) : T AV := match d with | 29 => oc1_spec_l02Known as | 46 => oc1_spec_l01Finite as | 57 => oc1_spec_l02Known as | 60 => oc1_spec_l02Known as | 121 => oc1_spec_l02List as | _ => .fail
def h_spec_FillGaps_L0 (xs : List Nat) (ks : List Bool) (i : Int) : Env := [AV.sl (Tag.par [0]) 0 (Cont.f FloatKind.f32 xs), AV.sl (Tag.par [1]) 0 (Cont.b ks)] ++ anys 4 ++ [AV.i IntKind.i64 (↑(List.length xs) : Int), .i IntKind.i64 i] ++ anys 116
def h_spec_FillGaps_L2 (xs : List Nat) (ks : List Bool) (out : List Nat) (at0 : Int) : Env := [AV.sl (Tag.par [0]) 0 (Cont.f FloatKind.f32 xs), AV.sl (Tag.par [1]) 0 (Cont.b ks)] ++ anys 4 ++ [AV.i IntKind.i64 (↑(List.length xs) : Int), .any, .sl (Tag.own 392) 0 (.f FloatKind.f32 out), .i IntKind.i64 at0] ++ anys 114

theorem q_spec_FillGaps_L0 {VC : FuncId → List AV → AV → Prop} {g_spec_l02Known g_spec_l01Finite g_spec_l02List : FuncId} (xs : List Nat) (ks : List Bool) (i : Int) {e_ : Ex} {σ_ : Env} (ht : T.ok (fun x_ => x_ = (e_, σ_)) (
      T.ite (decide (i < (↑(List.length xs) : Int)))
        (T.ob (0 ≤ i ∧ i < (↑(List.length ks) : Int))
          (T.ite (List.getD ks (Int.toNat i) false)
            (T.ob (0 ≤ i ∧ i < (↑(List.length xs) : Int))
              (T.ob (VC g_spec_l01Finite [AV.f FloatKind.f32 (List.getD xs (Int.toNat i) 0)] (AV.b (finM (List.getD xs (Int.toNat i) 0))))
                (T.ite (!finM (List.getD xs (Int.toNat i) 0)) (T.leaf (Ex.ret, anys 4 ++ AV.sl Tag.nil 0 (Cont.f FloatKind.f32 []) :: AV.b false :: anys 118))
                  (T.leaf (Ex.normal, h_spec_FillGaps_L0 xs ks (IntKind.wrap IntKind.i64 (i + 1)))))))
            (T.leaf (Ex.normal, h_spec_FillGaps_L0 xs ks (IntKind.wrap IntKind.i64 (i + 1))))))
        (T.leaf (Ex.exit 0, h_spec_FillGaps_L0 xs ks i)))) :
    Exec VC ps_spec_FillGaps (b_spec_FillGaps_L0 g_spec_l02Known g_spec_l01Finite g_spec_l02List) (h_spec_FillGaps_L0 xs ks i) e_ σ_ := evL_of (lv := lv_spec_FillGaps_L0) (rs := [4, 5]) (O := ⟨oc_spec_FillGaps xs ks, fun _ _ => none⟩) (by kernel_rfl) ht

theorem q_spec_FillGaps_L2 {VC : FuncId → List AV → AV → Prop} {g_spec_l02Known g_spec_l01Finite g_spec_l02List : FuncId} (xs : List Nat) (ks : List Bool) (out : List Nat) (at0 : Int) {e_ : Ex} {σ_ : Env} (ht : T.ok (fun x_ => x_ = (e_, σ_)) (
      T.ite (decide (at0 < (↑(List.length xs) : Int)))
        (T.ob (VC g_spec_l02Known [AV.sl (Tag.par [0]) 0 (Cont.b ks), AV.i IntKind.i64 at0, AV.i IntKind.i64 (-1)] (AV.i IntKind.i64 (knownM ks (Int.toNat at0) (-1))))
          (T.ob (VC g_spec_l02Known [AV.sl (Tag.par [0]) 0 (Cont.b ks), AV.i IntKind.i64 at0, AV.i IntKind.i64 1] (AV.i IntKind.i64 (knownM ks (Int.toNat at0) 1)))
            (T.ite (knownM ks (Int.toNat at0) (-1) == at0)
              (T.ob (0 ≤ at0 ∧ at0 < (↑(List.length xs) : Int))
                (T.ob (List.length out + List.length [List.getD xs (Int.toNat at0) 0] ≤ 4294967296)
                  (T.leaf (Ex.normal, h_spec_FillGaps_L2 xs ks (out ++ [List.getD xs (Int.toNat at0) 0]) (IntKind.wrap IntKind.i64 (at0 + 1))))))
              (T.ite (decide (knownM ks (Int.toNat at0) (-1) < 0))
                (T.ob (0 ≤ knownM ks (Int.toNat at0) 1 ∧ knownM ks (Int.toNat at0) 1 < (↑(List.length xs) : Int))
                  (T.ob (List.length out + List.length [List.getD xs (Int.toNat (knownM ks (Int.toNat at0) 1)) 0] ≤ 4294967296)
                    (T.leaf (Ex.normal, h_spec_FillGaps_L2 xs ks (out ++ [List.getD xs (Int.toNat (knownM ks (Int.toNat at0) 1)) 0]) (IntKind.wrap IntKind.i64 (at0 + 1))))))
                (T.ite (decide (knownM ks (Int.toNat at0) 1 < 0))
                  (T.ob (0 ≤ knownM ks (Int.toNat at0) (-1) ∧ knownM ks (Int.toNat at0) (-1) < (↑(List.length xs) : Int))
                    (T.ob (List.length out + List.length [List.getD xs (Int.toNat (knownM ks (Int.toNat at0) (-1))) 0] ≤ 4294967296)
                      (T.leaf (Ex.normal, h_spec_FillGaps_L2 xs ks (out ++ [List.getD xs (Int.toNat (knownM ks (Int.toNat at0) (-1))) 0]) (IntKind.wrap IntKind.i64 (at0 + 1))))))
                  (T.ob True
                    (T.ob True
                      (T.ob True
                        (T.ob (0 ≤ knownM ks (Int.toNat at0) (-1) ∧ knownM ks (Int.toNat at0) (-1) < (↑(List.length xs) : Int))
                          (T.ob (0 ≤ knownM ks (Int.toNat at0) 1 ∧ knownM ks (Int.toNat at0) 1 < (↑(List.length xs) : Int))
                            (T.ob (0 ≤ knownM ks (Int.toNat at0) (-1) ∧ knownM ks (Int.toNat at0) (-1) < (↑(List.length xs) : Int))
                              (T.ob
                                (List.length out +
                                    List.length
                                      [fadd FloatKind.f32 (List.getD xs (Int.toNat (knownM ks (Int.toNat at0) (-1))) 0)
                                          (fmul FloatKind.f32 (fsub FloatKind.f32 (List.getD xs (Int.toNat (knownM ks (Int.toNat at0) 1)) 0) (List.getD xs (Int.toNat (knownM ks (Int.toNat at0) (-1))) 0))
                                            (fdiv FloatKind.f32 (fofi FloatKind.f32 (IntKind.wrap IntKind.i64 (at0 - knownM ks (Int.toNat at0) (-1))))
                                              (fofi FloatKind.f32 (IntKind.wrap IntKind.i64 (knownM ks (Int.toNat at0) 1 - knownM ks (Int.toNat at0) (-1))))))] ≤
                                  4294967296)
                                (T.leaf
                                  (Ex.normal,
                                    h_spec_FillGaps_L2 xs ks
                                      (out ++
                                        [fadd FloatKind.f32 (List.getD xs (Int.toNat (knownM ks (Int.toNat at0) (-1))) 0)
                                            (fmul FloatKind.f32 (fsub FloatKind.f32 (List.getD xs (Int.toNat (knownM ks (Int.toNat at0) 1)) 0) (List.getD xs (Int.toNat (knownM ks (Int.toNat at0) (-1))) 0))
                                              (fdiv FloatKind.f32 (fofi FloatKind.f32 (IntKind.wrap IntKind.i64 (at0 - knownM ks (Int.toNat at0) (-1))))
                                                (fofi FloatKind.f32 (IntKind.wrap IntKind.i64 (knownM ks (Int.toNat at0) 1 - knownM ks (Int.toNat at0) (-1))))))])
                                      (IntKind.wrap IntKind.i64 (at0 + 1))))))))))))))))
        (T.leaf (Ex.exit 2, h_spec_FillGaps_L2 xs ks out at0)))) :
    Exec VC ps_spec_FillGaps (b_spec_FillGaps_L2 g_spec_l02Known g_spec_l01Finite g_spec_l02List) (h_spec_FillGaps_L2 xs ks out at0) e_ σ_ := evL_of (lv := lv_spec_FillGaps_L2) (rs := [4, 5]) (O := ⟨oc_spec_FillGaps xs ks, fun _ _ => none⟩) (by kernel_rfl) ht

theorem q_spec_FillGaps {P : Program} {g_f : FuncId} {g_spec_l02Known g_spec_l01Finite g_spec_l02List : FuncId} (h_ : Is_spec_FillGaps P g_f g_spec_l02Known g_spec_l01Finite g_spec_l02List) (xs : List Nat) (ks : List Bool) (ht : T.ok (fun x_ => x_ = .tup [OS 0 .f32 (if fgOk xs ks = true then gapsM xs ks else []), .b (fgOk xs ks)]) (
      T.ite (decide ((↑(List.length xs) : Int) < 1)) (T.leaf (AV.tup [AV.sl (Tag.own 0) 0 (Cont.f FloatKind.f32 []), AV.b false]))
        (T.ite (decide ((↑(List.length xs) : Int) > 96)) (T.leaf (AV.tup [AV.sl (Tag.own 0) 0 (Cont.f FloatKind.f32 []), AV.b false]))
          (T.ite ((↑(List.length ks) : Int) != (↑(List.length xs) : Int)) (T.leaf (AV.tup [AV.sl (Tag.own 0) 0 (Cont.f FloatKind.f32 []), AV.b false]))
            (T.ob ((VCall P) g_spec_l02Known [AV.sl (Tag.par [0]) 0 (Cont.b ks), AV.i IntKind.i64 0, AV.i IntKind.i64 1] (AV.i IntKind.i64 (knownM ks 0 1)))
              (T.ite (decide (knownM ks 0 1 < 0)) (T.leaf (AV.tup [AV.sl (Tag.own 0) 0 (Cont.f FloatKind.f32 []), AV.b false]))
                (T.ite (knFin xs ks)
                  (T.ob
                    (Exec (VCall P) ps_spec_FillGaps (VCode.block 0 (VCode.loop (b_spec_FillGaps_L0 g_spec_l02Known g_spec_l01Finite g_spec_l02List))) (h_spec_FillGaps_L0 xs ks 0) Ex.normal
                      (h_spec_FillGaps_L0 xs ks (↑(List.length xs) : Int)))
                    (T.ob
                      (Exec (VCall P) ps_spec_FillGaps (VCode.block 2 (VCode.loop (b_spec_FillGaps_L2 g_spec_l02Known g_spec_l01Finite g_spec_l02List))) (h_spec_FillGaps_L2 xs ks [] 0) Ex.normal
                        (h_spec_FillGaps_L2 xs ks (gapsM xs ks) (↑(List.length xs) : Int)))
                      (T.ob ((VCall P) g_spec_l02List [AV.sl (Tag.par [0]) 0 (Cont.f FloatKind.f32 (gapsM xs ks))] (AV.tup [AV.sl (Tag.par [0]) 0 (Cont.f FloatKind.f32 (ifAllM (gapsM xs ks))), AV.b (finAllM (gapsM xs ks))]))
                        (T.leaf (AV.tup [AV.sl (Tag.own 0) 0 (Cont.f FloatKind.f32 (ifAllM (gapsM xs ks))), AV.b (finAllM (gapsM xs ks))])))))
                  (T.ob
                    (Exec (VCall P) ps_spec_FillGaps (VCode.block 0 (VCode.loop (b_spec_FillGaps_L0 g_spec_l02Known g_spec_l01Finite g_spec_l02List))) (h_spec_FillGaps_L0 xs ks 0) Ex.ret
                      (anys 4 ++ AV.sl Tag.nil 0 (Cont.f FloatKind.f32 []) :: AV.b false :: anys 118))
                    (T.leaf (AV.tup [AV.sl (Tag.own 0) 0 (Cont.f FloatKind.f32 []), AV.b false])))))))))) :
    VCall P g_f [PS [0] .f32 xs, PB [1] ks] (.tup [OS 0 .f32 (if fgOk xs ks = true then gapsM xs ks else []), .b (fgOk xs ks)]) := h_.call_of ps_spec_FillGaps ⟨oc_spec_FillGaps xs ks, fun id σ => match id with | 0 => some (lv_spec_FillGaps_L0, .ite (knFin xs ks) (.leaf (.normal, h_spec_FillGaps_L0 xs ks xs.length)) (.leaf (.ret, anys 4 ++ .sl .nil 0 (.f .f32 []) :: .b false :: anys 118))) | 2 => some (lv_spec_FillGaps_L2, .leaf (.normal, h_spec_FillGaps_L2 xs ks (gapsM xs ks) xs.length)) | _ => none⟩ (by kernel_rfl) ht

-- END spec_FillGaps

-- FN laws_toBoolS
/-- laws.toBoolS: slots 22, results [.t 2]; calls []; names [(a, 0), (a, 1), (out, 3), (i, 4)] -/
def ps_laws_toBoolS : List Nat := [0, 2, 3, 4, 11]
def lv_laws_toBoolS_L0 : List Nat := [0, 3, 4]
def b_laws_toBoolS_L0 : VCode :=
  (.seq
   (.seq
    (.region false [
     ⟨some 8, .mv, [.t 4], none⟩,
     ⟨some 9, .mv, [.t 0], none⟩,
     ⟨some 10, .len, [.t 9], none⟩,
     ⟨some 11, (.bin .lss), [.t 8, .t 10], none⟩])
    (.cond (.t 11)
     .skip
     (.exit 0)))
   (.seq
    (.block 1
     (.region false [
      ⟨some 14, .mv, [.t 3], none⟩,
      ⟨some 15, .mv, [.t 4], none⟩,
      ⟨some 16, .mv, [.t 0], none⟩,
      ⟨some 17, .mv, [.t 4], none⟩,
      ⟨some 18, .iaddr, [.t 16, .t 17], none⟩,
      ⟨some 19, .load, [.t 18], none⟩,
      ⟨some 20, .iaddr, [.t 14, .t 15], none⟩,
      ⟨none, .store, [.t 20, .t 19], none⟩]))
    (.region false [
     ⟨some 12, .mv, [.t 4], none⟩,
     ⟨some 13, (.bin .add), [.t 12, .k (.i .i64 1)], none⟩,
     ⟨some 4, .mv, [.t 13], none⟩])))

def b_laws_toBoolS : VCode :=
  (.seq
   (.region false [
    ⟨some 2, (.nilsl (.b [])), [], none⟩])
   (.seq
    (.region false [
     ⟨some 5, .mv, [.t 0], none⟩,
     ⟨some 6, .len, [.t 5], none⟩,
     ⟨some 7, (.mksl (.b false)), [.t 6, .t 6], none⟩,
     ⟨some 3, .mv, [.t 7], none⟩])
    (.seq
     (.seq
      (.region false [
       ⟨some 4, .mv, [.k (.i .i64 0)], none⟩])
      (.block 0 (.loop b_laws_toBoolS_L0)))
     (.seq
      (.region false [
       ⟨some 21, .mv, [.t 3], none⟩,
       ⟨some 2, .mv, [.t 21], none⟩])
      .ret))))

abbrev Is_laws_toBoolS (P : Program) (g_f : FuncId) : Prop := FnIs P g_f 22 [.t 2] (b_laws_toBoolS)

abbrev C_laws_toBoolS (P : Program) (g_f : FuncId) : Prop := ∀ (xs : List Bool) (hx : xs.length ≤ 4294967296), VCall P g_f [PB [0] xs] (OB 0 xs)
def oc1_laws_toBoolS (as : List AV) : T AV := match as with | [.sl _ _ (.b xs)] => .leaf (OB 0 xs) | _ => .fail
def h_laws_toBoolS_L0 (xs : List Bool) (out : List Bool) (i : Int) : Env := [AV.sl (Tag.par [0]) 0 (Cont.b xs), .any, .any, .sl (Tag.own 56) 0 (.b out), .i IntKind.i64 i] ++ anys 17

theorem q_laws_toBoolS_L0 {VC : FuncId → List AV → AV → Prop} (xs : List Bool) (out : List Bool) (i : Int) {e_ : Ex} {σ_ : Env} (ht : T.ok (fun x_ => x_ = (e_, σ_)) (
      T.ite (decide (i < (↑(List.length xs) : Int)))
        (T.ob (0 ≤ i ∧ i < (↑(List.length xs) : Int))
          (T.ob (0 ≤ i ∧ i < (↑(List.length out) : Int))
            (T.ob (false = false) (T.leaf (Ex.normal, h_laws_toBoolS_L0 xs (List.set out (0 + Int.toNat i - 0) (List.getD xs (Int.toNat i) false)) (IntKind.wrap IntKind.i64 (i + 1)))))))
        (T.leaf (Ex.exit 0, h_laws_toBoolS_L0 xs out i)))) :
    Exec VC ps_laws_toBoolS (b_laws_toBoolS_L0) (h_laws_toBoolS_L0 xs out i) e_ σ_ := evL_of (lv := lv_laws_toBoolS_L0) (rs := [2]) (O := ⟨fun _ _ => .fail, fun _ _ => none⟩) (by kernel_rfl) ht

theorem q_laws_toBoolS {P : Program} {g_f : FuncId} (h_ : Is_laws_toBoolS P g_f) (xs : List Bool) (ht : T.ok (fun x_ => x_ = OB 0 xs) (
      T.ob ((↑(List.length xs) : Int) = (↑(List.length xs) : Int) ∧ 0 ≤ (↑(List.length xs) : Int) ∧ (↑(List.length xs) : Int) ≤ 4294967296)
        (T.ob
          (Exec (VCall P) ps_laws_toBoolS (VCode.block 0 (VCode.loop b_laws_toBoolS_L0)) (h_laws_toBoolS_L0 xs (List.replicate (Int.toNat (↑(List.length xs) : Int)) false) 0) Ex.normal
            (h_laws_toBoolS_L0 xs xs (↑(List.length xs) : Int)))
          (T.leaf (AV.sl (Tag.own 0) 0 (Cont.b xs)))))) :
    VCall P g_f [PB [0] xs] (OB 0 xs) := h_.call_of ps_laws_toBoolS ⟨fun _ _ => .fail, fun id σ => match id with | 0 => some (lv_laws_toBoolS_L0, .leaf (.normal, h_laws_toBoolS_L0 xs xs xs.length)) | _ => none⟩ (by kernel_rfl) ht

-- END laws_toBoolS

-- FN laws_eqBoolS
/-- laws.eqBoolS: slots 26, results [.t 4]; calls []; names [(a, 0), (b, 1), (a, 2), (b, 3), (i, 5)] -/
def ps_laws_eqBoolS : List Nat := [0, 1, 4, 5, 10, 14, 25]
def lv_laws_eqBoolS_L0 : List Nat := [0, 1, 5]
def b_laws_eqBoolS_L0 : VCode :=
  (.seq
   (.seq
    (.region false [
     ⟨some 11, .mv, [.t 5], none⟩,
     ⟨some 12, .mv, [.t 0], none⟩,
     ⟨some 13, .len, [.t 12], none⟩,
     ⟨some 14, (.bin .lss), [.t 11, .t 13], none⟩])
    (.cond (.t 14)
     .skip
     (.exit 0)))
   (.seq
    (.block 1
     (.seq
      (.region true [
       ⟨some 17, .mv, [.t 0], none⟩,
       ⟨some 18, .mv, [.t 5], none⟩,
       ⟨some 19, .iaddr, [.t 17, .t 18], none⟩,
       ⟨some 20, .load, [.t 19], none⟩,
       ⟨some 21, .mv, [.t 1], none⟩,
       ⟨some 22, .mv, [.t 5], none⟩,
       ⟨some 23, .iaddr, [.t 21, .t 22], none⟩,
       ⟨some 24, .load, [.t 23], none⟩,
       ⟨some 25, (.binb .neq), [.t 20, .t 24], none⟩])
      (.cond (.t 25)
       (.seq
        (.region false [
         ⟨some 4, .mv, [.k (.b false)], none⟩])
        .ret)
       .skip)))
    (.region false [
     ⟨some 15, .mv, [.t 5], none⟩,
     ⟨some 16, (.bin .add), [.t 15, .k (.i .i64 1)], none⟩,
     ⟨some 5, .mv, [.t 16], none⟩])))

def b_laws_eqBoolS : VCode :=
  (.seq
   (.region false [
    ⟨some 4, .mv, [.k (.b false)], none⟩])
   (.seq
    (.seq
     (.region false [
      ⟨some 6, .mv, [.t 0], none⟩,
      ⟨some 7, .len, [.t 6], none⟩,
      ⟨some 8, .mv, [.t 1], none⟩,
      ⟨some 9, .len, [.t 8], none⟩,
      ⟨some 10, (.bin .neq), [.t 7, .t 9], none⟩])
     (.cond (.t 10)
      (.seq
       (.region false [
        ⟨some 4, .mv, [.k (.b false)], none⟩])
       .ret)
      .skip))
    (.seq
     (.seq
      (.region false [
       ⟨some 5, .mv, [.k (.i .i64 0)], none⟩])
      (.block 0 (.loop b_laws_eqBoolS_L0)))
     (.seq
      (.region false [
       ⟨some 4, .mv, [.k (.b true)], none⟩])
      .ret))))

abbrev Is_laws_eqBoolS (P : Program) (g_f : FuncId) : Prop := FnIs P g_f 26 [.t 4] (b_laws_eqBoolS)

abbrev C_laws_eqBoolS (P : Program) (g_f : FuncId) : Prop := ∀ (xs : List Bool) (ys : List Bool) (he : ys = xs) (hx : xs.length ≤ 4294967296), VCall P g_f [PB [0] xs, PB [1] ys] (.b true)
def oc1_laws_eqBoolS (as : List AV) : T AV := match as with | [.sl _ _ (.b xs), .sl _ _ (.b ys)] => .leaf (.b true) | _ => .fail
def h_laws_eqBoolS_L0 (xs : List Bool) (ys : List Bool) (i : Int) : Env := [AV.sl (Tag.par [0]) 0 (Cont.b xs), AV.sl (Tag.par [1]) 0 (Cont.b ys), .any, .any, .any, .i IntKind.i64 i] ++ anys 20

theorem q_laws_eqBoolS_L0 {VC : FuncId → List AV → AV → Prop} (xs : List Bool) (ys : List Bool) (i : Int) {e_ : Ex} {σ_ : Env} (ht : T.ok (fun x_ => x_ = (e_, σ_)) (
      T.ite (decide (i < (↑(List.length xs) : Int)))
        (T.ob (0 ≤ i ∧ i < (↑(List.length xs) : Int))
          (T.ob (0 ≤ i ∧ i < (↑(List.length ys) : Int))
            (T.ite (!List.getD xs (Int.toNat i) false == List.getD ys (Int.toNat i) false) (T.leaf (Ex.ret, anys 4 ++ AV.b false :: anys 21)) (T.leaf (Ex.normal, h_laws_eqBoolS_L0 xs ys (IntKind.wrap IntKind.i64 (i + 1)))))))
        (T.leaf (Ex.exit 0, h_laws_eqBoolS_L0 xs ys i)))) :
    Exec VC ps_laws_eqBoolS (b_laws_eqBoolS_L0) (h_laws_eqBoolS_L0 xs ys i) e_ σ_ := evL_of (lv := lv_laws_eqBoolS_L0) (rs := [4]) (O := ⟨fun _ _ => .fail, fun _ _ => none⟩) (by kernel_rfl) ht

theorem q_laws_eqBoolS {P : Program} {g_f : FuncId} (h_ : Is_laws_eqBoolS P g_f) (xs : List Bool) (ys : List Bool) (ht : T.ok (fun x_ => x_ = .b true) (
      T.ite ((↑(List.length xs) : Int) != (↑(List.length ys) : Int)) (T.leaf (AV.b false))
        (T.ob (Exec (VCall P) ps_laws_eqBoolS (VCode.block 0 (VCode.loop b_laws_eqBoolS_L0)) (h_laws_eqBoolS_L0 xs ys 0) Ex.normal (h_laws_eqBoolS_L0 xs ys (↑(List.length xs) : Int))) (T.leaf (AV.b true))))) :
    VCall P g_f [PB [0] xs, PB [1] ys] (.b true) := h_.call_of ps_laws_eqBoolS ⟨fun _ _ => .fail, fun id σ => match id with | 0 => some (lv_laws_eqBoolS_L0, .leaf (.normal, h_laws_eqBoolS_L0 xs ys xs.length)) | _ => none⟩ (by kernel_rfl) ht

-- END laws_eqBoolS

theorem dn_spec (ks : List Bool) : ∀ n, (dnK ks n = -1 ∧ ∀ j, j ≤ n → ks.getD j false = false) ∨ ∃ m, m ≤ n ∧ dnK ks n = m ∧ ks.getD m false = true ∧ ∀ j, m < j → j ≤ n → ks.getD j false = false
  | 0 => by
    simp only [dnK]
    cases h : ks.getD 0 false with
    | false => left; exact ⟨by simp, fun j hj => by rw [show j = 0 by omega]; exact h⟩
    | true => right; exact ⟨0, Nat.le_refl _, by simp, h, fun j h1 h2 => by omega⟩
  | n + 1 => by
    simp only [dnK]
    cases h : ks.getD (n + 1) false with
    | true => right; exact ⟨n + 1, Nat.le_refl _, by simp, h, fun j h1 h2 => by omega⟩
    | false =>
      simp only [Bool.false_eq_true, if_false]
      rcases dn_spec ks n with ⟨h1, h2⟩ | ⟨m, h1, h2, h3, h4⟩
      · left
        refine ⟨h1, fun j hj => ?_⟩
        by_cases hj2 : j = n + 1
        · rw [hj2]; exact h
        · exact h2 j (by omega)
      · right
        refine ⟨m, by omega, h2, h3, fun j h5 h6 => ?_⟩
        by_cases hj2 : j = n + 1
        · rw [hj2]; exact h
        · exact h4 j h5 (by omega)
theorem getD_boolD (xs : List Bool) (k i : Nat) : (xs.drop k).getD i false = xs.getD (k + i) false := getD_drop' _ _ _ _
theorem up_spec (ks : List Bool) (n : Nat) (hn : n ≤ ks.length) : n ≤ upK ks n ∧ upK ks n ≤ ks.length ∧ (upK ks n < ks.length → ks.getD (upK ks n) false = true) ∧ ∀ j, n ≤ j → j < upK ks n → ks.getD j false = false := by
  have hl : (ks.drop n).length = ks.length - n := List.length_drop
  have h1 := List.findIdx_le_length (p := id) (xs := ks.drop n)
  unfold upK
  refine ⟨Nat.le_add_right _ _, by omega, fun h => ?_, fun j h2 h3 => ?_⟩
  · have := findIdx_is (p := id) (xs := ks.drop n) false (by omega)
    rw [getD_boolD] at this; exact this
  · have := findIdx_not (p := id) (xs := ks.drop n) (i := j - n) false (by omega) (by omega)
    rw [getD_boolD, show n + (j - n) = j by omega] at this; exact this
theorem k_slices_Index___bool_bool_ {P : Program} {f : FuncId} (h : Is_slices_Index___bool_bool_ P f) : C_slices_Index___bool_bool_ P f := by
  intro xs v hx
  have hm := ml64 hx
  have step : ∀ i, i < xs.length → (v == xs.getD i false) = false → Exec (VCall P) ps_slices_Index___bool_bool_ b_slices_Index___bool_bool__L0 (h_slices_Index___bool_bool__L0 xs v i) .normal (h_slices_Index___bool_bool__L0 xs v (i + 1 : Nat)) := by
    intro i hi hp
    refine q_slices_Index___bool_bool__L0 _ _ _ ⟨fun _ => ⟨by omega, fun _ => ⟨fun h => ?_, fun _ => ?_⟩⟩, fun h => absurd (of_decide_eq_false h) (by omega)⟩
    · rw [getD_nat, hp] at h; cases h
    · show _ = _
      rw [wrap64_id (by omega) (by omega)]; rfl
  refine q_slices_Index___bool_bool_ h xs v ⟨fun hlt => ⟨?_, fun _ => ?_⟩, fun hge => ⟨?_, fun _ => ?_⟩⟩
  · have hlt := of_decide_eq_true hlt
    refine for_up (e := .ret) (xs.findIdx fun x => v == x) (fun i => h_slices_Index___bool_bool__L0 xs v i) rfl (fun i hi => step i (by omega) (findIdx_not (p := fun x => v == x) false hi (by omega))) ?_
    refine q_slices_Index___bool_bool__L0 _ _ _ ⟨fun _ => ⟨by omega, fun _ => ⟨fun _ => rfl, fun h => ?_⟩⟩, fun h => absurd (of_decide_eq_false h) (by omega)⟩
    have := findIdx_is false hlt
    rw [getD_nat, this] at h; cases h
  · have hlt := of_decide_eq_true hlt
    show _ = _
    simp [idxM, hlt]
  · have hge := of_decide_eq_false hge
    have he := findIdx_eq hge
    refine for_up (e := .exit 0) xs.length (fun i => h_slices_Index___bool_bool__L0 xs v i) rfl (fun i hi => step i hi (findIdx_not (p := fun x => v == x) false (by omega) hi)) ?_
    exact q_slices_Index___bool_bool__L0 _ _ _ ⟨fun h => absurd h (by simp), fun _ => rfl⟩
  · have hge := of_decide_eq_false hge
    show _ = _
    simp [idxM, hge]
theorem k_slices_Contains___bool_bool_ {P : Program} {f g : FuncId} (h : Is_slices_Contains___bool_bool_ P f g) (hg : C_slices_Index___bool_bool_ P g) : C_slices_Contains___bool_bool_ P f := by
  intro xs v hx
  refine q_slices_Contains___bool_bool_ h xs v ⟨hg xs v hx, fun _ => ?_⟩
  show _ = _
  rw [idx_any]
theorem k_spec_l02Known {P : Program} {f : FuncId} (h : Is_spec_l02Known P f) : C_spec_l02Known P f := by
  intro ks n d hd hn hx
  obtain ⟨m, rfl⟩ : ∃ m : Nat, n = m := ⟨n.toNat, by omega⟩
  refine q_spec_l02Known h ks _ d ?_
  rw [Int.toNat_natCast]
  rcases hd with rfl | rfl
  · obtain ⟨u1, u2, u3, u4⟩ := up_spec ks m (by omega)
    have go : ∀ j, j < upK ks m - m → Exec (VCall P) ps_spec_l02Known b_spec_l02Known_L0 (h_spec_l02Known_L0 ks m 1 (m + j : Nat)) .normal (h_spec_l02Known_L0 ks m 1 (m + (j + 1) : Nat)) := by
      intro j hj
      refine q_spec_l02Known_L0 _ _ _ _ ?_
      have := u4 (m + j) (by omega) (by omega)
      rw [Int.toNat_natCast, this]
      repeat' (first | with_reducible refine T.ok_ob ?_ (fun _ => ?_) | with_reducible refine T.ok_ite (fun _ => ?_) (fun _ => ?_) | with_reducible refine T.ok_leaf ?_)
      all_goals (try simp only [decide_eq_true_eq, decide_eq_false_iff_not, Bool.not_eq_true', Bool.not_eq_false', Bool.not_eq_eq_eq_not, Bool.not_true, Bool.not_false, Int.toNat_natCast, tab_len, List.length_append, List.length_singleton, List.length_cons, List.length_nil, List.length_drop, List.length_take, getD_drop', getD_nat, reduceCtorEq] at *)
      all_goals (try simp (disch := omega) only [wrap64_id] at *)
      all_goals first | omega | (exfalso; omega) | exact True.intro | skip
      all_goals rfl
    have ek : knownM ks m 1 = if upK ks m < ks.length then (upK ks m : Int) else -1 := by unfold knownM; rw [if_pos rfl]
    rw [ek, if_pos rfl]
    refine ⟨fun h1 => ⟨?_, fun _ => ?_⟩, fun h1 => ⟨?_, fun _ => rfl⟩⟩
    · have h1 := of_decide_eq_true h1
      have hu : ¬ (upK ks m < ks.length) := by intro h; rw [if_pos h] at h1; omega
      refine for_up (e := .exit 0) (upK ks m - m) (fun j => h_spec_l02Known_L0 ks m 1 (m + j : Nat)) rfl (fun j hj => go j hj) ?_
      refine q_spec_l02Known_L0 _ _ _ _ ?_
      rw [show m + (upK ks m - m) = ks.length by omega]
      repeat' (first | with_reducible refine T.ok_ob ?_ (fun _ => ?_) | with_reducible refine T.ok_ite (fun _ => ?_) (fun _ => ?_) | with_reducible refine T.ok_leaf ?_)
      all_goals (try simp only [decide_eq_true_eq, decide_eq_false_iff_not, Bool.not_eq_true', Bool.not_eq_false', Bool.not_eq_eq_eq_not, Bool.not_true, Bool.not_false, Int.toNat_natCast, tab_len, List.length_append, List.length_singleton, List.length_cons, List.length_nil, List.length_drop, List.length_take, getD_drop', getD_nat, reduceCtorEq] at *)
      all_goals (try simp (disch := omega) only [wrap64_id] at *)
      all_goals first | omega | (exfalso; omega) | exact True.intro | skip
      all_goals rfl
    · have h1 := of_decide_eq_true h1
      have hu : ¬ (upK ks m < ks.length) := by intro h; rw [if_pos h] at h1; omega
      show _ = _
      rw [if_neg hu]
    · have h1 := of_decide_eq_false h1
      have hu : upK ks m < ks.length := by
        apply Decidable.byContradiction; intro h; rw [if_neg h] at h1; omega
      refine for_up (e := .ret) (upK ks m - m) (fun j => h_spec_l02Known_L0 ks m 1 (m + j : Nat)) rfl (fun j hj => go j hj) ?_
      refine q_spec_l02Known_L0 _ _ _ _ ?_
      rw [show m + (upK ks m - m) = upK ks m by omega, Int.toNat_natCast, u3 hu, if_pos hu]
      repeat' (first | with_reducible refine T.ok_ob ?_ (fun _ => ?_) | with_reducible refine T.ok_ite (fun _ => ?_) (fun _ => ?_) | with_reducible refine T.ok_leaf ?_)
      all_goals (try simp only [decide_eq_true_eq, decide_eq_false_iff_not, Bool.not_eq_true', Bool.not_eq_false', Bool.not_eq_eq_eq_not, Bool.not_true, Bool.not_false, Int.toNat_natCast, tab_len, List.length_append, List.length_singleton, List.length_cons, List.length_nil, List.length_drop, List.length_take, getD_drop', getD_nat, reduceCtorEq] at *)
      all_goals (try simp (disch := omega) only [wrap64_id] at *)
      all_goals first | omega | (exfalso; omega) | exact True.intro | skip
      all_goals rfl
  · have ek : knownM ks m (-1) = dnK ks m := by unfold knownM; rw [if_neg (by omega)]
    rw [ek, if_neg (by omega)]
    rcases dn_spec ks m with ⟨h1, h2⟩ | ⟨k, h1, h2, h3, h4⟩
    · rw [h1]
      refine ⟨fun _ => ⟨?_, fun _ => rfl⟩, fun h => absurd (of_decide_eq_false h) (by omega)⟩
      refine for_up (e := .exit 0) (m + 1) (fun j => h_spec_l02Known_L0 ks m (-1) (m - j)) (by simp) (fun j hj => ?_) ?_
      · refine q_spec_l02Known_L0 _ _ _ _ ?_
        have := h2 (m - j) (by omega)
        rw [show (m : Int) - j = (m - j : Nat) by omega, Int.toNat_natCast, this]
        repeat' (first | with_reducible refine T.ok_ob ?_ (fun _ => ?_) | with_reducible refine T.ok_ite (fun _ => ?_) (fun _ => ?_) | with_reducible refine T.ok_leaf ?_)
        all_goals (try simp only [decide_eq_true_eq, decide_eq_false_iff_not, Bool.not_eq_true', Bool.not_eq_false', Bool.not_eq_eq_eq_not, Bool.not_true, Bool.not_false, Int.toNat_natCast, tab_len, List.length_append, List.length_singleton, List.length_cons, List.length_nil, List.length_drop, List.length_take, getD_drop', getD_nat, reduceCtorEq] at *)
        all_goals (try simp (disch := omega) only [wrap64_id] at *)
        all_goals first | omega | (exfalso; omega) | exact True.intro | skip
        all_goals (rw [show ((m - j : Nat) : Int) + -1 = m - (j + 1 : Nat) by omega])
      · refine q_spec_l02Known_L0 _ _ _ _ ?_
        rw [show (m : Int) - (m + 1 : Nat) = -1 by omega]
        repeat' (first | with_reducible refine T.ok_ob ?_ (fun _ => ?_) | with_reducible refine T.ok_ite (fun _ => ?_) (fun _ => ?_) | with_reducible refine T.ok_leaf ?_)
        all_goals (try simp only [decide_eq_true_eq, decide_eq_false_iff_not, Bool.not_eq_true', Bool.not_eq_false', Bool.not_eq_eq_eq_not, Bool.not_true, Bool.not_false, Int.toNat_natCast, tab_len, List.length_append, List.length_singleton, List.length_cons, List.length_nil, List.length_drop, List.length_take, getD_drop', getD_nat, reduceCtorEq] at *)
        all_goals (try simp (disch := omega) only [wrap64_id] at *)
        all_goals first | omega | (exfalso; omega) | exact True.intro | skip
        all_goals rfl
    · rw [h2]
      refine ⟨fun h => absurd (of_decide_eq_true h) (by omega), fun _ => ⟨?_, fun _ => rfl⟩⟩
      refine for_up (e := .ret) (m - k) (fun j => h_spec_l02Known_L0 ks m (-1) (m - j)) (by simp) (fun j hj => ?_) ?_
      · refine q_spec_l02Known_L0 _ _ _ _ ?_
        have := h4 (m - j) (by omega) (by omega)
        rw [show (m : Int) - j = (m - j : Nat) by omega, Int.toNat_natCast, this]
        repeat' (first | with_reducible refine T.ok_ob ?_ (fun _ => ?_) | with_reducible refine T.ok_ite (fun _ => ?_) (fun _ => ?_) | with_reducible refine T.ok_leaf ?_)
        all_goals (try simp only [decide_eq_true_eq, decide_eq_false_iff_not, Bool.not_eq_true', Bool.not_eq_false', Bool.not_eq_eq_eq_not, Bool.not_true, Bool.not_false, Int.toNat_natCast, tab_len, List.length_append, List.length_singleton, List.length_cons, List.length_nil, List.length_drop, List.length_take, getD_drop', getD_nat, reduceCtorEq] at *)
        all_goals (try simp (disch := omega) only [wrap64_id] at *)
        all_goals first | omega | (exfalso; omega) | exact True.intro | skip
        all_goals (rw [show ((m - j : Nat) : Int) + -1 = m - (j + 1 : Nat) by omega])
      · refine q_spec_l02Known_L0 _ _ _ _ ?_
        rw [show (m : Int) - (m - k : Nat) = k by omega, Int.toNat_natCast, h3]
        repeat' (first | with_reducible refine T.ok_ob ?_ (fun _ => ?_) | with_reducible refine T.ok_ite (fun _ => ?_) (fun _ => ?_) | with_reducible refine T.ok_leaf ?_)
        all_goals (try simp only [decide_eq_true_eq, decide_eq_false_iff_not, Bool.not_eq_true', Bool.not_eq_false', Bool.not_eq_eq_eq_not, Bool.not_true, Bool.not_false, Int.toNat_natCast, tab_len, List.length_append, List.length_singleton, List.length_cons, List.length_nil, List.length_drop, List.length_take, getD_drop', getD_nat, reduceCtorEq] at *)
        all_goals (try simp (disch := omega) only [wrap64_id] at *)
        all_goals first | omega | (exfalso; omega) | exact True.intro | skip
        all_goals rfl
theorem gaps_len (xs : List Nat) (ks : List Bool) : (gapsM xs ks).length = xs.length := tab_len _ _
theorem any_up (ks : List Bool) : (ks.any fun x => true == x) = decide (upK ks 0 < ks.length) := by
  have h := any_findIdx (p := fun x => true == x) (xs := ks)
  rw [h]
  have e : (fun x => true == x) = (id : Bool → Bool) := by funext x; cases x <;> rfl
  unfold upK
  rw [e, List.drop_zero, Nat.zero_add]
theorem k_laws_toBoolS {P : Program} {f : FuncId} (h : Is_laws_toBoolS P f) : C_laws_toBoolS P f := by
  intro xs hx
  refine q_laws_toBoolS h xs ⟨⟨rfl, by omega, by omega⟩, fun _ => ⟨?_, fun _ => rfl⟩⟩
  refine for_up (e := .exit 0) xs.length (fun i => h_laws_toBoolS_L0 xs (xs.take i ++ List.replicate (xs.length - i) false) i) (by simp) (fun i hi => ?_) ?_
  · refine q_laws_toBoolS_L0 _ _ _ ⟨fun _ => ⟨by omega, fun _ => ⟨by simp; omega, fun _ => ⟨rfl, fun _ => ?_⟩⟩⟩, fun h => absurd h (by simp; omega)⟩
    show _ = _
    rw [wrap64_id (by omega) (by omega), replicate_next _ _ _ hi]
    simp only [Int.toNat_natCast, Nat.zero_add, Nat.sub_zero, take_set_next xs i false hi]
    rfl
  · exact q_laws_toBoolS_L0 _ _ _ ⟨fun h => absurd h (by simp), fun _ => by simp [T.ok]⟩
theorem k_laws_eqBoolS {P : Program} {f : FuncId} (h : Is_laws_eqBoolS P f) : C_laws_eqBoolS P f := by
  rintro xs ys rfl hx
  refine q_laws_eqBoolS h _ _ ⟨fun h => absurd h (by simp), fun _ => ⟨?_, fun _ => rfl⟩⟩
  refine for_up (e := .exit 0) ys.length (fun i => h_laws_eqBoolS_L0 ys ys i) rfl (fun i hi => ?_) ?_
  · refine q_laws_eqBoolS_L0 _ _ _ ?_
    repeat' (first | with_reducible refine T.ok_ob ?_ (fun _ => ?_) | with_reducible refine T.ok_ite (fun _ => ?_) (fun _ => ?_) | with_reducible refine T.ok_leaf ?_)
    all_goals (try simp only [decide_eq_true_eq, decide_eq_false_iff_not, Bool.not_eq_true', Bool.not_eq_false', Bool.not_eq_eq_eq_not, Bool.not_true, Bool.not_false, Int.toNat_natCast, tab_len, List.length_append, List.length_singleton, List.length_cons, List.length_nil, List.length_drop, List.length_take, getD_drop', getD_nat, reduceCtorEq] at *)
    all_goals (try simp (disch := omega) only [wrap64_id] at *)
    all_goals first | omega | (exfalso; omega) | trivial | contradiction | (exfalso; simp_all; done) | skip
    all_goals rfl
  · refine q_laws_eqBoolS_L0 _ _ _ ?_
    repeat' (first | with_reducible refine T.ok_ob ?_ (fun _ => ?_) | with_reducible refine T.ok_ite (fun _ => ?_) (fun _ => ?_) | with_reducible refine T.ok_leaf ?_)
    all_goals (try simp only [decide_eq_true_eq, decide_eq_false_iff_not, Bool.not_eq_true', Bool.not_eq_false', Bool.not_eq_eq_eq_not, Bool.not_true, Bool.not_false, Int.toNat_natCast, tab_len, List.length_append, List.length_singleton, List.length_cons, List.length_nil, List.length_drop, List.length_take, getD_drop', getD_nat, reduceCtorEq] at *)
    all_goals (try simp (disch := omega) only [wrap64_id] at *)
    all_goals first | omega | (exfalso; omega) | trivial | contradiction | (exfalso; simp_all; done) | skip
    all_goals rfl

theorem fg_else {xs : List Nat} {ks : List Bool} (h : (decide (1 ≤ xs.length) && (decide (xs.length ≤ 96) && (decide (ks.length = xs.length) && ks.any (fun x => true == x)))) = false) : fgOk xs ks = false := by
  unfold fgOk
  revert h
  cases decide (1 ≤ xs.length) <;> cases decide (xs.length ≤ 96) <;> cases decide (ks.length = xs.length) <;> cases ks.any (fun x => true == x) <;> simp
theorem fg_then {xs : List Nat} {ks : List Bool} (h1 : 1 ≤ xs.length) (h2 : xs.length ≤ 96) (h3 : ks.length = xs.length) (h4 : ks.any (fun x => true == x) = true) : fgOk xs ks = (knFin xs ks && finAllM (gapsM xs ks)) := by
  unfold fgOk; rw [decide_eq_true h1, decide_eq_true h2, decide_eq_true h3, h4]; rfl
theorem up_lt_of {ks : List Bool} (h : upK ks 0 < ks.length) {n : Nat} (hn : n < ks.length) (hd : ∀ j, j ≤ n → ks.getD j false = false) : upK ks n < ks.length := by
  obtain ⟨u1, u2, u3, u4⟩ := up_spec ks n (by omega)
  obtain ⟨v1, v2, v3, v4⟩ := up_spec ks 0 (by omega)
  apply Decidable.byContradiction
  intro hc
  have ht := v3 h
  by_cases hle : upK ks 0 ≤ n
  · rw [hd _ hle] at ht; cases ht
  · rw [u4 (upK ks 0) (by omega) (by omega)] at ht; cases ht
theorem k_impl_FillGaps {P : Program} {f g1 g2 g3 : FuncId} (h : Is_impl_FillGaps P f g1 g2 g3) (c1 : C_slices_Contains___bool_bool_ P g1) (c2 : C_impl_IsFinite P g2) (c3 : C_impl_ifAll P g3) : C_impl_FillGaps P f := by
  intro xs ks hx hy
  refine q_impl_FillGaps h xs ks ?_
  have a1 := c1 ks true hy
  have a3 := c3 (gapsM xs ks) (by rw [gaps_len]; exact hx)
  by_cases h1 : 1 ≤ xs.length
  case neg =>
    rw [fg_else (by rw [decide_eq_false h1]; rfl)]
    repeat' (first | with_reducible refine T.ok_ob ?_ (fun _ => ?_) | with_reducible refine T.ok_ite (fun _ => ?_) (fun _ => ?_) | with_reducible refine T.ok_leaf ?_)
    all_goals (try simp only [decide_eq_true_eq, decide_eq_false_iff_not, Bool.not_eq_true', Bool.not_eq_false', Bool.not_eq_eq_eq_not, Bool.not_true, Bool.not_false, Int.toNat_natCast, tab_len, List.length_append, List.length_singleton, List.length_cons, List.length_nil, List.length_drop, List.length_take, getD_drop', getD_nat, reduceCtorEq] at *)
    all_goals (try simp (disch := omega) only [wrap64_id] at *)
    all_goals first | omega | (exfalso; omega) | exact True.intro | skip
    all_goals rfl
  by_cases h2 : xs.length ≤ 96
  case neg =>
    rw [fg_else (by rw [decide_eq_false h2]; simp)]
    repeat' (first | with_reducible refine T.ok_ob ?_ (fun _ => ?_) | with_reducible refine T.ok_ite (fun _ => ?_) (fun _ => ?_) | with_reducible refine T.ok_leaf ?_)
    all_goals (try simp only [decide_eq_true_eq, decide_eq_false_iff_not, Bool.not_eq_true', Bool.not_eq_false', Bool.not_eq_eq_eq_not, Bool.not_true, Bool.not_false, Int.toNat_natCast, tab_len, List.length_append, List.length_singleton, List.length_cons, List.length_nil, List.length_drop, List.length_take, getD_drop', getD_nat, reduceCtorEq] at *)
    all_goals (try simp (disch := omega) only [wrap64_id] at *)
    all_goals first | omega | (exfalso; omega) | exact True.intro | skip
    all_goals rfl
  by_cases h3 : ks.length = xs.length
  case neg =>
    rw [fg_else (by rw [decide_eq_false h3]; simp)]
    have e : ((ks.length : Int) != (xs.length : Int)) = true := by simp; omega
    rw [e]
    repeat' (first | with_reducible refine T.ok_ob ?_ (fun _ => ?_) | with_reducible refine T.ok_ite (fun _ => ?_) (fun _ => ?_) | with_reducible refine T.ok_leaf ?_)
    all_goals (try simp only [decide_eq_true_eq, decide_eq_false_iff_not, Bool.not_eq_true', Bool.not_eq_false', Bool.not_eq_eq_eq_not, Bool.not_true, Bool.not_false, Int.toNat_natCast, tab_len, List.length_append, List.length_singleton, List.length_cons, List.length_nil, List.length_drop, List.length_take, getD_drop', getD_nat, reduceCtorEq] at *)
    all_goals (try simp (disch := omega) only [wrap64_id] at *)
    all_goals first | omega | (exfalso; omega) | exact True.intro | skip
    all_goals rfl
  have e : ((ks.length : Int) != (xs.length : Int)) = false := by simp; omega
  rw [e]
  cases h4 : (ks.any fun x => true == x) <;> rw [h4] at a1
  · rw [fg_else (by rw [h4]; simp)]
    repeat' (first | with_reducible refine T.ok_ob ?_ (fun _ => ?_) | with_reducible refine T.ok_ite (fun _ => ?_) (fun _ => ?_) | with_reducible refine T.ok_leaf ?_)
    all_goals (try simp only [decide_eq_true_eq, decide_eq_false_iff_not, Bool.not_eq_true', Bool.not_eq_false', Bool.not_eq_eq_eq_not, Bool.not_true, Bool.not_false, Int.toNat_natCast, tab_len, List.length_append, List.length_singleton, List.length_cons, List.length_nil, List.length_drop, List.length_take, getD_drop', getD_nat, reduceCtorEq] at *)
    all_goals (try simp (disch := omega) only [wrap64_id] at *)
    all_goals first | omega | (exfalso; omega) | exact True.intro | skip
    all_goals first | exact a1 | rfl
  rw [fg_then h1 h2 h3 h4]
  have hu0 : upK ks 0 < ks.length := by rw [any_up] at h4; exact of_decide_eq_true h4
  have go : ∀ i, i < xs.length → (!(ks.getD i false && !finM (xs.getD i 0))) = true → Exec (VCall P) ps_impl_FillGaps (b_impl_FillGaps_L0 g1 g2 g3) (h_impl_FillGaps_L0 xs ks (i : Nat)) .normal (h_impl_FillGaps_L0 xs ks (i + 1 : Nat)) := by
    intro i hi hc
    refine q_impl_FillGaps_L0 _ _ _ ?_
    have b2 := c2 (xs.getD i 0)
    rw [Int.toNat_natCast]
    revert hc
    cases hk : ks.getD i false <;> cases hf : finM (xs.getD i 0) <;> intro hc <;> rw [hf] at b2
    · repeat' (first | with_reducible refine T.ok_ob ?_ (fun _ => ?_) | with_reducible refine T.ok_ite (fun _ => ?_) (fun _ => ?_) | with_reducible refine T.ok_leaf ?_)
      all_goals (try simp only [decide_eq_true_eq, decide_eq_false_iff_not, Bool.not_eq_true', Bool.not_eq_false', Bool.not_eq_eq_eq_not, Bool.not_true, Bool.not_false, Int.toNat_natCast, tab_len, List.length_append, List.length_singleton, List.length_cons, List.length_nil, List.length_drop, List.length_take, getD_drop', getD_nat, reduceCtorEq] at *)
      all_goals (try simp (disch := omega) only [wrap64_id] at *)
      all_goals first | omega | (exfalso; omega) | exact True.intro | skip
      all_goals rfl
    · repeat' (first | with_reducible refine T.ok_ob ?_ (fun _ => ?_) | with_reducible refine T.ok_ite (fun _ => ?_) (fun _ => ?_) | with_reducible refine T.ok_leaf ?_)
      all_goals (try simp only [decide_eq_true_eq, decide_eq_false_iff_not, Bool.not_eq_true', Bool.not_eq_false', Bool.not_eq_eq_eq_not, Bool.not_true, Bool.not_false, Int.toNat_natCast, tab_len, List.length_append, List.length_singleton, List.length_cons, List.length_nil, List.length_drop, List.length_take, getD_drop', getD_nat, reduceCtorEq] at *)
      all_goals (try simp (disch := omega) only [wrap64_id] at *)
      all_goals first | omega | (exfalso; omega) | exact True.intro | skip
      all_goals rfl
    · cases hc
    · repeat' (first | with_reducible refine T.ok_ob ?_ (fun _ => ?_) | with_reducible refine T.ok_ite (fun _ => ?_) (fun _ => ?_) | with_reducible refine T.ok_leaf ?_)
      all_goals (try simp only [decide_eq_true_eq, decide_eq_false_iff_not, Bool.not_eq_true', Bool.not_eq_false', Bool.not_eq_eq_eq_not, Bool.not_true, Bool.not_false, Int.toNat_natCast, tab_len, List.length_append, List.length_singleton, List.length_cons, List.length_nil, List.length_drop, List.length_take, getD_drop', getD_nat, reduceCtorEq] at *)
      all_goals (try simp (disch := omega) only [wrap64_id] at *)
      all_goals first | omega | (exfalso; omega) | exact True.intro | skip
      all_goals first | exact b2 | rfl
  have key : ∀ n, n < xs.length → Exec (VCall P) ps_impl_FillGaps (b_impl_FillGaps_L2 g1 g2 g3) (h_impl_FillGaps_L2 xs ks (tab n (gapM xs ks)) (n : Nat)) .normal (h_impl_FillGaps_L2 xs ks (tab (n + 1) (gapM xs ks)) (n + 1 : Nat)) := by
    intro n hn
    obtain ⟨u1, u2, u3, u4⟩ := up_spec ks n (by omega)
    refine q_impl_FillGaps_L2 _ _ _ _ ?_
    rw [Int.toNat_natCast, tab_succ]
    have el : (tab n (gapM xs ks)).length = n := tab_len _ _
    generalize hO : tab n (gapM xs ks) = O at *
    have l6 : Exec (VCall P) ps_impl_FillGaps (.block 6 (.loop (b_impl_FillGaps_L6 g1 g2 g3))) (h_impl_FillGaps_L6 xs ks O n n) .normal (h_impl_FillGaps_L6 xs ks O n (upK ks n)) := by
      refine for_up (e := .exit 6) (upK ks n - n) (fun j => h_impl_FillGaps_L6 xs ks O n (n + j : Nat)) rfl (fun j hj => ?_) ?_
      · refine q_impl_FillGaps_L6 _ _ _ _ _ ?_
        rw [Int.toNat_natCast, u4 (n + j) (by omega) (by omega)]
        repeat' (first | with_reducible refine T.ok_ob ?_ (fun _ => ?_) | with_reducible refine T.ok_ite (fun _ => ?_) (fun _ => ?_) | with_reducible refine T.ok_leaf ?_)
        all_goals (try simp only [decide_eq_true_eq, decide_eq_false_iff_not, Bool.not_eq_true', Bool.not_eq_false', Bool.not_eq_eq_eq_not, Bool.not_true, Bool.not_false, Int.toNat_natCast, tab_len, List.length_append, List.length_singleton, List.length_cons, List.length_nil, List.length_drop, List.length_take, getD_drop', getD_nat, reduceCtorEq] at *)
        all_goals (try simp (disch := omega) only [wrap64_id] at *)
        all_goals first | omega | (exfalso; omega) | exact True.intro | skip
        all_goals rfl
      · refine q_impl_FillGaps_L6 _ _ _ _ _ ?_
        rw [show n + (upK ks n - n) = upK ks n by omega, Int.toNat_natCast]
        by_cases hlt : upK ks n < ks.length
        · rw [u3 hlt]
          repeat' (first | with_reducible refine T.ok_ob ?_ (fun _ => ?_) | with_reducible refine T.ok_ite (fun _ => ?_) (fun _ => ?_) | with_reducible refine T.ok_leaf ?_)
          all_goals (try simp only [decide_eq_true_eq, decide_eq_false_iff_not, Bool.not_eq_true', Bool.not_eq_false', Bool.not_eq_eq_eq_not, Bool.not_true, Bool.not_false, Int.toNat_natCast, tab_len, List.length_append, List.length_singleton, List.length_cons, List.length_nil, List.length_drop, List.length_take, getD_drop', getD_nat, reduceCtorEq] at *)
          all_goals (try simp (disch := omega) only [wrap64_id] at *)
          all_goals first | omega | (exfalso; omega) | exact True.intro | skip
          all_goals rfl
        · repeat' (first | with_reducible refine T.ok_ob ?_ (fun _ => ?_) | with_reducible refine T.ok_ite (fun _ => ?_) (fun _ => ?_) | with_reducible refine T.ok_leaf ?_)
          all_goals (try simp only [decide_eq_true_eq, decide_eq_false_iff_not, Bool.not_eq_true', Bool.not_eq_false', Bool.not_eq_eq_eq_not, Bool.not_true, Bool.not_false, Int.toNat_natCast, tab_len, List.length_append, List.length_singleton, List.length_cons, List.length_nil, List.length_drop, List.length_take, getD_drop', getD_nat, reduceCtorEq] at *)
          all_goals (try simp (disch := omega) only [wrap64_id] at *)
          all_goals first | omega | (exfalso; omega) | exact True.intro | skip
          all_goals rfl
    have l6' : Exec (VCall P) ps_impl_FillGaps (.block 6 (.loop (b_impl_FillGaps_L6 g1 g2 g3))) (h_impl_FillGaps_L4 xs ks O n (dnK ks n)) .normal (h_impl_FillGaps_L6 xs ks O n (upK ks n)) := l6
    cases hk : ks.getD n false
    · rcases dn_spec ks n with ⟨d1, d2⟩ | ⟨m, d1, d2, d3, d4⟩
      · have hlt := up_lt_of hu0 (show n < ks.length by omega) d2
        have l4 : Exec (VCall P) ps_impl_FillGaps (.block 4 (.loop (b_impl_FillGaps_L4 g1 g2 g3))) (h_impl_FillGaps_L4 xs ks O n n) .normal (h_impl_FillGaps_L4 xs ks O n (-1)) := by
          refine for_up (e := .exit 4) (n + 1) (fun j => h_impl_FillGaps_L4 xs ks O n (n - j)) (by simp) (fun j hj => ?_) ?_
          · refine q_impl_FillGaps_L4 _ _ _ _ _ ?_
            have := d2 (n - j) (by omega)
            rw [show (n : Int) - j = (n - j : Nat) by omega, Int.toNat_natCast, this]
            repeat' (first | with_reducible refine T.ok_ob ?_ (fun _ => ?_) | with_reducible refine T.ok_ite (fun _ => ?_) (fun _ => ?_) | with_reducible refine T.ok_leaf ?_)
            all_goals (try simp only [decide_eq_true_eq, decide_eq_false_iff_not, Bool.not_eq_true', Bool.not_eq_false', Bool.not_eq_eq_eq_not, Bool.not_true, Bool.not_false, Int.toNat_natCast, tab_len, List.length_append, List.length_singleton, List.length_cons, List.length_nil, List.length_drop, List.length_take, getD_drop', getD_nat, reduceCtorEq] at *)
            all_goals (try simp (disch := omega) only [wrap64_id] at *)
            all_goals first | omega | (exfalso; omega) | exact True.intro | skip
            all_goals (rw [show ((n - j : Nat) : Int) - 1 = n - (j + 1 : Nat) by omega])
          · refine q_impl_FillGaps_L4 _ _ _ _ _ ?_
            rw [show (n : Int) - (n + 1 : Nat) = -1 by omega]
            repeat' (first | with_reducible refine T.ok_ob ?_ (fun _ => ?_) | with_reducible refine T.ok_ite (fun _ => ?_) (fun _ => ?_) | with_reducible refine T.ok_leaf ?_)
            all_goals (try simp only [decide_eq_true_eq, decide_eq_false_iff_not, Bool.not_eq_true', Bool.not_eq_false', Bool.not_eq_eq_eq_not, Bool.not_true, Bool.not_false, Int.toNat_natCast, tab_len, List.length_append, List.length_singleton, List.length_cons, List.length_nil, List.length_drop, List.length_take, getD_drop', getD_nat, reduceCtorEq] at *)
            all_goals (try simp (disch := omega) only [wrap64_id] at *)
            all_goals first | omega | (exfalso; omega) | exact True.intro | skip
            all_goals rfl
        have eg : gapM xs ks n = xs.getD (upK ks n) 0 := by
          unfold gapM
          rw [hk, d1]; simp
        rw [d1] at l6'
        rw [d1, eg]
        repeat' (first | with_reducible refine T.ok_ob ?_ (fun _ => ?_) | with_reducible refine T.ok_ite (fun _ => ?_) (fun _ => ?_) | with_reducible refine T.ok_leaf ?_)
        all_goals (try simp only [decide_eq_true_eq, decide_eq_false_iff_not, Bool.not_eq_true', Bool.not_eq_false', Bool.not_eq_eq_eq_not, Bool.not_true, Bool.not_false, Int.toNat_natCast, tab_len, List.length_append, List.length_singleton, List.length_cons, List.length_nil, List.length_drop, List.length_take, getD_drop', getD_nat, reduceCtorEq] at *)
        all_goals (try simp (disch := omega) only [wrap64_id] at *)
        all_goals first | omega | (exfalso; omega) | exact True.intro | skip
        all_goals first | exact l4 | exact l6' | rfl
      · have hmn : m < n := by
          rcases Nat.lt_or_eq_of_le d1 with h | rfl
          · exact h
          · rw [hk] at d3; cases d3
        have l4 : Exec (VCall P) ps_impl_FillGaps (.block 4 (.loop (b_impl_FillGaps_L4 g1 g2 g3))) (h_impl_FillGaps_L4 xs ks O n n) .normal (h_impl_FillGaps_L4 xs ks O n m) := by
          refine for_up (e := .exit 4) (n - m) (fun j => h_impl_FillGaps_L4 xs ks O n (n - j)) (by simp) (fun j hj => ?_) ?_
          · refine q_impl_FillGaps_L4 _ _ _ _ _ ?_
            have := d4 (n - j) (by omega) (by omega)
            rw [show (n : Int) - j = (n - j : Nat) by omega, Int.toNat_natCast, this]
            repeat' (first | with_reducible refine T.ok_ob ?_ (fun _ => ?_) | with_reducible refine T.ok_ite (fun _ => ?_) (fun _ => ?_) | with_reducible refine T.ok_leaf ?_)
            all_goals (try simp only [decide_eq_true_eq, decide_eq_false_iff_not, Bool.not_eq_true', Bool.not_eq_false', Bool.not_eq_eq_eq_not, Bool.not_true, Bool.not_false, Int.toNat_natCast, tab_len, List.length_append, List.length_singleton, List.length_cons, List.length_nil, List.length_drop, List.length_take, getD_drop', getD_nat, reduceCtorEq] at *)
            all_goals (try simp (disch := omega) only [wrap64_id] at *)
            all_goals first | omega | (exfalso; omega) | exact True.intro | skip
            all_goals (rw [show ((n - j : Nat) : Int) - 1 = n - (j + 1 : Nat) by omega])
          · refine q_impl_FillGaps_L4 _ _ _ _ _ ?_
            rw [show (n : Int) - (n - m : Nat) = m by omega, Int.toNat_natCast, d3]
            repeat' (first | with_reducible refine T.ok_ob ?_ (fun _ => ?_) | with_reducible refine T.ok_ite (fun _ => ?_) (fun _ => ?_) | with_reducible refine T.ok_leaf ?_)
            all_goals (try simp only [decide_eq_true_eq, decide_eq_false_iff_not, Bool.not_eq_true', Bool.not_eq_false', Bool.not_eq_eq_eq_not, Bool.not_true, Bool.not_false, Int.toNat_natCast, tab_len, List.length_append, List.length_singleton, List.length_cons, List.length_nil, List.length_drop, List.length_take, getD_drop', getD_nat, reduceCtorEq] at *)
            all_goals (try simp (disch := omega) only [wrap64_id] at *)
            all_goals first | omega | (exfalso; omega) | exact True.intro | skip
            all_goals rfl
        have hm0 : ¬ ((m : Int) < 0) := by omega
        by_cases hlt : upK ks n = xs.length
        · have eg : gapM xs ks n = xs.getD m 0 := by
            unfold gapM
            rw [hk, d2, if_neg (by simp), if_neg hm0, if_pos hlt, Int.toNat_natCast]
          have eb : ((upK ks n : Int) == (xs.length : Int)) = true := by rw [hlt]; simp
          rw [d2] at l6'
          rw [d2, eg, eb]
          repeat' (first | with_reducible refine T.ok_ob ?_ (fun _ => ?_) | with_reducible refine T.ok_ite (fun _ => ?_) (fun _ => ?_) | with_reducible refine T.ok_leaf ?_)
          all_goals (try simp only [decide_eq_true_eq, decide_eq_false_iff_not, Bool.not_eq_true', Bool.not_eq_false', Bool.not_eq_eq_eq_not, Bool.not_true, Bool.not_false, Int.toNat_natCast, tab_len, List.length_append, List.length_singleton, List.length_cons, List.length_nil, List.length_drop, List.length_take, getD_drop', getD_nat, reduceCtorEq] at *)
          all_goals (try simp (disch := omega) only [wrap64_id] at *)
          all_goals first | omega | (exfalso; omega) | exact True.intro | skip
          all_goals first | exact l4 | exact l6' | rfl
        · have eg : gapM xs ks n = fadd .f32 (xs.getD m 0) (fmul .f32 (fsub .f32 (xs.getD (upK ks n) 0) (xs.getD m 0)) (fdiv .f32 (fofi .f32 (n - m)) (fofi .f32 (upK ks n - m)))) := by
            unfold gapM
            rw [hk, d2, if_neg (by simp), if_neg hm0, if_neg hlt, Int.toNat_natCast]
          have eb : ((upK ks n : Int) == (xs.length : Int)) = false := by simp; omega
          rw [d2] at l6'
          rw [d2, eg, eb]
          repeat' (first | with_reducible refine T.ok_ob ?_ (fun _ => ?_) | with_reducible refine T.ok_ite (fun _ => ?_) (fun _ => ?_) | with_reducible refine T.ok_leaf ?_)
          all_goals (try simp only [decide_eq_true_eq, decide_eq_false_iff_not, Bool.not_eq_true', Bool.not_eq_false', Bool.not_eq_eq_eq_not, Bool.not_true, Bool.not_false, Int.toNat_natCast, tab_len, List.length_append, List.length_singleton, List.length_cons, List.length_nil, List.length_drop, List.length_take, getD_drop', getD_nat, reduceCtorEq] at *)
          all_goals (try simp (disch := omega) only [wrap64_id] at *)
          all_goals first | omega | (exfalso; omega) | exact True.intro | skip
          all_goals first | exact l4 | exact l6' | rfl
    · have eg : gapM xs ks n = xs.getD n 0 := by unfold gapM; rw [hk, if_pos rfl]
      rw [eg]
      repeat' (first | with_reducible refine T.ok_ob ?_ (fun _ => ?_) | with_reducible refine T.ok_ite (fun _ => ?_) (fun _ => ?_) | with_reducible refine T.ok_leaf ?_)
      all_goals (try simp only [decide_eq_true_eq, decide_eq_false_iff_not, Bool.not_eq_true', Bool.not_eq_false', Bool.not_eq_eq_eq_not, Bool.not_true, Bool.not_false, Int.toNat_natCast, tab_len, List.length_append, List.length_singleton, List.length_cons, List.length_nil, List.length_drop, List.length_take, getD_drop', getD_nat, reduceCtorEq] at *)
      all_goals (try simp (disch := omega) only [wrap64_id] at *)
      all_goals first | omega | (exfalso; omega) | exact True.intro | skip
      all_goals rfl
  cases hkn : knFin xs ks
  · repeat' (first | with_reducible refine T.ok_ob ?_ (fun _ => ?_) | with_reducible refine T.ok_ite (fun _ => ?_) (fun _ => ?_) | with_reducible refine T.ok_leaf ?_)
    all_goals first | with_reducible rfl | omega | exact a1 | exact a3 | skip
    all_goals (try simp only [decide_eq_true_eq, decide_eq_false_iff_not, Bool.not_true, Bool.not_false, reduceCtorEq] at *)
    all_goals first | omega | skip
    · refine for_one (e := .ret) _ xs.length (fun i => h_impl_FillGaps_L0 xs ks i) hkn rfl go (fun i hi hc => ?_)
      refine q_impl_FillGaps_L0 _ _ _ ?_
      have b2 := c2 (xs.getD i 0)
      rw [Int.toNat_natCast]
      revert hc
      cases hk : ks.getD i false <;> cases hf : finM (xs.getD i 0) <;> intro hc <;> rw [hf] at b2
      · cases hc
      · cases hc
      · repeat' (first | with_reducible refine T.ok_ob ?_ (fun _ => ?_) | with_reducible refine T.ok_ite (fun _ => ?_) (fun _ => ?_) | with_reducible refine T.ok_leaf ?_)
        all_goals (try simp only [decide_eq_true_eq, decide_eq_false_iff_not, Bool.not_eq_true', Bool.not_eq_false', Bool.not_eq_eq_eq_not, Bool.not_true, Bool.not_false, Int.toNat_natCast, tab_len, List.length_append, List.length_singleton, List.length_cons, List.length_nil, List.length_drop, List.length_take, getD_drop', getD_nat, reduceCtorEq] at *)
        all_goals (try simp (disch := omega) only [wrap64_id] at *)
        all_goals first | omega | (exfalso; omega) | exact True.intro | skip
        all_goals first | exact b2 | rfl
      · cases hc
    all_goals rfl
  · repeat' (first | with_reducible refine T.ok_ob ?_ (fun _ => ?_) | with_reducible refine T.ok_ite (fun _ => ?_) (fun _ => ?_) | with_reducible refine T.ok_leaf ?_)
    all_goals first | with_reducible rfl | omega | exact a1 | exact a3 | skip
    all_goals (try simp only [decide_eq_true_eq, decide_eq_false_iff_not, Bool.not_true, Bool.not_false, reduceCtorEq] at *)
    all_goals first | omega | skip
    · refine for_all (e := .exit 0) _ xs.length (fun i => h_impl_FillGaps_L0 xs ks i) hkn rfl go ?_
      refine q_impl_FillGaps_L0 _ _ _ ?_
      repeat' (first | with_reducible refine T.ok_ob ?_ (fun _ => ?_) | with_reducible refine T.ok_ite (fun _ => ?_) (fun _ => ?_) | with_reducible refine T.ok_leaf ?_)
      all_goals (try simp only [decide_eq_true_eq, decide_eq_false_iff_not, Bool.not_eq_true', Bool.not_eq_false', Bool.not_eq_eq_eq_not, Bool.not_true, Bool.not_false, Int.toNat_natCast, tab_len, List.length_append, List.length_singleton, List.length_cons, List.length_nil, List.length_drop, List.length_take, getD_drop', getD_nat, reduceCtorEq] at *)
      all_goals (try simp (disch := omega) only [wrap64_id] at *)
      all_goals first | omega | (exfalso; omega) | exact True.intro | skip
      all_goals rfl
    · refine for_up (e := .exit 2) xs.length (fun n => h_impl_FillGaps_L2 xs ks (tab n (gapM xs ks)) n) rfl (fun n hn => key n hn) ?_
      refine q_impl_FillGaps_L2 _ _ _ _ ?_
      repeat' (first | with_reducible refine T.ok_ob ?_ (fun _ => ?_) | with_reducible refine T.ok_ite (fun _ => ?_) (fun _ => ?_) | with_reducible refine T.ok_leaf ?_)
      all_goals (try simp only [decide_eq_true_eq, decide_eq_false_iff_not, Bool.not_eq_true', Bool.not_eq_false', Bool.not_eq_eq_eq_not, Bool.not_true, Bool.not_false, Int.toNat_natCast, tab_len, List.length_append, List.length_singleton, List.length_cons, List.length_nil, List.length_drop, List.length_take, getD_drop', getD_nat, reduceCtorEq] at *)
      all_goals (try simp (disch := omega) only [wrap64_id] at *)
      all_goals first | omega | (exfalso; omega) | exact True.intro | skip
      all_goals rfl
    all_goals (simp [ifAllM])

theorem k_spec_FillGaps {P : Program} {f g1 g2 g3 : FuncId} (h : Is_spec_FillGaps P f g1 g2 g3) (c1 : C_spec_l02Known P g1) (c2 : C_spec_l01Finite P g2) (c3 : C_spec_l02List P g3) : C_spec_FillGaps P f := by
  intro xs ks hx hy
  refine q_spec_FillGaps h xs ks ?_
  have a3 := c3 (gapsM xs ks) (by rw [gaps_len]; exact hx)
  by_cases h1 : 1 ≤ xs.length
  case neg =>
    rw [fg_else (by rw [decide_eq_false h1]; rfl)]
    repeat' (first | with_reducible refine T.ok_ob ?_ (fun _ => ?_) | with_reducible refine T.ok_ite (fun _ => ?_) (fun _ => ?_) | with_reducible refine T.ok_leaf ?_)
    all_goals (try simp only [decide_eq_true_eq, decide_eq_false_iff_not, Bool.not_eq_true', Bool.not_eq_false', Bool.not_eq_eq_eq_not, Bool.not_true, Bool.not_false, Int.toNat_natCast, tab_len, List.length_append, List.length_singleton, List.length_cons, List.length_nil, List.length_drop, List.length_take, getD_drop', getD_nat, reduceCtorEq] at *)
    all_goals (try simp (disch := omega) only [wrap64_id] at *)
    all_goals first | omega | (exfalso; omega) | exact True.intro | skip
    all_goals rfl
  by_cases h2 : xs.length ≤ 96
  case neg =>
    rw [fg_else (by rw [decide_eq_false h2]; simp)]
    repeat' (first | with_reducible refine T.ok_ob ?_ (fun _ => ?_) | with_reducible refine T.ok_ite (fun _ => ?_) (fun _ => ?_) | with_reducible refine T.ok_leaf ?_)
    all_goals (try simp only [decide_eq_true_eq, decide_eq_false_iff_not, Bool.not_eq_true', Bool.not_eq_false', Bool.not_eq_eq_eq_not, Bool.not_true, Bool.not_false, Int.toNat_natCast, tab_len, List.length_append, List.length_singleton, List.length_cons, List.length_nil, List.length_drop, List.length_take, getD_drop', getD_nat, reduceCtorEq] at *)
    all_goals (try simp (disch := omega) only [wrap64_id] at *)
    all_goals first | omega | (exfalso; omega) | exact True.intro | skip
    all_goals rfl
  by_cases h3 : ks.length = xs.length
  case neg =>
    rw [fg_else (by rw [decide_eq_false h3]; simp)]
    have e : ((ks.length : Int) != (xs.length : Int)) = true := by simp; omega
    rw [e]
    repeat' (first | with_reducible refine T.ok_ob ?_ (fun _ => ?_) | with_reducible refine T.ok_ite (fun _ => ?_) (fun _ => ?_) | with_reducible refine T.ok_leaf ?_)
    all_goals (try simp only [decide_eq_true_eq, decide_eq_false_iff_not, Bool.not_eq_true', Bool.not_eq_false', Bool.not_eq_eq_eq_not, Bool.not_true, Bool.not_false, Int.toNat_natCast, tab_len, List.length_append, List.length_singleton, List.length_cons, List.length_nil, List.length_drop, List.length_take, getD_drop', getD_nat, reduceCtorEq] at *)
    all_goals (try simp (disch := omega) only [wrap64_id] at *)
    all_goals first | omega | (exfalso; omega) | exact True.intro | skip
    all_goals rfl
  have e : ((ks.length : Int) != (xs.length : Int)) = false := by simp; omega
  rw [e]
  have a1 := c1 ks 0 1 (.inl rfl) (by omega) (by omega)
  have ek : knownM ks (Int.toNat 0) 1 = if upK ks 0 < ks.length then (upK ks 0 : Int) else -1 := by unfold knownM; rw [if_pos rfl]; rfl
  by_cases hu0 : upK ks 0 < ks.length
  case neg =>
    rw [fg_else (by rw [any_up, decide_eq_false hu0]; simp)]
    rw [ek, if_neg hu0] at a1
    have ek2 : knownM ks 0 1 = -1 := by have := ek; rw [if_neg hu0] at this; exact this
    (try rw [ek2])
    repeat' (first | with_reducible refine T.ok_ob ?_ (fun _ => ?_) | with_reducible refine T.ok_ite (fun _ => ?_) (fun _ => ?_) | with_reducible refine T.ok_leaf ?_)
    all_goals (try simp only [decide_eq_true_eq, decide_eq_false_iff_not, Bool.not_eq_true', Bool.not_eq_false', Bool.not_eq_eq_eq_not, Bool.not_true, Bool.not_false, Int.toNat_natCast, tab_len, List.length_append, List.length_singleton, List.length_cons, List.length_nil, List.length_drop, List.length_take, getD_drop', getD_nat, reduceCtorEq] at *)
    all_goals (try simp (disch := omega) only [wrap64_id] at *)
    all_goals first | omega | (exfalso; omega) | exact True.intro | skip
    all_goals first | exact a1 | rfl
  rw [ek, if_pos hu0] at a1
  have ek2 : knownM ks 0 1 = upK ks 0 := by have := ek; rw [if_pos hu0] at this; exact this
  (try rw [ek2])
  have h4 : (ks.any fun x => true == x) = true := by rw [any_up]; exact decide_eq_true hu0
  rw [fg_then h1 h2 h3 h4]
  have go : ∀ i, i < xs.length → (!(ks.getD i false && !finM (xs.getD i 0))) = true → Exec (VCall P) ps_spec_FillGaps (b_spec_FillGaps_L0 g1 g2 g3) (h_spec_FillGaps_L0 xs ks (i : Nat)) .normal (h_spec_FillGaps_L0 xs ks (i + 1 : Nat)) := by
    intro i hi hc
    refine q_spec_FillGaps_L0 _ _ _ ?_
    have b2 := c2 (xs.getD i 0)
    rw [Int.toNat_natCast]
    revert hc
    cases hk : ks.getD i false <;> cases hf : finM (xs.getD i 0) <;> intro hc <;> rw [hf] at b2
    · repeat' (first | with_reducible refine T.ok_ob ?_ (fun _ => ?_) | with_reducible refine T.ok_ite (fun _ => ?_) (fun _ => ?_) | with_reducible refine T.ok_leaf ?_)
      all_goals (try simp only [decide_eq_true_eq, decide_eq_false_iff_not, Bool.not_eq_true', Bool.not_eq_false', Bool.not_eq_eq_eq_not, Bool.not_true, Bool.not_false, Int.toNat_natCast, tab_len, List.length_append, List.length_singleton, List.length_cons, List.length_nil, List.length_drop, List.length_take, getD_drop', getD_nat, reduceCtorEq] at *)
      all_goals (try simp (disch := omega) only [wrap64_id] at *)
      all_goals first | omega | (exfalso; omega) | exact True.intro | skip
      all_goals rfl
    · repeat' (first | with_reducible refine T.ok_ob ?_ (fun _ => ?_) | with_reducible refine T.ok_ite (fun _ => ?_) (fun _ => ?_) | with_reducible refine T.ok_leaf ?_)
      all_goals (try simp only [decide_eq_true_eq, decide_eq_false_iff_not, Bool.not_eq_true', Bool.not_eq_false', Bool.not_eq_eq_eq_not, Bool.not_true, Bool.not_false, Int.toNat_natCast, tab_len, List.length_append, List.length_singleton, List.length_cons, List.length_nil, List.length_drop, List.length_take, getD_drop', getD_nat, reduceCtorEq] at *)
      all_goals (try simp (disch := omega) only [wrap64_id] at *)
      all_goals first | omega | (exfalso; omega) | exact True.intro | skip
      all_goals rfl
    · cases hc
    · repeat' (first | with_reducible refine T.ok_ob ?_ (fun _ => ?_) | with_reducible refine T.ok_ite (fun _ => ?_) (fun _ => ?_) | with_reducible refine T.ok_leaf ?_)
      all_goals (try simp only [decide_eq_true_eq, decide_eq_false_iff_not, Bool.not_eq_true', Bool.not_eq_false', Bool.not_eq_eq_eq_not, Bool.not_true, Bool.not_false, Int.toNat_natCast, tab_len, List.length_append, List.length_singleton, List.length_cons, List.length_nil, List.length_drop, List.length_take, getD_drop', getD_nat, reduceCtorEq] at *)
      all_goals (try simp (disch := omega) only [wrap64_id] at *)
      all_goals first | omega | (exfalso; omega) | exact True.intro | skip
      all_goals first | exact b2 | rfl
  have key : ∀ n, n < xs.length → Exec (VCall P) ps_spec_FillGaps (b_spec_FillGaps_L2 g1 g2 g3) (h_spec_FillGaps_L2 xs ks (tab n (gapM xs ks)) (n : Nat)) .normal (h_spec_FillGaps_L2 xs ks (tab (n + 1) (gapM xs ks)) (n + 1 : Nat)) := by
    intro n hn
    obtain ⟨u1, u2, u3, u4⟩ := up_spec ks n (by omega)
    have d0 := c1 ks n (-1) (.inr rfl) (by omega) (by omega)
    have d1 := c1 ks n 1 (.inl rfl) (by omega) (by omega)
    rw [Int.toNat_natCast] at d0 d1
    refine q_spec_FillGaps_L2 _ _ _ _ ?_
    rw [Int.toNat_natCast, tab_succ]
    have el : (tab n (gapM xs ks)).length = n := tab_len _ _
    generalize hO : tab n (gapM xs ks) = O at *
    have e0 : knownM ks n (-1) = dnK ks n := by unfold knownM; rw [if_neg (by omega)]
    have e1 : knownM ks n 1 = if upK ks n < ks.length then (upK ks n : Int) else -1 := by unfold knownM; rw [if_pos rfl]
    rw [e0] at d0
    rw [e1] at d1
    rw [e0, e1]
    cases hk : ks.getD n false
    · rcases dn_spec ks n with ⟨k1, k2⟩ | ⟨m, k1, k2, k3, k4⟩
      · have hlt := up_lt_of hu0 (show n < ks.length by omega) k2
        have eg : gapM xs ks n = xs.getD (upK ks n) 0 := by
          unfold gapM
          rw [hk, k1]; simp
        have eb : ((-1 : Int) == (n : Int)) = false := by first | (simp; done) | (simp; omega)
        rw [k1] at d0
        rw [if_pos hlt] at d1
        rw [k1, eg, if_pos hlt, eb]
        repeat' (first | with_reducible refine T.ok_ob ?_ (fun _ => ?_) | with_reducible refine T.ok_ite (fun _ => ?_) (fun _ => ?_) | with_reducible refine T.ok_leaf ?_)
        all_goals (try simp only [decide_eq_true_eq, decide_eq_false_iff_not, Bool.not_eq_true', Bool.not_eq_false', Bool.not_eq_eq_eq_not, Bool.not_true, Bool.not_false, Int.toNat_natCast, tab_len, List.length_append, List.length_singleton, List.length_cons, List.length_nil, List.length_drop, List.length_take, getD_drop', getD_nat, reduceCtorEq] at *)
        all_goals (try simp (disch := omega) only [wrap64_id] at *)
        all_goals first | omega | (exfalso; omega) | exact True.intro | skip
        all_goals first | exact d0 | exact d1 | rfl
      · have hmn : m < n := by
          rcases Nat.lt_or_eq_of_le k1 with h | rfl
          · exact h
          · rw [hk] at k3; cases k3
        have hm0 : ¬ ((m : Int) < 0) := by omega
        have eb : ((m : Int) == (n : Int)) = false := by simp; omega
        rw [k2] at d0
        by_cases hlt : upK ks n = xs.length
        · have eg : gapM xs ks n = xs.getD m 0 := by
            unfold gapM
            rw [hk, k2, if_neg (by simp), if_neg hm0, if_pos hlt, Int.toNat_natCast]
          have hnl : ¬ (upK ks n < ks.length) := by omega
          rw [if_neg hnl] at d1
          rw [k2, eg, eb, if_neg hnl]
          repeat' (first | with_reducible refine T.ok_ob ?_ (fun _ => ?_) | with_reducible refine T.ok_ite (fun _ => ?_) (fun _ => ?_) | with_reducible refine T.ok_leaf ?_)
          all_goals (try simp only [decide_eq_true_eq, decide_eq_false_iff_not, Bool.not_eq_true', Bool.not_eq_false', Bool.not_eq_eq_eq_not, Bool.not_true, Bool.not_false, Int.toNat_natCast, tab_len, List.length_append, List.length_singleton, List.length_cons, List.length_nil, List.length_drop, List.length_take, getD_drop', getD_nat, reduceCtorEq] at *)
          all_goals (try simp (disch := omega) only [wrap64_id] at *)
          all_goals first | omega | (exfalso; omega) | exact True.intro | skip
          all_goals first | exact d0 | exact d1 | rfl
        · have eg : gapM xs ks n = fadd .f32 (xs.getD m 0) (fmul .f32 (fsub .f32 (xs.getD (upK ks n) 0) (xs.getD m 0)) (fdiv .f32 (fofi .f32 (n - m)) (fofi .f32 (upK ks n - m)))) := by
            unfold gapM
            rw [hk, k2, if_neg (by simp), if_neg hm0, if_neg hlt, Int.toNat_natCast]
          have hnl : upK ks n < ks.length := by omega
          rw [if_pos hnl] at d1
          rw [k2, eg, eb, if_pos hnl]
          repeat' (first | with_reducible refine T.ok_ob ?_ (fun _ => ?_) | with_reducible refine T.ok_ite (fun _ => ?_) (fun _ => ?_) | with_reducible refine T.ok_leaf ?_)
          all_goals (try simp only [decide_eq_true_eq, decide_eq_false_iff_not, Bool.not_eq_true', Bool.not_eq_false', Bool.not_eq_eq_eq_not, Bool.not_true, Bool.not_false, Int.toNat_natCast, tab_len, List.length_append, List.length_singleton, List.length_cons, List.length_nil, List.length_drop, List.length_take, getD_drop', getD_nat, reduceCtorEq] at *)
          all_goals (try simp (disch := omega) only [wrap64_id] at *)
          all_goals first | omega | (exfalso; omega) | exact True.intro | skip
          all_goals first | exact d0 | exact d1 | rfl
    · have eg : gapM xs ks n = xs.getD n 0 := by unfold gapM; rw [hk, if_pos rfl]
      have ed : dnK ks n = n := by
        cases n with
        | zero => simp only [dnK]; rw [if_pos hk]; rfl
        | succ n => simp only [dnK]; rw [if_pos hk]
      have eu : upK ks n = n := by
        apply Decidable.byContradiction; intro hne
        have := u4 n (Nat.le_refl _) (by omega)
        rw [this] at hk; cases hk
      have eb : ((n : Int) == (n : Int)) = true := by simp
      rw [ed] at d0
      rw [ed, eg, eb]
      repeat' (first | with_reducible refine T.ok_ob ?_ (fun _ => ?_) | with_reducible refine T.ok_ite (fun _ => ?_) (fun _ => ?_) | with_reducible refine T.ok_leaf ?_)
      all_goals (try simp only [decide_eq_true_eq, decide_eq_false_iff_not, Bool.not_eq_true', Bool.not_eq_false', Bool.not_eq_eq_eq_not, Bool.not_true, Bool.not_false, Int.toNat_natCast, tab_len, List.length_append, List.length_singleton, List.length_cons, List.length_nil, List.length_drop, List.length_take, getD_drop', getD_nat, reduceCtorEq] at *)
      all_goals (try simp (disch := omega) only [wrap64_id] at *)
      all_goals first | omega | (exfalso; omega) | exact True.intro | skip
      all_goals first | exact d0 | exact d1 | rfl
  cases hkn : knFin xs ks
  · repeat' (first | with_reducible refine T.ok_ob ?_ (fun _ => ?_) | with_reducible refine T.ok_ite (fun _ => ?_) (fun _ => ?_) | with_reducible refine T.ok_leaf ?_)
    all_goals first | with_reducible rfl | omega | exact a1 | exact a3 | skip
    all_goals (try simp only [decide_eq_true_eq, decide_eq_false_iff_not, Bool.not_true, Bool.not_false, reduceCtorEq] at *)
    all_goals first | omega | skip
    · refine for_one (e := .ret) _ xs.length (fun i => h_spec_FillGaps_L0 xs ks i) hkn rfl go (fun i hi hc => ?_)
      refine q_spec_FillGaps_L0 _ _ _ ?_
      have b2 := c2 (xs.getD i 0)
      rw [Int.toNat_natCast]
      revert hc
      cases hk : ks.getD i false <;> cases hf : finM (xs.getD i 0) <;> intro hc <;> rw [hf] at b2
      · cases hc
      · cases hc
      · repeat' (first | with_reducible refine T.ok_ob ?_ (fun _ => ?_) | with_reducible refine T.ok_ite (fun _ => ?_) (fun _ => ?_) | with_reducible refine T.ok_leaf ?_)
        all_goals (try simp only [decide_eq_true_eq, decide_eq_false_iff_not, Bool.not_eq_true', Bool.not_eq_false', Bool.not_eq_eq_eq_not, Bool.not_true, Bool.not_false, Int.toNat_natCast, tab_len, List.length_append, List.length_singleton, List.length_cons, List.length_nil, List.length_drop, List.length_take, getD_drop', getD_nat, reduceCtorEq] at *)
        all_goals (try simp (disch := omega) only [wrap64_id] at *)
        all_goals first | omega | (exfalso; omega) | exact True.intro | skip
        all_goals first | exact b2 | rfl
      · cases hc
    all_goals rfl
  · repeat' (first | with_reducible refine T.ok_ob ?_ (fun _ => ?_) | with_reducible refine T.ok_ite (fun _ => ?_) (fun _ => ?_) | with_reducible refine T.ok_leaf ?_)
    all_goals first | with_reducible rfl | omega | exact a1 | exact a3 | skip
    all_goals (try simp only [decide_eq_true_eq, decide_eq_false_iff_not, Bool.not_true, Bool.not_false, reduceCtorEq] at *)
    all_goals first | omega | skip
    · refine for_all (e := .exit 0) _ xs.length (fun i => h_spec_FillGaps_L0 xs ks i) hkn rfl go ?_
      refine q_spec_FillGaps_L0 _ _ _ ?_
      repeat' (first | with_reducible refine T.ok_ob ?_ (fun _ => ?_) | with_reducible refine T.ok_ite (fun _ => ?_) (fun _ => ?_) | with_reducible refine T.ok_leaf ?_)
      all_goals (try simp only [decide_eq_true_eq, decide_eq_false_iff_not, Bool.not_eq_true', Bool.not_eq_false', Bool.not_eq_eq_eq_not, Bool.not_true, Bool.not_false, Int.toNat_natCast, tab_len, List.length_append, List.length_singleton, List.length_cons, List.length_nil, List.length_drop, List.length_take, getD_drop', getD_nat, reduceCtorEq] at *)
      all_goals (try simp (disch := omega) only [wrap64_id] at *)
      all_goals first | omega | (exfalso; omega) | exact True.intro | skip
      all_goals rfl
    · refine for_up (e := .exit 2) xs.length (fun n => h_spec_FillGaps_L2 xs ks (tab n (gapM xs ks)) n) rfl (fun n hn => key n hn) ?_
      refine q_spec_FillGaps_L2 _ _ _ _ ?_
      repeat' (first | with_reducible refine T.ok_ob ?_ (fun _ => ?_) | with_reducible refine T.ok_ite (fun _ => ?_) (fun _ => ?_) | with_reducible refine T.ok_leaf ?_)
      all_goals (try simp only [decide_eq_true_eq, decide_eq_false_iff_not, Bool.not_eq_true', Bool.not_eq_false', Bool.not_eq_eq_eq_not, Bool.not_true, Bool.not_false, Int.toNat_natCast, tab_len, List.length_append, List.length_singleton, List.length_cons, List.length_nil, List.length_drop, List.length_take, getD_drop', getD_nat, reduceCtorEq] at *)
      all_goals (try simp (disch := omega) only [wrap64_id] at *)
      all_goals first | omega | (exfalso; omega) | exact True.intro | skip
      all_goals rfl
    all_goals (simp [ifAllM])

end Go.Proofs.LV
