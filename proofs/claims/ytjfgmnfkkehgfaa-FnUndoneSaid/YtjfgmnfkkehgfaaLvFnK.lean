/- Gaps that are filled. -/
import Derived.Test.YtjfgmnfkkehgfaaLvFnF
namespace Go.Proofs.LV
open Go
set_option linter.unusedVariables false
set_option linter.unusedSimpArgs false

abbrev PB (p : List Nat) (xs : List Bool) : AV := .sl (.par p) 0 (.b xs)
/-- the last known place up to this one, or -1 -/
def dnK (ks : List Bool) : Nat → Int
  | 0 => if ks.getD 0 false = true then 0 else -1
  | n + 1 => if ks.getD (n + 1) false = true then ((n + 1 : Nat) : Int) else dnK ks n
/-- the first known place from this one on, or the length -/
def upK (ks : List Bool) (n : Nat) : Nat := n + (ks.drop n).findIdx id
def gapM (xs : List Nat) (ks : List Bool) (n : Nat) : Nat :=
  if ks.getD n false = true then xs.getD n 0
  else if dnK ks n < 0 then xs.getD (upK ks n) 0
  else if upK ks n = xs.length then xs.getD (dnK ks n).toNat 0
  else fadd .f32 (xs.getD (dnK ks n).toNat 0) (fmul .f32 (fsub .f32 (xs.getD (upK ks n) 0) (xs.getD (dnK ks n).toNat 0)) (fdiv .f32 (fofi .f32 (n - dnK ks n)) (fofi .f32 (upK ks n - dnK ks n))))
def gapsM (xs : List Nat) (ks : List Bool) : List Nat := tab xs.length (gapM xs ks)
def knFin (xs : List Nat) (ks : List Bool) : Bool := allN xs.length fun i => !(ks.getD i false && !finM (xs.getD i 0))
def fgOk (xs : List Nat) (ks : List Bool) : Bool := decide (1 ≤ xs.length) && (decide (xs.length ≤ 96) && (decide (ks.length = xs.length) && (ks.any (fun x => true == x) && (knFin xs ks && finAllM (gapsM xs ks)))))

-- FN slices_Index___bool_bool_
/-- slices.Index[[]bool,bool]: slots 19, results [.t 4]; calls []; names [(s, 0), (v, 1), (s, 2), (v, 3), (i, 5)] -/
def ps_slices_Index___bool_bool_ : List Nat := [0, 1, 4, 5, 7, 8, 9, 16]
def lv_slices_Index___bool_bool__L0 : List Nat := [0, 1, 7, 8]
def b_slices_Index___bool_bool__L0 : VCode :=
 (.seq
 (.region false [
 ⟨some 9, (.bin .lss), [.t 8, .t 7], none⟩])
 (.seq
 (.cond (.t 9)
 .skip
 (.exit 0))
 (.seq
 (.block 1
 (.seq
 (.region false [
 ⟨some 10, .mv, [.t 8], none⟩,
 ⟨some 5, .mv, [.t 10], none⟩])
 (.seq
 (.region false [
 ⟨some 11, .mv, [.t 1], none⟩,
 ⟨some 12, .mv, [.t 0], none⟩,
 ⟨some 13, .mv, [.t 5], none⟩,
 ⟨some 14, .iaddr, [.t 12, .t 13], none⟩,
 ⟨some 15, .load, [.t 14], none⟩,
 ⟨some 16, (.binb .eql), [.t 11, .t 15], none⟩])
 (.cond (.t 16)
 (.seq
 (.region false [
 ⟨some 17, .mv, [.t 5], none⟩,
 ⟨some 4, .mv, [.t 17], none⟩])
 .ret)
 .skip))))
 (.region false [
 ⟨some 18, (.bin .add), [.t 8, .k (.i .i64 1)], none⟩,
 ⟨some 8, .mv, [.t 18], none⟩]))))

def b_slices_Index___bool_bool_ : VCode :=
 (.seq
 (.region false [
 ⟨some 4, .mv, [.k (.i .i64 0)], none⟩])
 (.seq
 (.seq
 (.region false [
 ⟨some 6, .mv, [.t 0], none⟩,
 ⟨some 7, .len, [.t 6], none⟩,
 ⟨some 8, .mv, [.k (.i .i64 0)], none⟩])
 (.block 0 (.loop b_slices_Index___bool_bool__L0)))
 (.seq
 (.region false [
 ⟨some 4, .mv, [.k (.i .i64 (-1))], none⟩])
 .ret)))

abbrev Is_slices_Index___bool_bool_ (P : Program) (g_f : FuncId) : Prop := FnIs P g_f 19 [.t 4] (b_slices_Index___bool_bool_)

abbrev C_slices_Index___bool_bool_ (P : Program) (g_f : FuncId) : Prop := ∀ (xs : List Bool) (v : Bool) (hx : xs.length ≤ maxLen), VCall P g_f [PB [0] xs, .b v] (.i .i64 (idxM (fun x => v == x) xs))
def oc1_slices_Index___bool_bool_ (as : List AV) : T AV := match as with | [.sl _ _ (.b xs), .b v] => .leaf (.i .i64 (idxM (fun x => v == x) xs)) | _ => .fail
def h_slices_Index___bool_bool__L0 (xs : List Bool) (v : Bool) (v8 : Int) : Env := [AV.sl (Tag.par [0]) 0 (Cont.b xs), AV.b v] ++ anys 5 ++ [AV.i IntKind.i64 (↑(List.length xs) : Int), .i IntKind.i64 v8] ++ anys 10

theorem q_slices_Index___bool_bool__L0 {VC : FuncId → List AV → AV → Prop} (xs : List Bool) (v : Bool) (v8 : Int) {e_ : Ex} {σ_ : Env} (ht : T.ok (fun x_ => x_ = (e_, σ_)) (
 T.ite (decide (v8 < (↑(List.length xs) : Int)))
 (T.ob (0 ≤ v8 ∧ v8 < (↑(List.length xs) : Int))
 (T.ite (v == List.getD xs (Int.toNat v8) false) (T.leaf (Ex.ret, anys 4 ++ AV.i IntKind.i64 v8 :: anys 14)) (T.leaf (Ex.normal, h_slices_Index___bool_bool__L0 xs v (IntKind.wrap IntKind.i64 (v8 + 1))))))
 (T.leaf (Ex.exit 0, h_slices_Index___bool_bool__L0 xs v v8)))) :
 Exec VC ps_slices_Index___bool_bool_ (b_slices_Index___bool_bool__L0) (h_slices_Index___bool_bool__L0 xs v v8) e_ σ_ := evL_of (lv := lv_slices_Index___bool_bool__L0) (rs := [4]) (O := ⟨fun _ _ => .fail, fun _ _ => none⟩) (by kernel_rfl) ht

theorem q_slices_Index___bool_bool_ {P : Program} {g_f : FuncId} (h_ : Is_slices_Index___bool_bool_ P g_f) (xs : List Bool) (v : Bool) (ht : T.ok (fun x_ => x_ = .i .i64 (idxM (fun x => v == x) xs)) (
 T.ite (decide (List.findIdx (fun (x : Bool) => v == x) xs < List.length xs))
 (T.ob
 (Exec (VCall P) ps_slices_Index___bool_bool_ (VCode.block 0 (VCode.loop b_slices_Index___bool_bool__L0)) (h_slices_Index___bool_bool__L0 xs v 0) Ex.ret
 (anys 4 ++ AV.i IntKind.i64 (↑(List.findIdx (fun (x : Bool) => v == x) xs) : Int) :: anys 14))
 (T.leaf (AV.i IntKind.i64 (↑(List.findIdx (fun (x : Bool) => v == x) xs) : Int))))
 (T.ob (Exec (VCall P) ps_slices_Index___bool_bool_ (VCode.block 0 (VCode.loop b_slices_Index___bool_bool__L0)) (h_slices_Index___bool_bool__L0 xs v 0) Ex.normal (h_slices_Index___bool_bool__L0 xs v (↑(List.length xs) : Int)))
 (T.leaf (AV.i IntKind.i64 (-1)))))) :
 VCall P g_f [PB [0] xs, .b v] (.i .i64 (idxM (fun x => v == x) xs)) := h_.call_of ps_slices_Index___bool_bool_ ⟨fun _ _ => .fail, fun id σ => match id with | 0 => some (lv_slices_Index___bool_bool__L0, .ite (decide (xs.findIdx (fun x => v == x) < xs.length)) (.leaf (.ret, ret1 19 4 (.i .i64 (xs.findIdx (fun x => v == x))))) (.leaf (.normal, h_slices_Index___bool_bool__L0 xs v xs.length))) | _ => none⟩ (by kernel_rfl) ht

-- END slices_Index___bool_bool_

-- FN slices_Contains___bool_bool_
/-- slices.Contains[[]bool,bool]: slots 9, results [.t 4]; calls [7:gq0]; names [(s, 0), (v, 1), (s, 2), (v, 3)] -/
def ps_slices_Contains___bool_bool_ : List Nat := [0, 1, 4]
def b_slices_Contains___bool_bool_ (gq0 : FuncId) : VCode :=
 (.seq
 (.region false [
 ⟨some 4, .mv, [.k (.b false)], none⟩])
 (.seq
 (.region false [
 ⟨some 5, .mv, [.t 0], none⟩,
 ⟨some 6, .mv, [.t 1], none⟩,
 ⟨some 7, (.call gq0), [.t 5, .t 6], none⟩,
 ⟨some 8, (.bin .geq), [.t 7, .k (.i .i64 0)], none⟩,
 ⟨some 4, .mv, [.t 8], none⟩])
 .ret))

abbrev Is_slices_Contains___bool_bool_ (P : Program) (g_f : FuncId) (gq0 : FuncId) : Prop := FnIs P g_f 9 [.t 4] (b_slices_Contains___bool_bool_ gq0)

abbrev C_slices_Contains___bool_bool_ (P : Program) (g_f : FuncId) : Prop := ∀ (xs : List Bool) (v : Bool) (hx : xs.length ≤ maxLen), VCall P g_f [PB [0] xs, .b v] (.b (xs.any fun x => v == x))
def oc1_slices_Contains___bool_bool_ (as : List AV) : T AV := match as with | [.sl _ _ (.b xs), .b v] => .leaf (.b (xs.any fun x => v == x)) | _ => .fail
def oc_slices_Contains___bool_bool_ (xs : List Bool) (v : Bool) (d : Nat) (as : List AV) : T AV := match d with | 7 => oc1_slices_Index___bool_bool_ as | _ => .fail



theorem q_slices_Contains___bool_bool_ {P : Program} {g_f : FuncId} {gq0 : FuncId} (h_ : Is_slices_Contains___bool_bool_ P g_f gq0) (xs : List Bool) (v : Bool) (ht : T.ok (fun x_ => x_ = .b (xs.any fun x => v == x)) (
 T.ob ((VCall P) gq0 [AV.sl (Tag.par [0]) 0 (Cont.b xs), AV.b v] (AV.i IntKind.i64 (idxM (fun (x : Bool) => v == x) xs))) (T.leaf (AV.b (decide (idxM (fun (x : Bool) => v == x) xs ≥ 0)))))) :
 VCall P g_f [PB [0] xs, .b v] (.b (xs.any fun x => v == x)) := h_.call_of ps_slices_Contains___bool_bool_ ⟨oc_slices_Contains___bool_bool_ xs v, fun _ _ => none⟩ (by kernel_rfl) ht

-- END slices_Contains___bool_bool_


-- FN impl_FillGaps
/-- impl.FillGaps: slots 141, results [.t 4, .t 5]; calls [30:gq0, 46:gq1, 138:gq2]; names [(list, 0), (known, 1), (list, 2), (known, 3), (i, 6), (x, 7), (out, 8), (at, 9), (x, 10), (i, 11), (k, 12)] -/
def ps_impl_FillGaps : List Nat := [0, 1, 4, 5, 6, 7, 8, 9, 10, 11, 12, 32, 33, 34, 35, 36, 48, 51, 52, 53, 54, 61, 76, 89, 116, 123]
def lv_impl_FillGaps_L0 : List Nat := [0, 1, 33, 34, 35]
def lv_impl_FillGaps_L2 : List Nat := [0, 1, 8, 51, 52, 53]
def lv_impl_FillGaps_L4 : List Nat := [0, 1, 8, 9, 11, 12, 51, 52, 53]
def lv_impl_FillGaps_L6 : List Nat := [0, 1, 8, 9, 11, 12, 51, 52, 53]
def b_impl_FillGaps_L0 (gq0 gq1 gq2 : FuncId) : VCode :=
 (.seq
 (.region false [
 ⟨some 36, (.bin .lss), [.t 35, .t 34], none⟩])
 (.seq
 (.cond (.t 36)
 .skip
 (.exit 0))
 (.seq
 (.block 1
 (.seq
 (.region false [
 ⟨some 37, .mv, [.t 35], none⟩,
 ⟨some 38, .iaddr, [.t 33, .t 35], none⟩,
 ⟨some 39, .load, [.t 38], none⟩,
 ⟨some 6, .mv, [.t 37], none⟩,
 ⟨some 7, .mv, [.t 39], none⟩])
 (.seq
 (.region false [
 ⟨some 40, .mv, [.t 1], none⟩,
 ⟨some 41, .mv, [.t 6], none⟩,
 ⟨some 42, .iaddr, [.t 40, .t 41], none⟩,
 ⟨some 43, .load, [.t 42], none⟩,
 ⟨some 44, .mv, [.t 43], none⟩,
 ⟨some 45, .mv, [.t 7], some (44, true)⟩,
 ⟨some 46, (.call gq1), [.t 45], some (44, true)⟩,
 ⟨some 47, .not, [.t 46], some (44, true)⟩,
 ⟨some 48, .pick, [.t 44, .t 47, .k (.b false)], none⟩])
 (.cond (.t 48)
 (.seq
 (.region false [
 ⟨some 4, (.nilsl (.f .f32 [])), [], none⟩,
 ⟨some 5, .mv, [.k (.b false)], none⟩])
 .ret)
 .skip))))
 (.region false [
 ⟨some 49, (.bin .add), [.t 35, .k (.i .i64 1)], none⟩,
 ⟨some 35, .mv, [.t 49], none⟩]))))

def b_impl_FillGaps_L4 (gq0 gq1 gq2 : FuncId) : VCode :=
 (.seq
 (.seq
 (.region false [
 ⟨some 68, .mv, [.t 11], none⟩,
 ⟨some 69, (.bin .geq), [.t 68, .k (.i .i64 0)], none⟩,
 ⟨some 70, .mv, [.t 69], none⟩,
 ⟨some 71, .mv, [.t 1], some (70, true)⟩,
 ⟨some 72, .mv, [.t 11], some (70, true)⟩,
 ⟨some 73, .iaddr, [.t 71, .t 72], some (70, true)⟩,
 ⟨some 74, .load, [.t 73], some (70, true)⟩,
 ⟨some 75, .not, [.t 74], some (70, true)⟩,
 ⟨some 76, .pick, [.t 70, .t 75, .k (.b false)], none⟩])
 (.cond (.t 76)
 .skip
 (.exit 4)))
 (.block 5
 (.region false [
 ⟨some 77, .mv, [.t 11], none⟩,
 ⟨some 78, (.bin .sub), [.t 77, .k (.i .i64 1)], none⟩,
 ⟨some 11, .mv, [.t 78], none⟩])))

def b_impl_FillGaps_L6 (gq0 gq1 gq2 : FuncId) : VCode :=
 (.seq
 (.seq
 (.region false [
 ⟨some 79, .mv, [.t 12], none⟩,
 ⟨some 80, .mv, [.t 0], none⟩,
 ⟨some 81, .len, [.t 80], none⟩,
 ⟨some 82, (.bin .lss), [.t 79, .t 81], none⟩,
 ⟨some 83, .mv, [.t 82], none⟩,
 ⟨some 84, .mv, [.t 1], some (83, true)⟩,
 ⟨some 85, .mv, [.t 12], some (83, true)⟩,
 ⟨some 86, .iaddr, [.t 84, .t 85], some (83, true)⟩,
 ⟨some 87, .load, [.t 86], some (83, true)⟩,
 ⟨some 88, .not, [.t 87], some (83, true)⟩,
 ⟨some 89, .pick, [.t 83, .t 88, .k (.b false)], none⟩])
 (.cond (.t 89)
 .skip
 (.exit 6)))
 (.block 7
 (.region false [
 ⟨some 90, .mv, [.t 12], none⟩,
 ⟨some 91, (.bin .add), [.t 90, .k (.i .i64 1)], none⟩,
 ⟨some 12, .mv, [.t 91], none⟩])))

def b_impl_FillGaps_L2 (gq0 gq1 gq2 : FuncId) : VCode :=
 (.seq
 (.region false [
 ⟨some 54, (.bin .lss), [.t 53, .t 52], none⟩])
 (.seq
 (.cond (.t 54)
 .skip
 (.exit 2))
 (.seq
 (.block 3
 (.seq
 (.region false [
 ⟨some 55, .mv, [.t 53], none⟩,
 ⟨some 56, .iaddr, [.t 51, .t 53], none⟩,
 ⟨some 57, .load, [.t 56], none⟩,
 ⟨some 9, .mv, [.t 55], none⟩,
 ⟨some 10, .mv, [.t 57], none⟩])
 (.seq
 (.seq
 (.region false [
 ⟨some 58, .mv, [.t 1], none⟩,
 ⟨some 59, .mv, [.t 9], none⟩,
 ⟨some 60, .iaddr, [.t 58, .t 59], none⟩,
 ⟨some 61, .load, [.t 60], none⟩])
 (.cond (.t 61)
 (.seq
 (.region false [
 ⟨some 62, .mv, [.t 8], none⟩,
 ⟨some 63, .mv, [.t 10], none⟩,
 ⟨some 64, (.lit true (.f .f32 [])), [.t 63], none⟩,
 ⟨some 65, .app, [.t 62, .t 64], none⟩,
 ⟨some 8, .mv, [.t 65], none⟩])
 (.exit 3))
 .skip))
 (.seq
 (.region false [
 ⟨some 66, .mv, [.t 9], none⟩,
 ⟨some 67, .mv, [.t 9], none⟩,
 ⟨some 11, .mv, [.t 66], none⟩,
 ⟨some 12, .mv, [.t 67], none⟩])
 (.seq
 (.block 4 (.loop (b_impl_FillGaps_L4 gq0 gq1 gq2)))
 (.seq
 (.block 6 (.loop (b_impl_FillGaps_L6 gq0 gq1 gq2)))
 (.seq
 (.block 8
 (.seq
 (.region false [
 ⟨some 117, .mv, [.t 11], none⟩,
 ⟨some 118, (.bin .lss), [.t 117, .k (.i .i64 0)], none⟩,
 ⟨some 116, .mv, [.t 118], none⟩])
 (.cond (.t 116)
 (.region false [
 ⟨some 119, .mv, [.t 0], none⟩,
 ⟨some 120, .mv, [.t 12], none⟩,
 ⟨some 121, .iaddr, [.t 119, .t 120], none⟩,
 ⟨some 122, .load, [.t 121], none⟩,
 ⟨some 10, .mv, [.t 122], none⟩])
 (.seq
 (.region false [
 ⟨some 124, .mv, [.t 12], none⟩,
 ⟨some 125, .mv, [.t 0], none⟩,
 ⟨some 126, .len, [.t 125], none⟩,
 ⟨some 127, (.bin .eql), [.t 124, .t 126], none⟩,
 ⟨some 123, .mv, [.t 127], none⟩])
 (.cond (.t 123)
 (.region false [
 ⟨some 128, .mv, [.t 0], none⟩,
 ⟨some 129, .mv, [.t 11], none⟩,
 ⟨some 130, .iaddr, [.t 128, .t 129], none⟩,
 ⟨some 131, .load, [.t 130], none⟩,
 ⟨some 10, .mv, [.t 131], none⟩])
 (.region true [
 ⟨some 92, .mv, [.t 0], none⟩,
 ⟨some 93, .mv, [.t 11], none⟩,
 ⟨some 94, .iaddr, [.t 92, .t 93], none⟩,
 ⟨some 95, .load, [.t 94], none⟩,
 ⟨some 96, .mv, [.t 0], none⟩,
 ⟨some 97, .mv, [.t 12], none⟩,
 ⟨some 98, .iaddr, [.t 96, .t 97], none⟩,
 ⟨some 99, .load, [.t 98], none⟩,
 ⟨some 100, .mv, [.t 0], none⟩,
 ⟨some 101, .mv, [.t 11], none⟩,
 ⟨some 102, .iaddr, [.t 100, .t 101], none⟩,
 ⟨some 103, .load, [.t 102], none⟩,
 ⟨some 104, (.bin .sub), [.t 99, .t 103], none⟩,
 ⟨some 105, .mv, [.t 9], none⟩,
 ⟨some 106, .mv, [.t 11], none⟩,
 ⟨some 107, (.bin .sub), [.t 105, .t 106], none⟩,
 ⟨some 108, (.convF .f32), [.t 107], none⟩,
 ⟨some 109, .mv, [.t 12], none⟩,
 ⟨some 110, .mv, [.t 11], none⟩,
 ⟨some 111, (.bin .sub), [.t 109, .t 110], none⟩,
 ⟨some 112, (.convF .f32), [.t 111], none⟩,
 ⟨some 113, (.bin .quo), [.t 108, .t 112], none⟩,
 ⟨some 114, (.bin .mul), [.t 104, .t 113], none⟩,
 ⟨some 115, (.bin .add), [.t 95, .t 114], none⟩,
 ⟨some 10, .mv, [.t 115], none⟩]))))))
 (.region false [
 ⟨some 132, .mv, [.t 8], none⟩,
 ⟨some 133, .mv, [.t 10], none⟩,
 ⟨some 134, (.lit true (.f .f32 [])), [.t 133], none⟩,
 ⟨some 135, .app, [.t 132, .t 134], none⟩,
 ⟨some 8, .mv, [.t 135], none⟩]))))))))
 (.region false [
 ⟨some 136, (.bin .add), [.t 53, .k (.i .i64 1)], none⟩,
 ⟨some 53, .mv, [.t 136], none⟩]))))

def b_impl_FillGaps (gq0 gq1 gq2 : FuncId) : VCode :=
 (.seq
 (.region false [
 ⟨some 4, (.nilsl (.f .f32 [])), [], none⟩,
 ⟨some 5, .mv, [.k (.b false)], none⟩])
 (.seq
 (.seq
 (.region false [
 ⟨some 13, .mv, [.t 0], none⟩,
 ⟨some 14, .len, [.t 13], none⟩,
 ⟨some 15, (.bin .lss), [.t 14, .k (.i .i64 1)], none⟩,
 ⟨some 16, .mv, [.t 15], none⟩,
 ⟨some 17, .mv, [.t 0], some (16, false)⟩,
 ⟨some 18, .len, [.t 17], some (16, false)⟩,
 ⟨some 19, (.bin .gtr), [.t 18, .k (.i .i64 96)], some (16, false)⟩,
 ⟨some 20, .pick, [.t 16, .k (.b true), .t 19], none⟩,
 ⟨some 21, .mv, [.t 20], none⟩,
 ⟨some 22, .mv, [.t 1], some (21, false)⟩,
 ⟨some 23, .len, [.t 22], some (21, false)⟩,
 ⟨some 24, .mv, [.t 0], some (21, false)⟩,
 ⟨some 25, .len, [.t 24], some (21, false)⟩,
 ⟨some 26, (.bin .neq), [.t 23, .t 25], some (21, false)⟩,
 ⟨some 27, .pick, [.t 21, .k (.b true), .t 26], none⟩,
 ⟨some 28, .mv, [.t 27], none⟩,
 ⟨some 29, .mv, [.t 1], some (28, false)⟩,
 ⟨some 30, (.call gq0), [.t 29, .k (.b true)], some (28, false)⟩,
 ⟨some 31, .not, [.t 30], some (28, false)⟩,
 ⟨some 32, .pick, [.t 28, .k (.b true), .t 31], none⟩])
 (.cond (.t 32)
 (.seq
 (.region false [
 ⟨some 4, (.nilsl (.f .f32 [])), [], none⟩,
 ⟨some 5, .mv, [.k (.b false)], none⟩])
 .ret)
 .skip))
 (.seq
 (.seq
 (.region false [
 ⟨some 33, .mv, [.t 0], none⟩,
 ⟨some 34, .len, [.t 33], none⟩,
 ⟨some 35, .mv, [.k (.i .i64 0)], none⟩])
 (.block 0 (.loop (b_impl_FillGaps_L0 gq0 gq1 gq2))))
 (.seq
 (.region false [
 ⟨some 50, (.lit true (.f .f32 [])), [], none⟩,
 ⟨some 8, .mv, [.t 50], none⟩])
 (.seq
 (.seq
 (.region false [
 ⟨some 51, .mv, [.t 0], none⟩,
 ⟨some 52, .len, [.t 51], none⟩,
 ⟨some 53, .mv, [.k (.i .i64 0)], none⟩])
 (.block 2 (.loop (b_impl_FillGaps_L2 gq0 gq1 gq2))))
 (.seq
 (.region false [
 ⟨some 137, .mv, [.t 8], none⟩,
 ⟨some 138, (.call gq2), [.t 137], none⟩,
 ⟨some 139, (.extract 0), [.t 138], none⟩,
 ⟨some 140, (.extract 1), [.t 138], none⟩,
 ⟨some 4, .mv, [.t 139], none⟩,
 ⟨some 5, .mv, [.t 140], none⟩])
 .ret))))))

abbrev Is_impl_FillGaps (P : Program) (g_f : FuncId) (gq0 gq1 gq2 : FuncId) : Prop := FnIs P g_f 141 [.t 4, .t 5] (b_impl_FillGaps gq0 gq1 gq2)

abbrev C_impl_FillGaps (P : Program) (g_f : FuncId) : Prop := ∀ (xs : List Nat) (ks : List Bool) (hx : xs.length ≤ maxLen) (hy : ks.length ≤ maxLen), VCall P g_f [PS [0] .f32 xs, PB [1] ks] (.tup [OS 0 .f32 (if fgOk xs ks = true then gapsM xs ks else []), .b (fgOk xs ks)])
def oc_impl_FillGaps (xs : List Nat) (ks : List Bool) (d : Nat) (as : List AV) : T AV := match d with | 30 => oc1_slices_Contains___bool_bool_ as | 46 => oc1_impl_IsFinite as | 138 => oc1_impl_ifAll as | _ => .fail
def h_impl_FillGaps_L0 (xs : List Nat) (ks : List Bool) (v35 : Int) : Env := [AV.sl (Tag.par [0]) 0 (Cont.f FloatKind.f32 xs), AV.sl (Tag.par [1]) 0 (Cont.b ks)] ++ anys 31 ++ [AV.sl (Tag.par [0]) 0 (Cont.f FloatKind.f32 xs), AV.i IntKind.i64 (↑(List.length xs) : Int), .i IntKind.i64 v35] ++ anys 105
def h_impl_FillGaps_L2 (xs : List Nat) (ks : List Bool) (out : List Nat) (v53 : Int) : Env := [AV.sl (Tag.par [0]) 0 (Cont.f FloatKind.f32 xs), AV.sl (Tag.par [1]) 0 (Cont.b ks)] ++ anys 6 ++ [.sl (Tag.own 400) 0 (.f FloatKind.f32 out)] ++ anys 42 ++ [AV.sl (Tag.par [0]) 0 (Cont.f FloatKind.f32 xs), AV.i IntKind.i64 (↑(List.length xs) : Int), .i IntKind.i64 v53] ++ anys 87
def h_impl_FillGaps_L4 (xs : List Nat) (ks : List Bool) (out : List Nat) (v53 : Int) (i : Int) : Env := [AV.sl (Tag.par [0]) 0 (Cont.f FloatKind.f32 xs), AV.sl (Tag.par [1]) 0 (Cont.b ks)] ++ anys 6 ++ [AV.sl (Tag.own 400) 0 (Cont.f FloatKind.f32 out), AV.i IntKind.i64 v53, .any, .i IntKind.i64 i, AV.i IntKind.i64 v53] ++ anys 38 ++ [AV.sl (Tag.par [0]) 0 (Cont.f FloatKind.f32 xs), AV.i IntKind.i64 (↑(List.length xs) : Int), AV.i IntKind.i64 v53] ++ anys 87
def h_impl_FillGaps_L6 (xs : List Nat) (ks : List Bool) (out : List Nat) (v53 : Int) (k : Int) : Env := [AV.sl (Tag.par [0]) 0 (Cont.f FloatKind.f32 xs), AV.sl (Tag.par [1]) 0 (Cont.b ks)] ++ anys 6 ++ [AV.sl (Tag.own 400) 0 (Cont.f FloatKind.f32 out), AV.i IntKind.i64 v53, .any, AV.i IntKind.i64 (dnK ks (Int.toNat v53)), .i IntKind.i64 k] ++ anys 38 ++ [AV.sl (Tag.par [0]) 0 (Cont.f FloatKind.f32 xs), AV.i IntKind.i64 (↑(List.length xs) : Int), AV.i IntKind.i64 v53] ++ anys 87

theorem q_impl_FillGaps_L0 {VC : FuncId → List AV → AV → Prop} {gq0 gq1 gq2 : FuncId} (xs : List Nat) (ks : List Bool) (v35 : Int) {e_ : Ex} {σ_ : Env} (ht : T.ok (fun x_ => x_ = (e_, σ_)) (
 T.ite (decide (v35 < (↑(List.length xs) : Int)))
 (T.ob (0 ≤ v35 ∧ v35 < (↑(List.length xs) : Int))
 (T.ob (0 ≤ v35 ∧ v35 < (↑(List.length ks) : Int))
 (T.ite (List.getD ks (Int.toNat v35) false)
 (T.ob (VC gq1 [AV.f FloatKind.f32 (List.getD xs (Int.toNat v35) 0)] (AV.b (finM (List.getD xs (Int.toNat v35) 0))))
 (T.ite (!finM (List.getD xs (Int.toNat v35) 0)) (T.leaf (Ex.ret, anys 4 ++ AV.sl Tag.nil 0 (Cont.f FloatKind.f32 []) :: AV.b false :: anys 135))
 (T.leaf (Ex.normal, h_impl_FillGaps_L0 xs ks (IntKind.wrap IntKind.i64 (v35 + 1))))))
 (T.leaf (Ex.normal, h_impl_FillGaps_L0 xs ks (IntKind.wrap IntKind.i64 (v35 + 1)))))))
 (T.leaf (Ex.exit 0, h_impl_FillGaps_L0 xs ks v35)))) :
 Exec VC ps_impl_FillGaps (b_impl_FillGaps_L0 gq0 gq1 gq2) (h_impl_FillGaps_L0 xs ks v35) e_ σ_ := evL_of (lv := lv_impl_FillGaps_L0) (rs := [4, 5]) (O := ⟨oc_impl_FillGaps xs ks, fun _ _ => none⟩) (by kernel_rfl) ht

theorem q_impl_FillGaps_L2 {VC : FuncId → List AV → AV → Prop} {gq0 gq1 gq2 : FuncId} (xs : List Nat) (ks : List Bool) (out : List Nat) (v53 : Int) {e_ : Ex} {σ_ : Env} (ht : T.ok (fun x_ => x_ = (e_, σ_)) (
 T.ite (decide (v53 < (↑(List.length xs) : Int)))
 (T.ob (0 ≤ v53 ∧ v53 < (↑(List.length xs) : Int))
 (T.ob (0 ≤ v53 ∧ v53 < (↑(List.length ks) : Int))
 (T.ite (List.getD ks (Int.toNat v53) false)
 (T.ob (List.length out + List.length [List.getD xs (Int.toNat v53) 0] ≤ 4294967296) (T.leaf (Ex.normal, h_impl_FillGaps_L2 xs ks (out ++ [List.getD xs (Int.toNat v53) 0]) (IntKind.wrap IntKind.i64 (v53 + 1)))))
 (T.ob
 (Exec VC ps_impl_FillGaps (VCode.block 4 (VCode.loop (b_impl_FillGaps_L4 gq0 gq1 gq2))) (h_impl_FillGaps_L4 xs ks out v53 v53) Ex.normal
 (h_impl_FillGaps_L4 xs ks out v53 (dnK ks (Int.toNat v53))))
 (T.ob
 (Exec VC ps_impl_FillGaps (VCode.block 6 (VCode.loop (b_impl_FillGaps_L6 gq0 gq1 gq2))) (h_impl_FillGaps_L4 xs ks out v53 (dnK ks (Int.toNat v53))) Ex.normal
 (h_impl_FillGaps_L6 xs ks out v53 (↑(upK ks (Int.toNat v53)) : Int)))
 (T.ite (decide (dnK ks (Int.toNat v53) < 0))
 (T.ob (0 ≤ (↑(upK ks (Int.toNat v53)) : Int) ∧ (↑(upK ks (Int.toNat v53)) : Int) < (↑(List.length xs) : Int))
 (T.ob (List.length out + List.length [List.getD xs (Int.toNat (↑(upK ks (Int.toNat v53)) : Int)) 0] ≤ 4294967296)
 (T.leaf (Ex.normal, h_impl_FillGaps_L2 xs ks (out ++ [List.getD xs (Int.toNat (↑(upK ks (Int.toNat v53)) : Int)) 0]) (IntKind.wrap IntKind.i64 (v53 + 1))))))
 (T.ite ((↑(upK ks (Int.toNat v53)) : Int) == (↑(List.length xs) : Int))
 (T.ob (0 ≤ dnK ks (Int.toNat v53) ∧ dnK ks (Int.toNat v53) < (↑(List.length xs) : Int))
 (T.ob (List.length out + List.length [List.getD xs (Int.toNat (dnK ks (Int.toNat v53))) 0] ≤ 4294967296)
 (T.leaf (Ex.normal, h_impl_FillGaps_L2 xs ks (out ++ [List.getD xs (Int.toNat (dnK ks (Int.toNat v53))) 0]) (IntKind.wrap IntKind.i64 (v53 + 1))))))
 (T.ob (0 ≤ dnK ks (Int.toNat v53) ∧ dnK ks (Int.toNat v53) < (↑(List.length xs) : Int))
 (T.ob (0 ≤ (↑(upK ks (Int.toNat v53)) : Int) ∧ (↑(upK ks (Int.toNat v53)) : Int) < (↑(List.length xs) : Int))
 (T.ob (0 ≤ dnK ks (Int.toNat v53) ∧ dnK ks (Int.toNat v53) < (↑(List.length xs) : Int))
 (T.ob True
 (T.ob True
 (T.ob True
 (T.ob
 (List.length out +
 List.length
 [fadd FloatKind.f32 (List.getD xs (Int.toNat (dnK ks (Int.toNat v53))) 0)
 (fmul FloatKind.f32 (fsub FloatKind.f32 (List.getD xs (Int.toNat (↑(upK ks (Int.toNat v53)) : Int)) 0) (List.getD xs (Int.toNat (dnK ks (Int.toNat v53))) 0))
 (fdiv FloatKind.f32 (fofi FloatKind.f32 (IntKind.wrap IntKind.i64 (v53 - dnK ks (Int.toNat v53))))
 (fofi FloatKind.f32 (IntKind.wrap IntKind.i64 ((↑(upK ks (Int.toNat v53)) : Int) - dnK ks (Int.toNat v53))))))] ≤
 4294967296)
 (T.leaf
 (Ex.normal,
 h_impl_FillGaps_L2 xs ks
 (out ++
 [fadd FloatKind.f32 (List.getD xs (Int.toNat (dnK ks (Int.toNat v53))) 0)
 (fmul FloatKind.f32 (fsub FloatKind.f32 (List.getD xs (Int.toNat (↑(upK ks (Int.toNat v53)) : Int)) 0) (List.getD xs (Int.toNat (dnK ks (Int.toNat v53))) 0))
 (fdiv FloatKind.f32 (fofi FloatKind.f32 (IntKind.wrap IntKind.i64 (v53 - dnK ks (Int.toNat v53))))
 (fofi FloatKind.f32 (IntKind.wrap IntKind.i64 ((↑(upK ks (Int.toNat v53)) : Int) - dnK ks (Int.toNat v53))))))])
 (IntKind.wrap IntKind.i64 (v53 + 1))))))))))))))))))
 (T.leaf (Ex.exit 2, h_impl_FillGaps_L2 xs ks out v53)))) :
 Exec VC ps_impl_FillGaps (b_impl_FillGaps_L2 gq0 gq1 gq2) (h_impl_FillGaps_L2 xs ks out v53) e_ σ_ := evL_of (lv := lv_impl_FillGaps_L2) (rs := [4, 5]) (O := ⟨oc_impl_FillGaps xs ks, fun id σ => match id with | 4 => some (lv_impl_FillGaps_L4, .leaf (.normal, h_impl_FillGaps_L4 xs ks out v53 (dnK ks v53.toNat))) | 6 => some (lv_impl_FillGaps_L6, .leaf (.normal, h_impl_FillGaps_L6 xs ks out v53 (upK ks v53.toNat))) | _ => none⟩) (by kernel_rfl) ht

theorem q_impl_FillGaps_L4 {VC : FuncId → List AV → AV → Prop} {gq0 gq1 gq2 : FuncId} (xs : List Nat) (ks : List Bool) (out : List Nat) (v53 : Int) (i : Int) {e_ : Ex} {σ_ : Env} (ht : T.ok (fun x_ => x_ = (e_, σ_)) (
 T.ite (decide (i ≥ 0))
 (T.ob (0 ≤ i ∧ i < (↑(List.length ks) : Int))
 (T.ite (!List.getD ks (Int.toNat i) false) (T.leaf (Ex.normal, h_impl_FillGaps_L4 xs ks out v53 (IntKind.wrap IntKind.i64 (i - 1)))) (T.leaf (Ex.exit 4, h_impl_FillGaps_L4 xs ks out v53 i))))
 (T.leaf (Ex.exit 4, h_impl_FillGaps_L4 xs ks out v53 i)))) :
 Exec VC ps_impl_FillGaps (b_impl_FillGaps_L4 gq0 gq1 gq2) (h_impl_FillGaps_L4 xs ks out v53 i) e_ σ_ := evL_of (lv := lv_impl_FillGaps_L4) (rs := [4, 5]) (O := ⟨oc_impl_FillGaps xs ks, fun _ _ => none⟩) (by kernel_rfl) ht

theorem q_impl_FillGaps_L6 {VC : FuncId → List AV → AV → Prop} {gq0 gq1 gq2 : FuncId} (xs : List Nat) (ks : List Bool) (out : List Nat) (v53 : Int) (k : Int) {e_ : Ex} {σ_ : Env} (ht : T.ok (fun x_ => x_ = (e_, σ_)) (
 T.ite (decide (k < (↑(List.length xs) : Int)))
 (T.ob (0 ≤ k ∧ k < (↑(List.length ks) : Int))
 (T.ite (!List.getD ks (Int.toNat k) false) (T.leaf (Ex.normal, h_impl_FillGaps_L6 xs ks out v53 (IntKind.wrap IntKind.i64 (k + 1)))) (T.leaf (Ex.exit 6, h_impl_FillGaps_L6 xs ks out v53 k))))
 (T.leaf (Ex.exit 6, h_impl_FillGaps_L6 xs ks out v53 k)))) :
 Exec VC ps_impl_FillGaps (b_impl_FillGaps_L6 gq0 gq1 gq2) (h_impl_FillGaps_L6 xs ks out v53 k) e_ σ_ := evL_of (lv := lv_impl_FillGaps_L6) (rs := [4, 5]) (O := ⟨oc_impl_FillGaps xs ks, fun _ _ => none⟩) (by kernel_rfl) ht

theorem q_impl_FillGaps {P : Program} {g_f : FuncId} {gq0 gq1 gq2 : FuncId} (h_ : Is_impl_FillGaps P g_f gq0 gq1 gq2) (xs : List Nat) (ks : List Bool) (ht : T.ok (fun x_ => x_ = .tup [OS 0 .f32 (if fgOk xs ks = true then gapsM xs ks else []), .b (fgOk xs ks)]) (
 T.ite (decide ((↑(List.length xs) : Int) < 1)) (T.leaf (AV.tup [AV.sl (Tag.own 0) 0 (Cont.f FloatKind.f32 []), AV.b false]))
 (T.ite (decide ((↑(List.length xs) : Int) > 96)) (T.leaf (AV.tup [AV.sl (Tag.own 0) 0 (Cont.f FloatKind.f32 []), AV.b false]))
 (T.ite ((↑(List.length ks) : Int) != (↑(List.length xs) : Int)) (T.leaf (AV.tup [AV.sl (Tag.own 0) 0 (Cont.f FloatKind.f32 []), AV.b false]))
 (T.ob ((VCall P) gq0 [AV.sl (Tag.par [0]) 0 (Cont.b ks), AV.b true] (AV.b (List.any ks fun (x : Bool) => true == x)))
 (T.ite (!List.any ks fun (x : Bool) => true == x) (T.leaf (AV.tup [AV.sl (Tag.own 0) 0 (Cont.f FloatKind.f32 []), AV.b false]))
 (T.ite (knFin xs ks)
 (T.ob
 (Exec (VCall P) ps_impl_FillGaps (VCode.block 0 (VCode.loop (b_impl_FillGaps_L0 gq0 gq1 gq2))) (h_impl_FillGaps_L0 xs ks 0) Ex.normal
 (h_impl_FillGaps_L0 xs ks (↑(List.length xs) : Int)))
 (T.ob
 (Exec (VCall P) ps_impl_FillGaps (VCode.block 2 (VCode.loop (b_impl_FillGaps_L2 gq0 gq1 gq2))) (h_impl_FillGaps_L2 xs ks [] 0) Ex.normal
 (h_impl_FillGaps_L2 xs ks (gapsM xs ks) (↑(List.length xs) : Int)))
 (T.ob ((VCall P) gq2 [AV.sl (Tag.par [0]) 0 (Cont.f FloatKind.f32 (gapsM xs ks))] (AV.tup [AV.sl (Tag.par [0]) 0 (Cont.f FloatKind.f32 (ifAllM (gapsM xs ks))), AV.b (finAllM (gapsM xs ks))]))
 (T.leaf (AV.tup [AV.sl (Tag.own 0) 0 (Cont.f FloatKind.f32 (ifAllM (gapsM xs ks))), AV.b (finAllM (gapsM xs ks))])))))
 (T.ob
 (Exec (VCall P) ps_impl_FillGaps (VCode.block 0 (VCode.loop (b_impl_FillGaps_L0 gq0 gq1 gq2))) (h_impl_FillGaps_L0 xs ks 0) Ex.ret
 (anys 4 ++ AV.sl Tag.nil 0 (Cont.f FloatKind.f32 []) :: AV.b false :: anys 135))
 (T.leaf (AV.tup [AV.sl (Tag.own 0) 0 (Cont.f FloatKind.f32 []), AV.b false])))))))))) :
 VCall P g_f [PS [0] .f32 xs, PB [1] ks] (.tup [OS 0 .f32 (if fgOk xs ks = true then gapsM xs ks else []), .b (fgOk xs ks)]) := h_.call_of ps_impl_FillGaps ⟨oc_impl_FillGaps xs ks, fun id σ => match id with | 0 => some (lv_impl_FillGaps_L0, .ite (knFin xs ks) (.leaf (.normal, h_impl_FillGaps_L0 xs ks xs.length)) (.leaf (.ret, anys 4 ++ .sl .nil 0 (.f .f32 []) :: .b false :: anys 135))) | 2 => some (lv_impl_FillGaps_L2, .leaf (.normal, h_impl_FillGaps_L2 xs ks (gapsM xs ks) xs.length)) | _ => none⟩ (by kernel_rfl) ht

-- END impl_FillGaps




theorem dn_spec (ks : List Bool) : ∀ n, (dnK ks n = -1 ∧ ∀ j, j ≤ n → ks.getD j false = false) ∨ ∃ m, m ≤ n ∧ dnK ks n = m ∧ ks.getD m false = true ∧ ∀ j, m < j → j ≤ n → ks.getD j false = false
  | 0 => by
    simp only [dnK]
    cases h : ks.getD 0 false with
    | false => left; exact ⟨by simp, fun j hj => by rw [show j = 0 by omega]; exact h⟩
    | true => right; exact ⟨0, Nat.le_refl _, by simp, h, fun j h1 h2 => by omega⟩
  | n + 1 => by
    simp only [dnK]
    cases h : ks.getD (n + 1) false with
    | true => right; exact ⟨n + 1, Nat.le_refl _, by simp, h, fun j h1 h2 => by omega⟩
    | false =>
      simp only [Bool.false_eq_true, if_false]
      rcases dn_spec ks n with ⟨h1, h2⟩ | ⟨m, h1, h2, h3, h4⟩
      · left
        refine ⟨h1, fun j hj => ?_⟩
        by_cases hj2 : j = n + 1
        · rw [hj2]; exact h
        · exact h2 j (by omega)
      · right
        refine ⟨m, by omega, h2, h3, fun j h5 h6 => ?_⟩
        by_cases hj2 : j = n + 1
        · rw [hj2]; exact h
        · exact h4 j h5 (by omega)
theorem getD_boolD (xs : List Bool) (k i : Nat) : (xs.drop k).getD i false = xs.getD (k + i) false := getD_drop' _ _ _ _
theorem up_spec (ks : List Bool) (n : Nat) (hn : n ≤ ks.length) : n ≤ upK ks n ∧ upK ks n ≤ ks.length ∧ (upK ks n < ks.length → ks.getD (upK ks n) false = true) ∧ ∀ j, n ≤ j → j < upK ks n → ks.getD j false = false := by
  have hl : (ks.drop n).length = ks.length - n := List.length_drop
  have h1 := List.findIdx_le_length (p := id) (xs := ks.drop n)
  unfold upK
  refine ⟨Nat.le_add_right _ _, by omega, fun h => ?_, fun j h2 h3 => ?_⟩
  · have := findIdx_is (p := id) (xs := ks.drop n) false (by omega)
    rw [getD_boolD] at this; exact this
  · have := findIdx_not (p := id) (xs := ks.drop n) (i := j - n) false (by omega) (by omega)
    rw [getD_boolD, show n + (j - n) = j by omega] at this; exact this
theorem k_slices_Index___bool_bool_ {P : Program} {f : FuncId} (h : Is_slices_Index___bool_bool_ P f) : C_slices_Index___bool_bool_ P f := by
  intro xs v hx
  have hm := ml64 hx
  have step : ∀ i, i < xs.length → (v == xs.getD i false) = false → Exec (VCall P) ps_slices_Index___bool_bool_ b_slices_Index___bool_bool__L0 (h_slices_Index___bool_bool__L0 xs v i) .normal (h_slices_Index___bool_bool__L0 xs v (i + 1 : Nat)) := by
    intro i hi hp
    refine q_slices_Index___bool_bool__L0 _ _ _ ⟨fun _ => ⟨by omega, fun _ => ⟨fun h => ?_, fun _ => ?_⟩⟩, fun h => absurd (of_decide_eq_false h) (by omega)⟩
    · rw [getD_nat, hp] at h; cases h
    · show _ = _
      rw [wrap64_id (by omega) (by omega)]; rfl
  refine q_slices_Index___bool_bool_ h xs v ⟨fun hlt => ⟨?_, fun _ => ?_⟩, fun hge => ⟨?_, fun _ => ?_⟩⟩
  · have hlt := of_decide_eq_true hlt
    refine for_up (e := .ret) (xs.findIdx fun x => v == x) (fun i => h_slices_Index___bool_bool__L0 xs v i) rfl (fun i hi => step i (by omega) (findIdx_not (p := fun x => v == x) false hi (by omega))) ?_
    refine q_slices_Index___bool_bool__L0 _ _ _ ⟨fun _ => ⟨by omega, fun _ => ⟨fun _ => rfl, fun h => ?_⟩⟩, fun h => absurd (of_decide_eq_false h) (by omega)⟩
    have := findIdx_is false hlt
    rw [getD_nat, this] at h; cases h
  · have hlt := of_decide_eq_true hlt
    show _ = _
    simp [idxM, hlt]
  · have hge := of_decide_eq_false hge
    have he := findIdx_eq hge
    refine for_up (e := .exit 0) xs.length (fun i => h_slices_Index___bool_bool__L0 xs v i) rfl (fun i hi => step i hi (findIdx_not (p := fun x => v == x) false (by omega) hi)) ?_
    exact q_slices_Index___bool_bool__L0 _ _ _ ⟨fun h => absurd h (by simp), fun _ => rfl⟩
  · have hge := of_decide_eq_false hge
    show _ = _
    simp [idxM, hge]
theorem k_slices_Contains___bool_bool_ {P : Program} {f g : FuncId} (h : Is_slices_Contains___bool_bool_ P f g) (hg : C_slices_Index___bool_bool_ P g) : C_slices_Contains___bool_bool_ P f := by
  intro xs v hx
  refine q_slices_Contains___bool_bool_ h xs v ⟨hg xs v hx, fun _ => ?_⟩
  show _ = _
  rw [idx_any]
theorem gaps_len (xs : List Nat) (ks : List Bool) : (gapsM xs ks).length = xs.length := tab_len _ _
theorem any_up (ks : List Bool) : (ks.any fun x => true == x) = decide (upK ks 0 < ks.length) := by
  have h := any_findIdx (p := fun x => true == x) (xs := ks)
  rw [h]
  have e : (fun x => true == x) = (id : Bool → Bool) := by funext x; cases x <;> rfl
  unfold upK
  rw [e, List.drop_zero, Nat.zero_add]
theorem fg_else {xs : List Nat} {ks : List Bool} (h : (decide (1 ≤ xs.length) && (decide (xs.length ≤ 96) && (decide (ks.length = xs.length) && ks.any (fun x => true == x)))) = false) : fgOk xs ks = false := by
  unfold fgOk
  revert h
  cases decide (1 ≤ xs.length) <;> cases decide (xs.length ≤ 96) <;> cases decide (ks.length = xs.length) <;> cases ks.any (fun x => true == x) <;> simp
theorem fg_then {xs : List Nat} {ks : List Bool} (h1 : 1 ≤ xs.length) (h2 : xs.length ≤ 96) (h3 : ks.length = xs.length) (h4 : ks.any (fun x => true == x) = true) : fgOk xs ks = (knFin xs ks && finAllM (gapsM xs ks)) := by
  unfold fgOk; rw [decide_eq_true h1, decide_eq_true h2, decide_eq_true h3, h4]; rfl
theorem up_lt_of {ks : List Bool} (h : upK ks 0 < ks.length) {n : Nat} (hn : n < ks.length) (hd : ∀ j, j ≤ n → ks.getD j false = false) : upK ks n < ks.length := by
  obtain ⟨u1, u2, u3, u4⟩ := up_spec ks n (by omega)
  obtain ⟨v1, v2, v3, v4⟩ := up_spec ks 0 (by omega)
  apply Decidable.byContradiction
  intro hc
  have ht := v3 h
  by_cases hle : upK ks 0 ≤ n
  · rw [hd _ hle] at ht; cases ht
  · rw [u4 (upK ks 0) (by omega) (by omega)] at ht; cases ht
theorem k_impl_FillGaps {P : Program} {f g1 g2 g3 : FuncId} (h : Is_impl_FillGaps P f g1 g2 g3) (c1 : C_slices_Contains___bool_bool_ P g1) (c2 : C_impl_IsFinite P g2) (c3 : C_impl_ifAll P g3) : C_impl_FillGaps P f := by
  intro xs ks hx hy
  refine q_impl_FillGaps h xs ks ?_
  have a1 := c1 ks true hy
  have a3 := c3 (gapsM xs ks) (by rw [gaps_len]; exact hx)
  by_cases h1 : 1 ≤ xs.length
  case neg =>
    rw [fg_else (by rw [decide_eq_false h1]; rfl)]
    repeat' (first | with_reducible refine T.ok_ob ?_ (fun _ => ?_) | with_reducible refine T.ok_ite (fun _ => ?_) (fun _ => ?_) | with_reducible refine T.ok_leaf ?_)
    all_goals (try simp only [decide_eq_true_eq, decide_eq_false_iff_not, Bool.not_eq_true', Bool.not_eq_false', Bool.not_eq_eq_eq_not, Bool.not_true, Bool.not_false, Int.toNat_natCast, tab_len, List.length_append, List.length_singleton, List.length_cons, List.length_nil, List.length_drop, List.length_take, getD_drop', getD_nat, reduceCtorEq] at *)
    all_goals (try simp (disch := omega) only [wrap64_id] at *)
    all_goals first | omega | (exfalso; omega) | exact True.intro | skip
    all_goals rfl
  by_cases h2 : xs.length ≤ 96
  case neg =>
    rw [fg_else (by rw [decide_eq_false h2]; simp)]
    repeat' (first | with_reducible refine T.ok_ob ?_ (fun _ => ?_) | with_reducible refine T.ok_ite (fun _ => ?_) (fun _ => ?_) | with_reducible refine T.ok_leaf ?_)
    all_goals (try simp only [decide_eq_true_eq, decide_eq_false_iff_not, Bool.not_eq_true', Bool.not_eq_false', Bool.not_eq_eq_eq_not, Bool.not_true, Bool.not_false, Int.toNat_natCast, tab_len, List.length_append, List.length_singleton, List.length_cons, List.length_nil, List.length_drop, List.length_take, getD_drop', getD_nat, reduceCtorEq] at *)
    all_goals (try simp (disch := omega) only [wrap64_id] at *)
    all_goals first | omega | (exfalso; omega) | exact True.intro | skip
    all_goals rfl
  by_cases h3 : ks.length = xs.length
  case neg =>
    rw [fg_else (by rw [decide_eq_false h3]; simp)]
    have e : ((ks.length : Int) != (xs.length : Int)) = true := by simp; omega
    rw [e]
    repeat' (first | with_reducible refine T.ok_ob ?_ (fun _ => ?_) | with_reducible refine T.ok_ite (fun _ => ?_) (fun _ => ?_) | with_reducible refine T.ok_leaf ?_)
    all_goals (try simp only [decide_eq_true_eq, decide_eq_false_iff_not, Bool.not_eq_true', Bool.not_eq_false', Bool.not_eq_eq_eq_not, Bool.not_true, Bool.not_false, Int.toNat_natCast, tab_len, List.length_append, List.length_singleton, List.length_cons, List.length_nil, List.length_drop, List.length_take, getD_drop', getD_nat, reduceCtorEq] at *)
    all_goals (try simp (disch := omega) only [wrap64_id] at *)
    all_goals first | omega | (exfalso; omega) | exact True.intro | skip
    all_goals rfl
  have e : ((ks.length : Int) != (xs.length : Int)) = false := by simp; omega
  rw [e]
  cases h4 : (ks.any fun x => true == x) <;> rw [h4] at a1
  · rw [fg_else (by rw [h4]; simp)]
    repeat' (first | with_reducible refine T.ok_ob ?_ (fun _ => ?_) | with_reducible refine T.ok_ite (fun _ => ?_) (fun _ => ?_) | with_reducible refine T.ok_leaf ?_)
    all_goals (try simp only [decide_eq_true_eq, decide_eq_false_iff_not, Bool.not_eq_true', Bool.not_eq_false', Bool.not_eq_eq_eq_not, Bool.not_true, Bool.not_false, Int.toNat_natCast, tab_len, List.length_append, List.length_singleton, List.length_cons, List.length_nil, List.length_drop, List.length_take, getD_drop', getD_nat, reduceCtorEq] at *)
    all_goals (try simp (disch := omega) only [wrap64_id] at *)
    all_goals first | omega | (exfalso; omega) | exact True.intro | skip
    all_goals first | exact a1 | rfl
  rw [fg_then h1 h2 h3 h4]
  have hu0 : upK ks 0 < ks.length := by rw [any_up] at h4; exact of_decide_eq_true h4
  have go : ∀ i, i < xs.length → (!(ks.getD i false && !finM (xs.getD i 0))) = true → Exec (VCall P) ps_impl_FillGaps (b_impl_FillGaps_L0 g1 g2 g3) (h_impl_FillGaps_L0 xs ks (i : Nat)) .normal (h_impl_FillGaps_L0 xs ks (i + 1 : Nat)) := by
    intro i hi hc
    refine q_impl_FillGaps_L0 _ _ _ ?_
    have b2 := c2 (xs.getD i 0)
    rw [Int.toNat_natCast]
    revert hc
    cases hk : ks.getD i false <;> cases hf : finM (xs.getD i 0) <;> intro hc <;> rw [hf] at b2
    · repeat' (first | with_reducible refine T.ok_ob ?_ (fun _ => ?_) | with_reducible refine T.ok_ite (fun _ => ?_) (fun _ => ?_) | with_reducible refine T.ok_leaf ?_)
      all_goals (try simp only [decide_eq_true_eq, decide_eq_false_iff_not, Bool.not_eq_true', Bool.not_eq_false', Bool.not_eq_eq_eq_not, Bool.not_true, Bool.not_false, Int.toNat_natCast, tab_len, List.length_append, List.length_singleton, List.length_cons, List.length_nil, List.length_drop, List.length_take, getD_drop', getD_nat, reduceCtorEq] at *)
      all_goals (try simp (disch := omega) only [wrap64_id] at *)
      all_goals first | omega | (exfalso; omega) | exact True.intro | skip
      all_goals rfl
    · repeat' (first | with_reducible refine T.ok_ob ?_ (fun _ => ?_) | with_reducible refine T.ok_ite (fun _ => ?_) (fun _ => ?_) | with_reducible refine T.ok_leaf ?_)
      all_goals (try simp only [decide_eq_true_eq, decide_eq_false_iff_not, Bool.not_eq_true', Bool.not_eq_false', Bool.not_eq_eq_eq_not, Bool.not_true, Bool.not_false, Int.toNat_natCast, tab_len, List.length_append, List.length_singleton, List.length_cons, List.length_nil, List.length_drop, List.length_take, getD_drop', getD_nat, reduceCtorEq] at *)
      all_goals (try simp (disch := omega) only [wrap64_id] at *)
      all_goals first | omega | (exfalso; omega) | exact True.intro | skip
      all_goals rfl
    · cases hc
    · repeat' (first | with_reducible refine T.ok_ob ?_ (fun _ => ?_) | with_reducible refine T.ok_ite (fun _ => ?_) (fun _ => ?_) | with_reducible refine T.ok_leaf ?_)
      all_goals (try simp only [decide_eq_true_eq, decide_eq_false_iff_not, Bool.not_eq_true', Bool.not_eq_false', Bool.not_eq_eq_eq_not, Bool.not_true, Bool.not_false, Int.toNat_natCast, tab_len, List.length_append, List.length_singleton, List.length_cons, List.length_nil, List.length_drop, List.length_take, getD_drop', getD_nat, reduceCtorEq] at *)
      all_goals (try simp (disch := omega) only [wrap64_id] at *)
      all_goals first | omega | (exfalso; omega) | exact True.intro | skip
      all_goals first | exact b2 | rfl
  have key : ∀ n, n < xs.length → Exec (VCall P) ps_impl_FillGaps (b_impl_FillGaps_L2 g1 g2 g3) (h_impl_FillGaps_L2 xs ks (tab n (gapM xs ks)) (n : Nat)) .normal (h_impl_FillGaps_L2 xs ks (tab (n + 1) (gapM xs ks)) (n + 1 : Nat)) := by
    intro n hn
    obtain ⟨u1, u2, u3, u4⟩ := up_spec ks n (by omega)
    refine q_impl_FillGaps_L2 _ _ _ _ ?_
    rw [Int.toNat_natCast, tab_succ]
    have el : (tab n (gapM xs ks)).length = n := tab_len _ _
    generalize hO : tab n (gapM xs ks) = O at *
    have l6 : Exec (VCall P) ps_impl_FillGaps (.block 6 (.loop (b_impl_FillGaps_L6 g1 g2 g3))) (h_impl_FillGaps_L6 xs ks O n n) .normal (h_impl_FillGaps_L6 xs ks O n (upK ks n)) := by
      refine for_up (e := .exit 6) (upK ks n - n) (fun j => h_impl_FillGaps_L6 xs ks O n (n + j : Nat)) rfl (fun j hj => ?_) ?_
      · refine q_impl_FillGaps_L6 _ _ _ _ _ ?_
        rw [Int.toNat_natCast, u4 (n + j) (by omega) (by omega)]
        repeat' (first | with_reducible refine T.ok_ob ?_ (fun _ => ?_) | with_reducible refine T.ok_ite (fun _ => ?_) (fun _ => ?_) | with_reducible refine T.ok_leaf ?_)
        all_goals (try simp only [decide_eq_true_eq, decide_eq_false_iff_not, Bool.not_eq_true', Bool.not_eq_false', Bool.not_eq_eq_eq_not, Bool.not_true, Bool.not_false, Int.toNat_natCast, tab_len, List.length_append, List.length_singleton, List.length_cons, List.length_nil, List.length_drop, List.length_take, getD_drop', getD_nat, reduceCtorEq] at *)
        all_goals (try simp (disch := omega) only [wrap64_id] at *)
        all_goals first | omega | (exfalso; omega) | exact True.intro | skip
        all_goals rfl
      · refine q_impl_FillGaps_L6 _ _ _ _ _ ?_
        rw [show n + (upK ks n - n) = upK ks n by omega, Int.toNat_natCast]
        by_cases hlt : upK ks n < ks.length
        · rw [u3 hlt]
          repeat' (first | with_reducible refine T.ok_ob ?_ (fun _ => ?_) | with_reducible refine T.ok_ite (fun _ => ?_) (fun _ => ?_) | with_reducible refine T.ok_leaf ?_)
          all_goals (try simp only [decide_eq_true_eq, decide_eq_false_iff_not, Bool.not_eq_true', Bool.not_eq_false', Bool.not_eq_eq_eq_not, Bool.not_true, Bool.not_false, Int.toNat_natCast, tab_len, List.length_append, List.length_singleton, List.length_cons, List.length_nil, List.length_drop, List.length_take, getD_drop', getD_nat, reduceCtorEq] at *)
          all_goals (try simp (disch := omega) only [wrap64_id] at *)
          all_goals first | omega | (exfalso; omega) | exact True.intro | skip
          all_goals rfl
        · repeat' (first | with_reducible refine T.ok_ob ?_ (fun _ => ?_) | with_reducible refine T.ok_ite (fun _ => ?_) (fun _ => ?_) | with_reducible refine T.ok_leaf ?_)
          all_goals (try simp only [decide_eq_true_eq, decide_eq_false_iff_not, Bool.not_eq_true', Bool.not_eq_false', Bool.not_eq_eq_eq_not, Bool.not_true, Bool.not_false, Int.toNat_natCast, tab_len, List.length_append, List.length_singleton, List.length_cons, List.length_nil, List.length_drop, List.length_take, getD_drop', getD_nat, reduceCtorEq] at *)
          all_goals (try simp (disch := omega) only [wrap64_id] at *)
          all_goals first | omega | (exfalso; omega) | exact True.intro | skip
          all_goals rfl
    have l6' : Exec (VCall P) ps_impl_FillGaps (.block 6 (.loop (b_impl_FillGaps_L6 g1 g2 g3))) (h_impl_FillGaps_L4 xs ks O n (dnK ks n)) .normal (h_impl_FillGaps_L6 xs ks O n (upK ks n)) := l6
    cases hk : ks.getD n false
    · rcases dn_spec ks n with ⟨d1, d2⟩ | ⟨m, d1, d2, d3, d4⟩
      · have hlt := up_lt_of hu0 (show n < ks.length by omega) d2
        have l4 : Exec (VCall P) ps_impl_FillGaps (.block 4 (.loop (b_impl_FillGaps_L4 g1 g2 g3))) (h_impl_FillGaps_L4 xs ks O n n) .normal (h_impl_FillGaps_L4 xs ks O n (-1)) := by
          refine for_up (e := .exit 4) (n + 1) (fun j => h_impl_FillGaps_L4 xs ks O n (n - j)) (by simp) (fun j hj => ?_) ?_
          · refine q_impl_FillGaps_L4 _ _ _ _ _ ?_
            have := d2 (n - j) (by omega)
            rw [show (n : Int) - j = (n - j : Nat) by omega, Int.toNat_natCast, this]
            repeat' (first | with_reducible refine T.ok_ob ?_ (fun _ => ?_) | with_reducible refine T.ok_ite (fun _ => ?_) (fun _ => ?_) | with_reducible refine T.ok_leaf ?_)
            all_goals (try simp only [decide_eq_true_eq, decide_eq_false_iff_not, Bool.not_eq_true', Bool.not_eq_false', Bool.not_eq_eq_eq_not, Bool.not_true, Bool.not_false, Int.toNat_natCast, tab_len, List.length_append, List.length_singleton, List.length_cons, List.length_nil, List.length_drop, List.length_take, getD_drop', getD_nat, reduceCtorEq] at *)
            all_goals (try simp (disch := omega) only [wrap64_id] at *)
            all_goals first | omega | (exfalso; omega) | exact True.intro | skip
            all_goals (rw [show ((n - j : Nat) : Int) - 1 = n - (j + 1 : Nat) by omega])
          · refine q_impl_FillGaps_L4 _ _ _ _ _ ?_
            rw [show (n : Int) - (n + 1 : Nat) = -1 by omega]
            repeat' (first | with_reducible refine T.ok_ob ?_ (fun _ => ?_) | with_reducible refine T.ok_ite (fun _ => ?_) (fun _ => ?_) | with_reducible refine T.ok_leaf ?_)
            all_goals (try simp only [decide_eq_true_eq, decide_eq_false_iff_not, Bool.not_eq_true', Bool.not_eq_false', Bool.not_eq_eq_eq_not, Bool.not_true, Bool.not_false, Int.toNat_natCast, tab_len, List.length_append, List.length_singleton, List.length_cons, List.length_nil, List.length_drop, List.length_take, getD_drop', getD_nat, reduceCtorEq] at *)
            all_goals (try simp (disch := omega) only [wrap64_id] at *)
            all_goals first | omega | (exfalso; omega) | exact True.intro | skip
            all_goals rfl
        have eg : gapM xs ks n = xs.getD (upK ks n) 0 := by
          unfold gapM
          rw [hk, d1]; simp
        rw [d1] at l6'
        rw [d1, eg]
        repeat' (first | with_reducible refine T.ok_ob ?_ (fun _ => ?_) | with_reducible refine T.ok_ite (fun _ => ?_) (fun _ => ?_) | with_reducible refine T.ok_leaf ?_)
        all_goals (try simp only [decide_eq_true_eq, decide_eq_false_iff_not, Bool.not_eq_true', Bool.not_eq_false', Bool.not_eq_eq_eq_not, Bool.not_true, Bool.not_false, Int.toNat_natCast, tab_len, List.length_append, List.length_singleton, List.length_cons, List.length_nil, List.length_drop, List.length_take, getD_drop', getD_nat, reduceCtorEq] at *)
        all_goals (try simp (disch := omega) only [wrap64_id] at *)
        all_goals first | omega | (exfalso; omega) | exact True.intro | skip
        all_goals first | exact l4 | exact l6' | rfl
      · have hmn : m < n := by
          rcases Nat.lt_or_eq_of_le d1 with h | rfl
          · exact h
          · rw [hk] at d3; cases d3
        have l4 : Exec (VCall P) ps_impl_FillGaps (.block 4 (.loop (b_impl_FillGaps_L4 g1 g2 g3))) (h_impl_FillGaps_L4 xs ks O n n) .normal (h_impl_FillGaps_L4 xs ks O n m) := by
          refine for_up (e := .exit 4) (n - m) (fun j => h_impl_FillGaps_L4 xs ks O n (n - j)) (by simp) (fun j hj => ?_) ?_
          · refine q_impl_FillGaps_L4 _ _ _ _ _ ?_
            have := d4 (n - j) (by omega) (by omega)
            rw [show (n : Int) - j = (n - j : Nat) by omega, Int.toNat_natCast, this]
            repeat' (first | with_reducible refine T.ok_ob ?_ (fun _ => ?_) | with_reducible refine T.ok_ite (fun _ => ?_) (fun _ => ?_) | with_reducible refine T.ok_leaf ?_)
            all_goals (try simp only [decide_eq_true_eq, decide_eq_false_iff_not, Bool.not_eq_true', Bool.not_eq_false', Bool.not_eq_eq_eq_not, Bool.not_true, Bool.not_false, Int.toNat_natCast, tab_len, List.length_append, List.length_singleton, List.length_cons, List.length_nil, List.length_drop, List.length_take, getD_drop', getD_nat, reduceCtorEq] at *)
            all_goals (try simp (disch := omega) only [wrap64_id] at *)
            all_goals first | omega | (exfalso; omega) | exact True.intro | skip
            all_goals (rw [show ((n - j : Nat) : Int) - 1 = n - (j + 1 : Nat) by omega])
          · refine q_impl_FillGaps_L4 _ _ _ _ _ ?_
            rw [show (n : Int) - (n - m : Nat) = m by omega, Int.toNat_natCast, d3]
            repeat' (first | with_reducible refine T.ok_ob ?_ (fun _ => ?_) | with_reducible refine T.ok_ite (fun _ => ?_) (fun _ => ?_) | with_reducible refine T.ok_leaf ?_)
            all_goals (try simp only [decide_eq_true_eq, decide_eq_false_iff_not, Bool.not_eq_true', Bool.not_eq_false', Bool.not_eq_eq_eq_not, Bool.not_true, Bool.not_false, Int.toNat_natCast, tab_len, List.length_append, List.length_singleton, List.length_cons, List.length_nil, List.length_drop, List.length_take, getD_drop', getD_nat, reduceCtorEq] at *)
            all_goals (try simp (disch := omega) only [wrap64_id] at *)
            all_goals first | omega | (exfalso; omega) | exact True.intro | skip
            all_goals rfl
        have hm0 : ¬ ((m : Int) < 0) := by omega
        by_cases hlt : upK ks n = xs.length
        · have eg : gapM xs ks n = xs.getD m 0 := by
            unfold gapM
            rw [hk, d2, if_neg (by simp), if_neg hm0, if_pos hlt, Int.toNat_natCast]
          have eb : ((upK ks n : Int) == (xs.length : Int)) = true := by rw [hlt]; simp
          rw [d2] at l6'
          rw [d2, eg, eb]
          repeat' (first | with_reducible refine T.ok_ob ?_ (fun _ => ?_) | with_reducible refine T.ok_ite (fun _ => ?_) (fun _ => ?_) | with_reducible refine T.ok_leaf ?_)
          all_goals (try simp only [decide_eq_true_eq, decide_eq_false_iff_not, Bool.not_eq_true', Bool.not_eq_false', Bool.not_eq_eq_eq_not, Bool.not_true, Bool.not_false, Int.toNat_natCast, tab_len, List.length_append, List.length_singleton, List.length_cons, List.length_nil, List.length_drop, List.length_take, getD_drop', getD_nat, reduceCtorEq] at *)
          all_goals (try simp (disch := omega) only [wrap64_id] at *)
          all_goals first | omega | (exfalso; omega) | exact True.intro | skip
          all_goals first | exact l4 | exact l6' | rfl
        · have eg : gapM xs ks n = fadd .f32 (xs.getD m 0) (fmul .f32 (fsub .f32 (xs.getD (upK ks n) 0) (xs.getD m 0)) (fdiv .f32 (fofi .f32 (n - m)) (fofi .f32 (upK ks n - m)))) := by
            unfold gapM
            rw [hk, d2, if_neg (by simp), if_neg hm0, if_neg hlt, Int.toNat_natCast]
          have eb : ((upK ks n : Int) == (xs.length : Int)) = false := by simp; omega
          rw [d2] at l6'
          rw [d2, eg, eb]
          repeat' (first | with_reducible refine T.ok_ob ?_ (fun _ => ?_) | with_reducible refine T.ok_ite (fun _ => ?_) (fun _ => ?_) | with_reducible refine T.ok_leaf ?_)
          all_goals (try simp only [decide_eq_true_eq, decide_eq_false_iff_not, Bool.not_eq_true', Bool.not_eq_false', Bool.not_eq_eq_eq_not, Bool.not_true, Bool.not_false, Int.toNat_natCast, tab_len, List.length_append, List.length_singleton, List.length_cons, List.length_nil, List.length_drop, List.length_take, getD_drop', getD_nat, reduceCtorEq] at *)
          all_goals (try simp (disch := omega) only [wrap64_id] at *)
          all_goals first | omega | (exfalso; omega) | exact True.intro | skip
          all_goals first | exact l4 | exact l6' | rfl
    · have eg : gapM xs ks n = xs.getD n 0 := by unfold gapM; rw [hk, if_pos rfl]
      rw [eg]
      repeat' (first | with_reducible refine T.ok_ob ?_ (fun _ => ?_) | with_reducible refine T.ok_ite (fun _ => ?_) (fun _ => ?_) | with_reducible refine T.ok_leaf ?_)
      all_goals (try simp only [decide_eq_true_eq, decide_eq_false_iff_not, Bool.not_eq_true', Bool.not_eq_false', Bool.not_eq_eq_eq_not, Bool.not_true, Bool.not_false, Int.toNat_natCast, tab_len, List.length_append, List.length_singleton, List.length_cons, List.length_nil, List.length_drop, List.length_take, getD_drop', getD_nat, reduceCtorEq] at *)
      all_goals (try simp (disch := omega) only [wrap64_id] at *)
      all_goals first | omega | (exfalso; omega) | exact True.intro | skip
      all_goals rfl
  cases hkn : knFin xs ks
  · repeat' (first | with_reducible refine T.ok_ob ?_ (fun _ => ?_) | with_reducible refine T.ok_ite (fun _ => ?_) (fun _ => ?_) | with_reducible refine T.ok_leaf ?_)
    all_goals first | with_reducible rfl | omega | exact a1 | exact a3 | skip
    all_goals (try simp only [decide_eq_true_eq, decide_eq_false_iff_not, Bool.not_true, Bool.not_false, reduceCtorEq] at *)
    all_goals first | omega | skip
    · refine for_one (e := .ret) _ xs.length (fun i => h_impl_FillGaps_L0 xs ks i) hkn rfl go (fun i hi hc => ?_)
      refine q_impl_FillGaps_L0 _ _ _ ?_
      have b2 := c2 (xs.getD i 0)
      rw [Int.toNat_natCast]
      revert hc
      cases hk : ks.getD i false <;> cases hf : finM (xs.getD i 0) <;> intro hc <;> rw [hf] at b2
      · cases hc
      · cases hc
      · repeat' (first | with_reducible refine T.ok_ob ?_ (fun _ => ?_) | with_reducible refine T.ok_ite (fun _ => ?_) (fun _ => ?_) | with_reducible refine T.ok_leaf ?_)
        all_goals (try simp only [decide_eq_true_eq, decide_eq_false_iff_not, Bool.not_eq_true', Bool.not_eq_false', Bool.not_eq_eq_eq_not, Bool.not_true, Bool.not_false, Int.toNat_natCast, tab_len, List.length_append, List.length_singleton, List.length_cons, List.length_nil, List.length_drop, List.length_take, getD_drop', getD_nat, reduceCtorEq] at *)
        all_goals (try simp (disch := omega) only [wrap64_id] at *)
        all_goals first | omega | (exfalso; omega) | exact True.intro | skip
        all_goals first | exact b2 | rfl
      · cases hc
    all_goals rfl
  · repeat' (first | with_reducible refine T.ok_ob ?_ (fun _ => ?_) | with_reducible refine T.ok_ite (fun _ => ?_) (fun _ => ?_) | with_reducible refine T.ok_leaf ?_)
    all_goals first | with_reducible rfl | omega | exact a1 | exact a3 | skip
    all_goals (try simp only [decide_eq_true_eq, decide_eq_false_iff_not, Bool.not_true, Bool.not_false, reduceCtorEq] at *)
    all_goals first | omega | skip
    · refine for_all (e := .exit 0) _ xs.length (fun i => h_impl_FillGaps_L0 xs ks i) hkn rfl go ?_
      refine q_impl_FillGaps_L0 _ _ _ ?_
      repeat' (first | with_reducible refine T.ok_ob ?_ (fun _ => ?_) | with_reducible refine T.ok_ite (fun _ => ?_) (fun _ => ?_) | with_reducible refine T.ok_leaf ?_)
      all_goals (try simp only [decide_eq_true_eq, decide_eq_false_iff_not, Bool.not_eq_true', Bool.not_eq_false', Bool.not_eq_eq_eq_not, Bool.not_true, Bool.not_false, Int.toNat_natCast, tab_len, List.length_append, List.length_singleton, List.length_cons, List.length_nil, List.length_drop, List.length_take, getD_drop', getD_nat, reduceCtorEq] at *)
      all_goals (try simp (disch := omega) only [wrap64_id] at *)
      all_goals first | omega | (exfalso; omega) | exact True.intro | skip
      all_goals rfl
    · refine for_up (e := .exit 2) xs.length (fun n => h_impl_FillGaps_L2 xs ks (tab n (gapM xs ks)) n) rfl (fun n hn => key n hn) ?_
      refine q_impl_FillGaps_L2 _ _ _ _ ?_
      repeat' (first | with_reducible refine T.ok_ob ?_ (fun _ => ?_) | with_reducible refine T.ok_ite (fun _ => ?_) (fun _ => ?_) | with_reducible refine T.ok_leaf ?_)
      all_goals (try simp only [decide_eq_true_eq, decide_eq_false_iff_not, Bool.not_eq_true', Bool.not_eq_false', Bool.not_eq_eq_eq_not, Bool.not_true, Bool.not_false, Int.toNat_natCast, tab_len, List.length_append, List.length_singleton, List.length_cons, List.length_nil, List.length_drop, List.length_take, getD_drop', getD_nat, reduceCtorEq] at *)
      all_goals (try simp (disch := omega) only [wrap64_id] at *)
      all_goals first | omega | (exfalso; omega) | exact True.intro | skip
      all_goals rfl
    all_goals (simp [ifAllM])

end Go.Proofs.LV
