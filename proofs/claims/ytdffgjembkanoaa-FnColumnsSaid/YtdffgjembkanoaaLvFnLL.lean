/- The fits agree. -/
import Derived.Test.YtdffgjembkanoaaLvFnKK
import Derived.Test.YtdffgjembkanoaaLvAbsX
namespace Go.Proofs.LV
open Go
set_option linter.unusedVariables false
set_option linter.unusedSimpArgs false

def dotY (x z : List Nat) (m : Nat) : Nat := accN (fun i s => fadd .f32 s (fmul .f32 (x.getD i 0) (z.getD i 0))) m 0
def lfA (xss : LL) (y : List Nat) (i : Nat) : List Nat := accN (fun i a => a ++ tab xss.length fun k => dotY (xss.getD i []) (xss.getD k []) y.length) i []
def lfB (xss : LL) (y : List Nat) (i : Nat) : List Nat := tab i fun i => dotY (xss.getD i []) y y.length
def lfAll (xss : LL) (y : List Nat) : Bool := slFin (lfA xss y xss.length, lfB xss y xss.length) && slAll (lfA xss y xss.length) (lfB xss y xss.length)
def lfOut (xss : LL) (y : List Nat) : List Nat := slOut (lfA xss y xss.length) (lfB xss y xss.length)

open Go.IntKind (wrap)
-- FN spec_l03Fit
def ps_spec_l03Fit : List Nat := [0, 1, 4, 5, 6, 7, 8, 9, 10, 11, 12, 13, 17, 18, 19, 22, 23, 24, 27, 28, 29, 55, 56, 57, 86]
def lv_spec_l03Fit_L0 : List Nat := [0, 1, 6, 7, 17, 18]
def lv_spec_l03Fit_L2 : List Nat := [0, 1, 6, 7, 8, 17, 18, 22, 23]
def lv_spec_l03Fit_L4 : List Nat := [0, 1, 6, 7, 8, 9, 10, 17, 18, 22, 23, 27, 28]
def lv_spec_l03Fit_L6 : List Nat := [0, 1, 6, 7, 8, 12, 17, 18, 55, 56]
def b_spec_l03Fit_L4 (gq0 gq1 : FuncId) : VCode :=
 (.seq
 (.region false [
 ⟨some 29, (.bin .lss), [.t 28, .t 27], none⟩])
 (.seq
 (.cond (.t 29)
 .skip
 (.exit 4))
 (.seq
 (.block 5
 (.seq
 (.region false [
 ⟨some 30, .mv, [.t 28], none⟩,
 ⟨some 11, .mv, [.t 30], none⟩])
 (.region true [
 ⟨some 31, .mv, [.t 10], none⟩,
 ⟨some 32, .mv, [.t 0], none⟩,
 ⟨some 33, .mv, [.t 8], none⟩,
 ⟨some 34, .iaddr, [.t 32, .t 33], none⟩,
 ⟨some 35, .load, [.t 34], none⟩,
 ⟨some 36, .mv, [.t 11], none⟩,
 ⟨some 37, .iaddr, [.t 35, .t 36], none⟩,
 ⟨some 38, .load, [.t 37], none⟩,
 ⟨some 39, .mv, [.t 0], none⟩,
 ⟨some 40, .mv, [.t 9], none⟩,
 ⟨some 41, .iaddr, [.t 39, .t 40], none⟩,
 ⟨some 42, .load, [.t 41], none⟩,
 ⟨some 43, .mv, [.t 11], none⟩,
 ⟨some 44, .iaddr, [.t 42, .t 43], none⟩,
 ⟨some 45, .load, [.t 44], none⟩,
 ⟨some 46, (.bin .mul), [.t 38, .t 45], none⟩,
 ⟨some 47, (.bin .add), [.t 31, .t 46], none⟩,
 ⟨some 10, .mv, [.t 47], none⟩])))
 (.region false [
 ⟨some 48, (.bin .add), [.t 28, .k (.i .i64 1)], none⟩,
 ⟨some 28, .mv, [.t 48], none⟩]))))

def b_spec_l03Fit_L2 (gq0 gq1 : FuncId) : VCode :=
 (.seq
 (.region false [
 ⟨some 24, (.bin .lss), [.t 23, .t 22], none⟩])
 (.seq
 (.cond (.t 24)
 .skip
 (.exit 2))
 (.seq
 (.block 3
 (.seq
 (.region false [
 ⟨some 25, .mv, [.t 23], none⟩,
 ⟨some 9, .mv, [.t 25], none⟩])
 (.seq
 (.region false [
 ⟨some 10, .mv, [.k (.f .f32 0)], none⟩])
 (.seq
 (.seq
 (.region false [
 ⟨some 26, .mv, [.t 1], none⟩,
 ⟨some 27, .len, [.t 26], none⟩,
 ⟨some 28, .mv, [.k (.i .i64 0)], none⟩])
 (.block 4 (.loop (b_spec_l03Fit_L4 gq0 gq1))))
 (.region false [
 ⟨some 49, .mv, [.t 6], none⟩,
 ⟨some 50, .mv, [.t 10], none⟩,
 ⟨some 51, (.lit true (.f .f32 [])), [.t 50], none⟩,
 ⟨some 52, .app, [.t 49, .t 51], none⟩,
 ⟨some 6, .mv, [.t 52], none⟩])))))
 (.region false [
 ⟨some 53, (.bin .add), [.t 23, .k (.i .i64 1)], none⟩,
 ⟨some 23, .mv, [.t 53], none⟩]))))

def b_spec_l03Fit_L6 (gq0 gq1 : FuncId) : VCode :=
 (.seq
 (.region false [
 ⟨some 57, (.bin .lss), [.t 56, .t 55], none⟩])
 (.seq
 (.cond (.t 57)
 .skip
 (.exit 6))
 (.seq
 (.block 7
 (.seq
 (.region false [
 ⟨some 58, .mv, [.t 56], none⟩,
 ⟨some 13, .mv, [.t 58], none⟩])
 (.region true [
 ⟨some 59, .mv, [.t 12], none⟩,
 ⟨some 60, .mv, [.t 0], none⟩,
 ⟨some 61, .mv, [.t 8], none⟩,
 ⟨some 62, .iaddr, [.t 60, .t 61], none⟩,
 ⟨some 63, .load, [.t 62], none⟩,
 ⟨some 64, .mv, [.t 13], none⟩,
 ⟨some 65, .iaddr, [.t 63, .t 64], none⟩,
 ⟨some 66, .load, [.t 65], none⟩,
 ⟨some 67, .mv, [.t 1], none⟩,
 ⟨some 68, .mv, [.t 13], none⟩,
 ⟨some 69, .iaddr, [.t 67, .t 68], none⟩,
 ⟨some 70, .load, [.t 69], none⟩,
 ⟨some 71, (.bin .mul), [.t 66, .t 70], none⟩,
 ⟨some 72, (.bin .add), [.t 59, .t 71], none⟩,
 ⟨some 12, .mv, [.t 72], none⟩])))
 (.region false [
 ⟨some 73, (.bin .add), [.t 56, .k (.i .i64 1)], none⟩,
 ⟨some 56, .mv, [.t 73], none⟩]))))

def b_spec_l03Fit_L0 (gq0 gq1 : FuncId) : VCode :=
 (.seq
 (.region false [
 ⟨some 19, (.bin .lss), [.t 18, .t 17], none⟩])
 (.seq
 (.cond (.t 19)
 .skip
 (.exit 0))
 (.seq
 (.block 1
 (.seq
 (.region false [
 ⟨some 20, .mv, [.t 18], none⟩,
 ⟨some 8, .mv, [.t 20], none⟩])
 (.seq
 (.seq
 (.region false [
 ⟨some 21, .mv, [.t 0], none⟩,
 ⟨some 22, .len, [.t 21], none⟩,
 ⟨some 23, .mv, [.k (.i .i64 0)], none⟩])
 (.block 2 (.loop (b_spec_l03Fit_L2 gq0 gq1))))
 (.seq
 (.region false [
 ⟨some 12, .mv, [.k (.f .f32 0)], none⟩])
 (.seq
 (.seq
 (.region false [
 ⟨some 54, .mv, [.t 1], none⟩,
 ⟨some 55, .len, [.t 54], none⟩,
 ⟨some 56, .mv, [.k (.i .i64 0)], none⟩])
 (.block 6 (.loop (b_spec_l03Fit_L6 gq0 gq1))))
 (.region false [
 ⟨some 74, .mv, [.t 7], none⟩,
 ⟨some 75, .mv, [.t 12], none⟩,
 ⟨some 76, (.lit true (.f .f32 [])), [.t 75], none⟩,
 ⟨some 77, .app, [.t 74, .t 76], none⟩,
 ⟨some 7, .mv, [.t 77], none⟩]))))))
 (.region false [
 ⟨some 78, (.bin .add), [.t 18, .k (.i .i64 1)], none⟩,
 ⟨some 18, .mv, [.t 78], none⟩]))))

def b_spec_l03Fit (gq0 gq1 : FuncId) : VCode :=
 (.seq
 (.region false [
 ⟨some 4, (.nilsl (.f .f32 [])), [], none⟩,
 ⟨some 5, .mv, [.k (.b false)], none⟩])
 (.seq
 (.region false [
 ⟨some 14, (.lit true (.f .f32 [])), [], none⟩,
 ⟨some 6, .mv, [.t 14], none⟩])
 (.seq
 (.region false [
 ⟨some 15, (.lit true (.f .f32 [])), [], none⟩,
 ⟨some 7, .mv, [.t 15], none⟩])
 (.seq
 (.seq
 (.region false [
 ⟨some 16, .mv, [.t 0], none⟩,
 ⟨some 17, .len, [.t 16], none⟩,
 ⟨some 18, .mv, [.k (.i .i64 0)], none⟩])
 (.block 0 (.loop (b_spec_l03Fit_L0 gq0 gq1))))
 (.seq
 (.seq
 (.region false [
 ⟨some 79, .mv, [.t 6], none⟩,
 ⟨some 80, (.call gq0), [.t 79], none⟩,
 ⟨some 81, .not, [.t 80], none⟩,
 ⟨some 82, .mv, [.t 81], none⟩,
 ⟨some 83, .mv, [.t 7], some (82, false)⟩,
 ⟨some 84, (.call gq0), [.t 83], some (82, false)⟩,
 ⟨some 85, .not, [.t 84], some (82, false)⟩,
 ⟨some 86, .pick, [.t 82, .k (.b true), .t 85], none⟩])
 (.cond (.t 86)
 (.seq
 (.region false [
 ⟨some 4, (.nilsl (.f .f32 [])), [], none⟩,
 ⟨some 5, .mv, [.k (.b false)], none⟩])
 .ret)
 .skip))
 (.seq
 (.region false [
 ⟨some 87, .mv, [.t 6], none⟩,
 ⟨some 88, .mv, [.t 7], none⟩,
 ⟨some 89, (.call gq1), [.t 87, .t 88], none⟩,
 ⟨some 90, (.extract 0), [.t 89], none⟩,
 ⟨some 91, (.extract 1), [.t 89], none⟩,
 ⟨some 4, .mv, [.t 90], none⟩,
 ⟨some 5, .mv, [.t 91], none⟩])
 .ret))))))

abbrev Is_spec_l03Fit (P : Program) (g_f : FuncId) (gq0 gq1 : FuncId) : Prop := FnIs P g_f 92 [.t 4, .t 5] (b_spec_l03Fit gq0 gq1)

abbrev C_spec_l03Fit (P : Program) (g_f : FuncId) : Prop := ∀ (xss : LL) (y : List Nat) (h1 : 1 ≤ xss.length ∧ xss.length ≤ 6) (hs : ∀ i, i < xss.length → (xss.getD i []).length = y.length) (hn : y.length ≤ 96), VCall P g_f [PF [0] xss, PS [1] .f32 y] (.tup [OS 0 .f32 (if lfAll xss y = true then lfOut xss y else []), .b (lfAll xss y && finAllM (lfOut xss y))])
def oc1_spec_l03Fit (as : List AV) : T AV := match as with | [.sl _ _ (.ff _ xss), .sl _ _ (.f .f32 y)] => .leaf (.tup [OS 0 .f32 (if lfAll xss y = true then lfOut xss y else []), .b (lfAll xss y && finAllM (lfOut xss y))]) | _ => .fail
def oc_spec_l03Fit (xss : LL) (y : List Nat) (d : Nat) (as : List AV) : T AV := match d with | 80 => oc1_spec_l02Finite as | 84 => oc1_spec_l02Finite as | 89 => oc1_spec_l03Solve as | _ => .fail
def h_spec_l03Fit_L0 (xss : LL) (y : List Nat) (a : List Nat) (b : List Nat) (v18 : Int) : Env := [AV.sl (Tag.par [0]) 0 (Cont.ff .f32 xss), AV.sl (Tag.par [1]) 0 (Cont.f .f32 y)] ++ anys 4 ++ [.sl (Tag.own 112) 0 (.f .f32 a), .sl (Tag.own 120) 0 (.f .f32 b)] ++ anys 9 ++ [AV.i .i64 (↑(List.length xss) : Int), .i .i64 v18] ++ anys 73
def h_spec_l03Fit_L2 (xss : LL) (y : List Nat) (a : List Nat) (b : List Nat) (v18 : Int) (a2 : List Nat) (b2 : List Nat) (v23 : Int) : Env := [AV.sl (Tag.par [0]) 0 (Cont.ff .f32 xss), AV.sl (Tag.par [1]) 0 (Cont.f .f32 y)] ++ anys 4 ++ [.sl (Tag.own 112) 0 (.f .f32 a2), .sl (Tag.own 120) 0 (.f .f32 b2), AV.i .i64 v18] ++ anys 8 ++ [AV.i .i64 (↑(List.length xss) : Int), AV.i .i64 v18, .any, .any, .any, AV.i .i64 (↑(List.length xss) : Int), .i .i64 v23] ++ anys 68
def h_spec_l03Fit_L4 (xss : LL) (y : List Nat) (a : List Nat) (b : List Nat) (v18 : Int) (a2 : List Nat) (b2 : List Nat) (v23 : Int) (sum : Nat) (v28 : Int) : Env := [AV.sl (Tag.par [0]) 0 (Cont.ff .f32 xss), AV.sl (Tag.par [1]) 0 (Cont.f .f32 y)] ++ anys 4 ++ [AV.sl (Tag.own 112) 0 (Cont.f .f32 a2), AV.sl (Tag.own 120) 0 (Cont.f .f32 b2), AV.i .i64 v18, AV.i .i64 v23, .f .f32 sum] ++ anys 6 ++ [AV.i .i64 (↑(List.length xss) : Int), AV.i .i64 v18, .any, .any, .any, AV.i .i64 (↑(List.length xss) : Int), AV.i .i64 v23, .any, .any, .any, AV.i .i64 (↑(List.length y) : Int), .i .i64 v28] ++ anys 63
def h_spec_l03Fit_L6 (xss : LL) (y : List Nat) (a : List Nat) (b : List Nat) (v18 : Int) (sum : Nat) (v56 : Int) : Env := [AV.sl (Tag.par [0]) 0 (Cont.ff .f32 xss), AV.sl (Tag.par [1]) 0 (Cont.f .f32 y)] ++ anys 4 ++ [AV.sl (Tag.own 112) 0 (Cont.f .f32 (a ++ tab (List.length xss) fun (k : Nat) => dotY (List.getD xss (Int.toNat v18) []) (List.getD xss k []) (List.length y))), AV.sl (Tag.own 120) 0 (Cont.f .f32 b), AV.i .i64 v18, .any, .any, .any, .f .f32 sum] ++ anys 4 ++ [AV.i .i64 (↑(List.length xss) : Int), AV.i .i64 v18] ++ anys 36 ++ [AV.i .i64 (↑(List.length y) : Int), .i .i64 v56] ++ anys 35

theorem q_spec_l03Fit_L0 {VC : FuncId → List AV → AV → Prop} {gq0 gq1 : FuncId} (xss : LL) (y : List Nat) (a : List Nat) (b : List Nat) (v18 : Int) {e_ : Ex} {σ_ : Env} (ht : T.ok (fun x_ => x_ = (e_, σ_)) (
 T.ite (decide (v18 < (↑(List.length xss) : Int)))
 (T.ob
 (Exec VC ps_spec_l03Fit (VCode.block 2 (VCode.loop (b_spec_l03Fit_L2 gq0 gq1))) (h_spec_l03Fit_L2 xss y a b v18 a b 0) Ex.normal
 (h_spec_l03Fit_L2 xss y a b v18 (a ++ tab (List.length xss) fun (k : Nat) => dotY (List.getD xss (Int.toNat v18) []) (List.getD xss k []) (List.length y)) b (↑(List.length xss) : Int)))
 (T.ob
 (Exec VC ps_spec_l03Fit (VCode.block 6 (VCode.loop (b_spec_l03Fit_L6 gq0 gq1))) (h_spec_l03Fit_L6 xss y a b v18 0 0) Ex.normal
 (h_spec_l03Fit_L6 xss y a b v18 (dotY (List.getD xss (Int.toNat v18) []) y (List.length y)) (↑(List.length y) : Int)))
 (T.ob (List.length b + List.length [dotY (List.getD xss (Int.toNat v18) []) y (List.length y)] ≤ 4294967296)
 (T.leaf
 (Ex.normal,
 h_spec_l03Fit_L0 xss y (a ++ tab (List.length xss) fun (k : Nat) => dotY (List.getD xss (Int.toNat v18) []) (List.getD xss k []) (List.length y))
 (b ++ [dotY (List.getD xss (Int.toNat v18) []) y (List.length y)]) (wrap .i64 (v18 + 1)))))))
 (T.leaf (Ex.exit 0, h_spec_l03Fit_L0 xss y a b v18)))) :
 Exec VC ps_spec_l03Fit (b_spec_l03Fit_L0 gq0 gq1) (h_spec_l03Fit_L0 xss y a b v18) e_ σ_ := evL_of (lv := lv_spec_l03Fit_L0) (rs := [4, 5]) (O := ⟨oc_spec_l03Fit xss y, fun id σ => match id with | 2 => some (lv_spec_l03Fit_L2, .leaf (.normal, h_spec_l03Fit_L2 xss y a b v18 (a ++ tab xss.length fun k => dotY (xss.getD v18.toNat []) (xss.getD k []) y.length) b xss.length)) | 6 => some (lv_spec_l03Fit_L6, .leaf (.normal, h_spec_l03Fit_L6 xss y a b v18 (dotY (xss.getD v18.toNat []) y y.length) y.length)) | _ => none⟩) (by kernel_rfl) ht

theorem q_spec_l03Fit_L2 {VC : FuncId → List AV → AV → Prop} {gq0 gq1 : FuncId} (xss : LL) (y : List Nat) (a : List Nat) (b : List Nat) (v18 : Int) (a2 : List Nat) (b2 : List Nat) (v23 : Int) {e_ : Ex} {σ_ : Env} (ht : T.ok (fun x_ => x_ = (e_, σ_)) (
 T.ite (decide (v23 < (↑(List.length xss) : Int)))
 (T.ob
 (Exec VC ps_spec_l03Fit (VCode.block 4 (VCode.loop (b_spec_l03Fit_L4 gq0 gq1))) (h_spec_l03Fit_L4 xss y a b v18 a2 b2 v23 0 0) Ex.normal
 (h_spec_l03Fit_L4 xss y a b v18 a2 b2 v23 (dotY (List.getD xss (Int.toNat v18) []) (List.getD xss (Int.toNat v23) []) (List.length y)) (↑(List.length y) : Int)))
 (T.ob (List.length a2 + List.length [dotY (List.getD xss (Int.toNat v18) []) (List.getD xss (Int.toNat v23) []) (List.length y)] ≤ 4294967296)
 (T.leaf (Ex.normal, h_spec_l03Fit_L2 xss y a b v18 (a2 ++ [dotY (List.getD xss (Int.toNat v18) []) (List.getD xss (Int.toNat v23) []) (List.length y)]) b2 (wrap .i64 (v23 + 1))))))
 (T.leaf (Ex.exit 2, h_spec_l03Fit_L2 xss y a b v18 a2 b2 v23)))) :
 Exec VC ps_spec_l03Fit (b_spec_l03Fit_L2 gq0 gq1) (h_spec_l03Fit_L2 xss y a b v18 a2 b2 v23) e_ σ_ := evL_of (lv := lv_spec_l03Fit_L2) (rs := [4, 5]) (O := ⟨oc_spec_l03Fit xss y, fun id σ => match id with | 4 => some (lv_spec_l03Fit_L4, .leaf (.normal, h_spec_l03Fit_L4 xss y a b v18 a2 b2 v23 (dotY (xss.getD v18.toNat []) (xss.getD v23.toNat []) y.length) y.length)) | _ => none⟩) (by kernel_rfl) ht

theorem q_spec_l03Fit_L4 {VC : FuncId → List AV → AV → Prop} {gq0 gq1 : FuncId} (xss : LL) (y : List Nat) (a : List Nat) (b : List Nat) (v18 : Int) (a2 : List Nat) (b2 : List Nat) (v23 : Int) (sum : Nat) (v28 : Int) {e_ : Ex} {σ_ : Env} (ht : T.ok (fun x_ => x_ = (e_, σ_)) (
 T.ite (decide (v28 < (↑(List.length y) : Int)))
 (T.ob (0 ≤ v18 ∧ v18 < (↑(List.length xss) : Int))
 (T.ob (0 ≤ v28 ∧ v28 < (↑(List.length (List.getD xss (Int.toNat v18) [])) : Int))
 (T.ob (0 ≤ v23 ∧ v23 < (↑(List.length xss) : Int))
 (T.ob (0 ≤ v28 ∧ v28 < (↑(List.length (List.getD xss (Int.toNat v23) [])) : Int))
 (T.leaf
 (Ex.normal,
 h_spec_l03Fit_L4 xss y a b v18 a2 b2 v23
 (fadd .f32 sum (fmul .f32 (List.getD (List.getD xss (Int.toNat v18) []) (Int.toNat v28) 0) (List.getD (List.getD xss (Int.toNat v23) []) (Int.toNat v28) 0)))
 (wrap .i64 (v28 + 1))))))))
 (T.leaf (Ex.exit 4, h_spec_l03Fit_L4 xss y a b v18 a2 b2 v23 sum v28)))) :
 Exec VC ps_spec_l03Fit (b_spec_l03Fit_L4 gq0 gq1) (h_spec_l03Fit_L4 xss y a b v18 a2 b2 v23 sum v28) e_ σ_ := evL_of (lv := lv_spec_l03Fit_L4) (rs := [4, 5]) (O := ⟨oc_spec_l03Fit xss y, fun _ _ => none⟩) (by kernel_rfl) ht

theorem q_spec_l03Fit_L6 {VC : FuncId → List AV → AV → Prop} {gq0 gq1 : FuncId} (xss : LL) (y : List Nat) (a : List Nat) (b : List Nat) (v18 : Int) (sum : Nat) (v56 : Int) {e_ : Ex} {σ_ : Env} (ht : T.ok (fun x_ => x_ = (e_, σ_)) (
 T.ite (decide (v56 < (↑(List.length y) : Int)))
 (T.ob (0 ≤ v18 ∧ v18 < (↑(List.length xss) : Int))
 (T.ob (0 ≤ v56 ∧ v56 < (↑(List.length (List.getD xss (Int.toNat v18) [])) : Int))
 (T.ob (0 ≤ v56 ∧ v56 < (↑(List.length y) : Int))
 (T.leaf
 (Ex.normal,
 h_spec_l03Fit_L6 xss y a b v18 (fadd .f32 sum (fmul .f32 (List.getD (List.getD xss (Int.toNat v18) []) (Int.toNat v56) 0) (List.getD y (Int.toNat v56) 0)))
 (wrap .i64 (v56 + 1)))))))
 (T.leaf (Ex.exit 6, h_spec_l03Fit_L6 xss y a b v18 sum v56)))) :
 Exec VC ps_spec_l03Fit (b_spec_l03Fit_L6 gq0 gq1) (h_spec_l03Fit_L6 xss y a b v18 sum v56) e_ σ_ := evL_of (lv := lv_spec_l03Fit_L6) (rs := [4, 5]) (O := ⟨oc_spec_l03Fit xss y, fun _ _ => none⟩) (by kernel_rfl) ht

theorem q_spec_l03Fit {P : Program} {g_f : FuncId} {gq0 gq1 : FuncId} (h_ : Is_spec_l03Fit P g_f gq0 gq1) (xss : LL) (y : List Nat) (ht : T.ok (fun x_ => x_ = .tup [OS 0 .f32 (if lfAll xss y = true then lfOut xss y else []), .b (lfAll xss y && finAllM (lfOut xss y))]) (
 T.ob
 (Exec (VCall P) ps_spec_l03Fit (VCode.block 0 (VCode.loop (b_spec_l03Fit_L0 gq0 gq1))) (h_spec_l03Fit_L0 xss y [] [] 0) Ex.normal
 (h_spec_l03Fit_L0 xss y (lfA xss y (List.length xss)) (lfB xss y (List.length xss)) (↑(List.length xss) : Int)))
 (T.ob ((VCall P) gq0 [AV.sl (Tag.par [0]) 0 (Cont.f .f32 (lfA xss y (List.length xss)))] (AV.b (finAllM (lfA xss y (List.length xss)))))
 (T.ite (!finAllM (lfA xss y (List.length xss))) (T.leaf (AV.tup [AV.sl (Tag.own 0) 0 (Cont.f .f32 []), AV.b false]))
 (T.ob ((VCall P) gq0 [AV.sl (Tag.par [0]) 0 (Cont.f .f32 (lfB xss y (List.length xss)))] (AV.b (finAllM (lfB xss y (List.length xss)))))
 (T.ite (!finAllM (lfB xss y (List.length xss))) (T.leaf (AV.tup [AV.sl (Tag.own 0) 0 (Cont.f .f32 []), AV.b false]))
 (T.ob
 ((VCall P) gq1 [AV.sl (Tag.own 800000) 0 (Cont.f .f32 (lfA xss y (List.length xss))), AV.sl (Tag.own 800001) 0 (Cont.f .f32 (lfB xss y (List.length xss)))]
 (AV.bx Tag.nil
 [AV.tup
 [AV.sl (Tag.own 0) 0
 (Cont.f .f32 (if slAll (lfA xss y (List.length xss)) (lfB xss y (List.length xss)) = true then slOut (lfA xss y (List.length xss)) (lfB xss y (List.length xss)) else [])),
 AV.b (slAll (lfA xss y (List.length xss)) (lfB xss y (List.length xss)) && finAllM (slOut (lfA xss y (List.length xss)) (lfB xss y (List.length xss))))],
 AV.tup
 [AV.sl (Tag.own 800000) 0
 (Cont.f .f32
 (if slAll (lfA xss y (List.length xss)) (lfB xss y (List.length xss)) = true then
 Prod.fst (slN (List.length (lfB xss y (List.length xss))) (lfA xss y (List.length xss), lfB xss y (List.length xss)) (List.length (lfB xss y (List.length xss))))
 else Prod.fst (slEnd (List.length (lfB xss y (List.length xss))) (lfA xss y (List.length xss), lfB xss y (List.length xss)) (List.length (lfB xss y (List.length xss)))))),
 AV.sl (Tag.own 800001) 0
 (Cont.f .f32
 (if slAll (lfA xss y (List.length xss)) (lfB xss y (List.length xss)) = true then
 Prod.snd (slN (List.length (lfB xss y (List.length xss))) (lfA xss y (List.length xss), lfB xss y (List.length xss)) (List.length (lfB xss y (List.length xss))))
 else Prod.snd (slEnd (List.length (lfB xss y (List.length xss))) (lfA xss y (List.length xss), lfB xss y (List.length xss)) (List.length (lfB xss y (List.length xss))))))]]) ∧
 List.length (lfA xss y (List.length xss)) =
 List.length
 (if slAll (lfA xss y (List.length xss)) (lfB xss y (List.length xss)) = true then
 Prod.fst (slN (List.length (lfB xss y (List.length xss))) (lfA xss y (List.length xss), lfB xss y (List.length xss)) (List.length (lfB xss y (List.length xss))))
 else Prod.fst (slEnd (List.length (lfB xss y (List.length xss))) (lfA xss y (List.length xss), lfB xss y (List.length xss)) (List.length (lfB xss y (List.length xss))))) ∧
 List.length (lfB xss y (List.length xss)) =
 List.length
 (if slAll (lfA xss y (List.length xss)) (lfB xss y (List.length xss)) = true then
 Prod.snd (slN (List.length (lfB xss y (List.length xss))) (lfA xss y (List.length xss), lfB xss y (List.length xss)) (List.length (lfB xss y (List.length xss))))
 else Prod.snd (slEnd (List.length (lfB xss y (List.length xss))) (lfA xss y (List.length xss), lfB xss y (List.length xss)) (List.length (lfB xss y (List.length xss))))) ∧
 List.length (lfA xss y (List.length xss)) =
 List.length
 (if slAll (lfA xss y (List.length xss)) (lfB xss y (List.length xss)) = true then
 Prod.fst (slN (List.length (lfB xss y (List.length xss))) (lfA xss y (List.length xss), lfB xss y (List.length xss)) (List.length (lfB xss y (List.length xss))))
 else Prod.fst (slEnd (List.length (lfB xss y (List.length xss))) (lfA xss y (List.length xss), lfB xss y (List.length xss)) (List.length (lfB xss y (List.length xss))))) ∧
 List.length (lfB xss y (List.length xss)) =
 List.length
 (if slAll (lfA xss y (List.length xss)) (lfB xss y (List.length xss)) = true then
 Prod.snd (slN (List.length (lfB xss y (List.length xss))) (lfA xss y (List.length xss), lfB xss y (List.length xss)) (List.length (lfB xss y (List.length xss))))
 else Prod.snd (slEnd (List.length (lfB xss y (List.length xss))) (lfA xss y (List.length xss), lfB xss y (List.length xss)) (List.length (lfB xss y (List.length xss))))) ∧
 True)
 (T.leaf
 (AV.tup
 [AV.sl (Tag.own 0) 0 (Cont.f .f32 (if slAll (lfA xss y (List.length xss)) (lfB xss y (List.length xss)) = true then slOut (lfA xss y (List.length xss)) (lfB xss y (List.length xss)) else [])),
 AV.b (slAll (lfA xss y (List.length xss)) (lfB xss y (List.length xss)) && finAllM (slOut (lfA xss y (List.length xss)) (lfB xss y (List.length xss))))]))))))))) :
 VCall P g_f [PF [0] xss, PS [1] .f32 y] (.tup [OS 0 .f32 (if lfAll xss y = true then lfOut xss y else []), .b (lfAll xss y && finAllM (lfOut xss y))]) := h_.call_of ps_spec_l03Fit ⟨oc_spec_l03Fit xss y, fun id σ => match id with | 0 => some (lv_spec_l03Fit_L0, .leaf (.normal, h_spec_l03Fit_L0 xss y (lfA xss y xss.length) (lfB xss y xss.length) xss.length)) | _ => none⟩ (by kernel_rfl) ht

-- END spec_l03Fit

/-! ### sizes -/
theorem siz_abs {x : Nat} (hn : nanB .f32 x = false) : srung .f32 (absF x) = srung .f32 (sizF x) ∧ nanB .f32 (absF x) = false ∧ nanB .f32 (sizF x) = false := by
  obtain ⟨n1, n2⟩ := neg_srung hn
  have ho := order_rung hn n2
  rw [n1] at ho
  have hl := flt_eq .f32 x 0
  rw [hn, show nanB .f32 0 = false by decide, show srung .f32 0 = 0 by decide] at hl
  simp only [Bool.not_false, Bool.true_and] at hl
  have ec : ∀ a b : Int, compare a b = if a < b then .lt else if a = b then .eq else .gt := fun a b => rfl
  rw [ec] at ho
  rcases Int.lt_trichotomy (srung .f32 x) 0 with hz | hz | hz
  · rw [if_pos (by omega)] at ho
    have e1 : absF x = fneg .f32 x := by unfold absF fmax; rw [ho]
    have e2 : sizF x = fneg .f32 x := by unfold sizF; rw [hl, if_pos (by simpa using hz)]
    rw [e1, e2]; exact ⟨rfl, n2, n2⟩
  · rw [if_neg (by omega), if_pos (by omega)] at ho
    have e2 : sizF x = x := by unfold sizF; rw [hl, if_neg (by simp; omega)]
    have e1 : absF x = fneg .f32 x ∨ absF x = x := by unfold absF fmax; rw [ho]; simp only; split <;> simp
    rw [e2]
    rcases e1 with e1 | e1
    · rw [e1]; exact ⟨by omega, n2, hn⟩
    · rw [e1]; exact ⟨rfl, hn, hn⟩
  · rw [if_neg (by omega), if_neg (by omega)] at ho
    have e1 : absF x = x := by unfold absF fmax; rw [ho]
    have e2 : sizF x = x := by unfold sizF; rw [hl, if_neg (by simp; omega)]
    rw [e1, e2]; exact ⟨rfl, hn, hn⟩
theorem gt_siz {x y : Nat} (hx : finM x = true) (hy : finM y = true) : fgt .f32 (absF x) (absF y) = fgt .f32 (sizF x) (sizF y) := by
  obtain ⟨a1, a2, a3⟩ := siz_abs (finM_nan hx)
  obtain ⟨b1, b2, b3⟩ := siz_abs (finM_nan hy)
  rw [fgt_eq, fgt_eq, a1, a2, a3, b1, b2, b3]
theorem gt_sizc {x : Nat} (c : Nat) (hx : finM x = true) : fgt .f32 (absF x) c = fgt .f32 (sizF x) c := by
  obtain ⟨a1, a2, a3⟩ := siz_abs (finM_nan hx)
  rw [fgt_eq, fgt_eq, a1, a2, a3]
open Ieee in
theorem bad_mul {a b : Nat} (h : finM a = false) (hb : finM b = true) : finM (fmul .f32 a b) = false := by
  obtain ⟨u, m, i, hb⟩ := fin_class hb
  have key : ∀ d, (single.read a).product (single.read b) = some d → ∃ s, d = .infinity s := by
    intro d hd
    rw [hb] at hd
    rcases bad_class h with ⟨s, e⟩ | ⟨s, t, e⟩
    · rw [e] at hd
      simp only [Datum.product] at hd
      split at hd
      · cases hd
      · cases hd; exact ⟨_, rfl⟩
    · rw [e] at hd; cases hd
  exact bad_getD (o := (single.read a).product (single.read b)) key

/-! ### flat lists and rows -/
theorem ix_inj {n r j r' j' : Nat} (hj : j < n) (hj' : j' < n) (h : r * n + j = r' * n + j') : r = r' ∧ j = j' := by
  have hn : 0 < n := by omega
  have h1 : ∀ r j, j < n → (r * n + j) / n = r := fun r j hj => by
    rw [Nat.add_comm, Nat.add_mul_div_right _ _ hn, Nat.div_eq_of_lt hj]; omega
  have : r = r' := by rw [← h1 r j hj, ← h1 r' j' hj', h]
  subst this
  exact ⟨rfl, by omega⟩
theorem ix_lt {n r j : Nat} (hr : r < n) (hj : j < n) : r * n + j < n * n := by
  have h1 : r * n + n ≤ n * n := by
    have := Nat.mul_le_mul_right n (show r + 1 ≤ n by omega)
    rw [Nat.add_mul, Nat.one_mul] at this; exact this
  omega
structure Rel (n : Nat) (q : List Nat × List Nat) (M : LL) : Prop where
  la : q.1.length = n * n
  lb : q.2.length = n
  rect : Rect M n
  a : ∀ r j, r < n → j < n → q.1.getD (r * n + j) 0 = mAt M r j
  b : ∀ r, r < n → q.2.getD r 0 = mAt M r n
def FinM (M : LL) (n : Nat) : Prop := ∀ r j, r < n → j ≤ n → finM (mAt M r j) = true

theorem slP_rel {n : Nat} {q : List Nat × List Nat} {M : LL} (h : Rel n q M) (hf : FinM M n) {k : Nat} : ∀ m, k + m < n → slP q.1 n k m = bestL M k (m + 1)
  | 0, hk => by show k = if _ then k else k; split <;> rfl
  | m + 1, hk => by
    have ih := slP_rel h hf (k := k) m (by omega)
    have hr := bestL_range M k (m + 1)
    have e : bestL M k (m + 1 + 1) = if fgt .f32 (absF (mAt M (k + (m + 1)) k)) (absF (mAt M (bestL M k (m + 1)) k)) = true then k + (m + 1) else bestL M k (m + 1) := rfl
    rw [e]
    simp only [slP]
    rw [ih, h.a _ _ (by omega) (by omega), h.a _ _ (by omega) (by omega), ← gt_siz (hf _ _ (by omega) (by omega)) (hf _ _ (by omega) (by omega)), show k + 1 + m = k + (m + 1) by omega]
theorem slK_rel {n : Nat} {q : List Nat × List Nat} {M : LL} (h : Rel n q M) (hf : FinM M n) {k : Nat} (hk : k < n) : slK n k q = bestL M k (n - k) := by
  unfold slK
  rw [slP_rel h hf (n - (k + 1)) (by omega), show n - (k + 1) + 1 = n - k by omega]
theorem slPiv_rel {n : Nat} {q : List Nat × List Nat} {M : LL} (h : Rel n q M) (hf : FinM M n) {k : Nat} (hk : k < n) : slPiv n k q = pivOk (swK M n k) k := by
  have hb := best_lt (M := M) hk
  have hl := h.rect.len
  unfold slPiv pivOk
  rw [slK_rel h hf hk, h.a _ _ hb hk, ← gt_sizc _ (hf _ _ hb (by omega))]
  have : mAt (swK M n k) k k = mAt M (bestL M k (n - k)) k := by
    unfold mAt swK
    rw [swL_get (by omega) (by omega)]
    split
    · rename_i e; rw [e]
    · rw [if_pos rfl]
  rw [this]

theorem slW_succ (n k p c : Nat) (a : List Nat) : slW n k p (c + 1) a = ((slW n k p c a).set (k * n + c) ((slW n k p c a).getD (p * n + c) 0)).set (p * n + c) ((slW n k p c a).getD (k * n + c) 0) := rfl
theorem slE_succ (n k r f t : Nat) (a : List Nat) : slE n k r f (t + 1) a = (slE n k r f t a).set (r * n + (k + 1 + t)) (fsub .f32 ((slE n k r f t a).getD (r * n + (k + 1 + t)) 0) (fmul .f32 f ((slE n k r f t a).getD (k * n + (k + 1 + t)) 0))) := rfl
theorem slW_get {n k p : Nat} (hk : k < n) (hp : p < n) {a : List Nat} (hl : a.length = n * n) : ∀ c, c ≤ n → ∀ r j, r < n → j < n → (slW n k p c a).getD (r * n + j) 0 = if j < c then (if r = p then a.getD (k * n + j) 0 else if r = k then a.getD (p * n + j) 0 else a.getD (r * n + j) 0) else a.getD (r * n + j) 0
  | 0, _, r, j, hr, hj => by simp [slW, accN]
  | c + 1, hc, r, j, hr, hj => by
    have ih := slW_get hk hp hl c (by omega)
    have hlen := slW_len n k p a c
    rw [slW_succ, Go.Proofs.LV.getD_set _ _ _ _ _ (by rw [List.length_set, hlen, hl]; exact ix_lt hp (by omega)), Go.Proofs.LV.getD_set _ _ _ _ _ (by rw [hlen, hl]; exact ix_lt hk (by omega))]
    rw [ih k c hk (by omega), ih p c hp (by omega), ih r j hr hj]
    simp only [Nat.lt_irrefl, if_false]
    by_cases e : j = c
    · subst e
      rw [if_pos (show j < j + 1 by omega)]
      by_cases e2 : r = p
      · subst e2; rw [if_pos rfl, if_pos rfl]
      · rw [if_neg (fun h => e2 (ix_inj hj hj h).1.symm), if_neg e2]
        by_cases e3 : r = k
        · subst e3; rw [if_pos rfl, if_pos rfl]
        · rw [if_neg (fun h => e3 (ix_inj hj hj h).1.symm), if_neg e3, if_neg (by omega)]
    · rw [if_neg (fun h => e (ix_inj (by omega) hj h).2.symm), if_neg (fun h => e (ix_inj (by omega) hj h).2.symm)]
      by_cases h2 : j < c
      · rw [if_pos h2, if_pos (show j < c + 1 by omega)]
      · rw [if_neg h2, if_neg (by omega)]
theorem sw_rel {n : Nat} {q : List Nat × List Nat} {M : LL} (h : Rel n q M) {k p : Nat} (hk : k < n) (hp : p < n) : Rel n (slW n k p n q.1, slB k p q.2) (swL M k p) := by
  have hl := h.rect.len
  refine ⟨by rw [slW_len]; exact h.la, by rw [slB_len]; exact h.lb, swL_rect h.rect hk hp, fun r j hr hj => ?_, fun r hr => ?_⟩
  · rw [slW_get hk hp h.la n (Nat.le_refl _) r j hr hj, if_pos hj]
    unfold mAt
    rw [swL_get (by omega) (by omega)]
    by_cases e : r = p
    · rw [if_pos e, if_pos (show p = r from e.symm)]; exact h.a _ _ hk hj
    · rw [if_neg e, if_neg (show ¬ p = r from fun h => e h.symm)]
      by_cases e2 : r = k
      · rw [if_pos e2, if_pos (show k = r from e2.symm)]; exact h.a _ _ hp hj
      · rw [if_neg e2, if_neg (show ¬ k = r from fun h => e2 h.symm)]; exact h.a _ _ hr hj
  · show (slB k p q.2).getD r 0 = _
    unfold slB mAt
    have hlb := h.lb
    rw [Go.Proofs.LV.getD_set _ _ _ _ _ (by rw [List.length_set]; omega), Go.Proofs.LV.getD_set _ _ _ _ _ (by omega), swL_get (by omega) (by omega)]
    split
    · exact h.b _ hk
    · split
      · exact h.b _ hp
      · exact h.b _ hr

theorem slE_get {n k r0 f : Nat} (hk : k < n) (hr0 : r0 < n) (hne : k ≠ r0) {a : List Nat} (hl : a.length = n * n) : ∀ t, k + 1 + t ≤ n → ∀ r j, r < n → j < n → (slE n k r0 f t a).getD (r * n + j) 0 = if r = r0 ∧ k < j ∧ j < k + 1 + t then fsub .f32 (a.getD (r0 * n + j) 0) (fmul .f32 f (a.getD (k * n + j) 0)) else a.getD (r * n + j) 0
  | 0, _, r, j, hr, hj => by rw [if_neg (by omega)]; rfl
  | t + 1, hc, r, j, hr, hj => by
    have ih := slE_get (f := f) hk hr0 hne hl t (by omega)
    have hlen := slE_len n k r0 f a t
    rw [slE_succ, Go.Proofs.LV.getD_set _ _ _ _ _ (by rw [hlen, hl]; exact ix_lt hr0 (by omega)), ih r0 (k + 1 + t) hr0 (by omega), ih k (k + 1 + t) hk (by omega), ih r j hr hj, if_neg (show ¬ (r0 = r0 ∧ k < k + 1 + t ∧ k + 1 + t < k + 1 + t) by omega), if_neg (show ¬ (k = r0 ∧ k < k + 1 + t ∧ k + 1 + t < k + 1 + t) by omega)]
    by_cases e : r0 * n + (k + 1 + t) = r * n + j
    · obtain ⟨e1, e2⟩ := ix_inj (by omega) hj e
      subst e1; subst e2
      rw [if_pos rfl, if_pos (by omega)]
    · rw [if_neg e]
      by_cases h2 : r = r0 ∧ k < j ∧ j < k + 1 + t
      · rw [if_pos h2, if_pos (by omega)]
      · rw [if_neg h2, if_neg]
        rintro ⟨h3, h4, h5⟩
        subst h3
        exact e (by rw [show j = k + 1 + t by omega])
theorem mAt_el {M : LL} {k n R r j : Nat} (hM : Rect M n) (hr : r < n) (hj : j ≤ n) : mAt (elL M k n R) r j = if (k < r ∧ r < R) ∧ k < j then fsub .f32 (mAt M r j) (fmul .f32 (elF M k r) (mAt M k j)) else mAt M r j := by
  have hl := hM.len
  show ((elL M k n R).getD r []).getD j 0 = _
  rw [elL_get (by omega)]
  by_cases h : k < r ∧ r < R
  · rw [if_pos h, elR_get (by rw [hM.row _ hr]; omega)]
    by_cases h2 : k < j
    · rw [if_pos ⟨h2, by omega⟩, if_pos ⟨h, h2⟩]
    · rw [if_neg (fun x => h2 x.1), if_neg (fun x => h2 x.2)]
  · rw [if_neg h, if_neg (fun x => h x.1)]; rfl
theorem el_rel {n : Nat} {q : List Nat × List Nat} {M : LL} (h : Rel n q M) {k : Nat} (hk : k < n) : ∀ m, k + 1 + m ≤ n → Rel n (slR n k m q) (elL M k n (k + 1 + m))
  | 0, _ => by rw [Nat.add_zero, elL_start]; exact h
  | m + 1, hm => by
    have ih := el_rel h hk m (by omega)
    have hl := slR_len n k q (m + 1)
    have hM := h.rect
    have ef : slF n k (k + 1 + m) (slR n k m q).1 = elF M k (k + 1 + m) := by
      unfold slF elF
      rw [ih.a _ _ (by omega) hk, ih.a _ _ hk hk, mAt_el hM (by omega) (by omega), mAt_el hM hk (by omega), if_neg (by omega), if_neg (by omega)]
    refine ⟨hl.1.trans h.la, hl.2.trans h.lb, elL_rect hM, fun r j hr hj => ?_, fun r hr => ?_⟩
    · show (slE n k (k + 1 + m) (slF n k (k + 1 + m) (slR n k m q).1) (n - (k + 1)) (slR n k m q).1).getD (r * n + j) 0 = _
      rw [slE_get hk (by omega) (by omega) ih.la _ (by omega) r j hr hj, ef, ih.a _ _ (by omega) hj, ih.a _ _ hk hj, ih.a _ _ hr hj, mAt_el hM (by omega) (by omega), mAt_el hM hk (by omega), mAt_el hM hr (by omega), mAt_el hM hr (by omega)]
      by_cases h1 : r = k + 1 + m
      · subst h1
        by_cases h2 : k < j
        · rw [if_pos (by omega), if_neg (by omega), if_neg (by omega), if_pos (by omega)]
        · rw [if_neg (by omega), if_neg (by omega), if_neg (by omega)]
      · rw [if_neg (by omega)]
        by_cases h2 : (k < r ∧ r < k + 1 + m) ∧ k < j
        · rw [if_pos h2, if_pos (by omega)]
        · rw [if_neg h2, if_neg (by omega)]
    · show ((slR n k m q).2.set (k + 1 + m) (fsub .f32 ((slR n k m q).2.getD (k + 1 + m) 0) (fmul .f32 (slF n k (k + 1 + m) (slR n k m q).1) ((slR n k m q).2.getD k 0)))).getD r 0 = _
      have hlb := ih.lb
      rw [Go.Proofs.LV.getD_set _ _ _ _ _ (by omega), ef, ih.b _ (by omega), ih.b _ hk, ih.b _ hr, mAt_el hM (by omega) (by omega), mAt_el hM hk (by omega), mAt_el hM hr (by omega), mAt_el hM hr (by omega)]
      by_cases h1 : r = k + 1 + m
      · subst h1
        rw [if_pos rfl, if_neg (by omega), if_neg (by omega), if_pos (by omega)]
      · rw [if_neg (fun h => h1 h.symm)]
        by_cases h2 : (k < r ∧ r < k + 1 + m) ∧ k < n
        · rw [if_pos h2, if_pos (by omega)]
        · rw [if_neg h2, if_neg (by omega)]
theorem st_rel {n : Nat} {q : List Nat × List Nat} {M : LL} (h : Rel n q M) (hf : FinM M n) {k : Nat} (hk : k < n) : Rel n (slS n k q) (elL (swK M n k) k n n) := by
  have h1 := sw_rel h hk (best_lt (M := M) hk)
  have h2 := el_rel h1 hk (n - (k + 1)) (by omega)
  rw [show k + 1 + (n - (k + 1)) = n by omega] at h2
  unfold slS
  rw [slK_rel h hf hk]
  exact h2
theorem fin_rel {n : Nat} {q : List Nat × List Nat} {M : LL} (h : Rel n q M) : slFin q = true ↔ FinM M n := by
  unfold slFin finAllM
  rw [Bool.and_eq_true, ← allN_all _ 0, ← allN_all _ 0, allN_iff, allN_iff, h.la, h.lb]
  constructor
  · rintro ⟨h1, h2⟩ r j hr hj
    by_cases e : j = n
    · subst e; rw [← h.b _ hr]; exact h2 _ hr
    · rw [← h.a _ _ hr (by omega)]; exact h1 _ (ix_lt hr (by omega))
  · intro hF
    refine ⟨fun i hi => ?_, fun i hi => ?_⟩
    · have hn : 0 < n := Nat.pos_of_ne_zero (fun e => by subst e; simp at hi)
      have e : i = (i / n) * n + i % n := by rw [Nat.mul_comm]; exact (Nat.div_add_mod i n).symm
      have h1 : i / n < n := Nat.div_lt_of_lt_mul hi
      have h2 : i % n < n := Nat.mod_lt _ hn
      rw [e, h.a _ _ h1 h2]; exact hF _ _ h1 (by omega)
    · rw [h.b _ hi]; exact hF _ _ hi (Nat.le_refl _)

theorem sw_fin {M : LL} {n k : Nat} (hM : Rect M n) (hf : FinM M n) (hk : k < n) : FinM (swK M n k) n := by
  intro r j hr hj
  have hl := hM.len
  have hb := best_lt (M := M) hk
  unfold mAt swK
  rw [swL_get (by omega) (by omega)]
  split
  · exact hf _ _ hk hj
  · split
    · exact hf _ _ hb hj
    · exact hf _ _ hr hj
theorem elOk_of {M : LL} {n k r : Nat} (hM : Rect M n) (hf : FinM M n) (hN : FinM (elL M k n n) n) (hk : k < r) (hr : r < n) : elOk M k n r = true := by
  unfold elOk finAllM
  have hl := hM.row r hr
  rw [Bool.and_eq_true, ← allN_all _ 0, allN_iff, elR_len, hl]
  constructor
  · cases h : finM (elF M k r) with
    | true => rfl
    | false =>
      have h1 := hN r n hr (Nat.le_refl _)
      rw [mAt_el hM hr (Nat.le_refl _), if_pos ⟨⟨hk, hr⟩, by omega⟩] at h1
      rw [bad_sub (hf r n hr (Nat.le_refl _)) (bad_mul h (hf k n (by omega) (Nat.le_refl _)))] at h1
      cases h1
  · intro j hj
    have h1 := hN r j hr (by omega)
    rw [mAt_el hM hr (by omega)] at h1
    rw [elR_get (by omega)]
    by_cases h2 : k < j
    · rw [if_pos ⟨h2, by omega⟩]; rw [if_pos ⟨⟨hk, hr⟩, h2⟩] at h1; exact h1
    · rw [if_neg (fun x => h2 x.1)]; rw [if_neg (fun x => h2 x.2)] at h1; exact h1
theorem fin_of_elOk {M : LL} {n k : Nat} (hM : Rect M n) (hf : FinM M n) (h : ∀ r, k < r → r < n → elOk M k n r = true) : FinM (elL M k n n) n := by
  intro r j hr hj
  by_cases h1 : k < r
  · have h2 := h r h1 hr
    unfold elOk finAllM at h2
    have hl := hM.row r hr
    rw [Bool.and_eq_true, ← allN_all _ 0, allN_iff, elR_len, hl] at h2
    have h3 := h2.2 j (by omega)
    rw [elR_get (by omega)] at h3
    rw [mAt_el hM hr hj]
    by_cases h4 : k < j
    · rw [if_pos ⟨⟨h1, hr⟩, h4⟩]; rw [if_pos ⟨h4, by omega⟩] at h3; exact h3
    · rw [if_neg (fun x => h4 x.2)]; exact hf _ _ hr hj
  · rw [mAt_el hM hr hj, if_neg (fun x => h1 x.1.1)]; exact hf _ _ hr hj
theorem rowsFin_iff {M : LL} {n k : Nat} (hM : Rect M n) : rowsFin M k (n - k) = true ↔ ∀ r j, k ≤ r → r < n → j ≤ n → finM (mAt M r j) = true := by
  unfold rowsFin finAllM
  rw [allN_iff]
  constructor
  · intro h r j hk hr hj
    have := h (r - k) (by omega)
    rw [show k + (r - k) = r by omega, ← allN_all _ 0, allN_iff, hM.row r hr] at this
    exact this j (by omega)
  · intro h i hi
    rw [← allN_all _ 0, allN_iff, hM.row _ (by omega)]
    intro j hj
    exact h (k + i) j (by omega) (by omega) (by omega)
/-- one step: the two ways of asking agree where all is finite -/
theorem step_ok {n : Nat} {q : List Nat × List Nat} {M : LL} (h : Rel n q M) (hf : FinM M n) {k : Nat} (hk : k < n) : okK M n k = (slPiv n k q && slFin (slS n k q)) := by
  have hS := swK_rect h.rect hk
  have hSf := sw_fin h.rect hf hk
  rw [Bool.eq_iff_iff]
  unfold okK
  rw [Bool.and_eq_true, Bool.and_eq_true, Bool.and_eq_true, slPiv_rel h hf hk, fin_rel (st_rel h hf hk), allN_iff]
  constructor
  · rintro ⟨_, h2, h3⟩
    refine ⟨h2, fin_of_elOk hS hSf fun r h4 h5 => ?_⟩
    have := h3 (r - (k + 1)) (by omega)
    rw [show k + 1 + (r - (k + 1)) = r by omega] at this; exact this
  · rintro ⟨h2, h3⟩
    exact ⟨(rowsFin_iff h.rect).2 fun r j _ hr hj => hf r j hr hj, h2, fun i hi => elOk_of hS hSf h3 (by omega) (by omega)⟩
theorem okK_fin {M : LL} {n k : Nat} (hM : Rect M n) (hf : FinM M n) (hk : k < n) (h : okK M n k = true) : FinM (elL (swK M n k) k n n) n := by
  unfold okK at h
  rw [Bool.and_eq_true, Bool.and_eq_true, allN_iff] at h
  refine fin_of_elOk (swK_rect hM hk) (sw_fin hM hf hk) fun r h4 h5 => ?_
  have := h.2.2 (r - (k + 1)) (by omega)
  rw [show k + 1 + (r - (k + 1)) = r by omega] at this; exact this
theorem run_rel {n : Nat} {q : List Nat × List Nat} {M : LL} (h : Rel n q M) (hf : FinM M n) : ∀ k, k ≤ n → (∀ j, j < k → okK (stN M n j) n j = true) → Rel n (slN n q k) (stN M n k) ∧ FinM (stN M n k) n
  | 0, _, _ => ⟨h, hf⟩
  | k + 1, hk, ho => by
    obtain ⟨h1, h2⟩ := run_rel h hf k (by omega) (fun j hj => ho j (by omega))
    exact ⟨st_rel h1 h2 (by omega), okK_fin h1.rect h2 (by omega) (ho k (by omega))⟩
theorem all_rel {n : Nat} {q : List Nat × List Nat} {M : LL} (h : Rel n q M) (hf : FinM M n) : ∀ k, k ≤ n → (allN k fun k => okK (stN M n k) n k) = allN k (slOk n q)
  | 0, _ => rfl
  | k + 1, hk => by
    have ih := all_rel h hf k (by omega)
    simp only [allN]
    rw [ih]
    cases hc : allN k (slOk n q) with
    | false => rfl
    | true =>
      rw [hc, allN_iff] at ih
      obtain ⟨h1, h2⟩ := run_rel h hf k (by omega) ih
      rw [Bool.true_and, Bool.true_and, step_ok h1 h2 (by omega)]; rfl
theorem bk_rel {n : Nat} {q : List Nat × List Nat} {M : LL} (h : Rel n q M) : ∀ m, m ≤ n → slBk n q m = bkN M n m
  | 0, _ => rfl
  | m + 1, hm => by
    have ih := bk_rel h m (by omega)
    have e : slX n q (bkN M n m) (n - (m + 1)) m = bkX M n (bkN M n m) (n - (m + 1)) m := by
      unfold slX bkX
      rw [h.b _ (by omega)]
      exact accN_congr fun i x hi => by rw [h.a _ _ (by omega) (by omega)]
    simp only [slBk, bkN]
    rw [ih, e, h.a _ _ (by omega) (by omega)]
theorem lfA_get (xss : LL) (y : List Nat) : ∀ m, (lfA xss y m).length = m * xss.length ∧ ∀ r j, r < m → j < xss.length → (lfA xss y m).getD (r * xss.length + j) 0 = dotY (xss.getD r []) (xss.getD j []) y.length
  | 0 => ⟨by simp [lfA, accN], fun r j h => by omega⟩
  | m + 1 => by
    obtain ⟨h1, h2⟩ := lfA_get xss y m
    have e : lfA xss y (m + 1) = lfA xss y m ++ tab xss.length fun k => dotY (xss.getD m []) (xss.getD k []) y.length := rfl
    refine ⟨by rw [e, List.length_append, h1, tab_len, Nat.add_mul, Nat.one_mul], fun r j hr hj => ?_⟩
    rw [e, List.getD_eq_getElem?_getD]
    by_cases hrm : r < m
    · have hlt : r * xss.length + j < m * xss.length := by
        have := Nat.mul_le_mul_right xss.length (show r + 1 ≤ m by omega)
        rw [Nat.add_mul, Nat.one_mul] at this; omega
      rw [List.getElem?_append_left (by rw [h1]; exact hlt), ← List.getD_eq_getElem?_getD]
      exact h2 r j hrm hj
    · have : r = m := by omega
      subst this
      rw [List.getElem?_append_right (by rw [h1]; omega), h1, Nat.add_sub_cancel_left, ← List.getD_eq_getElem?_getD]
      exact tab_get _ _ _ _ hj
theorem getD_app_l {α : Type} (xs ys : List α) {j : Nat} (d : α) (h : j < xs.length) : (xs ++ ys).getD j d = xs.getD j d := by
  simp only [List.getD]; rw [List.getElem?_append_left h]
theorem getD_app_r {α : Type} (xs : List α) (x : α) {j : Nat} (d : α) (h : j = xs.length) : (xs ++ [x]).getD j d = x := by
  subst h; simp
theorem g_rel (xss : LL) (y : List Nat) (hs : ∀ i, i < xss.length → (xss.getD i []).length = y.length) : Rel xss.length (lfA xss y xss.length, lfB xss y xss.length) (cfG xss y) := by
  obtain ⟨h1, h2⟩ := lfA_get xss y xss.length
  have hd : ∀ r x, r < xss.length → dotY (xss.getD r []) x y.length = dotM (xss.getD r []) x := fun r x hr => by unfold dotY dotM; rw [hs r hr]
  refine ⟨h1, tab_len _ _, cfG_rect xss y, fun r j hr hj => ?_, fun r hr => ?_⟩
  · show (lfA xss y xss.length).getD _ 0 = _
    rw [h2 r j hr hj, hd r _ hr]
    unfold mAt
    rw [cfG_get _ _ hr]
    unfold cfRow
    rw [getD_app_l _ _ _ (by rw [tab_len]; exact hj), tab_get _ _ _ _ hj]
  · show (lfB xss y xss.length).getD r 0 = _
    unfold lfB
    rw [tab_get _ _ _ _ hr, hd r _ hr]
    unfold mAt
    rw [cfG_get _ _ hr]
    unfold cfRow
    rw [getD_app_r _ _ _ (tab_len _ _).symm]
/-- the two fits agree -/
theorem fit_same (xss : LL) (y : List Nat) (h1 : 1 ≤ xss.length) (hs : ∀ i, i < xss.length → (xss.getD i []).length = y.length) : lfAll xss y = cfOk (cfG xss y) xss.length ∧ (cfOk (cfG xss y) xss.length = true → lfOut xss y = cfOut (cfG xss y) xss.length) := by
  have hR := g_rel xss y hs
  have hB : (lfB xss y xss.length).length = xss.length := tab_len _ _
  unfold lfAll lfOut slAll slOut cfOk cfOut
  rw [hB]
  cases hf : slFin (lfA xss y xss.length, lfB xss y xss.length) with
  | false =>
    have h0 : okK (stN (cfG xss y) xss.length 0) xss.length 0 = false := by
      cases ho : okK (stN (cfG xss y) xss.length 0) xss.length 0 with
      | false => rfl
      | true =>
        unfold okK at ho
        rw [Bool.and_eq_true] at ho
        have := (rowsFin_iff hR.rect).1 ho.1
        rw [(fin_rel hR).2 fun r j hr hj => this r j (by omega) hr hj] at hf
        cases hf
    have : (allN xss.length fun k => okK (stN (cfG xss y) xss.length k) xss.length k) = false := by
      rw [Bool.eq_false_iff]; intro h
      rw [allN_iff.1 h 0 (by omega)] at h0; cases h0
    rw [this]
    exact ⟨rfl, fun h => by cases h⟩
  | true =>
    have hF := (fin_rel hR).1 hf
    rw [Bool.true_and]
    refine ⟨(all_rel hR hF xss.length (Nat.le_refl _)).symm, fun ho => ?_⟩
    obtain ⟨h3, _⟩ := run_rel hR hF xss.length (Nat.le_refl _) (allN_iff.1 ho)
    exact bk_rel h3 xss.length (Nat.le_refl _)

section
variable {P : Program} {f g1 g2 : FuncId}
theorem lf_L4 (xss : LL) (y : List Nat) (hs : ∀ i, i < xss.length → (xss.getD i []).length = y.length) (hn : y.length ≤ 96) {a b a2 b2 : List Nat} {i k : Nat} (hi : i < xss.length) (hk : k < xss.length) :
    Exec (VCall P) ps_spec_l03Fit (.block 4 (.loop (b_spec_l03Fit_L4 g1 g2))) (h_spec_l03Fit_L4 xss y a b i a2 b2 k 0 0) .normal (h_spec_l03Fit_L4 xss y a b i a2 b2 k (dotY (xss.getD i []) (xss.getD k []) y.length) y.length) := by
  refine for_up (e := .exit 4) y.length (fun j => h_spec_l03Fit_L4 xss y a b i a2 b2 k (dotY (xss.getD i []) (xss.getD k []) j) j) rfl (fun j hj => ?_) ?_
  · have e1 := hs i hi
    have e2 := hs k hk
    refine q_spec_l03Fit_L4 _ _ _ _ _ _ _ _ _ _ ?_
    simp only [Int.toNat_natCast]
    refine ⟨fun _ => ⟨by omega, fun _ => ⟨by omega, fun _ => ⟨by omega, fun _ => ⟨by omega, fun _ => ?_⟩⟩⟩⟩, fun h => absurd (of_decide_eq_false h) (by omega)⟩
    show _ = _
    rw [wrap64_id (by omega) (by omega)]; rfl
  · exact q_spec_l03Fit_L4 _ _ _ _ _ _ _ _ _ _ ⟨fun h => absurd (of_decide_eq_true h) (by omega), fun _ => rfl⟩
theorem k_spec_l03Fit (h : Is_spec_l03Fit P f g1 g2) (c1 : C_spec_l02Finite P g1) (c2 : C_spec_l03Solve P g2) : C_spec_l03Fit P f := by
  intro xss y h1 hs hn
  have hB : (lfB xss y xss.length).length = xss.length := tab_len _ _
  have hA := (lfA_get xss y xss.length).1
  have hnn : xss.length * xss.length ≤ 36 := Nat.mul_le_mul h1.2 h1.2
  have hN := slN_len (lfB xss y xss.length).length (lfA xss y xss.length, lfB xss y xss.length) (lfB xss y xss.length).length
  have hE := slEnd_len (lfB xss y xss.length).length (lfA xss y xss.length, lfB xss y xss.length) (lfB xss y xss.length).length
  have e1 : (lfA xss y xss.length).length = (if slAll (lfA xss y xss.length) (lfB xss y xss.length) = true then (slN (lfB xss y xss.length).length (lfA xss y xss.length, lfB xss y xss.length) (lfB xss y xss.length).length).1 else (slEnd (lfB xss y xss.length).length (lfA xss y xss.length, lfB xss y xss.length) (lfB xss y xss.length).length).1).length := by
    split
    · exact hN.1.symm
    · exact hE.1.symm
  have e2 : (lfB xss y xss.length).length = (if slAll (lfA xss y xss.length) (lfB xss y xss.length) = true then (slN (lfB xss y xss.length).length (lfA xss y xss.length, lfB xss y xss.length) (lfB xss y xss.length).length).2 else (slEnd (lfB xss y xss.length).length (lfA xss y xss.length, lfB xss y xss.length) (lfB xss y xss.length).length).2).length := by
    split
    · exact hN.2.symm
    · exact hE.2.symm
  refine q_spec_l03Fit h xss y ⟨?_, fun _ => ⟨c1 _ (by rw [hA, maxLen_eq]; omega), fun _ => ⟨fun h2 => ?_, fun h2 => ⟨c1 _ (by rw [hB, maxLen_eq]; omega), fun _ => ⟨fun h3 => ?_, fun h3 => ⟨⟨c2 _ _ (by omega) (by rw [hA, hB]), e1, e2, e1, e2, trivial⟩, fun _ => ?_⟩⟩⟩⟩⟩⟩
  · refine for_up (e := .exit 0) xss.length (fun i => h_spec_l03Fit_L0 xss y (lfA xss y i) (lfB xss y i) i) rfl (fun i hi => ?_) ?_
    · have hAi := (lfA_get xss y i).1
      have hii : i * xss.length ≤ 36 := Nat.le_trans (Nat.mul_le_mul (show i ≤ 6 by omega) h1.2) (Nat.le_refl _)
      have hBi : (lfB xss y i).length = i := tab_len _ _
      refine q_spec_l03Fit_L0 _ _ _ _ _ ?_
      simp only [Int.toNat_natCast]
      refine ⟨fun _ => ⟨?_, fun _ => ⟨?_, fun _ => ⟨by simp; omega, fun _ => ?_⟩⟩⟩, fun h => absurd (of_decide_eq_false h) (by omega)⟩
      · refine for_up (e := .exit 2) xss.length (fun k => h_spec_l03Fit_L2 xss y (lfA xss y i) (lfB xss y i) i (lfA xss y i ++ tab k fun k => dotY (xss.getD i []) (xss.getD k []) y.length) (lfB xss y i) k) (by show _ = h_spec_l03Fit_L2 xss y (lfA xss y i) (lfB xss y i) i (lfA xss y i ++ []) (lfB xss y i) _; rw [List.append_nil]; rfl) (fun k hk => ?_) ?_
        · refine q_spec_l03Fit_L2 _ _ _ _ _ _ _ _ ?_
          simp only [Int.toNat_natCast]
          refine ⟨fun _ => ⟨lf_L4 xss y hs hn hi hk, fun _ => ⟨by simp [tab_len]; omega, fun _ => ?_⟩⟩, fun h => absurd (of_decide_eq_false h) (by omega)⟩
          show _ = _
          rw [wrap64_id (by omega) (by omega), tab_succ, List.append_assoc]; rfl
        · exact q_spec_l03Fit_L2 _ _ _ _ _ _ _ _ ⟨fun h => absurd (of_decide_eq_true h) (by omega), fun _ => rfl⟩
      · refine for_up (e := .exit 6) y.length (fun j => h_spec_l03Fit_L6 xss y (lfA xss y i) (lfB xss y i) i (dotY (xss.getD i []) y j) j) rfl (fun j hj => ?_) ?_
        · have e1 := hs i hi
          refine q_spec_l03Fit_L6 _ _ _ _ _ _ _ ?_
          simp only [Int.toNat_natCast]
          refine ⟨fun _ => ⟨by omega, fun _ => ⟨by omega, fun _ => ⟨by omega, fun _ => ?_⟩⟩⟩, fun h => absurd (of_decide_eq_false h) (by omega)⟩
          show _ = _
          rw [wrap64_id (by omega) (by omega)]; rfl
        · exact q_spec_l03Fit_L6 _ _ _ _ _ _ _ ⟨fun h => absurd (of_decide_eq_true h) (by omega), fun _ => rfl⟩
      · show _ = _
        rw [wrap64_id (by omega) (by omega)]
        unfold lfB
        rw [tab_succ]; rfl
    · exact q_spec_l03Fit_L0 _ _ _ _ _ ⟨fun h => absurd (of_decide_eq_true h) (by omega), fun _ => rfl⟩
  · have h2 : finAllM (lfA xss y xss.length) = false := by simpa using h2
    have : lfAll xss y = false := by unfold lfAll slFin; rw [h2]; rfl
    simp only [T.ok, this, Bool.false_eq_true, if_false, Bool.false_and]
  · have h3 : finAllM (lfB xss y xss.length) = false := by simpa using h3
    have : lfAll xss y = false := by unfold lfAll slFin; rw [h3, Bool.and_false]; rfl
    simp only [T.ok, this, Bool.false_eq_true, if_false, Bool.false_and]
  · have h2 : finAllM (lfA xss y xss.length) = true := by simpa using h2
    have h3 : finAllM (lfB xss y xss.length) = true := by simpa using h3
    have : lfAll xss y = slAll (lfA xss y xss.length) (lfB xss y xss.length) := by unfold lfAll slFin; rw [h2, h3]; rfl
    simp only [T.ok, this]; rfl
end

end Go.Proofs.LV
