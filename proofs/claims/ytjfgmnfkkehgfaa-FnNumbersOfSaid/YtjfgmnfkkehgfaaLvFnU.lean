/- The stable sort. -/
import Derived.Test.YtjfgmnfkkehgfaaLvFnT
import Derived.Test.YtjfgmnfkkehgfaaLvStable
namespace Go.Proofs.LV
open Go
set_option linter.unusedVariables false
set_option linter.unusedSimpArgs false

def nblk (xs : List Nat) : Nat := xs.length / 20
def npair (D : List Nat) (s : Int) : Nat := D.length / (2 * s.toNat)

open Go.IntKind (wrap)
-- FN slices_stableCmpFunc_float32_
def ps_slices_stableCmpFunc_float32_ : List Nat := [0, 1, 2, 6, 7, 8, 9, 13, 30, 35, 54]
def lv_slices_stableCmpFunc_float32__L0 : List Nat := [0, 1, 2, 6, 7, 8]
def lv_slices_stableCmpFunc_float32__L2 : List Nat := [0, 1, 2, 6]
def lv_slices_stableCmpFunc_float32__L4 : List Nat := [0, 1, 2, 6, 7, 8]
def b_slices_stableCmpFunc_float32__L0 (gq0 gq1 : FuncId) : VCode :=
 (.seq
 (.seq
 (.region false [
 ⟨some 11, .mv, [.t 8], none⟩,
 ⟨some 12, .mv, [.t 1], none⟩,
 ⟨some 13, (.bin .leq), [.t 11, .t 12], none⟩])
 (.cond (.t 13)
 .skip
 (.exit 0)))
 (.block 1
 (.seq
 (.region false [
 ⟨some 14, .mv, [.t 0], none⟩,
 ⟨some 15, .mv, [.t 7], none⟩,
 ⟨some 16, .mv, [.t 8], none⟩,
 ⟨some 17, .mv, [.t 2], none⟩,
 ⟨some 18, (.call gq0), [.t 14, .t 15, .t 16, .t 17], none⟩])
 (.seq
 (.region false [
 ⟨some 19, .mv, [.t 8], none⟩,
 ⟨some 7, .mv, [.t 19], none⟩])
 (.region false [
 ⟨some 20, .mv, [.t 8], none⟩,
 ⟨some 21, .mv, [.t 6], none⟩,
 ⟨some 22, (.bin .add), [.t 20, .t 21], none⟩,
 ⟨some 8, .mv, [.t 22], none⟩])))))

def b_slices_stableCmpFunc_float32__L4 (gq0 gq1 : FuncId) : VCode :=
 (.seq
 (.seq
 (.region false [
 ⟨some 33, .mv, [.t 8], none⟩,
 ⟨some 34, .mv, [.t 1], none⟩,
 ⟨some 35, (.bin .leq), [.t 33, .t 34], none⟩])
 (.cond (.t 35)
 .skip
 (.exit 4)))
 (.block 5
 (.seq
 (.region false [
 ⟨some 36, .mv, [.t 0], none⟩,
 ⟨some 37, .mv, [.t 7], none⟩,
 ⟨some 38, .mv, [.t 7], none⟩,
 ⟨some 39, .mv, [.t 6], none⟩,
 ⟨some 40, (.bin .add), [.t 38, .t 39], none⟩,
 ⟨some 41, .mv, [.t 8], none⟩,
 ⟨some 42, .mv, [.t 2], none⟩,
 ⟨some 43, (.call gq1), [.t 36, .t 37, .t 40, .t 41, .t 42], none⟩])
 (.seq
 (.region false [
 ⟨some 44, .mv, [.t 8], none⟩,
 ⟨some 7, .mv, [.t 44], none⟩])
 (.region false [
 ⟨some 45, .mv, [.t 8], none⟩,
 ⟨some 46, .mv, [.t 6], none⟩,
 ⟨some 47, (.bin .mul), [.k (.i .i64 2), .t 46], none⟩,
 ⟨some 48, (.bin .add), [.t 45, .t 47], none⟩,
 ⟨some 8, .mv, [.t 48], none⟩])))))

def b_slices_stableCmpFunc_float32__L2 (gq0 gq1 : FuncId) : VCode :=
 (.seq
 (.seq
 (.region false [
 ⟨some 28, .mv, [.t 6], none⟩,
 ⟨some 29, .mv, [.t 1], none⟩,
 ⟨some 30, (.bin .lss), [.t 28, .t 29], none⟩])
 (.cond (.t 30)
 .skip
 (.exit 2)))
 (.block 3
 (.seq
 (.region false [
 ⟨some 31, .mv, [.t 6], none⟩,
 ⟨some 32, (.bin .mul), [.k (.i .i64 2), .t 31], none⟩,
 ⟨some 7, .mv, [.k (.i .i64 0)], none⟩,
 ⟨some 8, .mv, [.t 32], none⟩])
 (.seq
 (.block 4 (.loop (b_slices_stableCmpFunc_float32__L4 gq0 gq1)))
 (.seq
 (.seq
 (.region false [
 ⟨some 49, .mv, [.t 7], none⟩,
 ⟨some 50, .mv, [.t 6], none⟩,
 ⟨some 51, (.bin .add), [.t 49, .t 50], none⟩,
 ⟨some 9, .mv, [.t 51], none⟩])
 (.seq
 (.region false [
 ⟨some 52, .mv, [.t 9], none⟩,
 ⟨some 53, .mv, [.t 1], none⟩,
 ⟨some 54, (.bin .lss), [.t 52, .t 53], none⟩])
 (.cond (.t 54)
 (.region false [
 ⟨some 55, .mv, [.t 0], none⟩,
 ⟨some 56, .mv, [.t 7], none⟩,
 ⟨some 57, .mv, [.t 9], none⟩,
 ⟨some 58, .mv, [.t 1], none⟩,
 ⟨some 59, .mv, [.t 2], none⟩,
 ⟨some 60, (.call gq1), [.t 55, .t 56, .t 57, .t 58, .t 59], none⟩])
 .skip)))
 (.region false [
 ⟨some 61, .mv, [.t 6], none⟩,
 ⟨some 62, (.bin .mul), [.t 61, .k (.i .i64 2)], none⟩,
 ⟨some 6, .mv, [.t 62], none⟩]))))))

def b_slices_stableCmpFunc_float32_ (gq0 gq1 : FuncId) : VCode :=
 (.seq
 (.region false [
 ⟨some 6, .mv, [.k (.i .i64 20)], none⟩])
 (.seq
 (.region false [
 ⟨some 10, .mv, [.t 6], none⟩,
 ⟨some 7, .mv, [.k (.i .i64 0)], none⟩,
 ⟨some 8, .mv, [.t 10], none⟩])
 (.seq
 (.block 0 (.loop (b_slices_stableCmpFunc_float32__L0 gq0 gq1)))
 (.seq
 (.region false [
 ⟨some 23, .mv, [.t 0], none⟩,
 ⟨some 24, .mv, [.t 7], none⟩,
 ⟨some 25, .mv, [.t 1], none⟩,
 ⟨some 26, .mv, [.t 2], none⟩,
 ⟨some 27, (.call gq0), [.t 23, .t 24, .t 25, .t 26], none⟩])
 (.block 2 (.loop (b_slices_stableCmpFunc_float32__L2 gq0 gq1)))))))

abbrev Is_slices_stableCmpFunc_float32_ (P : Program) (g_f : FuncId) (gq0 gq1 : FuncId) : Prop := FnIs P g_f 63 [] (b_slices_stableCmpFunc_float32_ gq0 gq1)

abbrev C_slices_stableCmpFunc_float32_ (P : Program) (g_f : FuncId) : Prop := ∀ (xs : List Nat) (n : Int) (F : FuncId) (hn : n = xs.length) (hN : okM xs) (hF : ∀ x y, VCall P F [.f .f32 x, .f .f32 y] (.i .i64 (signM x y))) (hx : xs.length ≤ 5000), VCall P g_f [OS HI .f32 xs, .i .i64 n, .fn F []] ((AV.M (.tup []) [OS HI .f32 (sortM KS xs), .i .i64 n, .fn F []]))
def oc1_slices_stableCmpFunc_float32_ (as : List AV) : T AV := match as with | [.sl _ _ (.f .f32 xs), .i .i64 n, .fn F []] => .leaf ((AV.M (.tup []) [OS HI .f32 (sortM KS xs), .i .i64 n, .fn F []])) | _ => .fail
def oc_slices_stableCmpFunc_float32_ (xs : List Nat) (n : Int) (F : FuncId) (d : Nat) (as : List AV) : T AV := match d with | 18 => oc1_slices_insertionSortCmpFunc_float32_ as | 27 => oc1_slices_insertionSortCmpFunc_float32_ as | 43 => oc1_slices_symMergeCmpFunc_float32_ as | 60 => oc1_slices_symMergeCmpFunc_float32_ as | _ => .fail
def h_slices_stableCmpFunc_float32__L0 (xs : List Nat) (n : Int) (F : FuncId) (data : List Nat) (a : Int) (b : Int) : Env := [.sl (Tag.own 800000) 0 (.f .f32 data), AV.i .i64 n, AV.fn F [], .any, .any, .any, AV.i .i64 20, .i .i64 a, .i .i64 b] ++ anys 54
def h_slices_stableCmpFunc_float32__L2 (xs : List Nat) (n : Int) (F : FuncId) (data : List Nat) (blockSize : Int) : Env := [.sl (Tag.own 800000) 0 (.f .f32 data), AV.i .i64 n, AV.fn F [], .any, .any, .any, .i .i64 blockSize] ++ anys 56
def h_slices_stableCmpFunc_float32__L4 (xs : List Nat) (n : Int) (F : FuncId) (data : List Nat) (blockSize : Int) (data2 : List Nat) (a : Int) (b : Int) : Env := [.sl (Tag.own 800000) 0 (.f .f32 data2), AV.i .i64 n, AV.fn F [], .any, .any, .any, AV.i .i64 blockSize, .i .i64 a, .i .i64 b] ++ anys 54

theorem q_slices_stableCmpFunc_float32__L0 {VC : FuncId → List AV → AV → Prop} {gq0 gq1 : FuncId} (xs : List Nat) (n : Int) (F : FuncId) (data : List Nat) (a : Int) (b : Int) {e_ : Ex} {σ_ : Env} (ht : T.ok (fun x_ => x_ = (e_, σ_)) (
 T.ite (decide (b ≤ n))
 (T.ob
 (VC gq0 [AV.sl (Tag.own 800000) 0 (Cont.f .f32 data), AV.i .i64 a, AV.i .i64 b, AV.fn F []]
 (AV.bx Tag.nil [AV.tup [], AV.tup [AV.sl (Tag.own 800000) 0 (Cont.f .f32 (srt KS data (Int.toNat a) (Int.toNat b))), AV.i .i64 a, AV.i .i64 b, AV.fn F []]]) ∧
 List.length data = List.length (srt KS data (Int.toNat a) (Int.toNat b)) ∧ List.length data = List.length (srt KS data (Int.toNat a) (Int.toNat b)) ∧ True)
 (T.leaf (Ex.normal, h_slices_stableCmpFunc_float32__L0 xs n F (srt KS data (Int.toNat a) (Int.toNat b)) b (wrap .i64 (b + 20)))))
 (T.leaf (Ex.exit 0, h_slices_stableCmpFunc_float32__L0 xs n F data a b)))) :
 Exec VC ps_slices_stableCmpFunc_float32_ (b_slices_stableCmpFunc_float32__L0 gq0 gq1) (h_slices_stableCmpFunc_float32__L0 xs n F data a b) e_ σ_ := evL_of (lv := lv_slices_stableCmpFunc_float32__L0) (rs := []) (O := ⟨oc_slices_stableCmpFunc_float32_ xs n F, fun _ _ => none⟩) (by kernel_rfl) ht

theorem q_slices_stableCmpFunc_float32__L2 {VC : FuncId → List AV → AV → Prop} {gq0 gq1 : FuncId} (xs : List Nat) (n : Int) (F : FuncId) (data : List Nat) (blockSize : Int) {e_ : Ex} {σ_ : Env} (ht : T.ok (fun x_ => x_ = (e_, σ_)) (
 T.ite (decide (blockSize < n))
 (T.ob
 (Exec VC ps_slices_stableCmpFunc_float32_ (VCode.block 4 (VCode.loop (b_slices_stableCmpFunc_float32__L4 gq0 gq1)))
 (h_slices_stableCmpFunc_float32__L4 xs n F data blockSize data 0 (wrap .i64 (2 * blockSize))) Ex.normal
 (h_slices_stableCmpFunc_float32__L4 xs n F data blockSize (mrgB KS (Int.toNat blockSize) data (npair data blockSize)) (↑(2 * Int.toNat blockSize * npair data blockSize) : Int)
 (↑(2 * Int.toNat blockSize * npair data blockSize + 2 * Int.toNat blockSize) : Int)))
 (T.ite (decide (wrap .i64 ((↑(2 * Int.toNat blockSize * npair data blockSize) : Int) + blockSize) < n))
 (T.ob
 (VC gq1
 [AV.sl (Tag.own 800000) 0 (Cont.f .f32 (mrgB KS (Int.toNat blockSize) data (npair data blockSize))), AV.i .i64 (↑(2 * Int.toNat blockSize * npair data blockSize) : Int),
 AV.i .i64 (wrap .i64 ((↑(2 * Int.toNat blockSize * npair data blockSize) : Int) + blockSize)), AV.i .i64 n, AV.fn F []]
 (AV.bx Tag.nil
 [AV.tup [],
 AV.tup
 [AV.sl (Tag.own 800000) 0 (Cont.f .f32 (srt KS (mrgB KS (Int.toNat blockSize) data (npair data blockSize)) (Int.toNat (↑(2 * Int.toNat blockSize * npair data blockSize) : Int)) (Int.toNat n))),
 AV.i .i64 (↑(2 * Int.toNat blockSize * npair data blockSize) : Int), AV.i .i64 (wrap .i64 ((↑(2 * Int.toNat blockSize * npair data blockSize) : Int) + blockSize)),
 AV.i .i64 n, AV.fn F []]]) ∧
 List.length (mrgB KS (Int.toNat blockSize) data (npair data blockSize)) =
 List.length (srt KS (mrgB KS (Int.toNat blockSize) data (npair data blockSize)) (Int.toNat (↑(2 * Int.toNat blockSize * npair data blockSize) : Int)) (Int.toNat n)) ∧
 List.length (mrgB KS (Int.toNat blockSize) data (npair data blockSize)) =
 List.length (srt KS (mrgB KS (Int.toNat blockSize) data (npair data blockSize)) (Int.toNat (↑(2 * Int.toNat blockSize * npair data blockSize) : Int)) (Int.toNat n)) ∧
 True)
 (T.leaf
 (Ex.normal,
 h_slices_stableCmpFunc_float32__L2 xs n F (srt KS (mrgB KS (Int.toNat blockSize) data (npair data blockSize)) (Int.toNat (↑(2 * Int.toNat blockSize * npair data blockSize) : Int)) (Int.toNat n))
 (wrap .i64 (blockSize * 2)))))
 (T.leaf (Ex.normal, h_slices_stableCmpFunc_float32__L2 xs n F (mrgB KS (Int.toNat blockSize) data (npair data blockSize)) (wrap .i64 (blockSize * 2))))))
 (T.leaf (Ex.exit 2, h_slices_stableCmpFunc_float32__L2 xs n F data blockSize)))) :
 Exec VC ps_slices_stableCmpFunc_float32_ (b_slices_stableCmpFunc_float32__L2 gq0 gq1) (h_slices_stableCmpFunc_float32__L2 xs n F data blockSize) e_ σ_ := evL_of (lv := lv_slices_stableCmpFunc_float32__L2) (rs := []) (O := ⟨oc_slices_stableCmpFunc_float32_ xs n F, fun id σ => match id with | 4 => some (lv_slices_stableCmpFunc_float32__L4, .leaf (.normal, h_slices_stableCmpFunc_float32__L4 xs n F data blockSize (mrgB KS blockSize.toNat data (npair data blockSize)) (2 * blockSize.toNat * npair data blockSize : Nat) (2 * blockSize.toNat * npair data blockSize + 2 * blockSize.toNat : Nat))) | _ => none⟩) (by kernel_rfl) ht

theorem q_slices_stableCmpFunc_float32__L4 {VC : FuncId → List AV → AV → Prop} {gq0 gq1 : FuncId} (xs : List Nat) (n : Int) (F : FuncId) (data : List Nat) (blockSize : Int) (data2 : List Nat) (a : Int) (b : Int) {e_ : Ex} {σ_ : Env} (ht : T.ok (fun x_ => x_ = (e_, σ_)) (
 T.ite (decide (b ≤ n))
 (T.ob
 (VC gq1 [AV.sl (Tag.own 800000) 0 (Cont.f .f32 data2), AV.i .i64 a, AV.i .i64 (wrap .i64 (a + blockSize)), AV.i .i64 b, AV.fn F []]
 (AV.bx Tag.nil
 [AV.tup [],
 AV.tup
 [AV.sl (Tag.own 800000) 0 (Cont.f .f32 (srt KS data2 (Int.toNat a) (Int.toNat b))), AV.i .i64 a, AV.i .i64 (wrap .i64 (a + blockSize)), AV.i .i64 b,
 AV.fn F []]]) ∧
 List.length data2 = List.length (srt KS data2 (Int.toNat a) (Int.toNat b)) ∧ List.length data2 = List.length (srt KS data2 (Int.toNat a) (Int.toNat b)) ∧ True)
 (T.leaf (Ex.normal, h_slices_stableCmpFunc_float32__L4 xs n F data blockSize (srt KS data2 (Int.toNat a) (Int.toNat b)) b (wrap .i64 (b + wrap .i64 (2 * blockSize))))))
 (T.leaf (Ex.exit 4, h_slices_stableCmpFunc_float32__L4 xs n F data blockSize data2 a b)))) :
 Exec VC ps_slices_stableCmpFunc_float32_ (b_slices_stableCmpFunc_float32__L4 gq0 gq1) (h_slices_stableCmpFunc_float32__L4 xs n F data blockSize data2 a b) e_ σ_ := evL_of (lv := lv_slices_stableCmpFunc_float32__L4) (rs := []) (O := ⟨oc_slices_stableCmpFunc_float32_ xs n F, fun _ _ => none⟩) (by kernel_rfl) ht

theorem q_slices_stableCmpFunc_float32_ {P : Program} {g_f : FuncId} {gq0 gq1 : FuncId} (h_ : Is_slices_stableCmpFunc_float32_ P g_f gq0 gq1) (xs : List Nat) (n : Int) (F : FuncId) (ht : T.ok (fun x_ => x_ = (.tup [], [OS HI .f32 (sortM KS xs), .i .i64 n, .fn F []])) (
 T.ob
 (Exec (VCall P) ps_slices_stableCmpFunc_float32_ (VCode.block 0 (VCode.loop (b_slices_stableCmpFunc_float32__L0 gq0 gq1)))
 (h_slices_stableCmpFunc_float32__L0 xs n F xs 0 20) Ex.normal (h_slices_stableCmpFunc_float32__L0 xs n F (insB KS xs (nblk xs)) (↑(20 * nblk xs) : Int) (↑(20 * nblk xs + 20) : Int)))
 (T.ob
 ((VCall P) gq0 [AV.sl (Tag.own 800000) 0 (Cont.f .f32 (insB KS xs (nblk xs))), AV.i .i64 (↑(20 * nblk xs) : Int), AV.i .i64 n, AV.fn F []]
 (AV.bx Tag.nil
 [AV.tup [],
 AV.tup
 [AV.sl (Tag.own 800000) 0 (Cont.f .f32 (srt KS (insB KS xs (nblk xs)) (Int.toNat (↑(20 * nblk xs) : Int)) (Int.toNat n))), AV.i .i64 (↑(20 * nblk xs) : Int), AV.i .i64 n,
 AV.fn F []]]) ∧
 List.length (insB KS xs (nblk xs)) = List.length (srt KS (insB KS xs (nblk xs)) (Int.toNat (↑(20 * nblk xs) : Int)) (Int.toNat n)) ∧
 List.length (insB KS xs (nblk xs)) = List.length (srt KS (insB KS xs (nblk xs)) (Int.toNat (↑(20 * nblk xs) : Int)) (Int.toNat n)) ∧ True)
 (T.ob
 (Exec (VCall P) ps_slices_stableCmpFunc_float32_ (VCode.block 2 (VCode.loop (b_slices_stableCmpFunc_float32__L2 gq0 gq1)))
 (h_slices_stableCmpFunc_float32__L2 xs n F (srt KS (insB KS xs (nblk xs)) (Int.toNat (↑(20 * nblk xs) : Int)) (Int.toNat n)) 20) Ex.normal
 (AV.sl (Tag.own 800000) 0 (Cont.f .f32 (sortM KS xs)) :: AV.i .i64 n :: AV.fn F [] :: anys 60))
 (T.ob (List.length xs = List.length (sortM KS xs) ∧ True) (T.leaf (AV.tup [], [AV.sl (Tag.own 800000) 0 (Cont.f .f32 (sortM KS xs)), AV.i .i64 n, AV.fn F []]))))))) :
 VCall P g_f [OS HI .f32 xs, .i .i64 n, .fn F []] (AV.M (.tup []) [OS HI .f32 (sortM KS xs), .i .i64 n, .fn F []]) := h_.callM_of ps_slices_stableCmpFunc_float32_ [0] ⟨oc_slices_stableCmpFunc_float32_ xs n F, fun id σ => match id with | 0 => some (lv_slices_stableCmpFunc_float32__L0, .leaf (.normal, h_slices_stableCmpFunc_float32__L0 xs n F (insB KS xs (nblk xs)) (20 * nblk xs : Nat) (20 * nblk xs + 20 : Nat))) | 2 => some (lv_slices_stableCmpFunc_float32__L2, .leaf (.normal, Env.clear [0, 1, 2] (h_slices_stableCmpFunc_float32__L2 xs n F (sortM KS xs) 0))) | _ => none⟩ (by kernel_rfl) ht

-- END slices_stableCmpFunc_float32_

-- FN slices_SortStableFunc___float32_float32_
def ps_slices_SortStableFunc___float32_float32_ : List Nat := [0, 1]
def b_slices_SortStableFunc___float32_float32_ (gq0 : FuncId) : VCode :=
 (.region false [
 ⟨some 4, .mv, [.t 0], none⟩,
 ⟨some 5, .mv, [.t 0], none⟩,
 ⟨some 6, .len, [.t 5], none⟩,
 ⟨some 7, .mv, [.t 1], none⟩,
 ⟨some 8, (.call gq0), [.t 4, .t 6, .t 7], none⟩])

abbrev Is_slices_SortStableFunc___float32_float32_ (P : Program) (g_f : FuncId) (gq0 : FuncId) : Prop := FnIs P g_f 9 [] (b_slices_SortStableFunc___float32_float32_ gq0)

abbrev C_slices_SortStableFunc___float32_float32_ (P : Program) (g_f : FuncId) : Prop := ∀ (xs : List Nat) (F : FuncId) (hN : okM xs) (hF : ∀ x y, VCall P F [.f .f32 x, .f .f32 y] (.i .i64 (signM x y))) (hx : xs.length ≤ 5000), VCall P g_f [OS HI .f32 xs, .fn F []] ((AV.M (.tup []) [OS HI .f32 (sortM KS xs), .fn F []]))
def oc1_slices_SortStableFunc___float32_float32_ (as : List AV) : T AV := match as with | [.sl _ _ (.f .f32 xs), .fn F []] => .leaf ((AV.M (.tup []) [OS HI .f32 (sortM KS xs), .fn F []])) | _ => .fail
def oc_slices_SortStableFunc___float32_float32_ (xs : List Nat) (F : FuncId) (d : Nat) (as : List AV) : T AV := match d with | 8 => oc1_slices_stableCmpFunc_float32_ as | _ => .fail



theorem q_slices_SortStableFunc___float32_float32_ {P : Program} {g_f : FuncId} {gq0 : FuncId} (h_ : Is_slices_SortStableFunc___float32_float32_ P g_f gq0) (xs : List Nat) (F : FuncId) (ht : T.ok (fun x_ => x_ = (.tup [], [OS HI .f32 (sortM KS xs), .fn F []])) (
 T.ob
 ((VCall P) gq0 [AV.sl (Tag.own 800000) 0 (Cont.f .f32 xs), AV.i .i64 (↑(List.length xs) : Int), AV.fn F []]
 (AV.bx Tag.nil [AV.tup [], AV.tup [AV.sl (Tag.own 800000) 0 (Cont.f .f32 (sortM KS xs)), AV.i .i64 (↑(List.length xs) : Int), AV.fn F []]]) ∧
 List.length xs = List.length (sortM KS xs) ∧ List.length xs = List.length (sortM KS xs) ∧ List.length xs = List.length (sortM KS xs) ∧ True)
 (T.ob (List.length xs = List.length (sortM KS xs) ∧ True) (T.leaf (AV.tup [], [AV.sl (Tag.own 800000) 0 (Cont.f .f32 (sortM KS xs)), AV.fn F []]))))) :
 VCall P g_f [OS HI .f32 xs, .fn F []] (AV.M (.tup []) [OS HI .f32 (sortM KS xs), .fn F []]) := h_.callM_of ps_slices_SortStableFunc___float32_float32_ [0] ⟨oc_slices_SortStableFunc___float32_float32_ xs F, fun _ _ => none⟩ (by kernel_rfl) ht

-- END slices_SortStableFunc___float32_float32_

-- FN impl_sorted_1
def ps_impl_sorted_1 : List Nat := [0, 1, 4, 5, 9]
def b_impl_sorted_1 : VCode :=
 (.seq
 (.region false [
 ⟨some 4, .mv, [.k (.i .i64 0)], none⟩])
 (.seq
 (.block 0
 (.seq
 (.region false [
 ⟨some 6, .mv, [.t 0], none⟩,
 ⟨some 7, .mv, [.t 1], none⟩,
 ⟨some 8, (.bin .lss), [.t 6, .t 7], none⟩,
 ⟨some 5, .mv, [.t 8], none⟩])
 (.cond (.t 5)
 (.seq
 (.region false [
 ⟨some 4, .mv, [.k (.i .i64 (-1))], none⟩])
 .ret)
 (.seq
 (.region false [
 ⟨some 10, .mv, [.t 0], none⟩,
 ⟨some 11, .mv, [.t 1], none⟩,
 ⟨some 12, (.bin .gtr), [.t 10, .t 11], none⟩,
 ⟨some 9, .mv, [.t 12], none⟩])
 (.cond (.t 9)
 (.seq
 (.region false [
 ⟨some 4, .mv, [.k (.i .i64 1)], none⟩])
 .ret)
 .skip)))))
 (.seq
 (.region false [
 ⟨some 4, .mv, [.k (.i .i64 0)], none⟩])
 .ret)))

abbrev Is_impl_sorted_1 (P : Program) (g_f : FuncId) : Prop := FnIs P g_f 13 [.t 4] (b_impl_sorted_1)

abbrev C_impl_sorted_1 (P : Program) (g_f : FuncId) : Prop := ∀ (x : Nat) (y : Nat), VCall P g_f [.f .f32 x, .f .f32 y] (.i .i64 (signM x y))
theorem q_impl_sorted_1 {P : Program} {g_f : FuncId} (h_ : Is_impl_sorted_1 P g_f) (x : Nat) (y : Nat) (ht : T.ok (fun x_ => x_ = .i .i64 (signM x y)) (
 T.ite (flt .f32 x y) (T.leaf (AV.i .i64 (-1))) (T.ite (fgt .f32 x y) (T.leaf (AV.i .i64 1)) (T.leaf (AV.i .i64 0))))) :
 VCall P g_f [.f .f32 x, .f .f32 y] (.i .i64 (signM x y)) := h_.call_of ps_impl_sorted_1 ⟨fun _ _ => .fail, fun _ _ => none⟩ (by kernel_rfl) ht

-- END impl_sorted_1

theorem k_slices_stableCmpFunc_float32_ {P : Program} {f g1 g2 : FuncId} (h : Is_slices_stableCmpFunc_float32_ P f g1 g2) (c1 : C_slices_insertionSortCmpFunc_float32_ P g1) (c2 : C_slices_symMergeCmpFunc_float32_ P g2) : C_slices_stableCmpFunc_float32_ P f := by
  intro xs n F hn hN hF hx
  subst hn
  have hb1 : 20 * nblk xs ≤ xs.length := by unfold nblk; omega
  have hb2 : xs.length < 20 * nblk xs + 20 := by unfold nblk; omega
  have il := fun k (hk : 20 * k ≤ xs.length) => insB_ok (K := KS) xs k hk
  have L0 : Exec (VCall P) ps_slices_stableCmpFunc_float32_ (.block 0 (.loop (b_slices_stableCmpFunc_float32__L0 g1 g2))) (h_slices_stableCmpFunc_float32__L0 xs xs.length F xs 0 20) .normal
      (h_slices_stableCmpFunc_float32__L0 xs xs.length F (insB KS xs (nblk xs)) (20 * nblk xs : Nat) (20 * nblk xs + 20 : Nat)) := by
    refine for_up (e := .exit 0) (nblk xs) (fun k => h_slices_stableCmpFunc_float32__L0 xs xs.length F (insB KS xs k) (20 * k : Nat) (20 * k + 20 : Nat)) rfl (fun k hk => ?_) ?_
    · refine q_slices_stableCmpFunc_float32__L0 _ _ _ _ _ _ ?_
      obtain ⟨r, _⟩ := il k (by omega)
      obtain ⟨r2, _⟩ := il (k + 1) (by omega)
      have e1 : IntKind.wrap .i64 (((20 * k + 20 : Nat) : Int) + 20) = (20 * (k + 1) + 20 : Nat) := by rw [wrap64_id (by omega) (by omega)]; omega
      have cc := c1 (insB KS xs k) (20 * k : Nat) (20 * k + 20 : Nat) F (by rw [r.len]; omega) (ok_rel r hN) hF (by rw [r.len]; exact hx)
      rw [e1]
      simp only [Int.toNat_natCast] at cc ⊢
      have es : srt KS (insB KS xs k) (20 * k) (20 * k + 20) = insB KS xs (k + 1) := rfl
      rw [es] at cc ⊢
      have el : (insB KS xs k).length = (insB KS xs (k + 1)).length := by rw [r.len, r2.len]
      repeat' (first | with_reducible refine T.ok_ob ?_ (fun _ => ?_) | with_reducible refine T.ok_ite (fun _ => ?_) (fun _ => ?_) | with_reducible refine T.ok_leaf ?_)
      · exact ⟨cc, el, el, trivial⟩
      · rfl
      · exfalso; rename_i hc; have := of_decide_eq_false hc; omega
    · refine q_slices_stableCmpFunc_float32__L0 _ _ _ _ _ _ ?_
      repeat' (first | with_reducible refine T.ok_ob ?_ (fun _ => ?_) | with_reducible refine T.ok_ite (fun _ => ?_) (fun _ => ?_) | with_reducible refine T.ok_leaf ?_)
      all_goals first | rfl | (exfalso; simp only [decide_eq_true_eq, decide_eq_false_iff_not] at *; omega)
  have L4 : ∀ (s : Nat) (D : List Nat), 0 < s → s ≤ 5000 → D.length = xs.length → okM D → Blk KS s D → Exec (VCall P) ps_slices_stableCmpFunc_float32_ (.block 4 (.loop (b_slices_stableCmpFunc_float32__L4 g1 g2)))
      (h_slices_stableCmpFunc_float32__L4 xs xs.length F D s D 0 (2 * s : Nat)) .normal
      (h_slices_stableCmpFunc_float32__L4 xs xs.length F D s (mrgB KS s D (npair D s)) (2 * s * npair D s : Nat) (2 * s * npair D s + 2 * s : Nat)) := by
    intro s D hs hs2 hD ho hb
    obtain ⟨d1, d2⟩ := div_bounds (n := D.length) hs
    have hp : npair D s = D.length / (2 * s) := by unfold npair; rw [Int.toNat_natCast]
    rw [← hp] at d1 d2
    refine for_up (e := .exit 4) (npair D s) (fun k => h_slices_stableCmpFunc_float32__L4 xs xs.length F D s (mrgB KS s D k) (2 * s * k : Nat) (2 * s * k + 2 * s : Nat)) ?_ (fun k hk => ?_) ?_
    · show _ = _
      rw [Nat.mul_zero, Nat.zero_add]; rfl
    · refine q_slices_stableCmpFunc_float32__L4 _ _ _ _ _ _ _ _ ?_
      have hle : 2 * s * (k + 1) ≤ 2 * s * npair D s := Nat.mul_le_mul_left _ hk
      have e0 : 2 * s * (k + 1) = 2 * s * k + 2 * s := Nat.mul_succ _ _
      have es : srt KS (mrgB KS s D k) (2 * s * k) (2 * s * k + 2 * s) = mrgB KS s D (k + 1) := rfl
      obtain ⟨r, _, _⟩ := mrgB_ok (K := KS) hs hb k (by omega)
      obtain ⟨r2, _, _⟩ := mrgB_ok (K := KS) hs hb (k + 1) (by omega)
      obtain ⟨p1, p2⟩ := mrgB_pair (K := KS) (k := k) hs hb (by omega)
      rw [e0]
      generalize 2 * s * k = p at *
      have e1 : IntKind.wrap .i64 ((p : Int) + s) = (p + s : Nat) := by rw [wrap64_id (by omega) (by omega)]; omega
      have e2 : IntKind.wrap .i64 (2 * (s : Int)) = (2 * s : Nat) := by rw [wrap64_id (by omega) (by omega)]; omega
      have e3 : IntKind.wrap .i64 (((p + 2 * s : Nat) : Int) + (2 * s : Nat)) = (p + 2 * s + 2 * s : Nat) := by rw [wrap64_id (by omega) (by omega)]; omega
      have cc := c2 (mrgB KS s D k) (p : Nat) (p + s : Nat) (p + 2 * s : Nat) F _ _ _ rfl rfl rfl (by rw [r.len]; omega) (by simp only [Int.toNat_natCast]; exact p1) (by simp only [Int.toNat_natCast]; exact p2) (ok_rel r ho) hF (by rw [r.len]; omega)
      rw [e1, e2, e3]
      simp only [Int.toNat_natCast] at cc ⊢
      rw [es] at cc ⊢
      have el : (mrgB KS s D k).length = (mrgB KS s D (k + 1)).length := by rw [r.len, r2.len]
      repeat' (first | with_reducible refine T.ok_ob ?_ (fun _ => ?_) | with_reducible refine T.ok_ite (fun _ => ?_) (fun _ => ?_) | with_reducible refine T.ok_leaf ?_)
      · exact ⟨cc, el, el, trivial⟩
      · rfl
      · exfalso; rename_i hc; have := of_decide_eq_false hc; omega
    · refine q_slices_stableCmpFunc_float32__L4 _ _ _ _ _ _ _ _ ?_
      repeat' (first | with_reducible refine T.ok_ob ?_ (fun _ => ?_) | with_reducible refine T.ok_ite (fun _ => ?_) (fun _ => ?_) | with_reducible refine T.ok_leaf ?_)
      all_goals first | rfl | (exfalso; simp only [decide_eq_true_eq, decide_eq_false_iff_not] at *; omega)
  have L2 : ∀ (f s : Nat) (D : List Nat), 0 < s → D.length = xs.length → okM D → Blk KS s D → D.length ≤ s * 2 ^ f → ∃ s' : Int, Exec (VCall P) ps_slices_stableCmpFunc_float32_ (.loop (b_slices_stableCmpFunc_float32__L2 g1 g2))
      (h_slices_stableCmpFunc_float32__L2 xs xs.length F D s) (.exit 2) (h_slices_stableCmpFunc_float32__L2 xs xs.length F (passes KS f s D) s') := by
    intro f
    induction f with
    | zero =>
      intro s D hs hD ho hb hl
      refine ⟨(s : Nat), Exec.loopX (q_slices_stableCmpFunc_float32__L2 _ _ _ _ _ ?_) (by simp)⟩
      rw [Nat.pow_zero, Nat.mul_one] at hl
      have : decide ((s : Int) < (xs.length : Int)) = false := decide_eq_false (by omega)
      rw [this]
      exact ⟨fun h => (by cases h), fun _ => rfl⟩
    | succ f ih =>
      intro s D hs hD ho hb hl
      by_cases c : s < xs.length
      · obtain ⟨pr, pb⟩ := pass_ok (K := KS) hs hb
        obtain ⟨s', hs'⟩ := ih (2 * s) (pass KS s D) (by omega) (by rw [pr.len, hD]) (ok_rel pr ho) pb (by rw [pr.len]; rw [Nat.pow_succ] at hl; rw [Nat.mul_comm 2 s, Nat.mul_assoc, Nat.mul_comm 2]; exact hl)
        have ep : passes KS (f + 1) s D = passes KS f (2 * s) (pass KS s D) := by unfold passes; rw [if_pos (by omega)]; cases f <;> rfl
        rw [ep]
        refine ⟨s', Exec.loopN (q_slices_stableCmpFunc_float32__L2 _ _ _ _ _ ?_) hs'⟩
        have l4 := L4 s D hs (by omega) hD ho hb
        obtain ⟨d1, d2⟩ := div_bounds (n := D.length) hs
        have hp : npair D s = D.length / (2 * s) := by unfold npair; rw [Int.toNat_natCast]
        have ps : pass KS s D = if 2 * s * npair D s + s < D.length then srt KS (mrgB KS s D (npair D s)) (2 * s * npair D s) D.length else mrgB KS s D (npair D s) := by rw [hp]; rfl
        have ps1 : 2 * s * npair D s + s < D.length → pass KS s D = srt KS (mrgB KS s D (npair D s)) (2 * s * npair D s) D.length := fun q => by rw [ps, if_pos q]
        have ps2 : ¬ (2 * s * npair D s + s < D.length) → pass KS s D = mrgB KS s D (npair D s) := fun q => by rw [ps, if_neg q]
        clear ps
        rw [← hp] at d1 d2
        obtain ⟨r, _, _⟩ := mrgB_ok (K := KS) hs hb (npair D s) d1
        have tl := fun h1 => mrgB_tail (K := KS) (k := npair D s) hs hb h1 d2
        repeat rw [Int.toNat_natCast]
        generalize npair D s = k at *
        generalize mrgB KS s D k = M at *
        have e2 : IntKind.wrap .i64 (2 * (s : Int)) = (2 * s : Nat) := by rw [wrap64_id (by omega) (by omega)]; omega
        have e4 : IntKind.wrap .i64 ((s : Int) * 2) = (2 * s : Nat) := by rw [wrap64_id (by omega) (by omega)]; omega
        rw [e2, e4]
        generalize 2 * s * k = p at *
        have e1 : IntKind.wrap .i64 ((p : Int) + s) = (p + s : Nat) := by rw [wrap64_id (by omega) (by omega)]; omega
        rw [e1]
        by_cases q : p + s < D.length
        · have ps := ps1 q
          rw [hD] at ps
          obtain ⟨t1, t2⟩ := tl q
          have cc := c2 M (p : Nat) (p + s : Nat) (xs.length : Nat) F _ _ _ rfl rfl rfl (by rw [r.len]; omega) (by simp only [Int.toNat_natCast]; exact t1) (by simp only [Int.toNat_natCast]; rw [← hD]; exact t2) (ok_rel r ho) hF (by rw [r.len]; omega)
          simp only [Int.toNat_natCast] at cc ⊢
          rw [← ps] at cc ⊢
          have el : M.length = (pass KS s D).length := by rw [r.len, pr.len]
          repeat' (first | with_reducible refine T.ok_ob ?_ (fun _ => ?_) | with_reducible refine T.ok_ite (fun _ => ?_) (fun _ => ?_) | with_reducible refine T.ok_leaf ?_)
          · exact l4
          · exact ⟨cc, el, el, trivial⟩
          · rfl
          · exfalso; rename_i hc; have := of_decide_eq_false hc; omega
          · exfalso; rename_i hc; have := of_decide_eq_false hc; omega
        · rw [ps2 q]
          repeat' (first | with_reducible refine T.ok_ob ?_ (fun _ => ?_) | with_reducible refine T.ok_ite (fun _ => ?_) (fun _ => ?_) | with_reducible refine T.ok_leaf ?_)
          · exact l4
          all_goals first | rfl | (exfalso; simp only [decide_eq_true_eq, decide_eq_false_iff_not] at *; omega)
      · have ep : passes KS (f + 1) s D = D := by unfold passes; rw [if_neg (by omega)]
        rw [ep]
        refine ⟨(s : Nat), Exec.loopX (q_slices_stableCmpFunc_float32__L2 _ _ _ _ _ ?_) (by simp)⟩
        have : decide ((s : Int) < (xs.length : Int)) = false := decide_eq_false (by omega)
        rw [this]
        exact ⟨fun h => (by cases h), fun _ => rfl⟩
  obtain ⟨br, bb⟩ := blocks_ok (K := KS) xs
  obtain ⟨s', l2⟩ := L2 8 20 (blocks KS xs) (by omega) br.len (ok_rel br hN) bb (by rw [br.len]; omega)
  rw [stable_ok xs 8 (by omega)] at l2
  have l2 := Exec.forgetR [0, 1, 2] (block_of l2)
  obtain ⟨r, _⟩ := il (nblk xs) hb1
  have cc := c1 (insB KS xs (nblk xs)) (20 * nblk xs : Nat) (xs.length : Nat) F (by rw [r.len]; omega) (ok_rel r hN) hF (by rw [r.len]; exact hx)
  refine q_slices_stableCmpFunc_float32_ h xs xs.length F ?_
  simp only [Int.toNat_natCast] at cc ⊢
  have eb : srt KS (insB KS xs (nblk xs)) (20 * nblk xs) xs.length = blocks KS xs := rfl
  rw [eb] at cc ⊢
  have el : (insB KS xs (nblk xs)).length = (blocks KS xs).length := by rw [r.len, br.len]
  have esl : xs.length = (sortM KS xs).length := by rw [← srt_all]; exact ((srt_rel (K := KS) (l := xs) (a := 0) (b := xs.length) (by omega) (Nat.le_refl _)).1.len).symm
  repeat' (first | with_reducible refine T.ok_ob ?_ (fun _ => ?_) | with_reducible refine T.ok_ite (fun _ => ?_) (fun _ => ?_) | with_reducible refine T.ok_leaf ?_)
  · exact L0
  · exact ⟨cc, el, el, trivial⟩
  · exact l2
  · exact ⟨esl, trivial⟩
  · rfl
theorem sort_len (xs : List Nat) : (sortM KS xs).length = xs.length := by rw [← srt_all]; exact (srt_rel (K := KS) (l := xs) (a := 0) (b := xs.length) (by omega) (Nat.le_refl _)).1.len
theorem k_slices_SortStableFunc___float32_float32_ {P : Program} {f g1 : FuncId} (h : Is_slices_SortStableFunc___float32_float32_ P f g1) (c1 : C_slices_stableCmpFunc_float32_ P g1) : C_slices_SortStableFunc___float32_float32_ P f := by
  intro xs F hN hF hx
  have e := (sort_len xs).symm
  exact q_slices_SortStableFunc___float32_float32_ h xs F ⟨⟨c1 xs xs.length F rfl hN hF hx, e, e, e, trivial⟩, fun _ => ⟨⟨e, trivial⟩, fun _ => rfl⟩⟩
theorem k_impl_sorted_1 {P : Program} {f : FuncId} (h : Is_impl_sorted_1 P f) : C_impl_sorted_1 P f := by
  intro x y
  refine q_impl_sorted_1 h x y ?_
  repeat' (first | with_reducible refine T.ok_ob ?_ (fun _ => ?_) | with_reducible refine T.ok_ite (fun _ => ?_) (fun _ => ?_) | with_reducible refine T.ok_leaf ?_)
  all_goals first | with_reducible rfl | with_reducible assumption | contradiction | exact fconvOk_32_64 _ | assumption | exact rfl | (simp_all [signM]; done) | (simp_all [T.ok, signM]; omega)


end Go.Proofs.LV
