/- Columns of lags. -/
import Derived.Test.YtdffgjembkanoaaLvFnHH
import Derived.Test.YtdffgjembkanoaaLvFnFFX
namespace Go.Proofs.LV
open Go
set_option linter.unusedVariables false
set_option linter.unusedSimpArgs false

abbrev one32 : Nat := 1065353216

open Go.IntKind (wrap)
-- FN bits_Mul64
def ps_bits_Mul64 : List Nat := [0, 1, 4, 5, 6, 7, 8, 9, 10, 11, 12, 13]
def b_bits_Mul64 : VCode :=
 (.seq
 (.region false [
 ⟨some 4, .mv, [.k (.i .u64 0)], none⟩,
 ⟨some 5, .mv, [.k (.i .u64 0)], none⟩])
 (.seq
 (.region false [
 ⟨some 14, .mv, [.t 0], none⟩,
 ⟨some 15, (.bin .and), [.t 14, .k (.i .u64 4294967295)], none⟩,
 ⟨some 6, .mv, [.t 15], none⟩])
 (.seq
 (.region false [
 ⟨some 16, .mv, [.t 0], none⟩,
 ⟨some 17, (.bin .shr), [.t 16, .k (.i .u64 32)], none⟩,
 ⟨some 7, .mv, [.t 17], none⟩])
 (.seq
 (.region false [
 ⟨some 18, .mv, [.t 1], none⟩,
 ⟨some 19, (.bin .and), [.t 18, .k (.i .u64 4294967295)], none⟩,
 ⟨some 8, .mv, [.t 19], none⟩])
 (.seq
 (.region false [
 ⟨some 20, .mv, [.t 1], none⟩,
 ⟨some 21, (.bin .shr), [.t 20, .k (.i .u64 32)], none⟩,
 ⟨some 9, .mv, [.t 21], none⟩])
 (.seq
 (.region false [
 ⟨some 22, .mv, [.t 6], none⟩,
 ⟨some 23, .mv, [.t 8], none⟩,
 ⟨some 24, (.bin .mul), [.t 22, .t 23], none⟩,
 ⟨some 10, .mv, [.t 24], none⟩])
 (.seq
 (.region false [
 ⟨some 25, .mv, [.t 7], none⟩,
 ⟨some 26, .mv, [.t 8], none⟩,
 ⟨some 27, (.bin .mul), [.t 25, .t 26], none⟩,
 ⟨some 28, .mv, [.t 10], none⟩,
 ⟨some 29, (.bin .shr), [.t 28, .k (.i .u64 32)], none⟩,
 ⟨some 30, (.bin .add), [.t 27, .t 29], none⟩,
 ⟨some 11, .mv, [.t 30], none⟩])
 (.seq
 (.region false [
 ⟨some 31, .mv, [.t 11], none⟩,
 ⟨some 32, (.bin .and), [.t 31, .k (.i .u64 4294967295)], none⟩,
 ⟨some 12, .mv, [.t 32], none⟩])
 (.seq
 (.region false [
 ⟨some 33, .mv, [.t 11], none⟩,
 ⟨some 34, (.bin .shr), [.t 33, .k (.i .u64 32)], none⟩,
 ⟨some 13, .mv, [.t 34], none⟩])
 (.seq
 (.region false [
 ⟨some 35, .mv, [.t 12], none⟩,
 ⟨some 36, .mv, [.t 6], none⟩,
 ⟨some 37, .mv, [.t 9], none⟩,
 ⟨some 38, (.bin .mul), [.t 36, .t 37], none⟩,
 ⟨some 39, (.bin .add), [.t 35, .t 38], none⟩,
 ⟨some 12, .mv, [.t 39], none⟩])
 (.seq
 (.region false [
 ⟨some 40, .mv, [.t 7], none⟩,
 ⟨some 41, .mv, [.t 9], none⟩,
 ⟨some 42, (.bin .mul), [.t 40, .t 41], none⟩,
 ⟨some 43, .mv, [.t 13], none⟩,
 ⟨some 44, (.bin .add), [.t 42, .t 43], none⟩,
 ⟨some 45, .mv, [.t 12], none⟩,
 ⟨some 46, (.bin .shr), [.t 45, .k (.i .u64 32)], none⟩,
 ⟨some 47, (.bin .add), [.t 44, .t 46], none⟩,
 ⟨some 4, .mv, [.t 47], none⟩])
 (.seq
 (.region false [
 ⟨some 48, .mv, [.t 0], none⟩,
 ⟨some 49, .mv, [.t 1], none⟩,
 ⟨some 50, (.bin .mul), [.t 48, .t 49], none⟩,
 ⟨some 5, .mv, [.t 50], none⟩])
 .ret))))))))))))

abbrev Is_bits_Mul64 (P : Program) (g_f : FuncId) : Prop := FnIs P g_f 51 [.t 4, .t 5] (b_bits_Mul64)

abbrev C_bits_Mul64 (P : Program) (g_f : FuncId) : Prop := ∀ (n : Nat) (hn : n ≤ 96), VCall P g_f [.i .u64 1, .i .u64 n] (.tup [.i .u64 0, .i .u64 n])



theorem q_bits_Mul64 {P : Program} {g_f : FuncId} (h_ : Is_bits_Mul64 P g_f) (n : Nat) (ht : T.ok (fun x_ => x_ = .tup [.i .u64 0, .i .u64 n]) (
 T.ob ((0 : Int) ≤ 32 ∧ 32 ≤ 64)
 (T.ob ((0 : Int) ≤ 32 ∧ 32 ≤ 64)
 (T.ob ((0 : Int) ≤ 32 ∧ 32 ≤ 64)
 (T.ob ((0 : Int) ≤ 32 ∧ 32 ≤ 64)
 (T.ob ((0 : Int) ≤ 32 ∧ 32 ≤ 64)
 (T.leaf
 (AV.tup
 [AV.i .u64
 (wrap .u64
 (wrap .u64
 (wrap .u64 (0 * Int.fdiv (↑n : Int) 4294967296) +
 Int.fdiv
 (wrap .u64
 (wrap .u64 (0 * ibits BinOp.and .u64 (↑n : Int) 4294967295) + Int.fdiv (wrap .u64 (1 * ibits BinOp.and .u64 (↑n : Int) 4294967295)) 4294967296))
 4294967296) +
 Int.fdiv
 (wrap .u64
 (ibits BinOp.and .u64
 (wrap .u64
 (wrap .u64 (0 * ibits BinOp.and .u64 (↑n : Int) 4294967295) + Int.fdiv (wrap .u64 (1 * ibits BinOp.and .u64 (↑n : Int) 4294967295)) 4294967296))
 4294967295 +
 wrap .u64 (1 * Int.fdiv (↑n : Int) 4294967296)))
 4294967296)),
 AV.i .u64 (wrap .u64 (1 * (↑n : Int)))])))))))) :
 VCall P g_f [.i .u64 1, .i .u64 n] (.tup [.i .u64 0, .i .u64 n]) := h_.call_of ps_bits_Mul64 ⟨fun _ _ => .fail, fun _ _ => none⟩ (by kernel_rfl) ht

-- END bits_Mul64

-- FN bits_Mul
def ps_bits_Mul : List Nat := [0, 1, 4, 5, 6, 7, 8, 9]
def b_bits_Mul (gq0 gq1 : FuncId) : VCode :=
 (.seq
 (.region false [
 ⟨some 4, .mv, [.k (.i .u64 0)], none⟩,
 ⟨some 5, .mv, [.k (.i .u64 0)], none⟩])
 (.seq
 (.cond (.k (.b false))
 (.seq
 (.region false [
 ⟨some 11, .mv, [.t 0], none⟩,
 ⟨some 12, (.convI .u32), [.t 11], none⟩,
 ⟨some 13, .mv, [.t 1], none⟩,
 ⟨some 14, (.convI .u32), [.t 13], none⟩,
 ⟨some 15, (.call gq0), [.t 12, .t 14], none⟩,
 ⟨some 10, .mv, [.t 15], none⟩,
 ⟨some 16, (.extract 0), [.t 10], none⟩,
 ⟨some 17, (.extract 1), [.t 10], none⟩,
 ⟨some 6, .mv, [.t 16], none⟩,
 ⟨some 7, .mv, [.t 17], none⟩])
 (.seq
 (.region false [
 ⟨some 18, .mv, [.t 6], none⟩,
 ⟨some 19, (.convI .u64), [.t 18], none⟩,
 ⟨some 20, .mv, [.t 7], none⟩,
 ⟨some 21, (.convI .u64), [.t 20], none⟩,
 ⟨some 4, .mv, [.t 19], none⟩,
 ⟨some 5, .mv, [.t 21], none⟩])
 .ret))
 .skip)
 (.seq
 (.region false [
 ⟨some 23, .mv, [.t 0], none⟩,
 ⟨some 24, .mv, [.t 1], none⟩,
 ⟨some 25, (.call gq1), [.t 23, .t 24], none⟩,
 ⟨some 22, .mv, [.t 25], none⟩,
 ⟨some 26, (.extract 0), [.t 22], none⟩,
 ⟨some 27, (.extract 1), [.t 22], none⟩,
 ⟨some 8, .mv, [.t 26], none⟩,
 ⟨some 9, .mv, [.t 27], none⟩])
 (.seq
 (.region false [
 ⟨some 28, .mv, [.t 8], none⟩,
 ⟨some 29, .mv, [.t 9], none⟩,
 ⟨some 4, .mv, [.t 28], none⟩,
 ⟨some 5, .mv, [.t 29], none⟩])
 .ret))))

abbrev Is_bits_Mul (P : Program) (g_f : FuncId) (gq0 gq1 : FuncId) : Prop := FnIs P g_f 30 [.t 4, .t 5] (b_bits_Mul gq0 gq1)

abbrev C_bits_Mul (P : Program) (g_f : FuncId) : Prop := ∀ (n : Nat) (hn : n ≤ 96), VCall P g_f [.i .u64 1, .i .u64 n] (.tup [.i .u64 0, .i .u64 n])
def oc_bits_Mul (n : Nat) (d : Nat) (as : List AV) : T AV := match d with | 25 => .leaf (.tup [.i .u64 0, .i .u64 n]) | _ => .fail



theorem q_bits_Mul {P : Program} {g_f : FuncId} {gq0 gq1 : FuncId} (h_ : Is_bits_Mul P g_f gq0 gq1) (n : Nat) (ht : T.ok (fun x_ => x_ = .tup [.i .u64 0, .i .u64 n]) (
 T.ob ((VCall P) gq1 [AV.i .u64 1, AV.i .u64 (↑n : Int)] (AV.tup [AV.i .u64 0, AV.i .u64 (↑n : Int)])) (T.leaf (AV.tup [AV.i .u64 0, AV.i .u64 (↑n : Int)])))) :
 VCall P g_f [.i .u64 1, .i .u64 n] (.tup [.i .u64 0, .i .u64 n]) := h_.call_of ps_bits_Mul ⟨oc_bits_Mul n, fun _ _ => none⟩ (by kernel_rfl) ht

-- END bits_Mul

-- FN slices_Repeat___float32_float32_
def ps_slices_Repeat___float32_float32_ : List Nat := [0, 1, 4, 5, 6, 7, 8, 10, 26, 37]
def lv_slices_Repeat___float32_float32__L0 : List Nat := [7, 8]
def b_slices_Repeat___float32_float32__L0 (gq0 : FuncId) : VCode :=
 (.seq
 (.seq
 (.region false [
 ⟨some 34, .mv, [.t 8], none⟩,
 ⟨some 35, .mv, [.t 7], none⟩,
 ⟨some 36, .len, [.t 35], none⟩,
 ⟨some 37, (.bin .lss), [.t 34, .t 36], none⟩])
 (.cond (.t 37)
 .skip
 (.exit 0)))
 (.block 1
 (.region true [
 ⟨some 38, .mv, [.t 8], none⟩,
 ⟨some 39, .mv, [.t 7], none⟩,
 ⟨some 40, .mv, [.t 8], none⟩,
 ⟨some 41, (.slice true false false), [.t 39, .t 40], none⟩,
 ⟨some 42, .mv, [.t 7], none⟩,
 ⟨some 43, .mv, [.t 8], none⟩,
 ⟨some 44, (.slice false true false), [.t 42, .t 43], none⟩,
 ⟨some 45, .copy, [.t 41, .t 44], none⟩,
 ⟨some 46, (.bin .add), [.t 38, .t 45], none⟩,
 ⟨some 8, .mv, [.t 46], none⟩])))

def b_slices_Repeat___float32_float32_ (gq0 : FuncId) : VCode :=
 (.seq
 (.region false [
 ⟨some 4, (.nilsl (.f .f32 [])), [], none⟩])
 (.seq
 (.seq
 (.region false [
 ⟨some 9, .mv, [.t 1], none⟩,
 ⟨some 10, (.bin .lss), [.t 9, .k (.i .i64 0)], none⟩])
 (.cond (.t 10)
 .bad
 .skip))
 (.seq
 (.region false [
 ⟨some 13, .mv, [.t 0], none⟩,
 ⟨some 14, .len, [.t 13], none⟩,
 ⟨some 15, (.convI .u64), [.t 14], none⟩,
 ⟨some 16, .mv, [.t 1], none⟩,
 ⟨some 17, (.convI .u64), [.t 16], none⟩,
 ⟨some 18, (.call gq0), [.t 15, .t 17], none⟩,
 ⟨some 12, .mv, [.t 18], none⟩,
 ⟨some 19, (.extract 0), [.t 12], none⟩,
 ⟨some 20, (.extract 1), [.t 12], none⟩,
 ⟨some 5, .mv, [.t 19], none⟩,
 ⟨some 6, .mv, [.t 20], none⟩])
 (.seq
 (.seq
 (.region false [
 ⟨some 21, .mv, [.t 5], none⟩,
 ⟨some 22, (.bin .gtr), [.t 21, .k (.i .u64 0)], none⟩,
 ⟨some 23, .mv, [.t 22], none⟩,
 ⟨some 24, .mv, [.t 6], some (23, false)⟩,
 ⟨some 25, (.bin .gtr), [.t 24, .k (.i .u64 9223372036854775807)], some (23, false)⟩,
 ⟨some 26, .pick, [.t 23, .k (.b true), .t 25], none⟩])
 (.cond (.t 26)
 .bad
 .skip))
 (.seq
 (.region false [
 ⟨some 28, .mv, [.t 6], none⟩,
 ⟨some 29, (.convI .i64), [.t 28], none⟩,
 ⟨some 30, (.mksl (.f .f32 0)), [.t 29, .t 29], none⟩,
 ⟨some 7, .mv, [.t 30], none⟩])
 (.seq
 (.region false [
 ⟨some 31, .mv, [.t 7], none⟩,
 ⟨some 32, .mv, [.t 0], none⟩,
 ⟨some 33, .copy, [.t 31, .t 32], none⟩,
 ⟨some 8, .mv, [.t 33], none⟩])
 (.seq
 (.block 0 (.loop (b_slices_Repeat___float32_float32__L0 gq0)))
 (.seq
 (.region false [
 ⟨some 47, .mv, [.t 7], none⟩,
 ⟨some 4, .mv, [.t 47], none⟩])
 .ret))))))))

abbrev Is_slices_Repeat___float32_float32_ (P : Program) (g_f : FuncId) (gq0 : FuncId) : Prop := FnIs P g_f 48 [.t 4] (b_slices_Repeat___float32_float32_ gq0)

abbrev C_slices_Repeat___float32_float32_ (P : Program) (g_f : FuncId) : Prop := ∀ (x : Nat) (n : Nat) (hn : 1 ≤ n ∧ n ≤ 96), VCall P g_f [PS [0] .f32 [x], .i .i64 n] (OS 0 .f32 (List.replicate n x))
def oc_slices_Repeat___float32_float32_ (x : Nat) (n : Nat) (d : Nat) (as : List AV) : T AV := match d with | 18 => .leaf (.tup [.i .u64 0, .i .u64 n]) | _ => .fail
def h_slices_Repeat___float32_float32__L0 (x : Nat) (n : Nat) (newslice : List Nat) (n2 : Int) : Env := anys 7 ++ [.sl (Tag.own 240) 0 (.f .f32 newslice), .i .i64 n2] ++ anys 39

theorem q_slices_Repeat___float32_float32__L0 {VC : FuncId → List AV → AV → Prop} {gq0 : FuncId} (x : Nat) (n : Nat) (newslice : List Nat) (n2 : Int) {e_ : Ex} {σ_ : Env} (ht : T.ok (fun x_ => x_ = (e_, σ_)) (
 T.ite (decide (n2 < (↑(List.length newslice) : Int)))
 (T.ob (0 ≤ n2 ∧ n2 ≤ (↑(List.length newslice) : Int))
 (T.ob (0 ≤ n2 ∧ n2 ≤ (↑(List.length newslice) : Int))
 (T.ob True
 (T.leaf
 (Ex.normal,
 h_slices_Repeat___float32_float32__L0 x n
 (splice newslice (0 + Int.toNat n2) (List.take (List.length (List.take (List.length newslice - Int.toNat n2) (List.drop (Int.toNat n2) newslice))) (List.take (Int.toNat n2) (List.drop 0 newslice))))
 (wrap .i64
 (n2 + (↑(Nat.min (List.length (List.take (Int.toNat n2) (List.drop 0 newslice))) (List.length (List.take (List.length newslice - Int.toNat n2) (List.drop (Int.toNat n2) newslice)))) : Int))))))))
 (T.leaf (Ex.exit 0, h_slices_Repeat___float32_float32__L0 x n newslice n2)))) :
 Exec VC ps_slices_Repeat___float32_float32_ (b_slices_Repeat___float32_float32__L0 gq0) (h_slices_Repeat___float32_float32__L0 x n newslice n2) e_ σ_ := evL_of (lv := lv_slices_Repeat___float32_float32__L0) (rs := [4]) (O := ⟨oc_slices_Repeat___float32_float32_ x n, fun _ _ => none⟩) (by kernel_rfl) ht

theorem q_slices_Repeat___float32_float32_ {P : Program} {g_f : FuncId} {gq0 : FuncId} (h_ : Is_slices_Repeat___float32_float32_ P g_f gq0) (x : Nat) (n : Nat) (ht : T.ok (fun x_ => x_ = OS 0 .f32 (List.replicate n x)) (
 T.ite false T.fail
 (T.ob True
 (T.ob True
 (T.ob ((VCall P) gq0 [AV.i .u64 (wrap .u64 (↑(List.length [x]) : Int)), AV.i .u64 (wrap .u64 (↑n : Int))] (AV.tup [AV.i .u64 0, AV.i .u64 (↑n : Int)]))
 (T.ite false T.fail
 (T.ite (decide ((↑n : Int) > 9223372036854775807)) T.fail
 (T.ob True
 (T.ob (wrap .i64 (↑n : Int) = wrap .i64 (↑n : Int) ∧ 0 ≤ wrap .i64 (↑n : Int) ∧ wrap .i64 (↑n : Int) ≤ 4294967296)
 (T.ob True
 (T.ob
 (Exec (VCall P) ps_slices_Repeat___float32_float32_ (VCode.block 0 (VCode.loop (b_slices_Repeat___float32_float32__L0 gq0)))
 (h_slices_Repeat___float32_float32__L0 x n
 (splice (List.replicate (Int.toNat (wrap .i64 (↑n : Int))) 0) 0 (List.take (List.length (List.replicate (Int.toNat (wrap .i64 (↑n : Int))) 0)) [x]))
 (↑(Nat.min (List.length [x]) (List.length (List.replicate (Int.toNat (wrap .i64 (↑n : Int))) 0))) : Int))
 Ex.normal (h_slices_Repeat___float32_float32__L0 x n (List.replicate n x) (↑n : Int)))
 (T.leaf (AV.sl (Tag.own 0) 0 (Cont.f .f32 (List.replicate n x))))))))))))))) :
 VCall P g_f [PS [0] .f32 [x], .i .i64 n] (OS 0 .f32 (List.replicate n x)) := h_.call_of ps_slices_Repeat___float32_float32_ ⟨oc_slices_Repeat___float32_float32_ x n, fun id σ => match id with | 0 => some (lv_slices_Repeat___float32_float32__L0, .leaf (.normal, h_slices_Repeat___float32_float32__L0 x n (List.replicate n x) n)) | _ => none⟩ (by kernel_rfl) ht

-- END slices_Repeat___float32_float32_

-- FN impl_ones
def ps_impl_ones : List Nat := [0, 2]
def b_impl_ones (gq0 : FuncId) : VCode :=
 (.seq
 (.region false [
 ⟨some 2, (.nilsl (.f .f32 [])), [], none⟩])
 (.seq
 (.region false [
 ⟨some 3, (.lit true (.f .f32 [])), [.k (.f .f32 1065353216)], none⟩,
 ⟨some 4, .mv, [.t 0], none⟩,
 ⟨some 5, (.call gq0), [.t 3, .t 4], none⟩,
 ⟨some 2, .mv, [.t 5], none⟩])
 .ret))

abbrev Is_impl_ones (P : Program) (g_f : FuncId) (gq0 : FuncId) : Prop := FnIs P g_f 6 [.t 2] (b_impl_ones gq0)

abbrev C_impl_ones (P : Program) (g_f : FuncId) : Prop := ∀ (n : Nat) (hn : 1 ≤ n ∧ n ≤ 96), VCall P g_f [.i .i64 n] (OS 0 .f32 (List.replicate n one32))
def oc_impl_ones (n : Nat) (d : Nat) (as : List AV) : T AV := match d with | 5 => .leaf (OS 0 .f32 (List.replicate n one32)) | _ => .fail



theorem q_impl_ones {P : Program} {g_f : FuncId} {gq0 : FuncId} (h_ : Is_impl_ones P g_f gq0) (n : Nat) (ht : T.ok (fun x_ => x_ = OS 0 .f32 (List.replicate n one32)) (
 T.ob ((VCall P) gq0 [AV.sl (Tag.par [0]) 0 (Cont.f .f32 [1065353216]), AV.i .i64 (↑n : Int)] (AV.sl (Tag.own 0) 0 (Cont.f .f32 (List.replicate n one32))))
 (T.leaf (AV.sl (Tag.own 0) 0 (Cont.f .f32 (List.replicate n one32)))))) :
 VCall P g_f [.i .i64 n] (OS 0 .f32 (List.replicate n one32)) := h_.call_of ps_impl_ones ⟨oc_impl_ones n, fun _ _ => none⟩ (by kernel_rfl) ht

-- END impl_ones


theorem mul64_low (n : Nat) (h : n ≤ 96) : (AV.tup [.i .u64 (IntKind.wrap .u64 (IntKind.wrap .u64 (IntKind.wrap .u64 (0 * Int.fdiv (n : Int) 4294967296) + Int.fdiv (IntKind.wrap .u64 (IntKind.wrap .u64 (0 * ibits .and .u64 (n : Int) 4294967295) + Int.fdiv (IntKind.wrap .u64 (1 * ibits .and .u64 (n : Int) 4294967295)) 4294967296)) 4294967296) + Int.fdiv (IntKind.wrap .u64 (ibits .and .u64 (IntKind.wrap .u64 (IntKind.wrap .u64 (0 * ibits .and .u64 (n : Int) 4294967295) + Int.fdiv (IntKind.wrap .u64 (1 * ibits .and .u64 (n : Int) 4294967295)) 4294967296)) 4294967295 + IntKind.wrap .u64 (1 * Int.fdiv (n : Int) 4294967296))) 4294967296)), .i .u64 (IntKind.wrap .u64 (1 * (n : Int)))] : AV) = .tup [.i .u64 0, .i .u64 n] := by
  have a : ∀ n : Fin 97, (IntKind.wrap .u64 (IntKind.wrap .u64 (IntKind.wrap .u64 (0 * Int.fdiv ((n : Nat) : Int) 4294967296) + Int.fdiv (IntKind.wrap .u64 (IntKind.wrap .u64 (0 * ibits .and .u64 ((n : Nat) : Int) 4294967295) + Int.fdiv (IntKind.wrap .u64 (1 * ibits .and .u64 ((n : Nat) : Int) 4294967295)) 4294967296)) 4294967296) + Int.fdiv (IntKind.wrap .u64 (ibits .and .u64 (IntKind.wrap .u64 (IntKind.wrap .u64 (0 * ibits .and .u64 ((n : Nat) : Int) 4294967295) + Int.fdiv (IntKind.wrap .u64 (1 * ibits .and .u64 ((n : Nat) : Int) 4294967295)) 4294967296)) 4294967295 + IntKind.wrap .u64 (1 * Int.fdiv ((n : Nat) : Int) 4294967296))) 4294967296)) = 0 ∧ IntKind.wrap .u64 (1 * ((n : Nat) : Int)) = ((n : Nat) : Int) := by decide +kernel
  have := a ⟨n, by omega⟩
  rw [this.1, this.2]

theorem k_bits_Mul64 {P : Program} {f : FuncId} (h : Is_bits_Mul64 P f) : C_bits_Mul64 P f := by
  intro n hn
  refine q_bits_Mul64 h n ⟨by omega, fun _ => ⟨by omega, fun _ => ⟨by omega, fun _ => ⟨by omega, fun _ => ⟨by omega, fun _ => ?_⟩⟩⟩⟩⟩
  exact mul64_low n hn

theorem k_bits_Mul {P : Program} {f g1 g2 : FuncId} (h : Is_bits_Mul P f g1 g2) (c2 : C_bits_Mul64 P g2) : C_bits_Mul P f := by
  intro n hn
  exact q_bits_Mul h n ⟨c2 n hn, fun _ => rfl⟩

/-- k numbers are written, the others wait -/
def repS (x n k : Nat) : List Nat := List.replicate k x ++ List.replicate (n - k) 0
theorem repS_len {x n k : Nat} (h : k ≤ n) : (repS x n k).length = n := by simp [repS]; omega
theorem repS_splice {x n k j : Nat} (h : k + j ≤ n) : splice (repS x n k) k (List.replicate j x) = repS x n (k + j) := by
  have e1 : (repS x n k).take k = List.replicate k x := by
    unfold repS; exact List.take_left' (by simp)
  have e2 : (repS x n k).drop (k + j) = List.replicate (n - (k + j)) 0 := by
    unfold repS
    rw [List.drop_append, List.length_replicate, List.drop_of_length_le (by simp), List.nil_append, List.drop_replicate]
    congr 1; omega
  unfold splice
  rw [List.length_replicate, e1, e2, repS_len (by omega), List.replicate_append_replicate]
  exact List.take_of_length_le (by simp; omega)
theorem pow_steps : ∀ n : Fin 97, 1 ≤ (n : Nat) → ∃ m, m < 8 ∧ (n : Nat) ≤ 2 ^ m ∧ ∀ i, i < m → 2 ^ i < (n : Nat) := by decide +kernel

theorem k_slices_Repeat___float32_float32_ {P : Program} {f g : FuncId} (h : Is_slices_Repeat___float32_float32_ P f g) (c1 : C_bits_Mul P g) : C_slices_Repeat___float32_float32_ P f := by
  intro x n hn
  have w1 : IntKind.wrap .u64 (([x] : List Nat).length : Int) = 1 := rfl
  have w2 : IntKind.wrap .u64 (n : Int) = n := by
    have : ∀ n : Fin 97, IntKind.wrap .u64 ((n : Nat) : Int) = ((n : Nat) : Int) := by decide +kernel
    exact this ⟨n, by omega⟩
  refine q_slices_Repeat___float32_float32_ h x n ?_
  rw [w1, w2, wrap64_id (by omega) (by omega), Int.toNat_natCast]
  refine ⟨fun h => Bool.noConfusion h, fun _ => ⟨trivial, fun _ => ⟨trivial, fun _ => ⟨c1 n hn.2, fun _ => ⟨fun h => Bool.noConfusion h, fun _ => ⟨fun h => absurd (of_decide_eq_true h) (by omega), fun _ => ⟨trivial, fun _ => ⟨by omega, fun _ => ⟨trivial, fun _ => ⟨?_, fun _ => rfl⟩⟩⟩⟩⟩⟩⟩⟩⟩⟩
  obtain ⟨m, hm8, hm, hlt⟩ := pow_steps ⟨n, by omega⟩ hn.1
  simp only at hm hlt
  have h0 : splice (List.replicate n 0) 0 (([x] : List Nat).take (List.replicate n 0).length) = repS x n 1 := by
    rw [List.length_replicate, List.take_of_length_le (by simp; omega)]
    have := repS_splice (x := x) (n := n) (k := 0) (j := 1) (by omega)
    simpa [repS] using this
  have h1 : (Nat.min ([x] : List Nat).length (List.replicate n 0).length : Nat) = 1 := by
    rw [List.length_replicate]; exact Nat.min_eq_left hn.1
  rw [h0, h1]
  refine for_up (e := .exit 0) m (fun i => h_slices_Repeat___float32_float32__L0 x n (repS x n (min (2 ^ i) n)) (min (2 ^ i) n : Nat)) ?_ (fun i hi => ?_) ?_
  · have : min (2 ^ 0) n = 1 := by simp; omega
    rw [this]
  · have hl := hlt i hi
    have e : min (2 ^ i) n = 2 ^ i := by omega
    have hp : 2 ^ (i + 1) = 2 ^ i + 2 ^ i := by rw [Nat.pow_succ]; omega
    rw [e]
    generalize hk : 2 ^ i = k at *
    have e2 : min (2 ^ (i + 1)) n = k + min k (n - k) := by omega
    rw [e2]
    have t1 : (repS x n k).take k = List.replicate k x := by unfold repS; exact List.take_left' (by simp)
    refine q_slices_Repeat___float32_float32__L0 _ _ _ _ ?_
    simp only [Int.toNat_natCast, repS_len (show k ≤ n by omega), Nat.zero_add, List.drop_zero, t1, List.length_take, List.length_drop, List.length_replicate, List.take_replicate]
    rw [show min (min (n - k) (n - k)) k = min k (n - k) by omega, show Nat.min k (min (n - k) (n - k)) = min k (n - k) by rw [Nat.min_self], repS_splice (by omega)]
    refine ⟨fun _ => ⟨by omega, fun _ => ⟨by omega, fun _ => ⟨trivial, fun _ => ?_⟩⟩⟩, fun h => absurd (of_decide_eq_false h) (by omega)⟩
    show _ = _
    rw [wrap64_id (by omega) (by omega), ← Int.natCast_add]
  · have e : min (2 ^ m) n = n := by omega
    rw [e]
    refine q_slices_Repeat___float32_float32__L0 _ _ _ _ ?_
    rw [repS_len (Nat.le_refl _)]
    refine ⟨fun h => absurd h (by simp), fun _ => ?_⟩
    simp [T.ok, repS]

theorem k_impl_ones {P : Program} {f g : FuncId} (h : Is_impl_ones P f g) (c1 : C_slices_Repeat___float32_float32_ P g) : C_impl_ones P f := by
  intro n hn
  exact q_impl_ones h n ⟨c1 _ n hn, fun _ => rfl⟩

def lagRow (a : List Nat) (n l : Nat) : List Nat := (a.drop (n - l)).take (a.length - n)
/-- the columns of the first l lags -/
def lagM (a : List Nat) (n l : Nat) : LL := List.replicate (a.length - n) one32 :: tab l fun i => lagRow a n (i + 1)
def lagOk (a : List Nat) (n : Int) : Bool := seriesM a && (inM n 1 5 && decide (n < a.length))

-- FN impl_lagColumns
def ps_impl_lagColumns : List Nat := [0, 1, 4, 5, 6, 7, 8, 18]
def lv_impl_lagColumns_L0 : List Nat := [0, 1, 6, 7, 8]
def b_impl_lagColumns_L0 (gq0 gq1 : FuncId) : VCode :=
 (.seq
 (.seq
 (.region false [
 ⟨some 16, .mv, [.t 8], none⟩,
 ⟨some 17, .mv, [.t 1], none⟩,
 ⟨some 18, (.bin .leq), [.t 16, .t 17], none⟩])
 (.cond (.t 18)
 .skip
 (.exit 0)))
 (.seq
 (.block 1
 (.region false [
 ⟨some 21, .mv, [.t 7], none⟩,
 ⟨some 22, .mv, [.t 0], none⟩,
 ⟨some 23, .mv, [.t 1], none⟩,
 ⟨some 24, .mv, [.t 8], none⟩,
 ⟨some 25, (.bin .sub), [.t 23, .t 24], none⟩,
 ⟨some 26, .mv, [.t 6], none⟩,
 ⟨some 27, .mv, [.t 8], none⟩,
 ⟨some 28, (.bin .sub), [.t 26, .t 27], none⟩,
 ⟨some 29, (.slice true true false), [.t 22, .t 25, .t 28], none⟩,
 ⟨some 30, (.call gq1), [.t 29], none⟩,
 ⟨some 31, (.lit true (.ff .f32 [])), [.t 30], none⟩,
 ⟨some 32, .app, [.t 21, .t 31], none⟩,
 ⟨some 7, .mv, [.t 32], none⟩]))
 (.region false [
 ⟨some 19, .mv, [.t 8], none⟩,
 ⟨some 20, (.bin .add), [.t 19, .k (.i .i64 1)], none⟩,
 ⟨some 8, .mv, [.t 20], none⟩])))

def b_impl_lagColumns (gq0 gq1 : FuncId) : VCode :=
 (.seq
 (.region false [
 ⟨some 4, (.nilsl (.ff .f32 [])), [], none⟩,
 ⟨some 5, (.nilsl (.f .f32 [])), [], none⟩])
 (.seq
 (.region false [
 ⟨some 9, .mv, [.t 0], none⟩,
 ⟨some 10, .len, [.t 9], none⟩,
 ⟨some 6, .mv, [.t 10], none⟩])
 (.seq
 (.region false [
 ⟨some 11, .mv, [.t 6], none⟩,
 ⟨some 12, .mv, [.t 1], none⟩,
 ⟨some 13, (.bin .sub), [.t 11, .t 12], none⟩,
 ⟨some 14, (.call gq0), [.t 13], none⟩,
 ⟨some 15, (.lit true (.ff .f32 [])), [.t 14], none⟩,
 ⟨some 7, .mv, [.t 15], none⟩])
 (.seq
 (.seq
 (.region false [
 ⟨some 8, .mv, [.k (.i .i64 1)], none⟩])
 (.block 0 (.loop (b_impl_lagColumns_L0 gq0 gq1))))
 (.seq
 (.region false [
 ⟨some 33, .mv, [.t 7], none⟩,
 ⟨some 34, .mv, [.t 0], none⟩,
 ⟨some 35, .mv, [.t 1], none⟩,
 ⟨some 36, (.slice true false false), [.t 34, .t 35], none⟩,
 ⟨some 37, (.call gq1), [.t 36], none⟩,
 ⟨some 4, .mv, [.t 33], none⟩,
 ⟨some 5, .mv, [.t 37], none⟩])
 .ret)))))

abbrev Is_impl_lagColumns (P : Program) (g_f : FuncId) (gq0 gq1 : FuncId) : Prop := FnIs P g_f 38 [.t 4, .t 5] (b_impl_lagColumns gq0 gq1)

abbrev C_impl_lagColumns (P : Program) (g_f : FuncId) : Prop := ∀ (a : List Nat) (n : Nat) (hn : 1 ≤ n ∧ n ≤ 5) (ha : n < a.length ∧ a.length ≤ 96), VCall P g_f [PS [0] .f32 a, .i .i64 n] (.tup [NW 0 (lagM a n n), OS 1 .f32 (a.drop n)])
def oc_impl_lagColumns (a : List Nat) (n : Nat) (d : Nat) (as : List AV) : T AV := match d with | 14 => .leaf (OS 0 .f32 (List.replicate (a.length - n) one32)) | 30 => oc1_slices_Clone___float32_float32_ as | 37 => oc1_slices_Clone___float32_float32_ as | _ => .fail
def h_impl_lagColumns_L0 (a : List Nat) (n : Nat) (columns : LL) (l : Int) : Env := [AV.sl (Tag.par [0]) 0 (Cont.f .f32 a), AV.i .i64 (↑n : Int)] ++ anys 4 ++ [AV.i .i64 (↑(List.length a) : Int), .nw 120 0 .f32 columns none, .i .i64 l] ++ anys 29

theorem q_impl_lagColumns_L0 {VC : FuncId → List AV → AV → Prop} {gq0 gq1 : FuncId} (a : List Nat) (n : Nat) (columns : LL) (l : Int) {e_ : Ex} {σ_ : Env} (ht : T.ok (fun x_ => x_ = (e_, σ_)) (
 T.ite (decide (l ≤ (↑n : Int)))
 (T.ob
 (0 ≤ wrap .i64 ((↑n : Int) - l) ∧
 wrap .i64 ((↑n : Int) - l) ≤ wrap .i64 ((↑(List.length a) : Int) - l) ∧ wrap .i64 ((↑(List.length a) : Int) - l) ≤ (↑(List.length a) : Int))
 (T.ob
 (VC gq1
 [AV.sl (Tag.par [0]) 0
 (Cont.f .f32
 (List.take (Int.toNat (wrap .i64 ((↑(List.length a) : Int) - l)) - Int.toNat (wrap .i64 ((↑n : Int) - l)))
 (List.drop (Int.toNat (wrap .i64 ((↑n : Int) - l))) a)))]
 (AV.sl (Tag.own 0) 0
 (Cont.f .f32
 (List.take (Int.toNat (wrap .i64 ((↑(List.length a) : Int) - l)) - Int.toNat (wrap .i64 ((↑n : Int) - l)))
 (List.drop (Int.toNat (wrap .i64 ((↑n : Int) - l))) a)))))
 (T.ob
 (List.length columns +
 List.length
 [List.take (Int.toNat (wrap .i64 ((↑(List.length a) : Int) - l)) - Int.toNat (wrap .i64 ((↑n : Int) - l)))
 (List.drop (Int.toNat (wrap .i64 ((↑n : Int) - l))) a)] ≤
 4294967296)
 (T.leaf
 (Ex.normal,
 h_impl_lagColumns_L0 a n
 (columns ++
 [List.take (Int.toNat (wrap .i64 ((↑(List.length a) : Int) - l)) - Int.toNat (wrap .i64 ((↑n : Int) - l)))
 (List.drop (Int.toNat (wrap .i64 ((↑n : Int) - l))) a)])
 (wrap .i64 (l + 1)))))))
 (T.leaf (Ex.exit 0, h_impl_lagColumns_L0 a n columns l)))) :
 Exec VC ps_impl_lagColumns (b_impl_lagColumns_L0 gq0 gq1) (h_impl_lagColumns_L0 a n columns l) e_ σ_ := evL_of (lv := lv_impl_lagColumns_L0) (rs := [4, 5]) (O := ⟨oc_impl_lagColumns a n, fun _ _ => none⟩) (by kernel_rfl) ht

theorem q_impl_lagColumns {P : Program} {g_f : FuncId} {gq0 gq1 : FuncId} (h_ : Is_impl_lagColumns P g_f gq0 gq1) (a : List Nat) (n : Nat) (ht : T.ok (fun x_ => x_ = .tup [NW 0 (lagM a n n), OS 1 .f32 (a.drop n)]) (
 T.ob ((VCall P) gq0 [AV.i .i64 (wrap .i64 ((↑(List.length a) : Int) - (↑n : Int)))] (AV.sl (Tag.own 0) 0 (Cont.f .f32 (List.replicate (List.length a - n) one32))))
 (T.ob
 (Exec (VCall P) ps_impl_lagColumns (VCode.block 0 (VCode.loop (b_impl_lagColumns_L0 gq0 gq1))) (h_impl_lagColumns_L0 a n [List.replicate (List.length a - n) one32] 1) Ex.normal
 (h_impl_lagColumns_L0 a n (lagM a n n) ((↑n : Int) + 1)))
 (T.ob (0 ≤ (↑n : Int) ∧ (↑n : Int) ≤ (↑(List.length a) : Int))
 (T.ob
 ((VCall P) gq1 [AV.sl (Tag.par [0]) 0 (Cont.f .f32 (List.take (List.length a - Int.toNat (↑n : Int)) (List.drop (Int.toNat (↑n : Int)) a)))]
 (AV.sl (Tag.own 0) 0 (Cont.f .f32 (List.take (List.length a - Int.toNat (↑n : Int)) (List.drop (Int.toNat (↑n : Int)) a)))))
 (T.leaf (AV.tup [AV.nw 0 0 .f32 (lagM a n n) none, AV.sl (Tag.own 1) 0 (Cont.f .f32 (List.take (List.length a - Int.toNat (↑n : Int)) (List.drop (Int.toNat (↑n : Int)) a)))]))))))) :
 VCall P g_f [PS [0] .f32 a, .i .i64 n] (.tup [NW 0 (lagM a n n), OS 1 .f32 (a.drop n)]) := h_.call_of ps_impl_lagColumns ⟨oc_impl_lagColumns a n, fun id σ => match id with | 0 => some (lv_impl_lagColumns_L0, .leaf (.normal, h_impl_lagColumns_L0 a n (lagM a n n) (n + 1))) | _ => none⟩ (by kernel_rfl) ht

-- END impl_lagColumns

-- FN impl_LagColumns
def ps_impl_LagColumns : List Nat := [0, 1, 4, 5, 6, 7, 8, 22]
def b_impl_LagColumns (gq0 gq1 gq2 : FuncId) : VCode :=
 (.seq
 (.region false [
 ⟨some 4, (.nilsl (.ff .f32 [])), [], none⟩,
 ⟨some 5, (.nilsl (.f .f32 [])), [], none⟩,
 ⟨some 6, .mv, [.k (.b false)], none⟩])
 (.seq
 (.seq
 (.region false [
 ⟨some 9, .mv, [.t 0], none⟩,
 ⟨some 10, (.call gq0), [.t 9], none⟩,
 ⟨some 11, .not, [.t 10], none⟩,
 ⟨some 12, .mv, [.t 11], none⟩,
 ⟨some 13, .mv, [.t 1], some (12, false)⟩,
 ⟨some 14, (.call gq1), [.t 13, .k (.i .i64 1), .k (.i .i64 5)], some (12, false)⟩,
 ⟨some 15, .not, [.t 14], some (12, false)⟩,
 ⟨some 16, .pick, [.t 12, .k (.b true), .t 15], none⟩,
 ⟨some 17, .mv, [.t 16], none⟩,
 ⟨some 18, .mv, [.t 0], some (17, false)⟩,
 ⟨some 19, .len, [.t 18], some (17, false)⟩,
 ⟨some 20, .mv, [.t 1], some (17, false)⟩,
 ⟨some 21, (.bin .leq), [.t 19, .t 20], some (17, false)⟩,
 ⟨some 22, .pick, [.t 17, .k (.b true), .t 21], none⟩])
 (.cond (.t 22)
 (.seq
 (.region false [
 ⟨some 4, (.nilsl (.ff .f32 [])), [], none⟩,
 ⟨some 5, (.nilsl (.f .f32 [])), [], none⟩,
 ⟨some 6, .mv, [.k (.b false)], none⟩])
 .ret)
 .skip))
 (.seq
 (.region false [
 ⟨some 24, .mv, [.t 0], none⟩,
 ⟨some 25, .mv, [.t 1], none⟩,
 ⟨some 26, (.call gq2), [.t 24, .t 25], none⟩,
 ⟨some 23, .mv, [.t 26], none⟩,
 ⟨some 27, (.extract 0), [.t 23], none⟩,
 ⟨some 28, (.extract 1), [.t 23], none⟩,
 ⟨some 7, .mv, [.t 27], none⟩,
 ⟨some 8, .mv, [.t 28], none⟩])
 (.seq
 (.region false [
 ⟨some 29, .mv, [.t 7], none⟩,
 ⟨some 30, .mv, [.t 8], none⟩,
 ⟨some 4, .mv, [.t 29], none⟩,
 ⟨some 5, .mv, [.t 30], none⟩,
 ⟨some 6, .mv, [.k (.b true)], none⟩])
 .ret))))

abbrev Is_impl_LagColumns (P : Program) (g_f : FuncId) (gq0 gq1 gq2 : FuncId) : Prop := FnIs P g_f 31 [.t 4, .t 5, .t 6] (b_impl_LagColumns gq0 gq1 gq2)

abbrev C_impl_LagColumns (P : Program) (g_f : FuncId) : Prop := ∀ (a : List Nat) (n : Int) (ha : a.length ≤ maxLen), VCall P g_f [PS [0] .f32 a, .i .i64 n] (.tup [NW 0 (if lagOk a n = true then lagM a n.toNat n.toNat else []), OS 1 .f32 (if lagOk a n = true then a.drop n.toNat else []), .b (lagOk a n)])
def oc_impl_LagColumns (a : List Nat) (n : Int) (d : Nat) (as : List AV) : T AV := match d with | 10 => oc1_impl_IsSeries as | 14 => oc1_impl_within as | 26 => .leaf (.tup [NW 0 (lagM a n.toNat n.toNat), OS 1 .f32 (a.drop n.toNat)]) | _ => .fail



theorem q_impl_LagColumns {P : Program} {g_f : FuncId} {gq0 gq1 gq2 : FuncId} (h_ : Is_impl_LagColumns P g_f gq0 gq1 gq2) (a : List Nat) (n : Int) (ht : T.ok (fun x_ => x_ = .tup [NW 0 (if lagOk a n = true then lagM a n.toNat n.toNat else []), OS 1 .f32 (if lagOk a n = true then a.drop n.toNat else []), .b (lagOk a n)]) (
 T.ob ((VCall P) gq0 [AV.sl (Tag.par [0]) 0 (Cont.f .f32 a)] (AV.b (seriesM a)))
 (T.ite (!seriesM a) (T.leaf (AV.tup [AV.nw 0 0 .f32 (List.take 0 (List.drop 0 [])) none, AV.sl (Tag.own 1) 0 (Cont.f .f32 []), AV.b false]))
 (T.ob ((VCall P) gq1 [AV.i .i64 n, AV.i .i64 1, AV.i .i64 5] (AV.b (inM n 1 5)))
 (T.ite (!inM n 1 5) (T.leaf (AV.tup [AV.nw 0 0 .f32 (List.take 0 (List.drop 0 [])) none, AV.sl (Tag.own 1) 0 (Cont.f .f32 []), AV.b false]))
 (T.ite (decide ((↑(List.length a) : Int) ≤ n)) (T.leaf (AV.tup [AV.nw 0 0 .f32 (List.take 0 (List.drop 0 [])) none, AV.sl (Tag.own 1) 0 (Cont.f .f32 []), AV.b false]))
 (T.ob
 ((VCall P) gq2 [AV.sl (Tag.par [0]) 0 (Cont.f .f32 a), AV.i .i64 n]
 (AV.tup [AV.nw 0 0 .f32 (lagM a (Int.toNat n) (Int.toNat n)) none, AV.sl (Tag.own 1) 0 (Cont.f .f32 (List.drop (Int.toNat n) a))]))
 (T.leaf (AV.tup [AV.nw 0 0 .f32 (lagM a (Int.toNat n) (Int.toNat n)) none, AV.sl (Tag.own 1) 0 (Cont.f .f32 (List.drop (Int.toNat n) a)), AV.b true]))))))))) :
 VCall P g_f [PS [0] .f32 a, .i .i64 n] (.tup [NW 0 (if lagOk a n = true then lagM a n.toNat n.toNat else []), OS 1 .f32 (if lagOk a n = true then a.drop n.toNat else []), .b (lagOk a n)]) := h_.call_of ps_impl_LagColumns ⟨oc_impl_LagColumns a n, fun _ _ => none⟩ (by kernel_rfl) ht

-- END impl_LagColumns


theorem lagRow_len {a : List Nat} {n : Nat} (l : Nat) (h : n < a.length) : (lagRow a n l).length = a.length - n := by
  unfold lagRow; simp; omega
theorem lagM_len (a : List Nat) (n l : Nat) : (lagM a n l).length = l + 1 := by simp [lagM, tab_len]
theorem lagM_succ (a : List Nat) (n l : Nat) : lagM a n (l + 1) = lagM a n l ++ [lagRow a n (l + 1)] := by
  unfold lagM; rw [tab_succ]; rfl
theorem lag_last (a : List Nat) (n : Nat) : (a.drop n).take (a.length - n) = a.drop n := List.take_of_length_le (by simp)

theorem k_impl_lagColumns {P : Program} {f g1 g2 : FuncId} (h : Is_impl_lagColumns P f g1 g2) (c1 : C_impl_ones P g1) (c2 : C_slices_Clone___float32_float32_ P g2) : C_impl_lagColumns P f := by
  intro a n hn ha
  refine q_impl_lagColumns h a n ?_
  rw [Int.toNat_natCast, lag_last, wrap64_id (by omega) (by omega), show (a.length : Int) - n = (a.length - n : Nat) by omega]
  refine ⟨c1 _ (by omega), fun _ => ⟨?_, fun _ => ⟨by omega, fun _ => ⟨c2 _ (by simp; omega) (by simp; omega), fun _ => rfl⟩⟩⟩⟩
  refine for_up (e := .exit 0) n (fun i => h_impl_lagColumns_L0 a n (lagM a n i) ((i : Int) + 1)) rfl (fun i hi => ?_) ?_
  · have e1 : IntKind.wrap .i64 ((n : Int) - ((i : Int) + 1)) = (n - (i + 1) : Nat) := by rw [wrap64_id (by omega) (by omega)]; omega
    have e2 : IntKind.wrap .i64 ((a.length : Int) - ((i : Int) + 1)) = (a.length - (i + 1) : Nat) := by rw [wrap64_id (by omega) (by omega)]; omega
    have e3 : (a.length - (i + 1)) - (n - (i + 1)) = a.length - n := by omega
    refine q_impl_lagColumns_L0 _ _ _ _ ?_
    rw [e1, e2]
    simp only [Int.toNat_natCast, e3]
    rw [show List.take (a.length - n) (List.drop (n - (i + 1)) a) = lagRow a n (i + 1) from rfl, ← lagM_succ]
    have hl := lagRow_len (a := a) (n := n) (i + 1) ha.1
    refine ⟨fun _ => ⟨by omega, fun _ => ⟨c2 _ (by omega) (by omega), fun _ => ⟨by simp [lagM_len]; omega, fun _ => ?_⟩⟩⟩, fun h => absurd (of_decide_eq_false h) (by omega)⟩
    show _ = _
    rw [wrap64_id (by omega) (by omega)]; rfl
  · exact q_impl_lagColumns_L0 _ _ _ _ ⟨fun h => absurd (of_decide_eq_true h) (by omega), fun _ => rfl⟩

theorem k_impl_LagColumns {P : Program} {f g1 g2 g3 : FuncId} (h : Is_impl_LagColumns P f g1 g2 g3) (c1 : C_impl_IsSeries P g1) (c2 : C_impl_within P g2) (c3 : C_impl_lagColumns P g3) : C_impl_LagColumns P f := by
  intro a n ha
  refine q_impl_LagColumns h a n ⟨c1 _ ha, fun _ => ⟨fun h1 => ?_, fun h1 => ⟨c2 _ _ _, fun _ => ⟨fun h2 => ?_, fun h2 => ⟨fun h3 => ?_, fun h3 => ?_⟩⟩⟩⟩⟩
  · simp at h1; simp [T.ok, lagOk, h1]
  · simp at h2; simp [T.ok, lagOk, h2]
  · have h3 := of_decide_eq_true h3
    have : ¬ n < a.length := by omega
    simp [T.ok, lagOk, this]
  · simp only [Bool.not_eq_false'] at h1 h2
    have h3 := of_decide_eq_false h3
    have hl := series_len h1
    have hi : 1 ≤ n ∧ n ≤ 5 := by simpa [inM] using h2
    obtain ⟨m, rfl⟩ : ∃ m : Nat, n = m := ⟨n.toNat, by omega⟩
    have e : lagOk a m = true := by
      unfold lagOk; rw [h1, h2, decide_eq_true (by omega)]; rfl
    rw [Int.toNat_natCast, e]
    exact ⟨c3 a m (by omega) (by omega), fun _ => rfl⟩

end Go.Proofs.LV
