/- Merging in place. -/
import Derived.Test.YtjfgmnfkkehgfaaLvFnS
namespace Go.Proofs.LV
open Go
set_option linter.unusedVariables false
set_option linter.unusedSimpArgs false

open Go.IntKind (wrap)
-- FN slices_symMergeCmpFunc_float32_
def ps_slices_symMergeCmpFunc_float32_ : List Nat := [0, 1, 2, 3, 4, 10, 11, 12, 13, 14, 15, 16, 17, 18, 19, 20, 21, 22, 23, 24, 28, 33, 50, 58, 80, 85, 103, 110, 140, 151, 171, 185, 199, 213]
def lv_slices_symMergeCmpFunc_float32__L0 : List Nat := [0, 1, 4, 10, 11]
def lv_slices_symMergeCmpFunc_float32__L2 : List Nat := [0, 10, 13]
def lv_slices_symMergeCmpFunc_float32__L4 : List Nat := [0, 2, 4, 14, 15]
def lv_slices_symMergeCmpFunc_float32__L6 : List Nat := [0, 14, 17]
def lv_slices_symMergeCmpFunc_float32__L8 : List Nat := [0, 1, 2, 3, 4, 18, 19, 20, 21, 22]
def b_slices_symMergeCmpFunc_float32__L0 (gq0 gq1 : FuncId) : VCode :=
 (.seq
 (.seq
 (.region false [
 ⟨some 31, .mv, [.t 10], none⟩,
 ⟨some 32, .mv, [.t 11], none⟩,
 ⟨some 33, (.bin .lss), [.t 31, .t 32], none⟩])
 (.cond (.t 33)
 .skip
 (.exit 0)))
 (.block 1
 (.seq
 (.region false [
 ⟨some 34, .mv, [.t 10], none⟩,
 ⟨some 35, .mv, [.t 11], none⟩,
 ⟨some 36, (.bin .add), [.t 34, .t 35], none⟩,
 ⟨some 37, (.convI .u64), [.t 36], none⟩,
 ⟨some 38, (.bin .shr), [.t 37, .k (.i .u64 1)], none⟩,
 ⟨some 39, (.convI .i64), [.t 38], none⟩,
 ⟨some 12, .mv, [.t 39], none⟩])
 (.seq
 (.region true [
 ⟨some 40, .mv, [.t 4], none⟩,
 ⟨some 41, .mv, [.t 0], none⟩,
 ⟨some 42, .mv, [.t 12], none⟩,
 ⟨some 43, .iaddr, [.t 41, .t 42], none⟩,
 ⟨some 44, .load, [.t 43], none⟩,
 ⟨some 45, .mv, [.t 0], none⟩,
 ⟨some 46, .mv, [.t 1], none⟩,
 ⟨some 47, .iaddr, [.t 45, .t 46], none⟩,
 ⟨some 48, .load, [.t 47], none⟩,
 ⟨some 49, .callv, [.t 40, .t 44, .t 48], none⟩,
 ⟨some 50, (.bin .lss), [.t 49, .k (.i .i64 0)], none⟩])
 (.cond (.t 50)
 (.region false [
 ⟨some 51, .mv, [.t 12], none⟩,
 ⟨some 52, (.bin .add), [.t 51, .k (.i .i64 1)], none⟩,
 ⟨some 10, .mv, [.t 52], none⟩])
 (.region false [
 ⟨some 53, .mv, [.t 12], none⟩,
 ⟨some 11, .mv, [.t 53], none⟩]))))))

def b_slices_symMergeCmpFunc_float32__L2 (gq0 gq1 : FuncId) : VCode :=
 (.seq
 (.seq
 (.region false [
 ⟨some 55, .mv, [.t 13], none⟩,
 ⟨some 56, .mv, [.t 10], none⟩,
 ⟨some 57, (.bin .sub), [.t 56, .k (.i .i64 1)], none⟩,
 ⟨some 58, (.bin .lss), [.t 55, .t 57], none⟩])
 (.cond (.t 58)
 .skip
 (.exit 2)))
 (.seq
 (.block 3
 (.region true [
 ⟨some 61, .mv, [.t 0], none⟩,
 ⟨some 62, .mv, [.t 13], none⟩,
 ⟨some 63, .mv, [.t 0], none⟩,
 ⟨some 64, .mv, [.t 13], none⟩,
 ⟨some 65, (.bin .add), [.t 64, .k (.i .i64 1)], none⟩,
 ⟨some 66, .mv, [.t 0], none⟩,
 ⟨some 67, .mv, [.t 13], none⟩,
 ⟨some 68, (.bin .add), [.t 67, .k (.i .i64 1)], none⟩,
 ⟨some 69, .iaddr, [.t 66, .t 68], none⟩,
 ⟨some 70, .load, [.t 69], none⟩,
 ⟨some 71, .mv, [.t 0], none⟩,
 ⟨some 72, .mv, [.t 13], none⟩,
 ⟨some 73, .iaddr, [.t 71, .t 72], none⟩,
 ⟨some 74, .load, [.t 73], none⟩,
 ⟨some 75, .iaddr, [.t 61, .t 62], none⟩,
 ⟨none, .store, [.t 75, .t 70], none⟩,
 ⟨some 76, .iaddr, [.t 63, .t 65], none⟩,
 ⟨none, .store, [.t 76, .t 74], none⟩]))
 (.region false [
 ⟨some 59, .mv, [.t 13], none⟩,
 ⟨some 60, (.bin .add), [.t 59, .k (.i .i64 1)], none⟩,
 ⟨some 13, .mv, [.t 60], none⟩])))

def b_slices_symMergeCmpFunc_float32__L4 (gq0 gq1 : FuncId) : VCode :=
 (.seq
 (.seq
 (.region false [
 ⟨some 83, .mv, [.t 14], none⟩,
 ⟨some 84, .mv, [.t 15], none⟩,
 ⟨some 85, (.bin .lss), [.t 83, .t 84], none⟩])
 (.cond (.t 85)
 .skip
 (.exit 4)))
 (.block 5
 (.seq
 (.region false [
 ⟨some 86, .mv, [.t 14], none⟩,
 ⟨some 87, .mv, [.t 15], none⟩,
 ⟨some 88, (.bin .add), [.t 86, .t 87], none⟩,
 ⟨some 89, (.convI .u64), [.t 88], none⟩,
 ⟨some 90, (.bin .shr), [.t 89, .k (.i .u64 1)], none⟩,
 ⟨some 91, (.convI .i64), [.t 90], none⟩,
 ⟨some 16, .mv, [.t 91], none⟩])
 (.seq
 (.region true [
 ⟨some 92, .mv, [.t 4], none⟩,
 ⟨some 93, .mv, [.t 0], none⟩,
 ⟨some 94, .mv, [.t 2], none⟩,
 ⟨some 95, .iaddr, [.t 93, .t 94], none⟩,
 ⟨some 96, .load, [.t 95], none⟩,
 ⟨some 97, .mv, [.t 0], none⟩,
 ⟨some 98, .mv, [.t 16], none⟩,
 ⟨some 99, .iaddr, [.t 97, .t 98], none⟩,
 ⟨some 100, .load, [.t 99], none⟩,
 ⟨some 101, .callv, [.t 92, .t 96, .t 100], none⟩,
 ⟨some 102, (.bin .lss), [.t 101, .k (.i .i64 0)], none⟩,
 ⟨some 103, .not, [.t 102], none⟩])
 (.cond (.t 103)
 (.region false [
 ⟨some 104, .mv, [.t 16], none⟩,
 ⟨some 105, (.bin .add), [.t 104, .k (.i .i64 1)], none⟩,
 ⟨some 14, .mv, [.t 105], none⟩])
 (.region false [
 ⟨some 106, .mv, [.t 16], none⟩,
 ⟨some 15, .mv, [.t 106], none⟩]))))))

def b_slices_symMergeCmpFunc_float32__L6 (gq0 gq1 : FuncId) : VCode :=
 (.seq
 (.seq
 (.region false [
 ⟨some 108, .mv, [.t 17], none⟩,
 ⟨some 109, .mv, [.t 14], none⟩,
 ⟨some 110, (.bin .gtr), [.t 108, .t 109], none⟩])
 (.cond (.t 110)
 .skip
 (.exit 6)))
 (.seq
 (.block 7
 (.region true [
 ⟨some 113, .mv, [.t 0], none⟩,
 ⟨some 114, .mv, [.t 17], none⟩,
 ⟨some 115, .mv, [.t 0], none⟩,
 ⟨some 116, .mv, [.t 17], none⟩,
 ⟨some 117, (.bin .sub), [.t 116, .k (.i .i64 1)], none⟩,
 ⟨some 118, .mv, [.t 0], none⟩,
 ⟨some 119, .mv, [.t 17], none⟩,
 ⟨some 120, (.bin .sub), [.t 119, .k (.i .i64 1)], none⟩,
 ⟨some 121, .iaddr, [.t 118, .t 120], none⟩,
 ⟨some 122, .load, [.t 121], none⟩,
 ⟨some 123, .mv, [.t 0], none⟩,
 ⟨some 124, .mv, [.t 17], none⟩,
 ⟨some 125, .iaddr, [.t 123, .t 124], none⟩,
 ⟨some 126, .load, [.t 125], none⟩,
 ⟨some 127, .iaddr, [.t 113, .t 114], none⟩,
 ⟨none, .store, [.t 127, .t 122], none⟩,
 ⟨some 128, .iaddr, [.t 115, .t 117], none⟩,
 ⟨none, .store, [.t 128, .t 126], none⟩]))
 (.region false [
 ⟨some 111, .mv, [.t 17], none⟩,
 ⟨some 112, (.bin .sub), [.t 111, .k (.i .i64 1)], none⟩,
 ⟨some 17, .mv, [.t 112], none⟩])))

def b_slices_symMergeCmpFunc_float32__L8 (gq0 gq1 : FuncId) : VCode :=
 (.seq
 (.seq
 (.region false [
 ⟨some 149, .mv, [.t 20], none⟩,
 ⟨some 150, .mv, [.t 21], none⟩,
 ⟨some 151, (.bin .lss), [.t 149, .t 150], none⟩])
 (.cond (.t 151)
 .skip
 (.exit 8)))
 (.block 9
 (.seq
 (.region false [
 ⟨some 152, .mv, [.t 20], none⟩,
 ⟨some 153, .mv, [.t 21], none⟩,
 ⟨some 154, (.bin .add), [.t 152, .t 153], none⟩,
 ⟨some 155, (.convI .u64), [.t 154], none⟩,
 ⟨some 156, (.bin .shr), [.t 155, .k (.i .u64 1)], none⟩,
 ⟨some 157, (.convI .i64), [.t 156], none⟩,
 ⟨some 23, .mv, [.t 157], none⟩])
 (.seq
 (.region true [
 ⟨some 158, .mv, [.t 4], none⟩,
 ⟨some 159, .mv, [.t 0], none⟩,
 ⟨some 160, .mv, [.t 22], none⟩,
 ⟨some 161, .mv, [.t 23], none⟩,
 ⟨some 162, (.bin .sub), [.t 160, .t 161], none⟩,
 ⟨some 163, .iaddr, [.t 159, .t 162], none⟩,
 ⟨some 164, .load, [.t 163], none⟩,
 ⟨some 165, .mv, [.t 0], none⟩,
 ⟨some 166, .mv, [.t 23], none⟩,
 ⟨some 167, .iaddr, [.t 165, .t 166], none⟩,
 ⟨some 168, .load, [.t 167], none⟩,
 ⟨some 169, .callv, [.t 158, .t 164, .t 168], none⟩,
 ⟨some 170, (.bin .lss), [.t 169, .k (.i .i64 0)], none⟩,
 ⟨some 171, .not, [.t 170], none⟩])
 (.cond (.t 171)
 (.region false [
 ⟨some 172, .mv, [.t 23], none⟩,
 ⟨some 173, (.bin .add), [.t 172, .k (.i .i64 1)], none⟩,
 ⟨some 20, .mv, [.t 173], none⟩])
 (.region false [
 ⟨some 174, .mv, [.t 23], none⟩,
 ⟨some 21, .mv, [.t 174], none⟩]))))))

def b_slices_symMergeCmpFunc_float32_ (gq0 gq1 : FuncId) : VCode :=
 (.seq
 (.seq
 (.region false [
 ⟨some 25, .mv, [.t 2], none⟩,
 ⟨some 26, .mv, [.t 1], none⟩,
 ⟨some 27, (.bin .sub), [.t 25, .t 26], none⟩,
 ⟨some 28, (.bin .eql), [.t 27, .k (.i .i64 1)], none⟩])
 (.cond (.t 28)
 (.seq
 (.region false [
 ⟨some 29, .mv, [.t 2], none⟩,
 ⟨some 10, .mv, [.t 29], none⟩])
 (.seq
 (.region false [
 ⟨some 30, .mv, [.t 3], none⟩,
 ⟨some 11, .mv, [.t 30], none⟩])
 (.seq
 (.block 0 (.loop (b_slices_symMergeCmpFunc_float32__L0 gq0 gq1)))
 (.seq
 (.seq
 (.region false [
 ⟨some 54, .mv, [.t 1], none⟩,
 ⟨some 13, .mv, [.t 54], none⟩])
 (.block 2 (.loop (b_slices_symMergeCmpFunc_float32__L2 gq0 gq1))))
 .ret))))
 .skip))
 (.seq
 (.seq
 (.region false [
 ⟨some 77, .mv, [.t 3], none⟩,
 ⟨some 78, .mv, [.t 2], none⟩,
 ⟨some 79, (.bin .sub), [.t 77, .t 78], none⟩,
 ⟨some 80, (.bin .eql), [.t 79, .k (.i .i64 1)], none⟩])
 (.cond (.t 80)
 (.seq
 (.region false [
 ⟨some 81, .mv, [.t 1], none⟩,
 ⟨some 14, .mv, [.t 81], none⟩])
 (.seq
 (.region false [
 ⟨some 82, .mv, [.t 2], none⟩,
 ⟨some 15, .mv, [.t 82], none⟩])
 (.seq
 (.block 4 (.loop (b_slices_symMergeCmpFunc_float32__L4 gq0 gq1)))
 (.seq
 (.seq
 (.region false [
 ⟨some 107, .mv, [.t 2], none⟩,
 ⟨some 17, .mv, [.t 107], none⟩])
 (.block 6 (.loop (b_slices_symMergeCmpFunc_float32__L6 gq0 gq1))))
 .ret))))
 .skip))
 (.seq
 (.region false [
 ⟨some 129, .mv, [.t 1], none⟩,
 ⟨some 130, .mv, [.t 3], none⟩,
 ⟨some 131, (.bin .add), [.t 129, .t 130], none⟩,
 ⟨some 132, (.convI .u64), [.t 131], none⟩,
 ⟨some 133, (.bin .shr), [.t 132, .k (.i .u64 1)], none⟩,
 ⟨some 134, (.convI .i64), [.t 133], none⟩,
 ⟨some 18, .mv, [.t 134], none⟩])
 (.seq
 (.region false [
 ⟨some 135, .mv, [.t 18], none⟩,
 ⟨some 136, .mv, [.t 2], none⟩,
 ⟨some 137, (.bin .add), [.t 135, .t 136], none⟩,
 ⟨some 19, .mv, [.t 137], none⟩])
 (.seq
 (.region false [
 ⟨some 20, .mv, [.k (.i .i64 0)], none⟩,
 ⟨some 21, .mv, [.k (.i .i64 0)], none⟩])
 (.seq
 (.seq
 (.region false [
 ⟨some 138, .mv, [.t 2], none⟩,
 ⟨some 139, .mv, [.t 18], none⟩,
 ⟨some 140, (.bin .gtr), [.t 138, .t 139], none⟩])
 (.cond (.t 140)
 (.seq
 (.region false [
 ⟨some 141, .mv, [.t 19], none⟩,
 ⟨some 142, .mv, [.t 3], none⟩,
 ⟨some 143, (.bin .sub), [.t 141, .t 142], none⟩,
 ⟨some 20, .mv, [.t 143], none⟩])
 (.region false [
 ⟨some 144, .mv, [.t 18], none⟩,
 ⟨some 21, .mv, [.t 144], none⟩]))
 (.seq
 (.region false [
 ⟨some 145, .mv, [.t 1], none⟩,
 ⟨some 20, .mv, [.t 145], none⟩])
 (.region false [
 ⟨some 146, .mv, [.t 2], none⟩,
 ⟨some 21, .mv, [.t 146], none⟩]))))
 (.seq
 (.region false [
 ⟨some 147, .mv, [.t 19], none⟩,
 ⟨some 148, (.bin .sub), [.t 147, .k (.i .i64 1)], none⟩,
 ⟨some 22, .mv, [.t 148], none⟩])
 (.seq
 (.block 8 (.loop (b_slices_symMergeCmpFunc_float32__L8 gq0 gq1)))
 (.seq
 (.region false [
 ⟨some 175, .mv, [.t 19], none⟩,
 ⟨some 176, .mv, [.t 20], none⟩,
 ⟨some 177, (.bin .sub), [.t 175, .t 176], none⟩,
 ⟨some 24, .mv, [.t 177], none⟩])
 (.seq
 (.seq
 (.region false [
 ⟨some 178, .mv, [.t 20], none⟩,
 ⟨some 179, .mv, [.t 2], none⟩,
 ⟨some 180, (.bin .lss), [.t 178, .t 179], none⟩,
 ⟨some 181, .mv, [.t 180], none⟩,
 ⟨some 182, .mv, [.t 2], some (181, true)⟩,
 ⟨some 183, .mv, [.t 24], some (181, true)⟩,
 ⟨some 184, (.bin .lss), [.t 182, .t 183], some (181, true)⟩,
 ⟨some 185, .pick, [.t 181, .t 184, .k (.b false)], none⟩])
 (.cond (.t 185)
 (.region false [
 ⟨some 186, .mv, [.t 0], none⟩,
 ⟨some 187, .mv, [.t 20], none⟩,
 ⟨some 188, .mv, [.t 2], none⟩,
 ⟨some 189, .mv, [.t 24], none⟩,
 ⟨some 190, .mv, [.t 4], none⟩,
 ⟨some 191, (.call gq0), [.t 186, .t 187, .t 188, .t 189, .t 190], none⟩])
 .skip))
 (.seq
 (.seq
 (.region false [
 ⟨some 192, .mv, [.t 1], none⟩,
 ⟨some 193, .mv, [.t 20], none⟩,
 ⟨some 194, (.bin .lss), [.t 192, .t 193], none⟩,
 ⟨some 195, .mv, [.t 194], none⟩,
 ⟨some 196, .mv, [.t 20], some (195, true)⟩,
 ⟨some 197, .mv, [.t 18], some (195, true)⟩,
 ⟨some 198, (.bin .lss), [.t 196, .t 197], some (195, true)⟩,
 ⟨some 199, .pick, [.t 195, .t 198, .k (.b false)], none⟩])
 (.cond (.t 199)
 (.region false [
 ⟨some 200, .mv, [.t 0], none⟩,
 ⟨some 201, .mv, [.t 1], none⟩,
 ⟨some 202, .mv, [.t 20], none⟩,
 ⟨some 203, .mv, [.t 18], none⟩,
 ⟨some 204, .mv, [.t 4], none⟩,
 ⟨some 205, (.call gq1), [.t 200, .t 201, .t 202, .t 203, .t 204], none⟩])
 .skip))
 (.seq
 (.region false [
 ⟨some 206, .mv, [.t 18], none⟩,
 ⟨some 207, .mv, [.t 24], none⟩,
 ⟨some 208, (.bin .lss), [.t 206, .t 207], none⟩,
 ⟨some 209, .mv, [.t 208], none⟩,
 ⟨some 210, .mv, [.t 24], some (209, true)⟩,
 ⟨some 211, .mv, [.t 3], some (209, true)⟩,
 ⟨some 212, (.bin .lss), [.t 210, .t 211], some (209, true)⟩,
 ⟨some 213, .pick, [.t 209, .t 212, .k (.b false)], none⟩])
 (.cond (.t 213)
 (.region false [
 ⟨some 214, .mv, [.t 0], none⟩,
 ⟨some 215, .mv, [.t 18], none⟩,
 ⟨some 216, .mv, [.t 24], none⟩,
 ⟨some 217, .mv, [.t 3], none⟩,
 ⟨some 218, .mv, [.t 4], none⟩,
 ⟨some 219, (.call gq1), [.t 214, .t 215, .t 216, .t 217, .t 218], none⟩])
 .skip)))))))))))))

abbrev Is_slices_symMergeCmpFunc_float32_ (P : Program) (g_f : FuncId) (gq0 gq1 : FuncId) : Prop := FnIs P g_f 220 [] (b_slices_symMergeCmpFunc_float32_ gq0 gq1)

abbrev C_slices_symMergeCmpFunc_float32_ (P : Program) (g_f : FuncId) : Prop := ∀ (xs : List Nat) (a : Int) (m : Int) (b : Int) (F : FuncId) (u : Nat) (v : Nat) (w : Nat) (hu : u = bs1 xs a m b) (hv : v = bs2 xs a m b) (hw : w = bs3 xs a m b) (hab : 0 ≤ a ∧ a < m ∧ m < b ∧ b ≤ xs.length) (hs : SR KS xs a.toNat m.toNat) (ht : SR KS xs m.toNat b.toNat) (hN : okM xs) (hF : ∀ x y, VCall P F [.f .f32 x, .f .f32 y] (.i .i64 (signM x y))) (hx : xs.length ≤ 5000), VCall P g_f [OS HI .f32 xs, .i .i64 a, .i .i64 m, .i .i64 b, .fn F []] ((AV.M (.tup []) [OS HI .f32 (srt KS xs a.toNat b.toNat), .i .i64 a, .i .i64 m, .i .i64 b, .fn F []]))
def oc1_slices_symMergeCmpFunc_float32_ (as : List AV) : T AV := match as with | [.sl _ _ (.f .f32 xs), .i .i64 a, .i .i64 m, .i .i64 b, .fn F []] => .leaf ((AV.M (.tup []) [OS HI .f32 (srt KS xs a.toNat b.toNat), .i .i64 a, .i .i64 m, .i .i64 b, .fn F []])) | _ => .fail
def oc_slices_symMergeCmpFunc_float32_ (xs : List Nat) (a : Int) (m : Int) (b : Int) (F : FuncId) (u : Nat) (v : Nat) (w : Nat) (d : Nat) (as : List AV) : T AV := match d with | 49 => (match as with | [.f _ x, .f _ y] => .leaf (.i .i64 (signM x y)) | _ => .fail) | 101 => (match as with | [.f _ x, .f _ y] => .leaf (.i .i64 (signM x y)) | _ => .fail) | 169 => (match as with | [.f _ x, .f _ y] => .leaf (.i .i64 (signM x y)) | _ => .fail) | 191 => oc1_slices_rotateCmpFunc_float32_ as | 205 => oc1_slices_symMergeCmpFunc_float32_ as | 219 => oc1_slices_symMergeCmpFunc_float32_ as | _ => .fail
def h_slices_symMergeCmpFunc_float32__L0 (xs : List Nat) (a : Int) (m : Int) (b : Int) (F : FuncId) (u : Nat) (v : Nat) (w : Nat) (i : Int) (j : Int) : Env := [AV.sl (Tag.own 800000) 0 (Cont.f .f32 xs), AV.i .i64 a, .any, .any, AV.fn F []] ++ anys 5 ++ [.i .i64 i, .i .i64 j] ++ anys 208
def h_slices_symMergeCmpFunc_float32__L2 (xs : List Nat) (a : Int) (m : Int) (b : Int) (F : FuncId) (u : Nat) (v : Nat) (w : Nat) (data : List Nat) (k : Int) : Env := [.sl (Tag.own 800000) 0 (.f .f32 data)] ++ anys 9 ++ [AV.i .i64 (↑u : Int), .any, .any, .i .i64 k] ++ anys 206
def h_slices_symMergeCmpFunc_float32__L4 (xs : List Nat) (a : Int) (m : Int) (b : Int) (F : FuncId) (u : Nat) (v : Nat) (w : Nat) (i : Int) (j : Int) : Env := [AV.sl (Tag.own 800000) 0 (Cont.f .f32 xs), .any, AV.i .i64 m, .any, AV.fn F []] ++ anys 9 ++ [.i .i64 i, .i .i64 j] ++ anys 204
def h_slices_symMergeCmpFunc_float32__L6 (xs : List Nat) (a : Int) (m : Int) (b : Int) (F : FuncId) (u : Nat) (v : Nat) (w : Nat) (data : List Nat) (k : Int) : Env := [.sl (Tag.own 800000) 0 (.f .f32 data)] ++ anys 13 ++ [AV.i .i64 (↑v : Int), .any, .any, .i .i64 k] ++ anys 202
def h_slices_symMergeCmpFunc_float32__L8 (xs : List Nat) (a : Int) (m : Int) (b : Int) (F : FuncId) (u : Nat) (v : Nat) (w : Nat) (start : Int) (r : Int) : Env := [AV.sl (Tag.own 800000) 0 (Cont.f .f32 xs), AV.i .i64 a, AV.i .i64 m, AV.i .i64 b, AV.fn F []] ++ anys 13 ++ [AV.i .i64 (wrap .i64 (Int.fdiv (wrap .u64 (wrap .i64 (a + b))) 2)), AV.i .i64 (wrap .i64 (wrap .i64 (Int.fdiv (wrap .u64 (wrap .i64 (a + b))) 2) + m)), .i .i64 start, .i .i64 r, AV.i .i64 (wrap .i64 (wrap .i64 (wrap .i64 (Int.fdiv (wrap .u64 (wrap .i64 (a + b))) 2) + m) - 1))] ++ anys 197

theorem q_slices_symMergeCmpFunc_float32__L0 {VC : FuncId → List AV → AV → Prop} {gq0 gq1 : FuncId} (xs : List Nat) (a : Int) (m : Int) (b : Int) (F : FuncId) (u : Nat) (v : Nat) (w : Nat) (i : Int) (j : Int) {e_ : Ex} {σ_ : Env} (ht : T.ok (fun x_ => x_ = (e_, σ_)) (
 T.ite (decide (i < j))
 (T.ob True
 (T.ob ((0 : Int) ≤ 1 ∧ 1 ≤ 64)
 (T.ob True
 (T.ob
 (0 ≤ wrap .i64 (Int.fdiv (wrap .u64 (wrap .i64 (i + j))) 2) ∧
 wrap .i64 (Int.fdiv (wrap .u64 (wrap .i64 (i + j))) 2) < (↑(List.length xs) : Int))
 (T.ob (0 ≤ a ∧ a < (↑(List.length xs) : Int))
 (T.ob
 (VC F
 [AV.f .f32 (List.getD xs (Int.toNat (wrap .i64 (Int.fdiv (wrap .u64 (wrap .i64 (i + j))) 2))) 0), AV.f .f32 (List.getD xs (Int.toNat a) 0)]
 (AV.i .i64 (signM (List.getD xs (Int.toNat (wrap .i64 (Int.fdiv (wrap .u64 (wrap .i64 (i + j))) 2))) 0) (List.getD xs (Int.toNat a) 0))))
 (T.ite (decide (signM (List.getD xs (Int.toNat (wrap .i64 (Int.fdiv (wrap .u64 (wrap .i64 (i + j))) 2))) 0) (List.getD xs (Int.toNat a) 0) < 0))
 (T.leaf
 (Ex.normal, h_slices_symMergeCmpFunc_float32__L0 xs a m b F u v w (wrap .i64 (wrap .i64 (Int.fdiv (wrap .u64 (wrap .i64 (i + j))) 2) + 1)) j))
 (T.leaf (Ex.normal, h_slices_symMergeCmpFunc_float32__L0 xs a m b F u v w i (wrap .i64 (Int.fdiv (wrap .u64 (wrap .i64 (i + j))) 2)))))))))))
 (T.leaf (Ex.exit 0, h_slices_symMergeCmpFunc_float32__L0 xs a m b F u v w i j)))) :
 Exec VC ps_slices_symMergeCmpFunc_float32_ (b_slices_symMergeCmpFunc_float32__L0 gq0 gq1) (h_slices_symMergeCmpFunc_float32__L0 xs a m b F u v w i j) e_ σ_ := evL_of (lv := lv_slices_symMergeCmpFunc_float32__L0) (rs := []) (O := ⟨oc_slices_symMergeCmpFunc_float32_ xs a m b F u v w, fun _ _ => none⟩) (by kernel_rfl) ht

theorem q_slices_symMergeCmpFunc_float32__L2 {VC : FuncId → List AV → AV → Prop} {gq0 gq1 : FuncId} (xs : List Nat) (a : Int) (m : Int) (b : Int) (F : FuncId) (u : Nat) (v : Nat) (w : Nat) (data : List Nat) (k : Int) {e_ : Ex} {σ_ : Env} (ht : T.ok (fun x_ => x_ = (e_, σ_)) (
 T.ite (decide (k < wrap .i64 ((↑u : Int) - 1)))
 (T.ob (0 ≤ wrap .i64 (k + 1) ∧ wrap .i64 (k + 1) < (↑(List.length data) : Int))
 (T.ob (0 ≤ k ∧ k < (↑(List.length data) : Int))
 (T.ob (0 ≤ k ∧ k < (↑(List.length data) : Int))
 (T.ob (false = false)
 (T.ob (0 ≤ wrap .i64 (k + 1) ∧ wrap .i64 (k + 1) < (↑(List.length (List.set data (0 + Int.toNat k - 0) (List.getD data (Int.toNat (wrap .i64 (k + 1))) 0))) : Int))
 (T.ob (false = false)
 (T.leaf
 (Ex.normal,
 h_slices_symMergeCmpFunc_float32__L2 xs a m b F u v w
 (List.set (List.set data (0 + Int.toNat k - 0) (List.getD data (Int.toNat (wrap .i64 (k + 1))) 0)) (0 + Int.toNat (wrap .i64 (k + 1)) - 0)
 (List.getD data (Int.toNat k) 0))
 (wrap .i64 (k + 1))))))))))
 (T.leaf (Ex.exit 2, h_slices_symMergeCmpFunc_float32__L2 xs a m b F u v w data k)))) :
 Exec VC ps_slices_symMergeCmpFunc_float32_ (b_slices_symMergeCmpFunc_float32__L2 gq0 gq1) (h_slices_symMergeCmpFunc_float32__L2 xs a m b F u v w data k) e_ σ_ := evL_of (lv := lv_slices_symMergeCmpFunc_float32__L2) (rs := []) (O := ⟨oc_slices_symMergeCmpFunc_float32_ xs a m b F u v w, fun _ _ => none⟩) (by kernel_rfl) ht

theorem q_slices_symMergeCmpFunc_float32__L4 {VC : FuncId → List AV → AV → Prop} {gq0 gq1 : FuncId} (xs : List Nat) (a : Int) (m : Int) (b : Int) (F : FuncId) (u : Nat) (v : Nat) (w : Nat) (i : Int) (j : Int) {e_ : Ex} {σ_ : Env} (ht : T.ok (fun x_ => x_ = (e_, σ_)) (
 T.ite (decide (i < j))
 (T.ob True
 (T.ob ((0 : Int) ≤ 1 ∧ 1 ≤ 64)
 (T.ob True
 (T.ob (0 ≤ m ∧ m < (↑(List.length xs) : Int))
 (T.ob
 (0 ≤ wrap .i64 (Int.fdiv (wrap .u64 (wrap .i64 (i + j))) 2) ∧
 wrap .i64 (Int.fdiv (wrap .u64 (wrap .i64 (i + j))) 2) < (↑(List.length xs) : Int))
 (T.ob
 (VC F
 [AV.f .f32 (List.getD xs (Int.toNat m) 0), AV.f .f32 (List.getD xs (Int.toNat (wrap .i64 (Int.fdiv (wrap .u64 (wrap .i64 (i + j))) 2))) 0)]
 (AV.i .i64 (signM (List.getD xs (Int.toNat m) 0) (List.getD xs (Int.toNat (wrap .i64 (Int.fdiv (wrap .u64 (wrap .i64 (i + j))) 2))) 0))))
 (T.ite (!decide (signM (List.getD xs (Int.toNat m) 0) (List.getD xs (Int.toNat (wrap .i64 (Int.fdiv (wrap .u64 (wrap .i64 (i + j))) 2))) 0) < 0))
 (T.leaf
 (Ex.normal, h_slices_symMergeCmpFunc_float32__L4 xs a m b F u v w (wrap .i64 (wrap .i64 (Int.fdiv (wrap .u64 (wrap .i64 (i + j))) 2) + 1)) j))
 (T.leaf (Ex.normal, h_slices_symMergeCmpFunc_float32__L4 xs a m b F u v w i (wrap .i64 (Int.fdiv (wrap .u64 (wrap .i64 (i + j))) 2)))))))))))
 (T.leaf (Ex.exit 4, h_slices_symMergeCmpFunc_float32__L4 xs a m b F u v w i j)))) :
 Exec VC ps_slices_symMergeCmpFunc_float32_ (b_slices_symMergeCmpFunc_float32__L4 gq0 gq1) (h_slices_symMergeCmpFunc_float32__L4 xs a m b F u v w i j) e_ σ_ := evL_of (lv := lv_slices_symMergeCmpFunc_float32__L4) (rs := []) (O := ⟨oc_slices_symMergeCmpFunc_float32_ xs a m b F u v w, fun _ _ => none⟩) (by kernel_rfl) ht

theorem q_slices_symMergeCmpFunc_float32__L6 {VC : FuncId → List AV → AV → Prop} {gq0 gq1 : FuncId} (xs : List Nat) (a : Int) (m : Int) (b : Int) (F : FuncId) (u : Nat) (v : Nat) (w : Nat) (data : List Nat) (k : Int) {e_ : Ex} {σ_ : Env} (ht : T.ok (fun x_ => x_ = (e_, σ_)) (
 T.ite (decide (k > (↑v : Int)))
 (T.ob (0 ≤ wrap .i64 (k - 1) ∧ wrap .i64 (k - 1) < (↑(List.length data) : Int))
 (T.ob (0 ≤ k ∧ k < (↑(List.length data) : Int))
 (T.ob (0 ≤ k ∧ k < (↑(List.length data) : Int))
 (T.ob (false = false)
 (T.ob (0 ≤ wrap .i64 (k - 1) ∧ wrap .i64 (k - 1) < (↑(List.length (List.set data (0 + Int.toNat k - 0) (List.getD data (Int.toNat (wrap .i64 (k - 1))) 0))) : Int))
 (T.ob (false = false)
 (T.leaf
 (Ex.normal,
 h_slices_symMergeCmpFunc_float32__L6 xs a m b F u v w
 (List.set (List.set data (0 + Int.toNat k - 0) (List.getD data (Int.toNat (wrap .i64 (k - 1))) 0)) (0 + Int.toNat (wrap .i64 (k - 1)) - 0)
 (List.getD data (Int.toNat k) 0))
 (wrap .i64 (k - 1))))))))))
 (T.leaf (Ex.exit 6, h_slices_symMergeCmpFunc_float32__L6 xs a m b F u v w data k)))) :
 Exec VC ps_slices_symMergeCmpFunc_float32_ (b_slices_symMergeCmpFunc_float32__L6 gq0 gq1) (h_slices_symMergeCmpFunc_float32__L6 xs a m b F u v w data k) e_ σ_ := evL_of (lv := lv_slices_symMergeCmpFunc_float32__L6) (rs := []) (O := ⟨oc_slices_symMergeCmpFunc_float32_ xs a m b F u v w, fun _ _ => none⟩) (by kernel_rfl) ht

theorem q_slices_symMergeCmpFunc_float32__L8 {VC : FuncId → List AV → AV → Prop} {gq0 gq1 : FuncId} (xs : List Nat) (a : Int) (m : Int) (b : Int) (F : FuncId) (u : Nat) (v : Nat) (w : Nat) (start : Int) (r : Int) {e_ : Ex} {σ_ : Env} (ht : T.ok (fun x_ => x_ = (e_, σ_)) (
 T.ite (decide (start < r))
 (T.ob True
 (T.ob ((0 : Int) ≤ 1 ∧ 1 ≤ 64)
 (T.ob True
 (T.ob
 (0 ≤
 wrap .i64
 (wrap .i64 (wrap .i64 (wrap .i64 (Int.fdiv (wrap .u64 (wrap .i64 (a + b))) 2) + m) - 1) -
 wrap .i64 (Int.fdiv (wrap .u64 (wrap .i64 (start + r))) 2)) ∧
 wrap .i64
 (wrap .i64 (wrap .i64 (wrap .i64 (Int.fdiv (wrap .u64 (wrap .i64 (a + b))) 2) + m) - 1) -
 wrap .i64 (Int.fdiv (wrap .u64 (wrap .i64 (start + r))) 2)) <
 (↑(List.length xs) : Int))
 (T.ob
 (0 ≤ wrap .i64 (Int.fdiv (wrap .u64 (wrap .i64 (start + r))) 2) ∧
 wrap .i64 (Int.fdiv (wrap .u64 (wrap .i64 (start + r))) 2) < (↑(List.length xs) : Int))
 (T.ob
 (VC F
 [AV.f .f32
 (List.getD xs
 (Int.toNat
 (wrap .i64
 (wrap .i64 (wrap .i64 (wrap .i64 (Int.fdiv (wrap .u64 (wrap .i64 (a + b))) 2) + m) - 1) -
 wrap .i64 (Int.fdiv (wrap .u64 (wrap .i64 (start + r))) 2))))
 0),
 AV.f .f32 (List.getD xs (Int.toNat (wrap .i64 (Int.fdiv (wrap .u64 (wrap .i64 (start + r))) 2))) 0)]
 (AV.i .i64
 (signM
 (List.getD xs
 (Int.toNat
 (wrap .i64
 (wrap .i64 (wrap .i64 (wrap .i64 (Int.fdiv (wrap .u64 (wrap .i64 (a + b))) 2) + m) - 1) -
 wrap .i64 (Int.fdiv (wrap .u64 (wrap .i64 (start + r))) 2))))
 0)
 (List.getD xs (Int.toNat (wrap .i64 (Int.fdiv (wrap .u64 (wrap .i64 (start + r))) 2))) 0))))
 (T.ite
 (!decide
 (signM
 (List.getD xs
 (Int.toNat
 (wrap .i64
 (wrap .i64 (wrap .i64 (wrap .i64 (Int.fdiv (wrap .u64 (wrap .i64 (a + b))) 2) + m) - 1) -
 wrap .i64 (Int.fdiv (wrap .u64 (wrap .i64 (start + r))) 2))))
 0)
 (List.getD xs (Int.toNat (wrap .i64 (Int.fdiv (wrap .u64 (wrap .i64 (start + r))) 2))) 0) <
 0))
 (T.leaf
 (Ex.normal,
 h_slices_symMergeCmpFunc_float32__L8 xs a m b F u v w (wrap .i64 (wrap .i64 (Int.fdiv (wrap .u64 (wrap .i64 (start + r))) 2) + 1)) r))
 (T.leaf (Ex.normal, h_slices_symMergeCmpFunc_float32__L8 xs a m b F u v w start (wrap .i64 (Int.fdiv (wrap .u64 (wrap .i64 (start + r))) 2)))))))))))
 (T.leaf (Ex.exit 8, h_slices_symMergeCmpFunc_float32__L8 xs a m b F u v w start r)))) :
 Exec VC ps_slices_symMergeCmpFunc_float32_ (b_slices_symMergeCmpFunc_float32__L8 gq0 gq1) (h_slices_symMergeCmpFunc_float32__L8 xs a m b F u v w start r) e_ σ_ := evL_of (lv := lv_slices_symMergeCmpFunc_float32__L8) (rs := []) (O := ⟨oc_slices_symMergeCmpFunc_float32_ xs a m b F u v w, fun _ _ => none⟩) (by kernel_rfl) ht

def qt_slices_symMergeCmpFunc_float32_ (P : Program) (gq0 gq1 : FuncId) (xs : List Nat) (a : Int) (m : Int) (b : Int) (F : FuncId) (u : Nat) (v : Nat) (w : Nat) (z0 : Int) (z1 : Nat) (z2 : List Nat) (z3 : Int) (z4 : List Nat) (z5 : List Nat) (z6 : List Nat) (z7 : Int) (z8 : List Nat) (z9 : List Nat) :=
 ( T.ite (wrap .i64 (m - a) == 1)
 (T.ob (Exec (VCall P) ps_slices_symMergeCmpFunc_float32_ (VCode.block 0 (VCode.loop (b_slices_symMergeCmpFunc_float32__L0 gq0 gq1))) (h_slices_symMergeCmpFunc_float32__L0 xs a m b F u v w m b) Ex.normal (h_slices_symMergeCmpFunc_float32__L0 xs a m b F u v w (↑u : Int) (↑u : Int)))
 (T.ob (Exec (VCall P) ps_slices_symMergeCmpFunc_float32_ (VCode.block 2 (VCode.loop (b_slices_symMergeCmpFunc_float32__L2 gq0 gq1))) (h_slices_symMergeCmpFunc_float32__L2 xs a m b F u v w xs a) Ex.normal (h_slices_symMergeCmpFunc_float32__L2 xs a m b F u v w (rotM xs (Int.toNat a) (Int.toNat m) u) ((↑u : Int) - 1)))
 (T.ob (List.length xs = List.length (rotM xs (Int.toNat a) (Int.toNat m) u) ∧ True)
 (T.leaf (AV.tup [], [AV.sl (Tag.own 800000) 0 (Cont.f .f32 (rotM xs (Int.toNat a) (Int.toNat m) u)), AV.i .i64 a, AV.i .i64 m, AV.i .i64 b, AV.fn F []])))))
 (T.ite (wrap .i64 (b - m) == 1)
 (T.ob (Exec (VCall P) ps_slices_symMergeCmpFunc_float32_ (VCode.block 4 (VCode.loop (b_slices_symMergeCmpFunc_float32__L4 gq0 gq1))) (h_slices_symMergeCmpFunc_float32__L4 xs a m b F u v w a m) Ex.normal (h_slices_symMergeCmpFunc_float32__L4 xs a m b F u v w (↑v : Int) (↑v : Int)))
 (T.ob (Exec (VCall P) ps_slices_symMergeCmpFunc_float32_ (VCode.block 6 (VCode.loop (b_slices_symMergeCmpFunc_float32__L6 gq0 gq1))) (h_slices_symMergeCmpFunc_float32__L6 xs a m b F u v w xs m) Ex.normal (h_slices_symMergeCmpFunc_float32__L6 xs a m b F u v w (rotM xs v (Int.toNat m) (Int.toNat m + 1)) (↑v : Int)))
 (T.ob (List.length xs = List.length (rotM xs v (Int.toNat m) (Int.toNat m + 1)) ∧ True)
 (T.leaf (AV.tup [], [AV.sl (Tag.own 800000) 0 (Cont.f .f32 (rotM xs v (Int.toNat m) (Int.toNat m + 1))), AV.i .i64 a, AV.i .i64 m, AV.i .i64 b, AV.fn F []])))))
 (T.ob True
 (T.ob ((0 : Int) ≤ 1 ∧ 1 ≤ 64)
 (T.ob True
 (T.ite (decide (m > wrap .i64 (Int.fdiv z7 2)))
 (T.ob (Exec (VCall P) ps_slices_symMergeCmpFunc_float32_ (VCode.block 8 (VCode.loop (b_slices_symMergeCmpFunc_float32__L8 gq0 gq1))) (h_slices_symMergeCmpFunc_float32__L8 xs a m b F u v w (wrap .i64 (wrap .i64 (wrap .i64 (Int.fdiv z7 2) + m) - b)) z3) Ex.normal (h_slices_symMergeCmpFunc_float32__L8 xs a m b F u v w (↑w : Int) (↑w : Int)))
 (T.ite (decide ((↑w : Int) < m))
 (T.ite (decide (m < wrap .i64 z0))
 (T.ob ((VCall P) gq0 [AV.sl (Tag.own 800000) 0 (Cont.f .f32 xs), AV.i .i64 (↑w : Int), AV.i .i64 m, AV.i .i64 (wrap .i64 z0), AV.fn F []] (AV.bx Tag.nil [AV.tup [], AV.tup [AV.sl (Tag.own 800000) 0 (Cont.f .f32 z2), AV.i .i64 (↑w : Int), AV.i .i64 m, AV.i .i64 (wrap .i64 z0), AV.fn F []]]) ∧ List.length xs = List.length z2 ∧ List.length xs = List.length z2 ∧ True)
 (T.ite (decide (a < (↑w : Int)))
 (T.ite (decide ((↑w : Int) < wrap .i64 (Int.fdiv z7 2)))
 (T.ob ((VCall P) gq1 [AV.sl (Tag.own 800000) 0 (Cont.f .f32 z2), AV.i .i64 a, AV.i .i64 (↑w : Int), AV.i .i64 z3, AV.fn F []] (AV.bx Tag.nil [AV.tup [], AV.tup [AV.sl (Tag.own 800000) 0 (Cont.f .f32 z6), AV.i .i64 a, AV.i .i64 (↑w : Int), AV.i .i64 z3, AV.fn F []]]) ∧ List.length z2 = List.length z6 ∧ List.length z2 = List.length z6 ∧ True)
 (T.ite (decide (wrap .i64 (Int.fdiv z7 2) < wrap .i64 z0))
 (T.ite (decide (wrap .i64 z0 < b))
 (T.ob ((VCall P) gq1 [AV.sl (Tag.own 800000) 0 (Cont.f .f32 z6), AV.i .i64 z3, AV.i .i64 (wrap .i64 z0), AV.i .i64 b, AV.fn F []] (AV.bx Tag.nil [AV.tup [], AV.tup [AV.sl (Tag.own 800000) 0 (Cont.f .f32 (srt KS z6 z1 (Int.toNat b))), AV.i .i64 z3, AV.i .i64 (wrap .i64 z0), AV.i .i64 b, AV.fn F []]]) ∧ List.length z6 = List.length (srt KS z6 z1 (Int.toNat b)) ∧ List.length z6 = List.length (srt KS z6 z1 (Int.toNat b)) ∧ True)
 (T.ob (List.length xs = List.length (srt KS z6 z1 (Int.toNat b)) ∧ True)
 (T.leaf (AV.tup [], [AV.sl (Tag.own 800000) 0 (Cont.f .f32 (srt KS z6 z1 (Int.toNat b))), AV.i .i64 a, AV.i .i64 m, AV.i .i64 b, AV.fn F []]))))
 (T.ob (List.length xs = List.length z6 ∧ True)
 (T.leaf (AV.tup [], [AV.sl (Tag.own 800000) 0 (Cont.f .f32 z6), AV.i .i64 a, AV.i .i64 m, AV.i .i64 b, AV.fn F []]))))
 (T.ob (List.length xs = List.length z6 ∧ True)
 (T.leaf (AV.tup [], [AV.sl (Tag.own 800000) 0 (Cont.f .f32 z6), AV.i .i64 a, AV.i .i64 m, AV.i .i64 b, AV.fn F []])))))
 (T.ite (decide (wrap .i64 (Int.fdiv z7 2) < wrap .i64 z0))
 (T.ite (decide (wrap .i64 z0 < b))
 (T.ob ((VCall P) gq1 [AV.sl (Tag.own 800000) 0 (Cont.f .f32 z2), AV.i .i64 z3, AV.i .i64 (wrap .i64 z0), AV.i .i64 b, AV.fn F []] (AV.bx Tag.nil [AV.tup [], AV.tup [AV.sl (Tag.own 800000) 0 (Cont.f .f32 z8), AV.i .i64 z3, AV.i .i64 (wrap .i64 z0), AV.i .i64 b, AV.fn F []]]) ∧ List.length z2 = List.length z8 ∧ List.length z2 = List.length z8 ∧ True)
 (T.ob (List.length xs = List.length z8 ∧ True)
 (T.leaf (AV.tup [], [AV.sl (Tag.own 800000) 0 (Cont.f .f32 z8), AV.i .i64 a, AV.i .i64 m, AV.i .i64 b, AV.fn F []]))))
 (T.ob (List.length xs = List.length z2 ∧ True)
 (T.leaf (AV.tup [], [AV.sl (Tag.own 800000) 0 (Cont.f .f32 z2), AV.i .i64 a, AV.i .i64 m, AV.i .i64 b, AV.fn F []]))))
 (T.ob (List.length xs = List.length z2 ∧ True)
 (T.leaf (AV.tup [], [AV.sl (Tag.own 800000) 0 (Cont.f .f32 z2), AV.i .i64 a, AV.i .i64 m, AV.i .i64 b, AV.fn F []])))))
 (T.ite (decide (wrap .i64 (Int.fdiv z7 2) < wrap .i64 z0))
 (T.ite (decide (wrap .i64 z0 < b))
 (T.ob ((VCall P) gq1 [AV.sl (Tag.own 800000) 0 (Cont.f .f32 z2), AV.i .i64 z3, AV.i .i64 (wrap .i64 z0), AV.i .i64 b, AV.fn F []] (AV.bx Tag.nil [AV.tup [], AV.tup [AV.sl (Tag.own 800000) 0 (Cont.f .f32 z8), AV.i .i64 z3, AV.i .i64 (wrap .i64 z0), AV.i .i64 b, AV.fn F []]]) ∧ List.length z2 = List.length z8 ∧ List.length z2 = List.length z8 ∧ True)
 (T.ob (List.length xs = List.length z8 ∧ True)
 (T.leaf (AV.tup [], [AV.sl (Tag.own 800000) 0 (Cont.f .f32 z8), AV.i .i64 a, AV.i .i64 m, AV.i .i64 b, AV.fn F []]))))
 (T.ob (List.length xs = List.length z2 ∧ True)
 (T.leaf (AV.tup [], [AV.sl (Tag.own 800000) 0 (Cont.f .f32 z2), AV.i .i64 a, AV.i .i64 m, AV.i .i64 b, AV.fn F []]))))
 (T.ob (List.length xs = List.length z2 ∧ True)
 (T.leaf (AV.tup [], [AV.sl (Tag.own 800000) 0 (Cont.f .f32 z2), AV.i .i64 a, AV.i .i64 m, AV.i .i64 b, AV.fn F []]))))))
 (T.ite (decide (a < (↑w : Int)))
 (T.ite (decide ((↑w : Int) < wrap .i64 (Int.fdiv z7 2)))
 (T.ob ((VCall P) gq1 [AV.sl (Tag.own 800000) 0 (Cont.f .f32 xs), AV.i .i64 a, AV.i .i64 (↑w : Int), AV.i .i64 z3, AV.fn F []] (AV.bx Tag.nil [AV.tup [], AV.tup [AV.sl (Tag.own 800000) 0 (Cont.f .f32 z4), AV.i .i64 a, AV.i .i64 (↑w : Int), AV.i .i64 z3, AV.fn F []]]) ∧ List.length xs = List.length z4 ∧ List.length xs = List.length z4 ∧ True)
 (T.ite (decide (wrap .i64 (Int.fdiv z7 2) < wrap .i64 z0))
 (T.ite (decide (wrap .i64 z0 < b))
 (T.ob ((VCall P) gq1 [AV.sl (Tag.own 800000) 0 (Cont.f .f32 z4), AV.i .i64 z3, AV.i .i64 (wrap .i64 z0), AV.i .i64 b, AV.fn F []] (AV.bx Tag.nil [AV.tup [], AV.tup [AV.sl (Tag.own 800000) 0 (Cont.f .f32 z9), AV.i .i64 z3, AV.i .i64 (wrap .i64 z0), AV.i .i64 b, AV.fn F []]]) ∧ List.length z4 = List.length z9 ∧ List.length z4 = List.length z9 ∧ True)
 (T.ob (List.length xs = List.length z9 ∧ True)
 (T.leaf (AV.tup [], [AV.sl (Tag.own 800000) 0 (Cont.f .f32 z9), AV.i .i64 a, AV.i .i64 m, AV.i .i64 b, AV.fn F []]))))
 (T.ob (List.length xs = List.length z4 ∧ True)
 (T.leaf (AV.tup [], [AV.sl (Tag.own 800000) 0 (Cont.f .f32 z4), AV.i .i64 a, AV.i .i64 m, AV.i .i64 b, AV.fn F []]))))
 (T.ob (List.length xs = List.length z4 ∧ True)
 (T.leaf (AV.tup [], [AV.sl (Tag.own 800000) 0 (Cont.f .f32 z4), AV.i .i64 a, AV.i .i64 m, AV.i .i64 b, AV.fn F []])))))
 (T.ite (decide (wrap .i64 (Int.fdiv z7 2) < wrap .i64 z0))
 (T.ite (decide (wrap .i64 z0 < b))
 (T.ob ((VCall P) gq1 [AV.sl (Tag.own 800000) 0 (Cont.f .f32 xs), AV.i .i64 z3, AV.i .i64 (wrap .i64 z0), AV.i .i64 b, AV.fn F []] (AV.bx Tag.nil [AV.tup [], AV.tup [AV.sl (Tag.own 800000) 0 (Cont.f .f32 z5), AV.i .i64 z3, AV.i .i64 (wrap .i64 z0), AV.i .i64 b, AV.fn F []]]) ∧ List.length xs = List.length z5 ∧ List.length xs = List.length z5 ∧ True)
 (T.ob (List.length xs = List.length z5 ∧ True)
 (T.leaf (AV.tup [], [AV.sl (Tag.own 800000) 0 (Cont.f .f32 z5), AV.i .i64 a, AV.i .i64 m, AV.i .i64 b, AV.fn F []]))))
 (T.ob (List.length xs = List.length xs ∧ True)
 (T.leaf (AV.tup [], [AV.sl (Tag.own 800000) 0 (Cont.f .f32 xs), AV.i .i64 a, AV.i .i64 m, AV.i .i64 b, AV.fn F []]))))
 (T.ob (List.length xs = List.length xs ∧ True)
 (T.leaf (AV.tup [], [AV.sl (Tag.own 800000) 0 (Cont.f .f32 xs), AV.i .i64 a, AV.i .i64 m, AV.i .i64 b, AV.fn F []])))))
 (T.ite (decide (wrap .i64 (Int.fdiv z7 2) < wrap .i64 z0))
 (T.ite (decide (wrap .i64 z0 < b))
 (T.ob ((VCall P) gq1 [AV.sl (Tag.own 800000) 0 (Cont.f .f32 xs), AV.i .i64 z3, AV.i .i64 (wrap .i64 z0), AV.i .i64 b, AV.fn F []] (AV.bx Tag.nil [AV.tup [], AV.tup [AV.sl (Tag.own 800000) 0 (Cont.f .f32 z5), AV.i .i64 z3, AV.i .i64 (wrap .i64 z0), AV.i .i64 b, AV.fn F []]]) ∧ List.length xs = List.length z5 ∧ List.length xs = List.length z5 ∧ True)
 (T.ob (List.length xs = List.length z5 ∧ True)
 (T.leaf (AV.tup [], [AV.sl (Tag.own 800000) 0 (Cont.f .f32 z5), AV.i .i64 a, AV.i .i64 m, AV.i .i64 b, AV.fn F []]))))
 (T.ob (List.length xs = List.length xs ∧ True)
 (T.leaf (AV.tup [], [AV.sl (Tag.own 800000) 0 (Cont.f .f32 xs), AV.i .i64 a, AV.i .i64 m, AV.i .i64 b, AV.fn F []]))))
 (T.ob (List.length xs = List.length xs ∧ True)
 (T.leaf (AV.tup [], [AV.sl (Tag.own 800000) 0 (Cont.f .f32 xs), AV.i .i64 a, AV.i .i64 m, AV.i .i64 b, AV.fn F []]))))))
 (T.ite (decide (a < (↑w : Int)))
 (T.ite (decide ((↑w : Int) < wrap .i64 (Int.fdiv z7 2)))
 (T.ob ((VCall P) gq1 [AV.sl (Tag.own 800000) 0 (Cont.f .f32 xs), AV.i .i64 a, AV.i .i64 (↑w : Int), AV.i .i64 z3, AV.fn F []] (AV.bx Tag.nil [AV.tup [], AV.tup [AV.sl (Tag.own 800000) 0 (Cont.f .f32 z4), AV.i .i64 a, AV.i .i64 (↑w : Int), AV.i .i64 z3, AV.fn F []]]) ∧ List.length xs = List.length z4 ∧ List.length xs = List.length z4 ∧ True)
 (T.ite (decide (wrap .i64 (Int.fdiv z7 2) < wrap .i64 z0))
 (T.ite (decide (wrap .i64 z0 < b))
 (T.ob ((VCall P) gq1 [AV.sl (Tag.own 800000) 0 (Cont.f .f32 z4), AV.i .i64 z3, AV.i .i64 (wrap .i64 z0), AV.i .i64 b, AV.fn F []] (AV.bx Tag.nil [AV.tup [], AV.tup [AV.sl (Tag.own 800000) 0 (Cont.f .f32 z9), AV.i .i64 z3, AV.i .i64 (wrap .i64 z0), AV.i .i64 b, AV.fn F []]]) ∧ List.length z4 = List.length z9 ∧ List.length z4 = List.length z9 ∧ True)
 (T.ob (List.length xs = List.length z9 ∧ True)
 (T.leaf (AV.tup [], [AV.sl (Tag.own 800000) 0 (Cont.f .f32 z9), AV.i .i64 a, AV.i .i64 m, AV.i .i64 b, AV.fn F []]))))
 (T.ob (List.length xs = List.length z4 ∧ True)
 (T.leaf (AV.tup [], [AV.sl (Tag.own 800000) 0 (Cont.f .f32 z4), AV.i .i64 a, AV.i .i64 m, AV.i .i64 b, AV.fn F []]))))
 (T.ob (List.length xs = List.length z4 ∧ True)
 (T.leaf (AV.tup [], [AV.sl (Tag.own 800000) 0 (Cont.f .f32 z4), AV.i .i64 a, AV.i .i64 m, AV.i .i64 b, AV.fn F []])))))
 (T.ite (decide (wrap .i64 (Int.fdiv z7 2) < wrap .i64 z0))
 (T.ite (decide (wrap .i64 z0 < b))
 (T.ob ((VCall P) gq1 [AV.sl (Tag.own 800000) 0 (Cont.f .f32 xs), AV.i .i64 z3, AV.i .i64 (wrap .i64 z0), AV.i .i64 b, AV.fn F []] (AV.bx Tag.nil [AV.tup [], AV.tup [AV.sl (Tag.own 800000) 0 (Cont.f .f32 z5), AV.i .i64 z3, AV.i .i64 (wrap .i64 z0), AV.i .i64 b, AV.fn F []]]) ∧ List.length xs = List.length z5 ∧ List.length xs = List.length z5 ∧ True)
 (T.ob (List.length xs = List.length z5 ∧ True)
 (T.leaf (AV.tup [], [AV.sl (Tag.own 800000) 0 (Cont.f .f32 z5), AV.i .i64 a, AV.i .i64 m, AV.i .i64 b, AV.fn F []]))))
 (T.ob (List.length xs = List.length xs ∧ True)
 (T.leaf (AV.tup [], [AV.sl (Tag.own 800000) 0 (Cont.f .f32 xs), AV.i .i64 a, AV.i .i64 m, AV.i .i64 b, AV.fn F []]))))
 (T.ob (List.length xs = List.length xs ∧ True)
 (T.leaf (AV.tup [], [AV.sl (Tag.own 800000) 0 (Cont.f .f32 xs), AV.i .i64 a, AV.i .i64 m, AV.i .i64 b, AV.fn F []])))))
 (T.ite (decide (wrap .i64 (Int.fdiv z7 2) < wrap .i64 z0))
 (T.ite (decide (wrap .i64 z0 < b))
 (T.ob ((VCall P) gq1 [AV.sl (Tag.own 800000) 0 (Cont.f .f32 xs), AV.i .i64 z3, AV.i .i64 (wrap .i64 z0), AV.i .i64 b, AV.fn F []] (AV.bx Tag.nil [AV.tup [], AV.tup [AV.sl (Tag.own 800000) 0 (Cont.f .f32 z5), AV.i .i64 z3, AV.i .i64 (wrap .i64 z0), AV.i .i64 b, AV.fn F []]]) ∧ List.length xs = List.length z5 ∧ List.length xs = List.length z5 ∧ True)
 (T.ob (List.length xs = List.length z5 ∧ True)
 (T.leaf (AV.tup [], [AV.sl (Tag.own 800000) 0 (Cont.f .f32 z5), AV.i .i64 a, AV.i .i64 m, AV.i .i64 b, AV.fn F []]))))
 (T.ob (List.length xs = List.length xs ∧ True)
 (T.leaf (AV.tup [], [AV.sl (Tag.own 800000) 0 (Cont.f .f32 xs), AV.i .i64 a, AV.i .i64 m, AV.i .i64 b, AV.fn F []]))))
 (T.ob (List.length xs = List.length xs ∧ True)
 (T.leaf (AV.tup [], [AV.sl (Tag.own 800000) 0 (Cont.f .f32 xs), AV.i .i64 a, AV.i .i64 m, AV.i .i64 b, AV.fn F []])))))))
 (T.ob (Exec (VCall P) ps_slices_symMergeCmpFunc_float32_ (VCode.block 8 (VCode.loop (b_slices_symMergeCmpFunc_float32__L8 gq0 gq1))) (h_slices_symMergeCmpFunc_float32__L8 xs a m b F u v w a m) Ex.normal (h_slices_symMergeCmpFunc_float32__L8 xs a m b F u v w (↑w : Int) (↑w : Int)))
 (T.ite (decide ((↑w : Int) < m))
 (T.ite (decide (m < wrap .i64 z0))
 (T.ob ((VCall P) gq0 [AV.sl (Tag.own 800000) 0 (Cont.f .f32 xs), AV.i .i64 (↑w : Int), AV.i .i64 m, AV.i .i64 (wrap .i64 z0), AV.fn F []] (AV.bx Tag.nil [AV.tup [], AV.tup [AV.sl (Tag.own 800000) 0 (Cont.f .f32 z2), AV.i .i64 (↑w : Int), AV.i .i64 m, AV.i .i64 (wrap .i64 z0), AV.fn F []]]) ∧ List.length xs = List.length z2 ∧ List.length xs = List.length z2 ∧ True)
 (T.ite (decide (a < (↑w : Int)))
 (T.ite (decide ((↑w : Int) < wrap .i64 (Int.fdiv z7 2)))
 (T.ob ((VCall P) gq1 [AV.sl (Tag.own 800000) 0 (Cont.f .f32 z2), AV.i .i64 a, AV.i .i64 (↑w : Int), AV.i .i64 z3, AV.fn F []] (AV.bx Tag.nil [AV.tup [], AV.tup [AV.sl (Tag.own 800000) 0 (Cont.f .f32 z6), AV.i .i64 a, AV.i .i64 (↑w : Int), AV.i .i64 z3, AV.fn F []]]) ∧ List.length z2 = List.length z6 ∧ List.length z2 = List.length z6 ∧ True)
 (T.ite (decide (wrap .i64 (Int.fdiv z7 2) < wrap .i64 z0))
 (T.ite (decide (wrap .i64 z0 < b))
 (T.ob ((VCall P) gq1 [AV.sl (Tag.own 800000) 0 (Cont.f .f32 z6), AV.i .i64 z3, AV.i .i64 (wrap .i64 z0), AV.i .i64 b, AV.fn F []] (AV.bx Tag.nil [AV.tup [], AV.tup [AV.sl (Tag.own 800000) 0 (Cont.f .f32 (srt KS z6 z1 (Int.toNat b))), AV.i .i64 z3, AV.i .i64 (wrap .i64 z0), AV.i .i64 b, AV.fn F []]]) ∧ List.length z6 = List.length (srt KS z6 z1 (Int.toNat b)) ∧ List.length z6 = List.length (srt KS z6 z1 (Int.toNat b)) ∧ True)
 (T.ob (List.length xs = List.length (srt KS z6 z1 (Int.toNat b)) ∧ True)
 (T.leaf (AV.tup [], [AV.sl (Tag.own 800000) 0 (Cont.f .f32 (srt KS z6 z1 (Int.toNat b))), AV.i .i64 a, AV.i .i64 m, AV.i .i64 b, AV.fn F []]))))
 (T.ob (List.length xs = List.length z6 ∧ True)
 (T.leaf (AV.tup [], [AV.sl (Tag.own 800000) 0 (Cont.f .f32 z6), AV.i .i64 a, AV.i .i64 m, AV.i .i64 b, AV.fn F []]))))
 (T.ob (List.length xs = List.length z6 ∧ True)
 (T.leaf (AV.tup [], [AV.sl (Tag.own 800000) 0 (Cont.f .f32 z6), AV.i .i64 a, AV.i .i64 m, AV.i .i64 b, AV.fn F []])))))
 (T.ite (decide (wrap .i64 (Int.fdiv z7 2) < wrap .i64 z0))
 (T.ite (decide (wrap .i64 z0 < b))
 (T.ob ((VCall P) gq1 [AV.sl (Tag.own 800000) 0 (Cont.f .f32 z2), AV.i .i64 z3, AV.i .i64 (wrap .i64 z0), AV.i .i64 b, AV.fn F []] (AV.bx Tag.nil [AV.tup [], AV.tup [AV.sl (Tag.own 800000) 0 (Cont.f .f32 z8), AV.i .i64 z3, AV.i .i64 (wrap .i64 z0), AV.i .i64 b, AV.fn F []]]) ∧ List.length z2 = List.length z8 ∧ List.length z2 = List.length z8 ∧ True)
 (T.ob (List.length xs = List.length z8 ∧ True)
 (T.leaf (AV.tup [], [AV.sl (Tag.own 800000) 0 (Cont.f .f32 z8), AV.i .i64 a, AV.i .i64 m, AV.i .i64 b, AV.fn F []]))))
 (T.ob (List.length xs = List.length z2 ∧ True)
 (T.leaf (AV.tup [], [AV.sl (Tag.own 800000) 0 (Cont.f .f32 z2), AV.i .i64 a, AV.i .i64 m, AV.i .i64 b, AV.fn F []]))))
 (T.ob (List.length xs = List.length z2 ∧ True)
 (T.leaf (AV.tup [], [AV.sl (Tag.own 800000) 0 (Cont.f .f32 z2), AV.i .i64 a, AV.i .i64 m, AV.i .i64 b, AV.fn F []])))))
 (T.ite (decide (wrap .i64 (Int.fdiv z7 2) < wrap .i64 z0))
 (T.ite (decide (wrap .i64 z0 < b))
 (T.ob ((VCall P) gq1 [AV.sl (Tag.own 800000) 0 (Cont.f .f32 z2), AV.i .i64 z3, AV.i .i64 (wrap .i64 z0), AV.i .i64 b, AV.fn F []] (AV.bx Tag.nil [AV.tup [], AV.tup [AV.sl (Tag.own 800000) 0 (Cont.f .f32 z8), AV.i .i64 z3, AV.i .i64 (wrap .i64 z0), AV.i .i64 b, AV.fn F []]]) ∧ List.length z2 = List.length z8 ∧ List.length z2 = List.length z8 ∧ True)
 (T.ob (List.length xs = List.length z8 ∧ True)
 (T.leaf (AV.tup [], [AV.sl (Tag.own 800000) 0 (Cont.f .f32 z8), AV.i .i64 a, AV.i .i64 m, AV.i .i64 b, AV.fn F []]))))
 (T.ob (List.length xs = List.length z2 ∧ True)
 (T.leaf (AV.tup [], [AV.sl (Tag.own 800000) 0 (Cont.f .f32 z2), AV.i .i64 a, AV.i .i64 m, AV.i .i64 b, AV.fn F []]))))
 (T.ob (List.length xs = List.length z2 ∧ True)
 (T.leaf (AV.tup [], [AV.sl (Tag.own 800000) 0 (Cont.f .f32 z2), AV.i .i64 a, AV.i .i64 m, AV.i .i64 b, AV.fn F []]))))))
 (T.ite (decide (a < (↑w : Int)))
 (T.ite (decide ((↑w : Int) < wrap .i64 (Int.fdiv z7 2)))
 (T.ob ((VCall P) gq1 [AV.sl (Tag.own 800000) 0 (Cont.f .f32 xs), AV.i .i64 a, AV.i .i64 (↑w : Int), AV.i .i64 z3, AV.fn F []] (AV.bx Tag.nil [AV.tup [], AV.tup [AV.sl (Tag.own 800000) 0 (Cont.f .f32 z4), AV.i .i64 a, AV.i .i64 (↑w : Int), AV.i .i64 z3, AV.fn F []]]) ∧ List.length xs = List.length z4 ∧ List.length xs = List.length z4 ∧ True)
 (T.ite (decide (wrap .i64 (Int.fdiv z7 2) < wrap .i64 z0))
 (T.ite (decide (wrap .i64 z0 < b))
 (T.ob ((VCall P) gq1 [AV.sl (Tag.own 800000) 0 (Cont.f .f32 z4), AV.i .i64 z3, AV.i .i64 (wrap .i64 z0), AV.i .i64 b, AV.fn F []] (AV.bx Tag.nil [AV.tup [], AV.tup [AV.sl (Tag.own 800000) 0 (Cont.f .f32 z9), AV.i .i64 z3, AV.i .i64 (wrap .i64 z0), AV.i .i64 b, AV.fn F []]]) ∧ List.length z4 = List.length z9 ∧ List.length z4 = List.length z9 ∧ True)
 (T.ob (List.length xs = List.length z9 ∧ True)
 (T.leaf (AV.tup [], [AV.sl (Tag.own 800000) 0 (Cont.f .f32 z9), AV.i .i64 a, AV.i .i64 m, AV.i .i64 b, AV.fn F []]))))
 (T.ob (List.length xs = List.length z4 ∧ True)
 (T.leaf (AV.tup [], [AV.sl (Tag.own 800000) 0 (Cont.f .f32 z4), AV.i .i64 a, AV.i .i64 m, AV.i .i64 b, AV.fn F []]))))
 (T.ob (List.length xs = List.length z4 ∧ True)
 (T.leaf (AV.tup [], [AV.sl (Tag.own 800000) 0 (Cont.f .f32 z4), AV.i .i64 a, AV.i .i64 m, AV.i .i64 b, AV.fn F []])))))
 (T.ite (decide (wrap .i64 (Int.fdiv z7 2) < wrap .i64 z0))
 (T.ite (decide (wrap .i64 z0 < b))
 (T.ob ((VCall P) gq1 [AV.sl (Tag.own 800000) 0 (Cont.f .f32 xs), AV.i .i64 z3, AV.i .i64 (wrap .i64 z0), AV.i .i64 b, AV.fn F []] (AV.bx Tag.nil [AV.tup [], AV.tup [AV.sl (Tag.own 800000) 0 (Cont.f .f32 z5), AV.i .i64 z3, AV.i .i64 (wrap .i64 z0), AV.i .i64 b, AV.fn F []]]) ∧ List.length xs = List.length z5 ∧ List.length xs = List.length z5 ∧ True)
 (T.ob (List.length xs = List.length z5 ∧ True)
 (T.leaf (AV.tup [], [AV.sl (Tag.own 800000) 0 (Cont.f .f32 z5), AV.i .i64 a, AV.i .i64 m, AV.i .i64 b, AV.fn F []]))))
 (T.ob (List.length xs = List.length xs ∧ True)
 (T.leaf (AV.tup [], [AV.sl (Tag.own 800000) 0 (Cont.f .f32 xs), AV.i .i64 a, AV.i .i64 m, AV.i .i64 b, AV.fn F []]))))
 (T.ob (List.length xs = List.length xs ∧ True)
 (T.leaf (AV.tup [], [AV.sl (Tag.own 800000) 0 (Cont.f .f32 xs), AV.i .i64 a, AV.i .i64 m, AV.i .i64 b, AV.fn F []])))))
 (T.ite (decide (wrap .i64 (Int.fdiv z7 2) < wrap .i64 z0))
 (T.ite (decide (wrap .i64 z0 < b))
 (T.ob ((VCall P) gq1 [AV.sl (Tag.own 800000) 0 (Cont.f .f32 xs), AV.i .i64 z3, AV.i .i64 (wrap .i64 z0), AV.i .i64 b, AV.fn F []] (AV.bx Tag.nil [AV.tup [], AV.tup [AV.sl (Tag.own 800000) 0 (Cont.f .f32 z5), AV.i .i64 z3, AV.i .i64 (wrap .i64 z0), AV.i .i64 b, AV.fn F []]]) ∧ List.length xs = List.length z5 ∧ List.length xs = List.length z5 ∧ True)
 (T.ob (List.length xs = List.length z5 ∧ True)
 (T.leaf (AV.tup [], [AV.sl (Tag.own 800000) 0 (Cont.f .f32 z5), AV.i .i64 a, AV.i .i64 m, AV.i .i64 b, AV.fn F []]))))
 (T.ob (List.length xs = List.length xs ∧ True)
 (T.leaf (AV.tup [], [AV.sl (Tag.own 800000) 0 (Cont.f .f32 xs), AV.i .i64 a, AV.i .i64 m, AV.i .i64 b, AV.fn F []]))))
 (T.ob (List.length xs = List.length xs ∧ True)
 (T.leaf (AV.tup [], [AV.sl (Tag.own 800000) 0 (Cont.f .f32 xs), AV.i .i64 a, AV.i .i64 m, AV.i .i64 b, AV.fn F []]))))))
 (T.ite (decide (a < (↑w : Int)))
 (T.ite (decide ((↑w : Int) < wrap .i64 (Int.fdiv z7 2)))
 (T.ob ((VCall P) gq1 [AV.sl (Tag.own 800000) 0 (Cont.f .f32 xs), AV.i .i64 a, AV.i .i64 (↑w : Int), AV.i .i64 z3, AV.fn F []] (AV.bx Tag.nil [AV.tup [], AV.tup [AV.sl (Tag.own 800000) 0 (Cont.f .f32 z4), AV.i .i64 a, AV.i .i64 (↑w : Int), AV.i .i64 z3, AV.fn F []]]) ∧ List.length xs = List.length z4 ∧ List.length xs = List.length z4 ∧ True)
 (T.ite (decide (wrap .i64 (Int.fdiv z7 2) < wrap .i64 z0))
 (T.ite (decide (wrap .i64 z0 < b))
 (T.ob ((VCall P) gq1 [AV.sl (Tag.own 800000) 0 (Cont.f .f32 z4), AV.i .i64 z3, AV.i .i64 (wrap .i64 z0), AV.i .i64 b, AV.fn F []] (AV.bx Tag.nil [AV.tup [], AV.tup [AV.sl (Tag.own 800000) 0 (Cont.f .f32 z9), AV.i .i64 z3, AV.i .i64 (wrap .i64 z0), AV.i .i64 b, AV.fn F []]]) ∧ List.length z4 = List.length z9 ∧ List.length z4 = List.length z9 ∧ True)
 (T.ob (List.length xs = List.length z9 ∧ True)
 (T.leaf (AV.tup [], [AV.sl (Tag.own 800000) 0 (Cont.f .f32 z9), AV.i .i64 a, AV.i .i64 m, AV.i .i64 b, AV.fn F []]))))
 (T.ob (List.length xs = List.length z4 ∧ True)
 (T.leaf (AV.tup [], [AV.sl (Tag.own 800000) 0 (Cont.f .f32 z4), AV.i .i64 a, AV.i .i64 m, AV.i .i64 b, AV.fn F []]))))
 (T.ob (List.length xs = List.length z4 ∧ True)
 (T.leaf (AV.tup [], [AV.sl (Tag.own 800000) 0 (Cont.f .f32 z4), AV.i .i64 a, AV.i .i64 m, AV.i .i64 b, AV.fn F []])))))
 (T.ite (decide (wrap .i64 (Int.fdiv z7 2) < wrap .i64 z0))
 (T.ite (decide (wrap .i64 z0 < b))
 (T.ob ((VCall P) gq1 [AV.sl (Tag.own 800000) 0 (Cont.f .f32 xs), AV.i .i64 z3, AV.i .i64 (wrap .i64 z0), AV.i .i64 b, AV.fn F []] (AV.bx Tag.nil [AV.tup [], AV.tup [AV.sl (Tag.own 800000) 0 (Cont.f .f32 z5), AV.i .i64 z3, AV.i .i64 (wrap .i64 z0), AV.i .i64 b, AV.fn F []]]) ∧ List.length xs = List.length z5 ∧ List.length xs = List.length z5 ∧ True)
 (T.ob (List.length xs = List.length z5 ∧ True)
 (T.leaf (AV.tup [], [AV.sl (Tag.own 800000) 0 (Cont.f .f32 z5), AV.i .i64 a, AV.i .i64 m, AV.i .i64 b, AV.fn F []]))))
 (T.ob (List.length xs = List.length xs ∧ True)
 (T.leaf (AV.tup [], [AV.sl (Tag.own 800000) 0 (Cont.f .f32 xs), AV.i .i64 a, AV.i .i64 m, AV.i .i64 b, AV.fn F []]))))
 (T.ob (List.length xs = List.length xs ∧ True)
 (T.leaf (AV.tup [], [AV.sl (Tag.own 800000) 0 (Cont.f .f32 xs), AV.i .i64 a, AV.i .i64 m, AV.i .i64 b, AV.fn F []])))))
 (T.ite (decide (wrap .i64 (Int.fdiv z7 2) < wrap .i64 z0))
 (T.ite (decide (wrap .i64 z0 < b))
 (T.ob ((VCall P) gq1 [AV.sl (Tag.own 800000) 0 (Cont.f .f32 xs), AV.i .i64 z3, AV.i .i64 (wrap .i64 z0), AV.i .i64 b, AV.fn F []] (AV.bx Tag.nil [AV.tup [], AV.tup [AV.sl (Tag.own 800000) 0 (Cont.f .f32 z5), AV.i .i64 z3, AV.i .i64 (wrap .i64 z0), AV.i .i64 b, AV.fn F []]]) ∧ List.length xs = List.length z5 ∧ List.length xs = List.length z5 ∧ True)
 (T.ob (List.length xs = List.length z5 ∧ True)
 (T.leaf (AV.tup [], [AV.sl (Tag.own 800000) 0 (Cont.f .f32 z5), AV.i .i64 a, AV.i .i64 m, AV.i .i64 b, AV.fn F []]))))
 (T.ob (List.length xs = List.length xs ∧ True)
 (T.leaf (AV.tup [], [AV.sl (Tag.own 800000) 0 (Cont.f .f32 xs), AV.i .i64 a, AV.i .i64 m, AV.i .i64 b, AV.fn F []]))))
 (T.ob (List.length xs = List.length xs ∧ True)
 (T.leaf (AV.tup [], [AV.sl (Tag.own 800000) 0 (Cont.f .f32 xs), AV.i .i64 a, AV.i .i64 m, AV.i .i64 b, AV.fn F []])))))))))))))
theorem q_slices_symMergeCmpFunc_float32_ {P : Program} {g_f : FuncId} {gq0 gq1 : FuncId} (h_ : Is_slices_symMergeCmpFunc_float32_ P g_f gq0 gq1) (xs : List Nat) (a : Int) (m : Int) (b : Int) (F : FuncId) (u : Nat) (v : Nat) (w : Nat) (ht : T.ok (fun x_ => x_ = (.tup [], [OS HI .f32 (srt KS xs a.toNat b.toNat), .i .i64 a, .i .i64 m, .i .i64 b, .fn F []])) (qt_slices_symMergeCmpFunc_float32_ P gq0 gq1 xs a m b F u v w (wrap .i64 (wrap .i64 (Int.fdiv (wrap .u64 (wrap .i64 (a + b))) 2) + m) - (↑w : Int)) (Int.toNat (wrap .i64 (Int.fdiv (wrap .u64 (wrap .i64 (a + b))) 2))) (rotM xs (Int.toNat (↑w : Int)) (Int.toNat m) (Int.toNat (wrap .i64 (wrap .i64 (wrap .i64 (Int.fdiv (wrap .u64 (wrap .i64 (a + b))) 2) + m) - (↑w : Int))))) (wrap .i64 (Int.fdiv (wrap .u64 (wrap .i64 (a + b))) 2)) (srt KS xs (Int.toNat a) (Int.toNat (wrap .i64 (Int.fdiv (wrap .u64 (wrap .i64 (a + b))) 2)))) (srt KS xs (Int.toNat (wrap .i64 (Int.fdiv (wrap .u64 (wrap .i64 (a + b))) 2))) (Int.toNat b)) (srt KS (rotM xs (Int.toNat (↑w : Int)) (Int.toNat m) (Int.toNat (wrap .i64 (wrap .i64 (wrap .i64 (Int.fdiv (wrap .u64 (wrap .i64 (a + b))) 2) + m) - (↑w : Int))))) (Int.toNat a) (Int.toNat (wrap .i64 (Int.fdiv (wrap .u64 (wrap .i64 (a + b))) 2)))) (wrap .u64 (wrap .i64 (a + b))) (srt KS (rotM xs (Int.toNat (↑w : Int)) (Int.toNat m) (Int.toNat (wrap .i64 (wrap .i64 (wrap .i64 (Int.fdiv (wrap .u64 (wrap .i64 (a + b))) 2) + m) - (↑w : Int))))) (Int.toNat (wrap .i64 (Int.fdiv (wrap .u64 (wrap .i64 (a + b))) 2))) (Int.toNat b)) (srt KS (srt KS xs (Int.toNat a) (Int.toNat (wrap .i64 (Int.fdiv (wrap .u64 (wrap .i64 (a + b))) 2)))) (Int.toNat (wrap .i64 (Int.fdiv (wrap .u64 (wrap .i64 (a + b))) 2))) (Int.toNat b)))) :
 VCall P g_f [OS HI .f32 xs, .i .i64 a, .i .i64 m, .i .i64 b, .fn F []] (AV.M (.tup []) [OS HI .f32 (srt KS xs a.toNat b.toNat), .i .i64 a, .i .i64 m, .i .i64 b, .fn F []]) := h_.callM_of ps_slices_symMergeCmpFunc_float32_ [0] ⟨oc_slices_symMergeCmpFunc_float32_ xs a m b F u v w, fun id σ => match id with | 0 => some (lv_slices_symMergeCmpFunc_float32__L0, .leaf (.normal, h_slices_symMergeCmpFunc_float32__L0 xs a m b F u v w u u)) | 2 => some (lv_slices_symMergeCmpFunc_float32__L2, .leaf (.normal, h_slices_symMergeCmpFunc_float32__L2 xs a m b F u v w (rotM xs a.toNat m.toNat u) ((u : Int) - 1))) | 4 => some (lv_slices_symMergeCmpFunc_float32__L4, .leaf (.normal, h_slices_symMergeCmpFunc_float32__L4 xs a m b F u v w v v)) | 6 => some (lv_slices_symMergeCmpFunc_float32__L6, .leaf (.normal, h_slices_symMergeCmpFunc_float32__L6 xs a m b F u v w (rotM xs v m.toNat (m.toNat + 1)) v)) | 8 => some (lv_slices_symMergeCmpFunc_float32__L8, .leaf (.normal, h_slices_symMergeCmpFunc_float32__L8 xs a m b F u v w w w)) | _ => none⟩ (by kernel_rfl) ht

-- END slices_symMergeCmpFunc_float32_

theorem wrapu_id {n : Int} (h1 : 0 ≤ n) (h2 : n ≤ 9223372036854775807) : IntKind.wrap .u64 n = n := by
  unfold IntKind.wrap
  simp [IntKind.signed, IntKind.bits]
  omega
theorem half_w (i j : Nat) (h : i + j ≤ 100000) : IntKind.wrap .i64 (Int.fdiv (IntKind.wrap .u64 (IntKind.wrap .i64 ((i : Int) + (j : Int)))) 2) = ((i + j) / 2 : Nat) := by
  rw [wrap64_id (n := (i : Int) + j) (by omega) (by omega), wrapu_id (by omega) (by omega), Int.fdiv_eq_ediv_of_nonneg _ (by omega), wrap64_id (by omega) (by omega)]
  omega
/-- the facts of the cut -/
theorem cut_ok {l : List Nat} {a m b : Nat} (h1 : a + 2 ≤ m) (h2 : m + 2 ≤ b) (h3 : b ≤ l.length) (s1 : SR KS l a m) (s2 : SR KS l m b) :
    ∃ s0 r0 : Nat, bs3 l a m b = bsM (fun c => decide (KS (l.getD ((a + b) / 2 + m - 1 - c) 0) < KS (l.getD c 0))) (r0 - s0) s0 r0 ∧ s0 = (if (a + b) / 2 < m then (a + b) / 2 + m - b else a) ∧ r0 = (if (a + b) / 2 < m then (a + b) / 2 else m) ∧
      s0 ≤ r0 ∧ a ≤ bs3 l a m b ∧ bs3 l a m b ≤ m ∧ bs3 l a m b ≤ (a + b) / 2 ∧ m ≤ (a + b) / 2 + m - bs3 l a m b ∧ (a + b) / 2 + m - bs3 l a m b ≤ b ∧
      (∀ i j, a ≤ i → i < bs3 l a m b → (a + b) / 2 + m - bs3 l a m b ≤ j → j < b → KS (l.getD i 0) ≤ KS (l.getD j 0)) ∧
      (∀ i j, bs3 l a m b ≤ i → i < m → m ≤ j → j < (a + b) / 2 + m - bs3 l a m b → KS (l.getD j 0) < KS (l.getD i 0)) := by
  generalize hmid : (a + b) / 2 = mid
  generalize hs0 : (if mid < m then mid + m - b else a) = s0
  generalize hr0 : (if mid < m then mid else m) = r0
  have eb : bs3 l a m b = bsM (fun c => decide (KS (l.getD (mid + m - 1 - c) 0) < KS (l.getD c 0))) (r0 - s0) s0 r0 := by
    unfold bs3
    simp only [Int.toNat_natCast, hmid, hs0, hr0]
  have hmm : a < mid ∧ mid < b := by omega
  have hsr : s0 ≤ r0 ∧ a ≤ s0 ∧ r0 ≤ m ∧ r0 ≤ mid := by
    rw [← hs0, ← hr0]
    by_cases c : mid < m
    · rw [if_pos c, if_pos c]; omega
    · rw [if_neg c, if_neg c]; omega
  have hrange : ∀ c, s0 ≤ c → c < r0 → m ≤ mid + m - 1 - c ∧ mid + m - 1 - c < b := by
    intro c hc1 hc2
    rw [← hs0] at hc1; rw [← hr0] at hc2
    by_cases c : mid < m
    · rw [if_pos c] at hc1 hc2; omega
    · rw [if_neg c] at hc1 hc2; omega
  obtain ⟨b1, b2, b3, b4⟩ := bs_ok (fun c => decide (KS (l.getD (mid + m - 1 - c) 0) < KS (l.getD c 0))) (r0 - s0) s0 r0 (Nat.le_refl _) hsr.1 (by
    intro x y hx hxy hy hp
    have rx := hrange x hx (by omega)
    have ry := hrange y (by omega) hy
    have hp := of_decide_eq_true hp
    refine decide_eq_true ?_
    by_cases hxy' : x = y
    · subst hxy'; exact hp
    · have e1 := s2 (mid + m - 1 - y) (mid + m - 1 - x) ry.1 (by omega) rx.2
      have e2 := s1 x y (by omega) (by omega) (by omega)
      omega)
  rw [← eb] at b1 b2 b3 b4
  have ho : m ≤ mid + m - bs3 l a m b ∧ mid + m - bs3 l a m b ≤ b := by
    rw [← hs0] at b1
    rw [← hr0] at b2
    by_cases c : mid < m
    · rw [if_pos c] at b1 b2; omega
    · rw [if_neg c] at b1 b2; omega
  refine ⟨s0, r0, eb, rfl, rfl, hsr.1, by omega, by omega, by omega, ho.1, ho.2, fun i j hi1 hi2 hj1 hj2 => ?_, fun i j hi1 hi2 hj1 hj2 => ?_⟩
  · -- the number ahead of the cut
    have hs : s0 < bs3 l a m b := by
      rcases Nat.lt_or_ge s0 (bs3 l a m b) with h | h
      · exact h
      · exfalso
        have : bs3 l a m b = s0 := by omega
        rw [← hs0] at this
        by_cases c : mid < m
        · rw [if_pos c] at this; omega
        · rw [if_neg c] at this; omega
    have hp := b3 (bs3 l a m b - 1) (by omega) (by omega)
    have hp := of_decide_eq_false hp
    rw [show mid + m - 1 - (bs3 l a m b - 1) = mid + m - bs3 l a m b by omega] at hp
    have e1 : KS (l.getD i 0) ≤ KS (l.getD (bs3 l a m b - 1) 0) := by
      by_cases h : i = bs3 l a m b - 1
      · rw [h]; exact Int.le_refl _
      · exact s1 i _ hi1 (by omega) (by omega)
    have e2 : KS (l.getD (mid + m - bs3 l a m b) 0) ≤ KS (l.getD j 0) := by
      by_cases h : j = mid + m - bs3 l a m b
      · rw [h]; exact Int.le_refl _
      · exact s2 _ j (by omega) (by omega) hj2
    omega
  · have hs : bs3 l a m b < r0 := by
      rcases Nat.lt_or_ge (bs3 l a m b) r0 with h | h
      · exact h
      · exfalso
        have : bs3 l a m b = r0 := by omega
        rw [← hr0] at this
        by_cases c : mid < m
        · rw [if_pos c] at this; omega
        · rw [if_neg c] at this; omega
    have hp := b4 (bs3 l a m b) (Nat.le_refl _) hs
    have hp := of_decide_eq_true hp
    have e1 : KS (l.getD (bs3 l a m b) 0) ≤ KS (l.getD i 0) := by
      by_cases h : i = bs3 l a m b
      · rw [h]; exact Int.le_refl _
      · exact s1 _ i (by omega) (by omega) hi2
    have e2 : KS (l.getD j 0) ≤ KS (l.getD (mid + m - 1 - bs3 l a m b) 0) := by
      by_cases h : j = mid + m - 1 - bs3 l a m b
      · rw [h]; exact Int.le_refl _
      · exact s2 j _ hj1 (by omega) (by omega)
    omega
/-- one number ahead of a part in order -/
theorem one_up {l : List Nat} {a b : Nat} (h1 : a + 1 < b) (h3 : b ≤ l.length) (s2 : SR KS l (a + 1) b) :
    a + 1 ≤ bs1 l a (a + 1 : Nat) b ∧ bs1 l a (a + 1 : Nat) b ≤ b ∧ rotM l a (a + 1) (bs1 l a (a + 1 : Nat) b) = srt KS l a b := by
  have eb : bs1 l a (a + 1 : Nat) b = bsM (fun h => decide (KS (l.getD a 0) ≤ KS (l.getD h 0))) (b - (a + 1)) (a + 1) b := by
    unfold bs1; simp only [Int.toNat_natCast]
  obtain ⟨b1, b2, b3, b4⟩ := bs_ok (fun h => decide (KS (l.getD a 0) ≤ KS (l.getD h 0))) (b - (a + 1)) (a + 1) b (Nat.le_refl _) (by omega) (by
    intro x y hx hxy hy hp
    have hp := of_decide_eq_true hp
    refine decide_eq_true ?_
    by_cases hxy' : x = y
    · subst hxy'; exact hp
    · have := s2 x y hx (by omega) hy
      omega)
  rw [← eb] at b1 b2 b3 b4
  refine ⟨b1, b2, merge_done (s := a) (Nat.le_refl _) (by omega) b1 b2 h3 (fun i j hi hij hj => by omega) s2 (fun i j hi hi2 => by omega) (fun i j hi1 hi2 hj1 hj2 => ?_) (fun i j hi1 hi2 => by omega) (fun i j hi1 hi2 hj1 hj2 => ?_)⟩
  · have hp := of_decide_eq_false (b3 j hj1 hj2)
    have : i = a := by omega
    subst this
    omega
  · have hp := of_decide_eq_true (b4 j hj1 hj2)
    have : i = a := by omega
    subst this
    exact hp
/-- one number behind a part in order -/
theorem one_down {l : List Nat} {a m : Nat} (h1 : a < m) (h3 : m + 1 ≤ l.length) (s1 : SR KS l a m) :
    a ≤ bs2 l a m (m + 1 : Nat) ∧ bs2 l a m (m + 1 : Nat) ≤ m ∧ rotM l (bs2 l a m (m + 1 : Nat)) m (m + 1) = srt KS l a (m + 1) := by
  have eb : bs2 l a m (m + 1 : Nat) = bsM (fun h => decide (KS (l.getD m 0) < KS (l.getD h 0))) (m - a) a m := by
    unfold bs2; simp only [Int.toNat_natCast]
  obtain ⟨b1, b2, b3, b4⟩ := bs_ok (fun h => decide (KS (l.getD m 0) < KS (l.getD h 0))) (m - a) a m (Nat.le_refl _) (by omega) (by
    intro x y hx hxy hy hp
    have hp := of_decide_eq_true hp
    refine decide_eq_true ?_
    by_cases hxy' : x = y
    · subst hxy'; exact hp
    · have := s1 x y hx (by omega) hy
      omega)
  rw [← eb] at b1 b2 b3 b4
  refine ⟨b1, b2, merge_done (m := m) (e := m + 1) b1 b2 (by omega) (Nat.le_refl _) h3 s1 (fun i j hi hij hj => by omega) (fun i j hi hi2 => by omega) (fun i j hi1 hi2 hj1 hj2 => ?_) (fun i j hi1 hi2 hj1 hj2 => ?_) (fun i j hi1 hi2 => by omega)⟩
  · have hp := of_decide_eq_true (b4 i hi1 hi2)
    have : j = m := by omega
    subst this
    exact hp
  · have hp := of_decide_eq_false (b3 i hi1 hi2)
    have : j = m := by omega
    subst this
    omega
/-- all that the cut brings -/
theorem cut_facts {xs : List Nat} {a m b w mid e : Nat} (he : e = mid + m - w) (hmid : a < mid ∧ mid < b) (h1 : a + 2 ≤ m) (h2 : m + 2 ≤ b) (h3 : b ≤ xs.length) (o2 : a ≤ w) (o3 : w ≤ m) (o4 : w ≤ mid) (o5 : m ≤ e) (o6 : e ≤ b)
    (s1 : SR KS xs a m) (s2 : SR KS xs m b) (hN : okM xs)
    (cc1 : ∀ i j, a ≤ i → i < w → e ≤ j → j < b → KS (xs.getD i 0) ≤ KS (xs.getD j 0)) (cc2 : ∀ i j, w ≤ i → i < m → m ≤ j → j < e → KS (xs.getD j 0) < KS (xs.getD i 0)) :
    ∃ L : List Nat, rotM xs w m e = L ∧ L.length = xs.length ∧ okM L ∧ SR KS L a w ∧ SR KS L w mid ∧ SR KS (srt KS L a mid) mid e ∧ SR KS (srt KS L a mid) e b ∧ okM (srt KS L a mid) ∧
      (srt KS L a mid).length = xs.length ∧ (srt KS L mid b).length = xs.length ∧ SR KS L mid e ∧ SR KS L e b ∧ srt KS (srt KS L a mid) mid b = srt KS xs a b ∧ (¬(w < m ∧ m < e) → L = xs) ∧ (¬(a < w ∧ w < mid) → srt KS L a mid = L) ∧ (¬(mid < e ∧ e < b) → srt KS (srt KS L a mid) mid b = srt KS L a mid) := by
  obtain ⟨r1, r2, r3, r4, r5⟩ := merge_step (K := KS) o2 o3 o5 o6 h3 s1 s2 cc1 cc2
  have ew : w + (e - m) = mid := by omega
  rw [ew] at r1 r3 r4
  have hl := rot_len xs w m e
  have ho : okM (rotM xs w m e) := ok_rot hN
  have hno : ¬(w < m ∧ m < e) → rotM xs w m e = xs := fun h => rot_none xs w m e (by omega) o3 o5
  generalize rotM xs w m e = L at r1 r2 r3 r4 r5 hl ho hno
  obtain ⟨q1, q2⟩ := srt_rel (K := KS) (l := L) (a := a) (b := mid) (by omega) (by omega)
  have sr : ∀ i j, mid ≤ i → SR KS L i j → SR KS (srt KS L a mid) i j := fun i j hi hs x y hx hxy hy => by
    rw [q1.out x (.inr (by omega)), q1.out y (.inr (by omega))]; exact hs x y hx hxy hy
  refine ⟨L, rfl, hl, ho, r2, r3, sr _ _ (Nat.le_refl _) r4, sr _ _ (by omega) r5, ok_rel q1 ho, by rw [q1.len, hl], by rw [srt_len _ _ _ (by omega) (by omega), hl], r4, r5, r1, hno, fun h => ?_, fun h => ?_⟩
  · refine srt_nop (by omega) (by omega) ?_
    rcases (show a = w ∨ w = mid by omega) with rfl | rfl
    · exact r3
    · exact r2
  · refine srt_nop (by omega) (by rw [q1.len]; omega) ?_
    rcases (show mid = e ∨ e = b by omega) with h | h
    · exact fun i j h1 h2 h3 => sr e b (by omega) r5 i j (by omega) h2 h3
    · exact fun i j h1 h2 h3 => sr mid e (Nat.le_refl _) r4 i j h1 h2 (by omega)
theorem sym_leaf {A B : List Nat} {a m b : Int} {F : FuncId} (h : A = B) : ((AV.tup [], [AV.sl (Tag.own HI) 0 (Cont.f .f32 A), AV.i .i64 a, AV.i .i64 m, AV.i .i64 b, AV.fn F []]) : AV × List AV) = (AV.tup [], [OS HI .f32 B, AV.i .i64 a, AV.i .i64 m, AV.i .i64 b, AV.fn F []]) := by rw [h]
set_option maxHeartbeats 4000000 in
theorem sym_gen {P : Program} {f g1 : FuncId} (h : Is_slices_symMergeCmpFunc_float32_ P f g1 f) (c1 : C_slices_rotateCmpFunc_float32_ P g1) {N : Nat} {xs : List Nat} {a m b : Nat} {F : FuncId}
    (ih : ∀ (xs : List Nat) (a m b : Nat), a < m → m < b → b ≤ xs.length → SR KS xs a m → SR KS xs m b → okM xs → xs.length ≤ 5000 → b - a ≤ N →
      VCall P f [OS HI .f32 xs, .i .i64 a, .i .i64 m, .i .i64 b, .fn F []] (AV.M (.tup []) [OS HI .f32 (srt KS xs a b), .i .i64 a, .i .i64 m, .i .i64 b, .fn F []]))
    (h1 : a + 2 ≤ m) (h2 : m + 2 ≤ b) (h3 : b ≤ xs.length) (s1 : SR KS xs a m) (s2 : SR KS xs m b) (hN : okM xs) (hF : ∀ x y, VCall P F [.f .f32 x, .f .f32 y] (.i .i64 (signM x y))) (hx : xs.length ≤ 5000) (hb : b - a ≤ N + 1) :
    VCall P f [OS HI .f32 xs, .i .i64 a, .i .i64 m, .i .i64 b, .fn F []] (AV.M (.tup []) [OS HI .f32 (srt KS xs a b), .i .i64 a, .i .i64 m, .i .i64 b, .fn F []]) := by
  obtain ⟨s0, r0, eb, es0, er0, o1, o2, o3, o4, o5, o6, cc1, cc2⟩ := cut_ok (l := xs) (a := a) (m := m) (b := b) h1 h2 h3 s1 s2
  generalize hwd : bs3 xs a m b = w at eb o2 o3 o4 o5 o6 cc1 cc2
  have hmid : a < (a + b) / 2 ∧ (a + b) / 2 < b := by omega
  have hw := half_w a b (by omega)
  refine q_slices_symMergeCmpFunc_float32_ h xs a m b F 0 0 w ?_
  unfold qt_slices_symMergeCmpFunc_float32_
  generalize hmd : (a + b) / 2 = mid at eb es0 er0 o4 o5 o6 cc1 cc2 hmid hw
  obtain ⟨L, eL, lL, oL, sL1, sL2, sM1, sM2, oM, lM, lR, sL3, sL4, fin, n0, n1, n2⟩ := cut_facts rfl hmid h1 h2 h3 o2 o3 o4 o5 o6 s1 s2 hN cc1 cc2
  have ec : (IntKind.wrap .i64 ((m : Int) - a) == 1) = false := by rw [wrap64_id (by omega) (by omega)]; simp; omega
  have ed : (IntKind.wrap .i64 ((b : Int) - m) == 1) = false := by rw [wrap64_id (by omega) (by omega)]; simp; omega
  have e1 : IntKind.wrap .i64 ((mid : Int) + m) = (mid + m : Nat) := by rw [wrap64_id (by omega) (by omega)]; omega
  have e2 : IntKind.wrap .i64 (((mid + m : Nat) : Int) - w) = (mid + m - w : Nat) := by rw [wrap64_id (by omega) (by omega)]; omega
  have e3 : IntKind.wrap .i64 (((mid + m : Nat) : Int) - b) = ((mid + m : Nat) : Int) - b := wrap64_id (by omega) (by omega)
  have e4 : IntKind.wrap .i64 (((mid + m : Nat) : Int) - 1) = (mid + m - 1 : Nat) := by rw [wrap64_id (by omega) (by omega)]; omega
  have L8 : ∀ (n i j : Nat), j - i ≤ n → s0 ≤ i → i ≤ j → j ≤ r0 → Exec (VCall P) ps_slices_symMergeCmpFunc_float32_ (.loop (b_slices_symMergeCmpFunc_float32__L8 g1 f)) (h_slices_symMergeCmpFunc_float32__L8 xs a m b F 0 0 w i j) (.exit 8)
      (h_slices_symMergeCmpFunc_float32__L8 xs a m b F 0 0 w (bsM (fun c => decide (KS (xs.getD (mid + m - 1 - c) 0) < KS (xs.getD c 0))) n i j) (bsM (fun c => decide (KS (xs.getD (mid + m - 1 - c) 0) < KS (xs.getD c 0))) n i j)) := by
    intro n
    induction n with
    | zero =>
      intro i j hn hi hij hj
      have : i = j := by omega
      subst this
      refine Exec.loopX (q_slices_symMergeCmpFunc_float32__L8 _ _ _ _ _ _ _ _ _ _ ?_) (by simp)
      simp only [bsM]
      repeat' (first | with_reducible refine T.ok_ob ?_ (fun _ => ?_) | with_reducible refine T.ok_ite (fun _ => ?_) (fun _ => ?_) | with_reducible refine T.ok_leaf ?_)
      all_goals (try simp only [decide_eq_true_eq, decide_eq_false_iff_not, Bool.not_eq_true', Bool.not_eq_false', Bool.not_eq_eq_eq_not, Bool.not_true, Bool.not_false, Int.toNat_natCast, tab_len, List.length_append, List.length_singleton, List.length_cons, List.length_nil, List.length_drop, List.length_take, getD_drop', getD_nat, reduceCtorEq] at *)
      all_goals (try simp (disch := omega) only [wrap64_id] at *)
      all_goals first | omega | (exfalso; omega) | exact True.intro | skip
      all_goals rfl
    | succ n ihn =>
      intro i j hn hi hij hj
      by_cases c : i < j
      · have hr0 : r0 ≤ mid ∧ r0 ≤ m := by
          rw [er0]; split <;> omega
        have hh := half_w i j (by omega)
        have hlt : i ≤ (i + j) / 2 ∧ (i + j) / 2 < j := by omega
        have hrange : mid + m - 1 - (i + j) / 2 < xs.length := by
          have : mid + m - b ≤ s0 := by rw [es0]; split <;> omega
          omega
        have hp : decide (signM (xs.getD (mid + m - 1 - (i + j) / 2) 0) (xs.getD ((i + j) / 2) 0) < 0) = decide (KS (xs.getD (mid + m - 1 - (i + j) / 2) 0) < KS (xs.getD ((i + j) / 2) 0)) := sign_lt (hN _) (hN _)
        have f1 : IntKind.wrap .i64 ((((i + j) / 2 : Nat) : Int) + 1) = ((i + j) / 2 + 1 : Nat) := by rw [wrap64_id (by omega) (by omega)]; omega
        have f2 : IntKind.wrap .i64 (((mid + m - 1 : Nat) : Int) - ((i + j) / 2 : Nat)) = (mid + m - 1 - (i + j) / 2 : Nat) := by rw [wrap64_id (by omega) (by omega)]; omega
        cases hk : decide (KS (xs.getD (mid + m - 1 - (i + j) / 2) 0) < KS (xs.getD ((i + j) / 2) 0))
        · have e : bsM (fun c => decide (KS (xs.getD (mid + m - 1 - c) 0) < KS (xs.getD c 0))) (n + 1) i j = bsM (fun c => decide (KS (xs.getD (mid + m - 1 - c) 0) < KS (xs.getD c 0))) n ((i + j) / 2 + 1) j := by
            rw [bsM, if_pos c, hk]; rfl
          rw [e]
          refine Exec.loopN (q_slices_symMergeCmpFunc_float32__L8 _ _ _ _ _ _ _ _ _ _ ?_) (ihn ((i + j) / 2 + 1) j (by omega) (by omega) (by omega) hj)
          rw [hw, hh, e1, e4, f1, f2]
          simp only [Int.toNat_natCast]
          rw [hp, hk]
          generalize (i + j) / 2 = c at *
          repeat' (first | with_reducible refine T.ok_ob ?_ (fun _ => ?_) | with_reducible refine T.ok_ite (fun _ => ?_) (fun _ => ?_) | with_reducible refine T.ok_leaf ?_)
          all_goals (try simp only [decide_eq_true_eq, decide_eq_false_iff_not, Bool.not_eq_true', Bool.not_eq_false', Bool.not_eq_eq_eq_not, Bool.not_true, Bool.not_false, Int.toNat_natCast, tab_len, List.length_append, List.length_singleton, List.length_cons, List.length_nil, List.length_drop, List.length_take, getD_drop', getD_nat, reduceCtorEq] at *)
          all_goals (try simp (disch := omega) only [wrap64_id] at *)
          all_goals first | omega | (exfalso; omega) | exact True.intro | skip
          all_goals first | exact hF _ _ | rfl
        · have e : bsM (fun c => decide (KS (xs.getD (mid + m - 1 - c) 0) < KS (xs.getD c 0))) (n + 1) i j = bsM (fun c => decide (KS (xs.getD (mid + m - 1 - c) 0) < KS (xs.getD c 0))) n i ((i + j) / 2) := by
            rw [bsM, if_pos c, hk]; rfl
          rw [e]
          refine Exec.loopN (q_slices_symMergeCmpFunc_float32__L8 _ _ _ _ _ _ _ _ _ _ ?_) (ihn i ((i + j) / 2) (by omega) (by omega) (by omega) (by omega))
          rw [hw, hh, e1, e4, f1, f2]
          simp only [Int.toNat_natCast]
          rw [hp, hk]
          generalize (i + j) / 2 = c at *
          repeat' (first | with_reducible refine T.ok_ob ?_ (fun _ => ?_) | with_reducible refine T.ok_ite (fun _ => ?_) (fun _ => ?_) | with_reducible refine T.ok_leaf ?_)
          all_goals (try simp only [decide_eq_true_eq, decide_eq_false_iff_not, Bool.not_eq_true', Bool.not_eq_false', Bool.not_eq_eq_eq_not, Bool.not_true, Bool.not_false, Int.toNat_natCast, tab_len, List.length_append, List.length_singleton, List.length_cons, List.length_nil, List.length_drop, List.length_take, getD_drop', getD_nat, reduceCtorEq] at *)
          all_goals (try simp (disch := omega) only [wrap64_id] at *)
          all_goals first | omega | (exfalso; omega) | exact True.intro | skip
          all_goals first | exact hF _ _ | rfl
      · have : i = j := by omega
        subst this
        refine Exec.loopX (q_slices_symMergeCmpFunc_float32__L8 _ _ _ _ _ _ _ _ _ _ ?_) (by simp)
        rw [bsM, if_neg (by omega)]
        repeat' (first | with_reducible refine T.ok_ob ?_ (fun _ => ?_) | with_reducible refine T.ok_ite (fun _ => ?_) (fun _ => ?_) | with_reducible refine T.ok_leaf ?_)
        all_goals (try simp only [decide_eq_true_eq, decide_eq_false_iff_not, Bool.not_eq_true', Bool.not_eq_false', Bool.not_eq_eq_eq_not, Bool.not_true, Bool.not_false, Int.toNat_natCast, tab_len, List.length_append, List.length_singleton, List.length_cons, List.length_nil, List.length_drop, List.length_take, getD_drop', getD_nat, reduceCtorEq] at *)
        all_goals (try simp (disch := omega) only [wrap64_id] at *)
        all_goals first | omega | (exfalso; omega) | exact True.intro | skip
        all_goals rfl
  have x8 := block_of (L8 (r0 - s0) s0 r0 (Nat.le_refl _) (Nat.le_refl _) o1 (Nat.le_refl _))
  rw [← eb] at x8
  have rc := c1 xs w m (mid + m - w : Nat) F _ _ rfl
  have m1 := fun q1 q2 => ih L a w mid q1 q2 (by omega) sL1 sL2 oL (by omega) (by omega)
  have m2 := fun q1 q2 => ih (srt KS L a mid) mid (mid + m - w) b q1 q2 (by omega) sM1 sM2 oM (by omega) (by omega)
  have m3 := fun q1 q2 => ih L mid (mid + m - w) b q1 q2 (by omega) sL3 sL4 oL (by omega) (by omega)
  have lS := srt_len (K := KS) xs a b (by omega) h3
  have lM2 : (srt KS (srt KS L a mid) mid b).length = xs.length := by rw [srt_len _ _ _ (by omega) (by omega), lM]
  have leaf1 := fin
  have leaf2 : ¬(mid < mid + m - w ∧ mid + m - w < b) → srt KS L a mid = srt KS xs a b := fun q => by rw [← n2 q]; exact fin
  have leaf3 : ¬(a < w ∧ w < mid) → srt KS L mid b = srt KS xs a b := fun q => by rw [n1 q] at fin; exact fin
  have leaf4 : ¬(a < w ∧ w < mid) → ¬(mid < mid + m - w ∧ mid + m - w < b) → L = srt KS xs a b := fun q1 q2 => by rw [n2 q2, n1 q1] at fin; exact fin
  rw [hw, e1, e2, e3, ec, ed]
  simp only [Int.toNat_natCast] at rc ⊢
  rw [eL] at rc ⊢
  have x8a : mid < m → Exec (VCall P) ps_slices_symMergeCmpFunc_float32_ (.block 8 (.loop (b_slices_symMergeCmpFunc_float32__L8 g1 f))) (h_slices_symMergeCmpFunc_float32__L8 xs a m b F 0 0 w (((mid + m : Nat) : Int) - b) mid) .normal (h_slices_symMergeCmpFunc_float32__L8 xs a m b F 0 0 w w w) := fun cm => by
    rw [if_pos cm] at es0 er0
    rw [show ((mid + m : Nat) : Int) - b = (s0 : Int) by omega, ← er0]
    exact x8
  have x8b : ¬ mid < m → Exec (VCall P) ps_slices_symMergeCmpFunc_float32_ (.block 8 (.loop (b_slices_symMergeCmpFunc_float32__L8 g1 f))) (h_slices_symMergeCmpFunc_float32__L8 xs a m b F 0 0 w a m) .normal (h_slices_symMergeCmpFunc_float32__L8 xs a m b F 0 0 w w w) := fun cm => by
    rw [if_neg cm] at es0 er0
    rw [es0, er0] at x8
    exact x8
  clear x8 L8 es0 er0 eb ih c1 s1 s2 cc1 cc2 sL1 sL2 sM1 sM2 sL3 sL4 fin n1 n2 hw e1 e2 e3 e4 ec ed hwd hmd
  by_cases hr : w < m ∧ m < mid + m - w
  · clear n0
    repeat' (first | with_reducible refine T.ok_ob ?_ (fun _ => ?_) | with_reducible refine T.ok_ite (fun _ => ?_) (fun _ => ?_) | with_reducible refine T.ok_leaf ?_)
    all_goals (try simp only [decide_eq_true_eq, decide_eq_false_iff_not] at *)
    all_goals first
      | trivial
      | exact ⟨Int.le_of_lt Int.zero_lt_one, by omega⟩
      | (exfalso; omega)
      | exact x8a (by omega)
      | exact x8b (by omega)
      | exact ⟨rc (by omega) hx, lL.symm, lL.symm, True.intro⟩
      | exact ⟨m1 (by omega) (by omega), by rw [lM, lL], by rw [lM, lL], True.intro⟩
      | exact ⟨m2 (by omega) (by omega), by rw [lM2, lM], by rw [lM2, lM], True.intro⟩
      | exact ⟨m3 (by omega) (by omega), by rw [lR, lL], by rw [lR, lL], True.intro⟩
      | exact ⟨by simp only [lM2, lM, lR, lL], True.intro⟩
      | exact sym_leaf leaf1
      | exact sym_leaf (leaf2 (by omega))
      | exact sym_leaf (leaf3 (by omega))
      | exact sym_leaf (leaf4 (by omega) (by omega))
  · have hL := n0 hr
    subst hL
    clear n0
    repeat' (first | with_reducible refine T.ok_ob ?_ (fun _ => ?_) | with_reducible refine T.ok_ite (fun _ => ?_) (fun _ => ?_) | with_reducible refine T.ok_leaf ?_)
    all_goals (try simp only [decide_eq_true_eq, decide_eq_false_iff_not] at *)
    all_goals first
      | trivial
      | exact ⟨Int.le_of_lt Int.zero_lt_one, by omega⟩
      | (exfalso; omega)
      | exact x8a (by omega)
      | exact x8b (by omega)
      | exact ⟨m1 (by omega) (by omega), by rw [lM], by rw [lM], True.intro⟩
      | exact ⟨m2 (by omega) (by omega), by rw [lM2, lM], by rw [lM2, lM], True.intro⟩
      | exact ⟨m3 (by omega) (by omega), by rw [lR], by rw [lR], True.intro⟩
      | exact ⟨by simp only [lM2, lM, lR], True.intro⟩
      | exact ⟨rfl, True.intro⟩
      | exact sym_leaf leaf1
      | exact sym_leaf (leaf2 (by omega))
      | exact sym_leaf (leaf3 (by omega))
      | exact sym_leaf (leaf4 (by omega) (by omega))
theorem k_slices_symMergeCmpFunc_float32_ {P : Program} {f g1 : FuncId} (h : Is_slices_symMergeCmpFunc_float32_ P f g1 f) (c1 : C_slices_rotateCmpFunc_float32_ P g1) : C_slices_symMergeCmpFunc_float32_ P f := by
  have key : ∀ (N : Nat) (xs : List Nat) (a m b : Nat) (F : FuncId), a < m → m < b → b ≤ xs.length → SR KS xs a m → SR KS xs m b → okM xs → (∀ x y, VCall P F [.f .f32 x, .f .f32 y] (.i .i64 (signM x y))) → xs.length ≤ 5000 → b - a ≤ N →
      VCall P f [OS HI .f32 xs, .i .i64 a, .i .i64 m, .i .i64 b, .fn F []] (AV.M (.tup []) [OS HI .f32 (srt KS xs a b), .i .i64 a, .i .i64 m, .i .i64 b, .fn F []]) := by
    intro N
    induction N with
    | zero => intro xs a m b F h1 h2; omega
    | succ N ih =>
      intro xs a m b F h1 h2 h3 s1 s2 hN hF hx hb
      have rl : ∀ s m e, (rotM xs s m e).length = xs.length := fun s m e => rot_len _ _ _ _
      by_cases q1 : m = a + 1
      · subst q1
        obtain ⟨b1, b2, b3⟩ := one_up (l := xs) (a := a) (b := b) h2 h3 s2
        generalize hu : bs1 xs a (a + 1 : Nat) b = u at b1 b2 b3
        refine q_slices_symMergeCmpFunc_float32_ h xs a (a + 1 : Nat) b F u 0 0 ?_
        unfold qt_slices_symMergeCmpFunc_float32_
        have ec : (IntKind.wrap .i64 (((a + 1 : Nat) : Int) - a) == 1) = true := by rw [wrap64_id (by omega) (by omega)]; simp; omega
        rw [ec]
        simp only [Int.toNat_natCast]
        have L0 : ∀ (n i j : Nat), j - i ≤ n → a + 1 ≤ i → i ≤ j → j ≤ b → Exec (VCall P) ps_slices_symMergeCmpFunc_float32_ (.loop (b_slices_symMergeCmpFunc_float32__L0 g1 f)) (h_slices_symMergeCmpFunc_float32__L0 xs a (a + 1 : Nat) b F u 0 0 i j) (.exit 0)
            (h_slices_symMergeCmpFunc_float32__L0 xs a (a + 1 : Nat) b F u 0 0 (bsM (fun h => decide (KS (xs.getD a 0) ≤ KS (xs.getD h 0))) n i j) (bsM (fun h => decide (KS (xs.getD a 0) ≤ KS (xs.getD h 0))) n i j)) := by
          intro n
          induction n with
          | zero =>
            intro i j hn hi hij hj
            have : i = j := by omega
            subst this
            refine Exec.loopX (q_slices_symMergeCmpFunc_float32__L0 _ _ _ _ _ _ _ _ _ _ ?_) (by simp)
            simp only [bsM]
            repeat' (first | with_reducible refine T.ok_ob ?_ (fun _ => ?_) | with_reducible refine T.ok_ite (fun _ => ?_) (fun _ => ?_) | with_reducible refine T.ok_leaf ?_)
            all_goals (try simp only [decide_eq_true_eq, decide_eq_false_iff_not, Bool.not_eq_true', Bool.not_eq_false', Bool.not_eq_eq_eq_not, Bool.not_true, Bool.not_false, Int.toNat_natCast, tab_len, List.length_append, List.length_singleton, List.length_cons, List.length_nil, List.length_drop, List.length_take, getD_drop', getD_nat, reduceCtorEq] at *)
            all_goals (try simp (disch := omega) only [wrap64_id] at *)
            all_goals first | omega | (exfalso; omega) | exact True.intro | skip
            all_goals rfl
          | succ n ihn =>
            intro i j hn hi hij hj
            by_cases c : i < j
            · have hw := half_w i j (by omega)
              have hp : decide (signM (xs.getD ((i + j) / 2) 0) (xs.getD a 0) < 0) = !decide (KS (xs.getD a 0) ≤ KS (xs.getD ((i + j) / 2) 0)) := by
                rw [sign_lt (hN _) (hN _)]
                by_cases hk : KS (xs.getD ((i + j) / 2) 0) < KS (xs.getD a 0)
                · rw [decide_eq_true hk, decide_eq_false (by omega)]; rfl
                · rw [decide_eq_false hk, decide_eq_true (by omega)]; rfl
              have e1 : IntKind.wrap .i64 ((((i + j) / 2 : Nat) : Int) + 1) = ((i + j) / 2 + 1 : Nat) := by rw [wrap64_id (by omega) (by omega)]; omega
              cases hk : decide (KS (xs.getD a 0) ≤ KS (xs.getD ((i + j) / 2) 0))
              · have e : bsM (fun h => decide (KS (xs.getD a 0) ≤ KS (xs.getD h 0))) (n + 1) i j = bsM (fun h => decide (KS (xs.getD a 0) ≤ KS (xs.getD h 0))) n ((i + j) / 2 + 1) j := by
                  rw [bsM, if_pos c, hk]; rfl
                rw [e]
                refine Exec.loopN (q_slices_symMergeCmpFunc_float32__L0 _ _ _ _ _ _ _ _ _ _ ?_) (ihn ((i + j) / 2 + 1) j (by omega) (by omega) (by omega) hj)
                rw [hw, e1]
                simp only [Int.toNat_natCast]
                rw [hp, hk]
                repeat' (first | with_reducible refine T.ok_ob ?_ (fun _ => ?_) | with_reducible refine T.ok_ite (fun _ => ?_) (fun _ => ?_) | with_reducible refine T.ok_leaf ?_)
                all_goals (try simp only [decide_eq_true_eq, decide_eq_false_iff_not, Bool.not_eq_true', Bool.not_eq_false', Bool.not_eq_eq_eq_not, Bool.not_true, Bool.not_false, Int.toNat_natCast, tab_len, List.length_append, List.length_singleton, List.length_cons, List.length_nil, List.length_drop, List.length_take, getD_drop', getD_nat, reduceCtorEq] at *)
                all_goals (try simp (disch := omega) only [wrap64_id] at *)
                all_goals first | omega | (exfalso; omega) | exact True.intro | skip
                all_goals first | exact hF _ _ | rfl
              · have e : bsM (fun h => decide (KS (xs.getD a 0) ≤ KS (xs.getD h 0))) (n + 1) i j = bsM (fun h => decide (KS (xs.getD a 0) ≤ KS (xs.getD h 0))) n i ((i + j) / 2) := by
                  rw [bsM, if_pos c, hk]; rfl
                rw [e]
                refine Exec.loopN (q_slices_symMergeCmpFunc_float32__L0 _ _ _ _ _ _ _ _ _ _ ?_) (ihn i ((i + j) / 2) (by omega) (by omega) (by omega) (by omega))
                rw [hw, e1]
                simp only [Int.toNat_natCast]
                rw [hp, hk]
                repeat' (first | with_reducible refine T.ok_ob ?_ (fun _ => ?_) | with_reducible refine T.ok_ite (fun _ => ?_) (fun _ => ?_) | with_reducible refine T.ok_leaf ?_)
                all_goals (try simp only [decide_eq_true_eq, decide_eq_false_iff_not, Bool.not_eq_true', Bool.not_eq_false', Bool.not_eq_eq_eq_not, Bool.not_true, Bool.not_false, Int.toNat_natCast, tab_len, List.length_append, List.length_singleton, List.length_cons, List.length_nil, List.length_drop, List.length_take, getD_drop', getD_nat, reduceCtorEq] at *)
                all_goals (try simp (disch := omega) only [wrap64_id] at *)
                all_goals first | omega | (exfalso; omega) | exact True.intro | skip
                all_goals first | exact hF _ _ | rfl
            · have : i = j := by omega
              subst this
              refine Exec.loopX (q_slices_symMergeCmpFunc_float32__L0 _ _ _ _ _ _ _ _ _ _ ?_) (by simp)
              rw [bsM, if_neg (by omega)]
              repeat' (first | with_reducible refine T.ok_ob ?_ (fun _ => ?_) | with_reducible refine T.ok_ite (fun _ => ?_) (fun _ => ?_) | with_reducible refine T.ok_leaf ?_)
              all_goals (try simp only [decide_eq_true_eq, decide_eq_false_iff_not, Bool.not_eq_true', Bool.not_eq_false', Bool.not_eq_eq_eq_not, Bool.not_true, Bool.not_false, Int.toNat_natCast, tab_len, List.length_append, List.length_singleton, List.length_cons, List.length_nil, List.length_drop, List.length_take, getD_drop', getD_nat, reduceCtorEq] at *)
              all_goals (try simp (disch := omega) only [wrap64_id] at *)
              all_goals first | omega | (exfalso; omega) | exact True.intro | skip
              all_goals rfl
        have eu : bsM (fun h => decide (KS (xs.getD a 0) ≤ KS (xs.getD h 0))) (b - (a + 1)) (a + 1) b = u := by
          rw [← hu]; unfold bs1; simp only [Int.toNat_natCast]
        have x0 := block_of (L0 (b - (a + 1)) (a + 1) b (Nat.le_refl _) (Nat.le_refl _) (by omega) (Nat.le_refl _))
        rw [eu] at x0
        have x2 : Exec (VCall P) ps_slices_symMergeCmpFunc_float32_ (.block 2 (.loop (b_slices_symMergeCmpFunc_float32__L2 g1 f))) (h_slices_symMergeCmpFunc_float32__L2 xs a (a + 1 : Nat) b F u 0 0 xs a) .normal (h_slices_symMergeCmpFunc_float32__L2 xs a (a + 1 : Nat) b F u 0 0 (rotM xs a (a + 1) u) ((u : Int) - 1)) := by
          have ew : IntKind.wrap .i64 ((u : Int) - 1) = (u : Int) - 1 := wrap64_id (by omega) (by omega)
          refine for_up (e := .exit 2) (u - 1 - a) (fun k => h_slices_symMergeCmpFunc_float32__L2 xs a (a + 1 : Nat) b F u 0 0 (rotM xs a (a + 1) (a + k + 1)) (a + k : Nat)) ?_ (fun k hk => ?_) ?_
          · simp only [Nat.add_zero]
            rw [rot_none xs a (a + 1) (a + 1) (.inr rfl) (by omega) (Nat.le_refl _)]
          · refine q_slices_symMergeCmpFunc_float32__L2 _ _ _ _ _ _ _ _ _ _ ?_
            have e1 : IntKind.wrap .i64 (((a + k : Nat) : Int) + 1) = (a + k + 1 : Nat) := by rw [wrap64_id (by omega) (by omega)]; omega
            have hl := rl a (a + 1) (a + k + 1)
            rw [ew, e1]
            simp only [Int.toNat_natCast, Nat.zero_add, Nat.sub_zero]
            have es : ((rotM xs a (a + 1) (a + k + 1)).set (a + k) ((rotM xs a (a + 1) (a + k + 1)).getD (a + k + 1) 0)).set (a + k + 1) ((rotM xs a (a + 1) (a + k + 1)).getD (a + k) 0) = rotM xs a (a + 1) (a + (k + 1) + 1) := rot_up (by omega) (by omega)
            rw [es]
            repeat' (first | with_reducible refine T.ok_ob ?_ (fun _ => ?_) | with_reducible refine T.ok_ite (fun _ => ?_) (fun _ => ?_) | with_reducible refine T.ok_leaf ?_)
            all_goals (try simp only [decide_eq_true_eq, decide_eq_false_iff_not, Bool.not_eq_true', Bool.not_eq_false', Bool.not_eq_eq_eq_not, Bool.not_true, Bool.not_false, Int.toNat_natCast, tab_len, List.length_append, List.length_singleton, List.length_cons, List.length_nil, List.length_drop, List.length_take, getD_drop', getD_nat, reduceCtorEq] at *)
            all_goals (try simp (disch := omega) only [wrap64_id] at *)
            all_goals first | omega | (exfalso; omega) | exact True.intro | skip
            all_goals first | rfl | (simp; omega)
          · refine q_slices_symMergeCmpFunc_float32__L2 _ _ _ _ _ _ _ _ _ _ ?_
            rw [ew, show a + (u - 1 - a) + 1 = u by omega, show ((a + (u - 1 - a) : Nat) : Int) = (u : Int) - 1 by omega]
            repeat' (first | with_reducible refine T.ok_ob ?_ (fun _ => ?_) | with_reducible refine T.ok_ite (fun _ => ?_) (fun _ => ?_) | with_reducible refine T.ok_leaf ?_)
            all_goals (try simp only [decide_eq_true_eq, decide_eq_false_iff_not, Bool.not_eq_true', Bool.not_eq_false', Bool.not_eq_eq_eq_not, Bool.not_true, Bool.not_false, Int.toNat_natCast, tab_len, List.length_append, List.length_singleton, List.length_cons, List.length_nil, List.length_drop, List.length_take, getD_drop', getD_nat, reduceCtorEq] at *)
            all_goals (try simp (disch := omega) only [wrap64_id] at *)
            all_goals first | omega | (exfalso; omega) | exact True.intro | skip
            all_goals rfl
        rw [b3] at x2 ⊢
        have sl := srt_len (K := KS) xs a b (by omega) h3
        repeat' (first | with_reducible refine T.ok_ob ?_ (fun _ => ?_) | with_reducible refine T.ok_ite (fun _ => ?_) (fun _ => ?_) | with_reducible refine T.ok_leaf ?_)
        all_goals (try simp only [decide_eq_true_eq, decide_eq_false_iff_not, Bool.not_eq_true', Bool.not_eq_false', Bool.not_eq_eq_eq_not, Bool.not_true, Bool.not_false, Int.toNat_natCast, tab_len, List.length_append, List.length_singleton, List.length_cons, List.length_nil, List.length_drop, List.length_take, getD_drop', getD_nat, reduceCtorEq] at *)
        all_goals (try simp (disch := omega) only [wrap64_id] at *)
        all_goals first | omega | (exfalso; omega) | exact True.intro | skip
        all_goals first | exact x0 | exact x2 | exact ⟨sl.symm, trivial⟩ | rfl
      · by_cases q2 : b = m + 1
        · subst q2
          obtain ⟨b1, b2, b3⟩ := one_down (l := xs) (a := a) (m := m) h1 h3 s1
          generalize hv : bs2 xs a m (m + 1 : Nat) = v at b1 b2 b3
          refine q_slices_symMergeCmpFunc_float32_ h xs a m (m + 1 : Nat) F 0 v 0 ?_
          unfold qt_slices_symMergeCmpFunc_float32_
          have ec : (IntKind.wrap .i64 ((m : Int) - a) == 1) = false := by rw [wrap64_id (by omega) (by omega)]; simp; omega
          have ed : (IntKind.wrap .i64 (((m + 1 : Nat) : Int) - m) == 1) = true := by rw [wrap64_id (by omega) (by omega)]; simp; omega
          rw [ec, ed]
          simp only [Int.toNat_natCast]
          have L4 : ∀ (n i j : Nat), j - i ≤ n → a ≤ i → i ≤ j → j ≤ m → Exec (VCall P) ps_slices_symMergeCmpFunc_float32_ (.loop (b_slices_symMergeCmpFunc_float32__L4 g1 f)) (h_slices_symMergeCmpFunc_float32__L4 xs a m (m + 1 : Nat) F 0 v 0 i j) (.exit 4)
              (h_slices_symMergeCmpFunc_float32__L4 xs a m (m + 1 : Nat) F 0 v 0 (bsM (fun h => decide (KS (xs.getD m 0) < KS (xs.getD h 0))) n i j) (bsM (fun h => decide (KS (xs.getD m 0) < KS (xs.getD h 0))) n i j)) := by
            intro n
            induction n with
            | zero =>
              intro i j hn hi hij hj
              have : i = j := by omega
              subst this
              refine Exec.loopX (q_slices_symMergeCmpFunc_float32__L4 _ _ _ _ _ _ _ _ _ _ ?_) (by simp)
              simp only [bsM]
              repeat' (first | with_reducible refine T.ok_ob ?_ (fun _ => ?_) | with_reducible refine T.ok_ite (fun _ => ?_) (fun _ => ?_) | with_reducible refine T.ok_leaf ?_)
              all_goals (try simp only [decide_eq_true_eq, decide_eq_false_iff_not, Bool.not_eq_true', Bool.not_eq_false', Bool.not_eq_eq_eq_not, Bool.not_true, Bool.not_false, Int.toNat_natCast, tab_len, List.length_append, List.length_singleton, List.length_cons, List.length_nil, List.length_drop, List.length_take, getD_drop', getD_nat, reduceCtorEq] at *)
              all_goals (try simp (disch := omega) only [wrap64_id] at *)
              all_goals first | omega | (exfalso; omega) | exact True.intro | skip
              all_goals rfl
            | succ n ihn =>
              intro i j hn hi hij hj
              by_cases c : i < j
              · have hw := half_w i j (by omega)
                have hp : decide (signM (xs.getD m 0) (xs.getD ((i + j) / 2) 0) < 0) = decide (KS (xs.getD m 0) < KS (xs.getD ((i + j) / 2) 0)) := sign_lt (hN _) (hN _)
                have e1 : IntKind.wrap .i64 ((((i + j) / 2 : Nat) : Int) + 1) = ((i + j) / 2 + 1 : Nat) := by rw [wrap64_id (by omega) (by omega)]; omega
                cases hk : decide (KS (xs.getD m 0) < KS (xs.getD ((i + j) / 2) 0))
                · have e : bsM (fun h => decide (KS (xs.getD m 0) < KS (xs.getD h 0))) (n + 1) i j = bsM (fun h => decide (KS (xs.getD m 0) < KS (xs.getD h 0))) n ((i + j) / 2 + 1) j := by
                    rw [bsM, if_pos c, hk]; rfl
                  rw [e]
                  refine Exec.loopN (q_slices_symMergeCmpFunc_float32__L4 _ _ _ _ _ _ _ _ _ _ ?_) (ihn ((i + j) / 2 + 1) j (by omega) (by omega) (by omega) hj)
                  rw [hw, e1]
                  simp only [Int.toNat_natCast]
                  rw [hp, hk]
                  repeat' (first | with_reducible refine T.ok_ob ?_ (fun _ => ?_) | with_reducible refine T.ok_ite (fun _ => ?_) (fun _ => ?_) | with_reducible refine T.ok_leaf ?_)
                  all_goals (try simp only [decide_eq_true_eq, decide_eq_false_iff_not, Bool.not_eq_true', Bool.not_eq_false', Bool.not_eq_eq_eq_not, Bool.not_true, Bool.not_false, Int.toNat_natCast, tab_len, List.length_append, List.length_singleton, List.length_cons, List.length_nil, List.length_drop, List.length_take, getD_drop', getD_nat, reduceCtorEq] at *)
                  all_goals (try simp (disch := omega) only [wrap64_id] at *)
                  all_goals first | omega | (exfalso; omega) | exact True.intro | skip
                  all_goals first | exact hF _ _ | rfl
                · have e : bsM (fun h => decide (KS (xs.getD m 0) < KS (xs.getD h 0))) (n + 1) i j = bsM (fun h => decide (KS (xs.getD m 0) < KS (xs.getD h 0))) n i ((i + j) / 2) := by
                    rw [bsM, if_pos c, hk]; rfl
                  rw [e]
                  refine Exec.loopN (q_slices_symMergeCmpFunc_float32__L4 _ _ _ _ _ _ _ _ _ _ ?_) (ihn i ((i + j) / 2) (by omega) (by omega) (by omega) (by omega))
                  rw [hw, e1]
                  simp only [Int.toNat_natCast]
                  rw [hp, hk]
                  repeat' (first | with_reducible refine T.ok_ob ?_ (fun _ => ?_) | with_reducible refine T.ok_ite (fun _ => ?_) (fun _ => ?_) | with_reducible refine T.ok_leaf ?_)
                  all_goals (try simp only [decide_eq_true_eq, decide_eq_false_iff_not, Bool.not_eq_true', Bool.not_eq_false', Bool.not_eq_eq_eq_not, Bool.not_true, Bool.not_false, Int.toNat_natCast, tab_len, List.length_append, List.length_singleton, List.length_cons, List.length_nil, List.length_drop, List.length_take, getD_drop', getD_nat, reduceCtorEq] at *)
                  all_goals (try simp (disch := omega) only [wrap64_id] at *)
                  all_goals first | omega | (exfalso; omega) | exact True.intro | skip
                  all_goals first | exact hF _ _ | rfl
              · have : i = j := by omega
                subst this
                refine Exec.loopX (q_slices_symMergeCmpFunc_float32__L4 _ _ _ _ _ _ _ _ _ _ ?_) (by simp)
                rw [bsM, if_neg (by omega)]
                repeat' (first | with_reducible refine T.ok_ob ?_ (fun _ => ?_) | with_reducible refine T.ok_ite (fun _ => ?_) (fun _ => ?_) | with_reducible refine T.ok_leaf ?_)
                all_goals (try simp only [decide_eq_true_eq, decide_eq_false_iff_not, Bool.not_eq_true', Bool.not_eq_false', Bool.not_eq_eq_eq_not, Bool.not_true, Bool.not_false, Int.toNat_natCast, tab_len, List.length_append, List.length_singleton, List.length_cons, List.length_nil, List.length_drop, List.length_take, getD_drop', getD_nat, reduceCtorEq] at *)
                all_goals (try simp (disch := omega) only [wrap64_id] at *)
                all_goals first | omega | (exfalso; omega) | exact True.intro | skip
                all_goals rfl
          have ev : bsM (fun h => decide (KS (xs.getD m 0) < KS (xs.getD h 0))) (m - a) a m = v := by
            rw [← hv]; unfold bs2; simp only [Int.toNat_natCast]
          have x4 := block_of (L4 (m - a) a m (Nat.le_refl _) (Nat.le_refl _) (by omega) (Nat.le_refl _))
          rw [ev] at x4
          have x6 : Exec (VCall P) ps_slices_symMergeCmpFunc_float32_ (.block 6 (.loop (b_slices_symMergeCmpFunc_float32__L6 g1 f))) (h_slices_symMergeCmpFunc_float32__L6 xs a m (m + 1 : Nat) F 0 v 0 xs m) .normal (h_slices_symMergeCmpFunc_float32__L6 xs a m (m + 1 : Nat) F 0 v 0 (rotM xs v m (m + 1)) v) := by
            refine for_up (e := .exit 6) (m - v) (fun k => h_slices_symMergeCmpFunc_float32__L6 xs a m (m + 1 : Nat) F 0 v 0 (rotM xs (m - k) m (m + 1)) (m - k : Nat)) ?_ (fun k hk => ?_) ?_
            · simp only [Nat.sub_zero]
              rw [rot_none xs m m (m + 1) (.inl rfl) (Nat.le_refl _) (by omega)]
            · refine q_slices_symMergeCmpFunc_float32__L6 _ _ _ _ _ _ _ _ _ _ ?_
              obtain ⟨d, hd⟩ : ∃ d, m - k = d + 1 := ⟨m - k - 1, by omega⟩
              rw [hd, show m - (k + 1) = d by omega]
              have e1 : IntKind.wrap .i64 (((d + 1 : Nat) : Int) - 1) = (d : Nat) := by rw [wrap64_id (by omega) (by omega)]; omega
              have hl := rl (d + 1) m (m + 1)
              rw [e1]
              simp only [Int.toNat_natCast, Nat.zero_add, Nat.sub_zero]
              have es : ((rotM xs (d + 1) m (m + 1)).set (d + 1) ((rotM xs (d + 1) m (m + 1)).getD d 0)).set d ((rotM xs (d + 1) m (m + 1)).getD (d + 1) 0) = rotM xs d m (m + 1) := rot_down (by omega) (by omega)
              rw [es]
              repeat' (first | with_reducible refine T.ok_ob ?_ (fun _ => ?_) | with_reducible refine T.ok_ite (fun _ => ?_) (fun _ => ?_) | with_reducible refine T.ok_leaf ?_)
              all_goals (try simp only [decide_eq_true_eq, decide_eq_false_iff_not, Bool.not_eq_true', Bool.not_eq_false', Bool.not_eq_eq_eq_not, Bool.not_true, Bool.not_false, Int.toNat_natCast, tab_len, List.length_append, List.length_singleton, List.length_cons, List.length_nil, List.length_drop, List.length_take, getD_drop', getD_nat, reduceCtorEq] at *)
              all_goals (try simp (disch := omega) only [wrap64_id] at *)
              all_goals first | omega | (exfalso; omega) | exact True.intro | skip
              all_goals first | rfl | (simp; omega)
            · refine q_slices_symMergeCmpFunc_float32__L6 _ _ _ _ _ _ _ _ _ _ ?_
              rw [show m - (m - v) = v by omega]
              repeat' (first | with_reducible refine T.ok_ob ?_ (fun _ => ?_) | with_reducible refine T.ok_ite (fun _ => ?_) (fun _ => ?_) | with_reducible refine T.ok_leaf ?_)
              all_goals (try simp only [decide_eq_true_eq, decide_eq_false_iff_not, Bool.not_eq_true', Bool.not_eq_false', Bool.not_eq_eq_eq_not, Bool.not_true, Bool.not_false, Int.toNat_natCast, tab_len, List.length_append, List.length_singleton, List.length_cons, List.length_nil, List.length_drop, List.length_take, getD_drop', getD_nat, reduceCtorEq] at *)
              all_goals (try simp (disch := omega) only [wrap64_id] at *)
              all_goals first | omega | (exfalso; omega) | exact True.intro | skip
              all_goals rfl
          rw [b3] at x6 ⊢
          have sl := srt_len (K := KS) xs a (m + 1) (by omega) h3
          repeat' (first | with_reducible refine T.ok_ob ?_ (fun _ => ?_) | with_reducible refine T.ok_ite (fun _ => ?_) (fun _ => ?_) | with_reducible refine T.ok_leaf ?_)
          all_goals (try simp only [decide_eq_true_eq, decide_eq_false_iff_not, Bool.not_eq_true', Bool.not_eq_false', Bool.not_eq_eq_eq_not, Bool.not_true, Bool.not_false, Int.toNat_natCast, tab_len, List.length_append, List.length_singleton, List.length_cons, List.length_nil, List.length_drop, List.length_take, getD_drop', getD_nat, reduceCtorEq] at *)
          all_goals (try simp (disch := omega) only [wrap64_id] at *)
          all_goals first | omega | (exfalso; omega) | exact True.intro | skip
          all_goals first | exact x4 | exact x6 | exact ⟨sl.symm, trivial⟩ | rfl
        · exact sym_gen h c1 (fun xs a m b h1 h2 h3 s1 s2 hN hx hb => ih xs a m b F h1 h2 h3 s1 s2 hN hF hx hb) (by omega) (by omega) h3 s1 s2 hN hF hx hb
  intro xs a m b F u v w hu hv hw hab hs ht hN hF hx
  obtain ⟨a, rfl⟩ : ∃ a' : Nat, a = a' := ⟨a.toNat, by omega⟩
  obtain ⟨m, rfl⟩ : ∃ m' : Nat, m = m' := ⟨m.toNat, by omega⟩
  obtain ⟨b, rfl⟩ : ∃ b' : Nat, b = b' := ⟨b.toNat, by omega⟩
  simp only [Int.toNat_natCast] at hs ht ⊢
  exact key (b - a) xs a m b F (by omega) (by omega) (by omega) hs ht hN hF hx (Nat.le_refl _)
end Go.Proofs.LV
