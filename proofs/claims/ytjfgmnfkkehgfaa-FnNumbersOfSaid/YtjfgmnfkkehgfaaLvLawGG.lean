/- The law FnNumbersOf. -/
import Derived.Test.YtjfgmnfkkehgfaaLvNum3X
import Derived.Test.YtjfgmnfkkehgfaaLvRatTX
import Derived.Test.YtjfgmnfkkehgfaaLvAbsX
import Derived.Test.YtjfgmnfkkehgfaaLvFnOO
import Derived.Test.YtjfgmnfkkehgfaaLvFnRX
import Derived.Test.YtjfgmnfkkehgfaaLvFnQQ
import Derived.Test.YtjfgmnfkkehgfaaLvFnGX
namespace Go.Proofs.LV
open Go Ieee
set_option linter.unusedVariables false
set_option linter.unusedSimpArgs false

def nN (ms : List Int) : Nat := (1 + atM ms 40 20).toNat
def nX (cs ms : List Int) : List Nat := s2L cs 0 0 (nN ms)
def nS (ms : List Int) : Nat := fdiv .f32 (fofi .f32 (atM ms 41 17)) 1098907648
def nB (ms : List Int) : Nat := fdiv .f32 (fofi .f32 (atM ms 42 8)) 1073741824
def nMean (cs ms : List Int) : Nat := meanM (nX cs ms)
def nSpr (cs ms : List Int) : Nat := spreadM (nX cs ms)
def nMed (cs ms : List Int) : Nat := medM (nX cs ms)
def nQ (cs ms : List Int) : Nat := qV (nX cs ms) (nS ms)
def nLo (cs ms : List Int) : Nat := qV (nX cs ms) 0
def nHi (cs ms : List Int) : Nat := qV (nX cs ms) 1065353216
def nHalf (cs ms : List Int) : Nat := qV (nX cs ms) 1056964608
def nRk (cs ms : List Int) : List Nat := rkM (nX cs ms)
def nSum (cs ms : List Int) (n : Nat) : Nat := accN (fun i s => fadd .f64 s (fconv .f32 .f64 ((nRk cs ms).getD i 0))) n 0
def nEk (cs ms : List Int) : Bool := evenOk (nX cs ms)
def nEv (cs ms : List Int) : List Nat := if nEk cs ms = true then evenM (nX cs ms) else []
def nEm (cs ms : List Int) : Nat := meanM (nEv cs ms)
def nEs (cs ms : List Int) : Nat := spreadM (nEv cs ms)
def nW (cs ms : List Int) : Nat := farW (nX cs ms) (nB ms)
def nFo (cs ms : List Int) : List Int := foM (nX cs ms) (nMed cs ms) (nW cs ms)
def nTm (cs ms : List Int) : List Nat := tmM (nX cs ms) (nMed cs ms) (nW cs ms)
def nAt (cs ms : List Int) (n : Nat) : Int := (foN (nX cs ms) (nMed cs ms) (nW cs ms) n).length

open Go.IntKind (wrap)
-- FN laws_FnNumbersOf
def ps_laws_FnNumbersOf : List Nat := [0, 1, 4, 5, 6, 7, 8, 9, 10, 11, 12, 13, 14, 15, 16, 17, 18, 19, 20, 21, 22, 23, 24, 25, 26, 27, 28, 29, 30, 31, 32, 33, 34, 35, 36, 37, 38, 39, 40, 41, 44, 182, 185, 224, 227, 248, 258, 267, 268, 294, 355, 358, 372, 387, 396]
def lv_laws_FnNumbersOf_L0 : List Nat := [1, 5, 6, 7, 9, 11, 16, 18, 22, 24, 25]
def lv_laws_FnNumbersOf_L2 : List Nat := [1, 5, 6, 7, 9, 11, 16, 18, 22, 24, 25, 26]
def lv_laws_FnNumbersOf_L4 : List Nat := [5, 6, 11, 34, 36, 40, 41]
def b_laws_FnNumbersOf_L2 (gq0 gq1 gq2 gq3 gq4 gq5 gq6 gq7 gq8 gq9 gq10 gq11 gq12 gq13 : FuncId) : VCode :=
 (.seq
 (.seq
 (.region false [
 ⟨some 225, .mv, [.t 26], none⟩,
 ⟨some 226, .mv, [.t 5], none⟩,
 ⟨some 227, (.bin .lss), [.t 225, .t 226], none⟩])
 (.cond (.t 227)
 .skip
 (.exit 2)))
 (.seq
 (.block 3
 (.seq
 (.region true [
 ⟨some 230, .mv, [.t 6], none⟩,
 ⟨some 231, .mv, [.t 25], none⟩,
 ⟨some 232, .iaddr, [.t 230, .t 231], none⟩,
 ⟨some 233, .load, [.t 232], none⟩,
 ⟨some 234, .mv, [.t 6], none⟩,
 ⟨some 235, .mv, [.t 26], none⟩,
 ⟨some 236, .iaddr, [.t 234, .t 235], none⟩,
 ⟨some 237, .load, [.t 236], none⟩,
 ⟨some 238, (.bin .lss), [.t 233, .t 237], none⟩,
 ⟨some 239, .mv, [.t 22], none⟩,
 ⟨some 240, .mv, [.t 25], none⟩,
 ⟨some 241, .iaddr, [.t 239, .t 240], none⟩,
 ⟨some 242, .load, [.t 241], none⟩,
 ⟨some 243, .mv, [.t 22], none⟩,
 ⟨some 244, .mv, [.t 26], none⟩,
 ⟨some 245, .iaddr, [.t 243, .t 244], none⟩,
 ⟨some 246, .load, [.t 245], none⟩,
 ⟨some 247, (.bin .lss), [.t 242, .t 246], none⟩,
 ⟨some 248, (.binb .neq), [.t 238, .t 247], none⟩])
 (.cond (.t 248)
 (.seq
 (.region false [
 ⟨some 4, .mv, [.k (.b false)], none⟩])
 .ret)
 .skip)))
 (.region false [
 ⟨some 228, .mv, [.t 26], none⟩,
 ⟨some 229, (.bin .add), [.t 228, .k (.i .i64 1)], none⟩,
 ⟨some 26, .mv, [.t 229], none⟩])))

def b_laws_FnNumbersOf_L0 (gq0 gq1 gq2 gq3 gq4 gq5 gq6 gq7 gq8 gq9 gq10 gq11 gq12 gq13 : FuncId) : VCode :=
 (.seq
 (.seq
 (.region false [
 ⟨some 183, .mv, [.t 25], none⟩,
 ⟨some 184, .mv, [.t 5], none⟩,
 ⟨some 185, (.bin .lss), [.t 183, .t 184], none⟩])
 (.cond (.t 185)
 .skip
 (.exit 0)))
 (.seq
 (.block 1
 (.seq
 (.region false [
 ⟨some 188, .mv, [.t 24], none⟩,
 ⟨some 189, .mv, [.t 22], none⟩,
 ⟨some 190, .mv, [.t 25], none⟩,
 ⟨some 191, .iaddr, [.t 189, .t 190], none⟩,
 ⟨some 192, .load, [.t 191], none⟩,
 ⟨some 193, (.convF .f64), [.t 192], none⟩,
 ⟨some 194, (.bin .add), [.t 188, .t 193], none⟩,
 ⟨some 24, .mv, [.t 194], none⟩])
 (.seq
 (.seq
 (.region false [
 ⟨some 195, .mv, [.t 6], none⟩,
 ⟨some 196, .mv, [.t 25], none⟩,
 ⟨some 197, .iaddr, [.t 195, .t 196], none⟩,
 ⟨some 198, .load, [.t 197], none⟩,
 ⟨some 199, .mv, [.t 16], none⟩,
 ⟨some 200, (.bin .lss), [.t 198, .t 199], none⟩,
 ⟨some 201, .mv, [.t 200], none⟩,
 ⟨some 202, .mv, [.t 6], some (201, false)⟩,
 ⟨some 203, .mv, [.t 25], some (201, false)⟩,
 ⟨some 204, .iaddr, [.t 202, .t 203], some (201, false)⟩,
 ⟨some 205, .load, [.t 204], some (201, false)⟩,
 ⟨some 206, .mv, [.t 18], some (201, false)⟩,
 ⟨some 207, (.bin .gtr), [.t 205, .t 206], some (201, false)⟩,
 ⟨some 208, .pick, [.t 201, .k (.b true), .t 207], none⟩,
 ⟨some 209, .mv, [.t 208], none⟩,
 ⟨some 210, .mv, [.t 22], some (209, false)⟩,
 ⟨some 211, .mv, [.t 25], some (209, false)⟩,
 ⟨some 212, .iaddr, [.t 210, .t 211], some (209, false)⟩,
 ⟨some 213, .load, [.t 212], some (209, false)⟩,
 ⟨some 214, (.bin .lss), [.t 213, .k (.f .f32 1065353216)], some (209, false)⟩,
 ⟨some 215, .pick, [.t 209, .k (.b true), .t 214], none⟩,
 ⟨some 216, .mv, [.t 215], none⟩,
 ⟨some 217, .mv, [.t 22], some (216, false)⟩,
 ⟨some 218, .mv, [.t 25], some (216, false)⟩,
 ⟨some 219, .iaddr, [.t 217, .t 218], some (216, false)⟩,
 ⟨some 220, .load, [.t 219], some (216, false)⟩,
 ⟨some 221, .mv, [.t 5], some (216, false)⟩,
 ⟨some 222, (.convF .f32), [.t 221], some (216, false)⟩,
 ⟨some 223, (.bin .gtr), [.t 220, .t 222], some (216, false)⟩,
 ⟨some 224, .pick, [.t 216, .k (.b true), .t 223], none⟩])
 (.cond (.t 224)
 (.seq
 (.region false [
 ⟨some 4, .mv, [.k (.b false)], none⟩])
 .ret)
 .skip))
 (.seq
 (.region false [
 ⟨some 26, .mv, [.k (.i .i64 0)], none⟩])
 (.block 2 (.loop (b_laws_FnNumbersOf_L2 gq0 gq1 gq2 gq3 gq4 gq5 gq6 gq7 gq8 gq9 gq10 gq11 gq12 gq13)))))))
 (.region false [
 ⟨some 186, .mv, [.t 25], none⟩,
 ⟨some 187, (.bin .add), [.t 186, .k (.i .i64 1)], none⟩,
 ⟨some 25, .mv, [.t 187], none⟩])))

def b_laws_FnNumbersOf_L4 (gq0 gq1 gq2 gq3 gq4 gq5 gq6 gq7 gq8 gq9 gq10 gq11 gq12 gq13 : FuncId) : VCode :=
 (.seq
 (.seq
 (.region false [
 ⟨some 356, .mv, [.t 41], none⟩,
 ⟨some 357, .mv, [.t 5], none⟩,
 ⟨some 358, (.bin .lss), [.t 356, .t 357], none⟩])
 (.cond (.t 358)
 .skip
 (.exit 4)))
 (.seq
 (.block 5
 (.seq
 (.seq
 (.region false [
 ⟨some 361, .mv, [.t 40], none⟩,
 ⟨some 362, .mv, [.t 34], none⟩,
 ⟨some 363, .len, [.t 362], none⟩,
 ⟨some 364, (.bin .lss), [.t 361, .t 363], none⟩,
 ⟨some 365, .mv, [.t 364], none⟩,
 ⟨some 366, .mv, [.t 34], some (365, true)⟩,
 ⟨some 367, .mv, [.t 40], some (365, true)⟩,
 ⟨some 368, .iaddr, [.t 366, .t 367], some (365, true)⟩,
 ⟨some 369, .load, [.t 368], some (365, true)⟩,
 ⟨some 370, .mv, [.t 41], some (365, true)⟩,
 ⟨some 371, (.bin .eql), [.t 369, .t 370], some (365, true)⟩,
 ⟨some 372, .pick, [.t 365, .t 371, .k (.b false)], none⟩])
 (.cond (.t 372)
 (.seq
 (.region false [
 ⟨some 373, .mv, [.t 40], none⟩,
 ⟨some 374, (.bin .add), [.t 373, .k (.i .i64 1)], none⟩,
 ⟨some 40, .mv, [.t 374], none⟩])
 (.seq
 (.seq
 (.region true [
 ⟨some 375, .mv, [.t 36], none⟩,
 ⟨some 376, .mv, [.t 41], none⟩,
 ⟨some 377, .iaddr, [.t 375, .t 376], none⟩,
 ⟨some 378, .load, [.t 377], none⟩,
 ⟨some 379, .mv, [.t 11], none⟩,
 ⟨some 380, (.call gq9), [.t 378, .t 379], none⟩,
 ⟨some 381, .mv, [.t 6], none⟩,
 ⟨some 382, .mv, [.t 41], none⟩,
 ⟨some 383, .iaddr, [.t 381, .t 382], none⟩,
 ⟨some 384, .load, [.t 383], none⟩,
 ⟨some 385, .mv, [.t 11], none⟩,
 ⟨some 386, (.call gq9), [.t 384, .t 385], none⟩,
 ⟨some 387, (.bin .gtr), [.t 380, .t 386], none⟩])
 (.cond (.t 387)
 (.seq
 (.region false [
 ⟨some 4, .mv, [.k (.b false)], none⟩])
 .ret)
 .skip))
 (.exit 5)))
 .skip))
 (.seq
 (.region true [
 ⟨some 388, .mv, [.t 36], none⟩,
 ⟨some 389, .mv, [.t 41], none⟩,
 ⟨some 390, .iaddr, [.t 388, .t 389], none⟩,
 ⟨some 391, .load, [.t 390], none⟩,
 ⟨some 392, .mv, [.t 6], none⟩,
 ⟨some 393, .mv, [.t 41], none⟩,
 ⟨some 394, .iaddr, [.t 392, .t 393], none⟩,
 ⟨some 395, .load, [.t 394], none⟩,
 ⟨some 396, (.bin .neq), [.t 391, .t 395], none⟩])
 (.cond (.t 396)
 (.seq
 (.region false [
 ⟨some 4, .mv, [.k (.b false)], none⟩])
 .ret)
 .skip))))
 (.region false [
 ⟨some 359, .mv, [.t 41], none⟩,
 ⟨some 360, (.bin .add), [.t 359, .k (.i .i64 1)], none⟩,
 ⟨some 41, .mv, [.t 360], none⟩])))

def b_laws_FnNumbersOf (gq0 gq1 gq2 gq3 gq4 gq5 gq6 gq7 gq8 gq9 gq10 gq11 gq12 gq13 : FuncId) : VCode :=
 (.seq
 (.region false [
 ⟨some 4, .mv, [.k (.b false)], none⟩])
 (.seq
 (.seq
 (.region false [
 ⟨some 42, .mv, [.t 0], none⟩,
 ⟨some 43, .mv, [.t 1], none⟩,
 ⟨some 44, (.call gq0), [.t 42, .t 43], none⟩])
 (.cond (.t 44)
 (.seq
 (.region false [
 ⟨some 4, .mv, [.k (.b true)], none⟩])
 .ret)
 .skip))
 (.seq
 (.region false [
 ⟨some 45, .mv, [.t 1], none⟩,
 ⟨some 46, (.call gq1), [.t 45, .k (.i .i64 40), .k (.i .i64 20)], none⟩,
 ⟨some 47, (.bin .add), [.k (.i .i64 1), .t 46], none⟩,
 ⟨some 5, .mv, [.t 47], none⟩])
 (.seq
 (.region false [
 ⟨some 48, .mv, [.t 0], none⟩,
 ⟨some 49, .mv, [.t 5], none⟩,
 ⟨some 50, (.call gq2), [.t 48, .t 49], none⟩,
 ⟨some 6, .mv, [.t 50], none⟩])
 (.seq
 (.region false [
 ⟨some 52, .mv, [.t 6], none⟩,
 ⟨some 53, (.call gq3), [.t 52], none⟩,
 ⟨some 51, .mv, [.t 53], none⟩,
 ⟨some 54, (.extract 0), [.t 51], none⟩,
 ⟨some 55, (.extract 1), [.t 51], none⟩,
 ⟨some 7, .mv, [.t 54], none⟩,
 ⟨some 8, .mv, [.t 55], none⟩])
 (.seq
 (.region false [
 ⟨some 57, .mv, [.t 6], none⟩,
 ⟨some 58, (.call gq4), [.t 57], none⟩,
 ⟨some 56, .mv, [.t 58], none⟩,
 ⟨some 59, (.extract 0), [.t 56], none⟩,
 ⟨some 60, (.extract 1), [.t 56], none⟩,
 ⟨some 9, .mv, [.t 59], none⟩,
 ⟨some 10, .mv, [.t 60], none⟩])
 (.seq
 (.region false [
 ⟨some 62, .mv, [.t 6], none⟩,
 ⟨some 63, (.call gq5), [.t 62], none⟩,
 ⟨some 61, .mv, [.t 63], none⟩,
 ⟨some 64, (.extract 0), [.t 61], none⟩,
 ⟨some 65, (.extract 1), [.t 61], none⟩,
 ⟨some 11, .mv, [.t 64], none⟩,
 ⟨some 12, .mv, [.t 65], none⟩])
 (.seq
 (.region false [
 ⟨some 66, .mv, [.t 1], none⟩,
 ⟨some 67, (.call gq1), [.t 66, .k (.i .i64 41), .k (.i .i64 17)], none⟩,
 ⟨some 68, (.convF .f32), [.t 67], none⟩,
 ⟨some 69, (.bin .quo), [.t 68, .k (.f .f32 1098907648)], none⟩,
 ⟨some 13, .mv, [.t 69], none⟩])
 (.seq
 (.region false [
 ⟨some 71, .mv, [.t 6], none⟩,
 ⟨some 72, .mv, [.t 13], none⟩,
 ⟨some 73, (.call gq6), [.t 71, .t 72], none⟩,
 ⟨some 70, .mv, [.t 73], none⟩,
 ⟨some 74, (.extract 0), [.t 70], none⟩,
 ⟨some 75, (.extract 1), [.t 70], none⟩,
 ⟨some 14, .mv, [.t 74], none⟩,
 ⟨some 15, .mv, [.t 75], none⟩])
 (.seq
 (.region false [
 ⟨some 77, .mv, [.t 6], none⟩,
 ⟨some 78, (.call gq6), [.t 77, .k (.f .f32 0)], none⟩,
 ⟨some 76, .mv, [.t 78], none⟩,
 ⟨some 79, (.extract 0), [.t 76], none⟩,
 ⟨some 80, (.extract 1), [.t 76], none⟩,
 ⟨some 16, .mv, [.t 79], none⟩,
 ⟨some 17, .mv, [.t 80], none⟩])
 (.seq
 (.region false [
 ⟨some 82, .mv, [.t 6], none⟩,
 ⟨some 83, (.call gq6), [.t 82, .k (.f .f32 1065353216)], none⟩,
 ⟨some 81, .mv, [.t 83], none⟩,
 ⟨some 84, (.extract 0), [.t 81], none⟩,
 ⟨some 85, (.extract 1), [.t 81], none⟩,
 ⟨some 18, .mv, [.t 84], none⟩,
 ⟨some 19, .mv, [.t 85], none⟩])
 (.seq
 (.region false [
 ⟨some 87, .mv, [.t 6], none⟩,
 ⟨some 88, (.call gq6), [.t 87, .k (.f .f32 1056964608)], none⟩,
 ⟨some 86, .mv, [.t 88], none⟩,
 ⟨some 89, (.extract 0), [.t 86], none⟩,
 ⟨some 90, (.extract 1), [.t 86], none⟩,
 ⟨some 20, .mv, [.t 89], none⟩,
 ⟨some 21, .mv, [.t 90], none⟩])
 (.seq
 (.region false [
 ⟨some 92, .mv, [.t 6], none⟩,
 ⟨some 93, (.call gq7), [.t 92], none⟩,
 ⟨some 91, .mv, [.t 93], none⟩,
 ⟨some 94, (.extract 0), [.t 91], none⟩,
 ⟨some 95, (.extract 1), [.t 91], none⟩,
 ⟨some 22, .mv, [.t 94], none⟩,
 ⟨some 23, .mv, [.t 95], none⟩])
 (.seq
 (.seq
 (.region false [
 ⟨some 96, .mv, [.t 8], none⟩,
 ⟨some 97, .not, [.t 96], none⟩,
 ⟨some 98, .mv, [.t 97], none⟩,
 ⟨some 99, .mv, [.t 10], some (98, false)⟩,
 ⟨some 100, .not, [.t 99], some (98, false)⟩,
 ⟨some 101, .pick, [.t 98, .k (.b true), .t 100], none⟩,
 ⟨some 102, .mv, [.t 101], none⟩,
 ⟨some 103, .mv, [.t 12], some (102, false)⟩,
 ⟨some 104, .not, [.t 103], some (102, false)⟩,
 ⟨some 105, .pick, [.t 102, .k (.b true), .t 104], none⟩,
 ⟨some 106, .mv, [.t 105], none⟩,
 ⟨some 107, .mv, [.t 15], some (106, false)⟩,
 ⟨some 108, .not, [.t 107], some (106, false)⟩,
 ⟨some 109, .pick, [.t 106, .k (.b true), .t 108], none⟩,
 ⟨some 110, .mv, [.t 109], none⟩,
 ⟨some 111, .mv, [.t 17], some (110, false)⟩,
 ⟨some 112, .not, [.t 111], some (110, false)⟩,
 ⟨some 113, .pick, [.t 110, .k (.b true), .t 112], none⟩,
 ⟨some 114, .mv, [.t 113], none⟩,
 ⟨some 115, .mv, [.t 19], some (114, false)⟩,
 ⟨some 116, .not, [.t 115], some (114, false)⟩,
 ⟨some 117, .pick, [.t 114, .k (.b true), .t 116], none⟩,
 ⟨some 118, .mv, [.t 117], none⟩,
 ⟨some 119, .mv, [.t 21], some (118, false)⟩,
 ⟨some 120, .not, [.t 119], some (118, false)⟩,
 ⟨some 121, .pick, [.t 118, .k (.b true), .t 120], none⟩,
 ⟨some 122, .mv, [.t 121], none⟩,
 ⟨some 123, .mv, [.t 23], some (122, false)⟩,
 ⟨some 124, .not, [.t 123], some (122, false)⟩,
 ⟨some 125, .pick, [.t 122, .k (.b true), .t 124], none⟩,
 ⟨some 126, .mv, [.t 125], none⟩,
 ⟨some 127, .mv, [.t 6], some (126, false)⟩,
 ⟨some 128, (.call gq8), [.t 127], some (126, false)⟩,
 ⟨some 129, .not, [.t 128], some (126, false)⟩,
 ⟨some 130, .pick, [.t 126, .k (.b true), .t 129], none⟩,
 ⟨some 131, .mv, [.t 130], none⟩,
 ⟨some 132, .mv, [.t 22], some (131, false)⟩,
 ⟨some 133, .len, [.t 132], some (131, false)⟩,
 ⟨some 134, .mv, [.t 5], some (131, false)⟩,
 ⟨some 135, (.bin .neq), [.t 133, .t 134], some (131, false)⟩,
 ⟨some 136, .pick, [.t 131, .k (.b true), .t 135], none⟩,
 ⟨some 137, .mv, [.t 136], none⟩,
 ⟨some 138, .mv, [.t 14], some (137, false)⟩,
 ⟨some 139, .mv, [.t 16], some (137, false)⟩,
 ⟨some 140, (.bin .lss), [.t 138, .t 139], some (137, false)⟩,
 ⟨some 141, .pick, [.t 137, .k (.b true), .t 140], none⟩,
 ⟨some 142, .mv, [.t 141], none⟩,
 ⟨some 143, .mv, [.t 14], some (142, false)⟩,
 ⟨some 144, .mv, [.t 18], some (142, false)⟩,
 ⟨some 145, (.bin .gtr), [.t 143, .t 144], some (142, false)⟩,
 ⟨some 146, .pick, [.t 142, .k (.b true), .t 145], none⟩,
 ⟨some 147, .mv, [.t 146], none⟩,
 ⟨some 148, .mv, [.t 20], some (147, false)⟩,
 ⟨some 149, .mv, [.t 11], some (147, false)⟩,
 ⟨some 150, (.call gq9), [.t 148, .t 149], some (147, false)⟩,
 ⟨some 151, (.bin .gtr), [.t 150, .k (.f .f64 4562254508917369340)], some (147, false)⟩,
 ⟨some 152, .pick, [.t 147, .k (.b true), .t 151], none⟩,
 ⟨some 153, .mv, [.t 152], none⟩,
 ⟨some 154, .mv, [.t 7], some (153, false)⟩,
 ⟨some 155, (.convF .f64), [.t 154], some (153, false)⟩,
 ⟨some 156, .mv, [.t 16], some (153, false)⟩,
 ⟨some 157, (.convF .f64), [.t 156], some (153, false)⟩,
 ⟨some 158, (.bin .sub), [.t 157, .k (.f .f64 4562254508917369340)], some (153, false)⟩,
 ⟨some 159, (.bin .lss), [.t 155, .t 158], some (153, false)⟩,
 ⟨some 160, .pick, [.t 153, .k (.b true), .t 159], none⟩,
 ⟨some 161, .mv, [.t 160], none⟩,
 ⟨some 162, .mv, [.t 7], some (161, false)⟩,
 ⟨some 163, (.convF .f64), [.t 162], some (161, false)⟩,
 ⟨some 164, .mv, [.t 18], some (161, false)⟩,
 ⟨some 165, (.convF .f64), [.t 164], some (161, false)⟩,
 ⟨some 166, (.bin .add), [.t 165, .k (.f .f64 4562254508917369340)], some (161, false)⟩,
 ⟨some 167, (.bin .gtr), [.t 163, .t 166], some (161, false)⟩,
 ⟨some 168, .pick, [.t 161, .k (.b true), .t 167], none⟩,
 ⟨some 169, .mv, [.t 168], none⟩,
 ⟨some 170, .mv, [.t 9], some (169, false)⟩,
 ⟨some 171, (.bin .lss), [.t 170, .k (.f .f32 0)], some (169, false)⟩,
 ⟨some 172, .pick, [.t 169, .k (.b true), .t 171], none⟩,
 ⟨some 173, .mv, [.t 172], none⟩,
 ⟨some 174, .mv, [.t 9], some (173, false)⟩,
 ⟨some 175, (.convF .f64), [.t 174], some (173, false)⟩,
 ⟨some 176, .mv, [.t 18], some (173, false)⟩,
 ⟨some 177, .mv, [.t 16], some (173, false)⟩,
 ⟨some 178, (.bin .sub), [.t 176, .t 177], some (173, false)⟩,
 ⟨some 179, (.convF .f64), [.t 178], some (173, false)⟩,
 ⟨some 180, (.bin .add), [.t 179, .k (.f .f64 4562254508917369340)], some (173, false)⟩,
 ⟨some 181, (.bin .gtr), [.t 175, .t 180], some (173, false)⟩,
 ⟨some 182, .pick, [.t 173, .k (.b true), .t 181], none⟩])
 (.cond (.t 182)
 (.seq
 (.region false [
 ⟨some 4, .mv, [.k (.b false)], none⟩])
 .ret)
 .skip))
 (.seq
 (.region false [
 ⟨some 24, .mv, [.k (.f .f64 0)], none⟩])
 (.seq
 (.seq
 (.region false [
 ⟨some 25, .mv, [.k (.i .i64 0)], none⟩])
 (.block 0 (.loop (b_laws_FnNumbersOf_L0 gq0 gq1 gq2 gq3 gq4 gq5 gq6 gq7 gq8 gq9 gq10 gq11 gq12 gq13))))
 (.seq
 (.seq
 (.region false [
 ⟨some 249, .mv, [.t 24], none⟩,
 ⟨some 250, (.convF .f32), [.t 249], none⟩,
 ⟨some 251, .mv, [.t 5], none⟩,
 ⟨some 252, .mv, [.t 5], none⟩,
 ⟨some 253, (.bin .add), [.t 252, .k (.i .i64 1)], none⟩,
 ⟨some 254, (.bin .mul), [.t 251, .t 253], none⟩,
 ⟨some 255, (.bin .quo), [.t 254, .k (.i .i64 2)], none⟩,
 ⟨some 256, (.convF .f32), [.t 255], none⟩,
 ⟨some 257, (.call gq9), [.t 250, .t 256], none⟩,
 ⟨some 258, (.bin .gtr), [.t 257, .k (.f .f64 4562254508917369340)], none⟩])
 (.cond (.t 258)
 (.seq
 (.region false [
 ⟨some 4, .mv, [.k (.b false)], none⟩])
 .ret)
 .skip))
 (.seq
 (.region false [
 ⟨some 260, .mv, [.t 6], none⟩,
 ⟨some 261, (.call gq10), [.t 260], none⟩,
 ⟨some 259, .mv, [.t 261], none⟩,
 ⟨some 262, (.extract 0), [.t 259], none⟩,
 ⟨some 263, (.extract 1), [.t 259], none⟩,
 ⟨some 27, .mv, [.t 262], none⟩,
 ⟨some 28, .mv, [.t 263], none⟩])
 (.seq
 (.seq
 (.region false [
 ⟨some 264, .mv, [.t 28], none⟩,
 ⟨some 265, .mv, [.t 9], none⟩,
 ⟨some 266, (.bin .gtr), [.t 265, .k (.f .f32 0)], none⟩,
 ⟨some 267, (.binb .neq), [.t 264, .t 266], none⟩])
 (.cond (.t 267)
 (.seq
 (.region false [
 ⟨some 4, .mv, [.k (.b false)], none⟩])
 .ret)
 .skip))
 (.seq
 (.seq
 (.region false [
 ⟨some 268, .mv, [.t 28], none⟩])
 (.cond (.t 268)
 (.seq
 (.region false [
 ⟨some 270, .mv, [.t 27], none⟩,
 ⟨some 271, (.call gq3), [.t 270], none⟩,
 ⟨some 269, .mv, [.t 271], none⟩,
 ⟨some 272, (.extract 0), [.t 269], none⟩,
 ⟨some 273, (.extract 1), [.t 269], none⟩,
 ⟨some 29, .mv, [.t 272], none⟩,
 ⟨some 30, .mv, [.t 273], none⟩])
 (.seq
 (.region false [
 ⟨some 275, .mv, [.t 27], none⟩,
 ⟨some 276, (.call gq4), [.t 275], none⟩,
 ⟨some 274, .mv, [.t 276], none⟩,
 ⟨some 277, (.extract 0), [.t 274], none⟩,
 ⟨some 278, (.extract 1), [.t 274], none⟩,
 ⟨some 31, .mv, [.t 277], none⟩,
 ⟨some 32, .mv, [.t 278], none⟩])
 (.seq
 (.region false [
 ⟨some 279, .mv, [.t 30], none⟩,
 ⟨some 280, .not, [.t 279], none⟩,
 ⟨some 281, .mv, [.t 280], none⟩,
 ⟨some 282, .mv, [.t 32], some (281, false)⟩,
 ⟨some 283, .not, [.t 282], some (281, false)⟩,
 ⟨some 284, .pick, [.t 281, .k (.b true), .t 283], none⟩,
 ⟨some 285, .mv, [.t 284], none⟩,
 ⟨some 286, .mv, [.t 29], some (285, false)⟩,
 ⟨some 287, (.call gq9), [.t 286, .k (.f .f32 0)], some (285, false)⟩,
 ⟨some 288, (.bin .gtr), [.t 287, .k (.f .f64 4562254508917369340)], some (285, false)⟩,
 ⟨some 289, .pick, [.t 285, .k (.b true), .t 288], none⟩,
 ⟨some 290, .mv, [.t 289], none⟩,
 ⟨some 291, .mv, [.t 31], some (290, false)⟩,
 ⟨some 292, (.call gq9), [.t 291, .k (.f .f32 1065353216)], some (290, false)⟩,
 ⟨some 293, (.bin .gtr), [.t 292, .k (.f .f64 4562254508917369340)], some (290, false)⟩,
 ⟨some 294, .pick, [.t 290, .k (.b true), .t 293], none⟩])
 (.cond (.t 294)
 (.seq
 (.region false [
 ⟨some 4, .mv, [.k (.b false)], none⟩])
 .ret)
 .skip))))
 .skip))
 (.seq
 (.region false [
 ⟨some 295, .mv, [.t 1], none⟩,
 ⟨some 296, (.call gq1), [.t 295, .k (.i .i64 42), .k (.i .i64 8)], none⟩,
 ⟨some 297, (.convF .f32), [.t 296], none⟩,
 ⟨some 298, (.bin .quo), [.t 297, .k (.f .f32 1073741824)], none⟩,
 ⟨some 33, .mv, [.t 298], none⟩])
 (.seq
 (.region false [
 ⟨some 300, .mv, [.t 6], none⟩,
 ⟨some 301, .mv, [.t 33], none⟩,
 ⟨some 302, (.call gq11), [.t 300, .t 301], none⟩,
 ⟨some 299, .mv, [.t 302], none⟩,
 ⟨some 303, (.extract 0), [.t 299], none⟩,
 ⟨some 304, (.extract 1), [.t 299], none⟩,
 ⟨some 34, .mv, [.t 303], none⟩,
 ⟨some 35, .mv, [.t 304], none⟩])
 (.seq
 (.region false [
 ⟨some 306, .mv, [.t 6], none⟩,
 ⟨some 307, .mv, [.t 33], none⟩,
 ⟨some 308, (.call gq12), [.t 306, .t 307], none⟩,
 ⟨some 305, .mv, [.t 308], none⟩,
 ⟨some 309, (.extract 0), [.t 305], none⟩,
 ⟨some 310, (.extract 1), [.t 305], none⟩,
 ⟨some 36, .mv, [.t 309], none⟩,
 ⟨some 37, .mv, [.t 310], none⟩])
 (.seq
 (.region false [
 ⟨some 312, .mv, [.t 6], none⟩,
 ⟨some 313, .mv, [.t 6], none⟩,
 ⟨some 314, (.lit true (.ff .f32 [])), [.t 312, .t 313], none⟩,
 ⟨some 315, .mv, [.t 1], none⟩,
 ⟨some 316, (.call gq1), [.t 315, .k (.i .i64 43), .k (.i .i64 8)], none⟩,
 ⟨some 317, (.bin .add), [.k (.i .i64 1), .t 316], none⟩,
 ⟨some 318, (.call gq13), [.t 314, .t 317], none⟩,
 ⟨some 311, .mv, [.t 318], none⟩,
 ⟨some 319, (.extract 0), [.t 311], none⟩,
 ⟨some 320, (.extract 1), [.t 311], none⟩,
 ⟨some 38, .mv, [.t 319], none⟩,
 ⟨some 39, .mv, [.t 320], none⟩])
 (.seq
 (.seq
 (.region false [
 ⟨some 321, .mv, [.t 35], none⟩,
 ⟨some 322, .not, [.t 321], none⟩,
 ⟨some 323, .mv, [.t 322], none⟩,
 ⟨some 324, .mv, [.t 37], some (323, false)⟩,
 ⟨some 325, .not, [.t 324], some (323, false)⟩,
 ⟨some 326, .pick, [.t 323, .k (.b true), .t 325], none⟩,
 ⟨some 327, .mv, [.t 326], none⟩,
 ⟨some 328, .mv, [.t 39], some (327, false)⟩,
 ⟨some 329, .not, [.t 328], some (327, false)⟩,
 ⟨some 330, .pick, [.t 327, .k (.b true), .t 329], none⟩,
 ⟨some 331, .mv, [.t 330], none⟩,
 ⟨some 332, .mv, [.t 36], some (331, false)⟩,
 ⟨some 333, .len, [.t 332], some (331, false)⟩,
 ⟨some 334, .mv, [.t 5], some (331, false)⟩,
 ⟨some 335, (.bin .neq), [.t 333, .t 334], some (331, false)⟩,
 ⟨some 336, .pick, [.t 331, .k (.b true), .t 335], none⟩,
 ⟨some 337, .mv, [.t 336], none⟩,
 ⟨some 338, .mv, [.t 38], some (337, false)⟩,
 ⟨some 339, .len, [.t 338], some (337, false)⟩,
 ⟨some 340, (.bin .neq), [.t 339, .k (.i .i64 2)], some (337, false)⟩,
 ⟨some 341, .pick, [.t 337, .k (.b true), .t 340], none⟩,
 ⟨some 342, .mv, [.t 341], none⟩,
 ⟨some 343, .mv, [.t 38], some (342, false)⟩,
 ⟨some 344, .iaddr, [.t 343, .k (.i .i64 0)], some (342, false)⟩,
 ⟨some 345, .load, [.t 344], some (342, false)⟩,
 ⟨some 346, .mv, [.t 7], some (342, false)⟩,
 ⟨some 347, (.bin .neq), [.t 345, .t 346], some (342, false)⟩,
 ⟨some 348, .pick, [.t 342, .k (.b true), .t 347], none⟩,
 ⟨some 349, .mv, [.t 348], none⟩,
 ⟨some 350, .mv, [.t 38], some (349, false)⟩,
 ⟨some 351, .iaddr, [.t 350, .k (.i .i64 1)], some (349, false)⟩,
 ⟨some 352, .load, [.t 351], some (349, false)⟩,
 ⟨some 353, .mv, [.t 7], some (349, false)⟩,
 ⟨some 354, (.bin .neq), [.t 352, .t 353], some (349, false)⟩,
 ⟨some 355, .pick, [.t 349, .k (.b true), .t 354], none⟩])
 (.cond (.t 355)
 (.seq
 (.region false [
 ⟨some 4, .mv, [.k (.b false)], none⟩])
 .ret)
 .skip))
 (.seq
 (.region false [
 ⟨some 40, .mv, [.k (.i .i64 0)], none⟩])
 (.seq
 (.seq
 (.region false [
 ⟨some 41, .mv, [.k (.i .i64 0)], none⟩])
 (.block 4 (.loop (b_laws_FnNumbersOf_L4 gq0 gq1 gq2 gq3 gq4 gq5 gq6 gq7 gq8 gq9 gq10 gq11 gq12 gq13))))
 (.seq
 (.region false [
 ⟨some 397, .mv, [.t 40], none⟩,
 ⟨some 398, .mv, [.t 34], none⟩,
 ⟨some 399, .len, [.t 398], none⟩,
 ⟨some 400, (.bin .eql), [.t 397, .t 399], none⟩,
 ⟨some 4, .mv, [.t 400], none⟩])
 .ret))))))))))))))))))))))))))))

abbrev Is_laws_FnNumbersOf (P : Program) (g_f : FuncId) (gq0 gq1 gq2 gq3 gq4 gq5 gq6 gq7 gq8 gq9 gq10 gq11 gq12 gq13 : FuncId) : Prop := FnIs P g_f 401 [.t 4] (b_laws_FnNumbersOf gq0 gq1 gq2 gq3 gq4 gq5 gq6 gq7 gq8 gq9 gq10 gq11 gq12 gq13)

abbrev C_laws_FnNumbersOf (P : Program) (g_f : FuncId) : Prop := ∀ (cs : List Int) (ms : List Int), VCall P g_f [PU [0] cs, PU [1] ms] (.b true)
def oc_laws_FnNumbersOf (cs : List Int) (ms : List Int) (d : Nat) (as : List AV) : T AV := match d with | 44 => oc1_laws_r8Long as | 46 => oc1_laws_r8At as | 50 => .leaf (OS 0 .f32 (nX cs ms)) | 53 => .leaf (.tup [.f .f32 (nMean cs ms), .b true]) | 58 => .leaf (.tup [.f .f32 (nSpr cs ms), .b true]) | 63 => .leaf (.tup [.f .f32 (nMed cs ms), .b true]) | 67 => oc1_laws_r8At as | 73 => .leaf (.tup [.f .f32 (nQ cs ms), .b true]) | 78 => .leaf (.tup [.f .f32 (nLo cs ms), .b true]) | 83 => .leaf (.tup [.f .f32 (nHi cs ms), .b true]) | 88 => .leaf (.tup [.f .f32 (nHalf cs ms), .b true]) | 93 => .leaf (.tup [OS 0 .f32 (nRk cs ms), .b true]) | 128 => .leaf (.b true) | 150 => oc1_laws_r8Gap as | 257 => oc1_laws_r8Gap as | 261 => .leaf (.tup [OS 0 .f32 (nEv cs ms), .b (nEk cs ms)]) | 271 => .leaf (.tup [.f .f32 (nEm cs ms), .b true]) | 276 => .leaf (.tup [.f .f32 (nEs cs ms), .b true]) | 287 => oc1_laws_r8Gap as | 292 => oc1_laws_r8Gap as | 296 => oc1_laws_r8At as | 302 => .leaf (.tup [OI 0 (nFo cs ms), .b true]) | 308 => .leaf (.tup [OS 0 .f32 (nTm cs ms), .b true]) | 316 => oc1_laws_r8At as | 318 => .leaf (.tup [OS 0 .f32 [nMean cs ms, nMean cs ms], .b true]) | 380 => oc1_laws_r8Gap as | 386 => oc1_laws_r8Gap as | _ => .fail
def c_laws_FnNumbersOf_1 (cs : List Int) (ms : List Int) : Env := [AV.sl (Tag.par [0]) 0 (Cont.i .u8 cs), AV.sl (Tag.par [1]) 0 (Cont.i .u8 ms), .any, .any, AV.b false, AV.i .i64 (wrap .i64 (1 + atM ms 40 20)), AV.sl (Tag.own 400) 0 (Cont.f .f32 (nX cs ms))] ++ anys 394
def ks_laws_FnNumbersOf_1 : List Nat := [0, 1, 4, 5, 6]
def c_laws_FnNumbersOf_2 (cs : List Int) (ms : List Int) : Env := [AV.sl (Tag.par [0]) 0 (Cont.i .u8 cs), AV.sl (Tag.par [1]) 0 (Cont.i .u8 ms), .any, .any, AV.b false, AV.i .i64 (wrap .i64 (1 + atM ms 40 20)), AV.sl (Tag.own 400) 0 (Cont.f .f32 (nX cs ms)), AV.f .f32 (nMean cs ms), AV.b true, AV.f .f32 (nSpr cs ms), AV.b true, AV.f .f32 (nMed cs ms), AV.b true, AV.f .f32 (fdiv .f32 (fofi .f32 (atM ms 41 17)) 1098907648), AV.f .f32 (nQ cs ms), AV.b true, AV.f .f32 (nLo cs ms), AV.b true, AV.f .f32 (nHi cs ms), AV.b true, AV.f .f32 (nHalf cs ms), AV.b true, AV.sl (Tag.own 744) 0 (Cont.f .f32 (nRk cs ms)), AV.b true] ++ anys 377
def ks_laws_FnNumbersOf_2 : List Nat := [0, 1, 4, 5, 6, 7, 8, 9, 10, 11, 12, 13, 14, 15, 16, 17, 18, 19, 20, 21, 22, 23]
def c_laws_FnNumbersOf_3 (cs : List Int) (ms : List Int) : Env := [AV.sl (Tag.par [0]) 0 (Cont.i .u8 cs), AV.sl (Tag.par [1]) 0 (Cont.i .u8 ms), .any, .any, AV.b false, AV.i .i64 (wrap .i64 (1 + atM ms 40 20)), AV.sl (Tag.own 400) 0 (Cont.f .f32 (nX cs ms)), AV.f .f32 (nMean cs ms), AV.b true, AV.f .f32 (nSpr cs ms), AV.b true, AV.f .f32 (nMed cs ms), AV.b true, AV.f .f32 (fdiv .f32 (fofi .f32 (atM ms 41 17)) 1098907648), AV.f .f32 (nQ cs ms), AV.b true, AV.f .f32 (nLo cs ms), AV.b true, AV.f .f32 (nHi cs ms), AV.b true, AV.f .f32 (nHalf cs ms), AV.b true, AV.sl (Tag.own 744) 0 (Cont.f .f32 (nRk cs ms)), AV.b true] ++ anys 377
def ks_laws_FnNumbersOf_3 : List Nat := [0, 1, 4, 5, 6, 7, 8, 9, 10, 11, 12, 13, 14, 15, 16, 17, 18, 19, 20, 21, 22, 23]
def h_laws_FnNumbersOf_L0 (cs : List Int) (ms : List Int) (sum : Nat) (i : Int) : Env := [.any, AV.sl (Tag.par [1]) 0 (Cont.i .u8 ms), .any, .any, .any, AV.i .i64 (wrap .i64 (1 + atM ms 40 20)), AV.sl (Tag.own 400) 0 (Cont.f .f32 (nX cs ms)), AV.f .f32 (nMean cs ms), .any, AV.f .f32 (nSpr cs ms), .any, AV.f .f32 (nMed cs ms)] ++ anys 4 ++ [AV.f .f32 (nLo cs ms), .any, AV.f .f32 (nHi cs ms), .any, .any, .any, AV.sl (Tag.own 744) 0 (Cont.f .f32 (nRk cs ms)), .any, .f .f64 sum, .i .i64 i] ++ anys 375
def h_laws_FnNumbersOf_L2 (cs : List Int) (ms : List Int) (sum : Nat) (i : Int) (k : Int) : Env := [.any, AV.sl (Tag.par [1]) 0 (Cont.i .u8 ms), .any, .any, .any, AV.i .i64 (wrap .i64 (1 + atM ms 40 20)), AV.sl (Tag.own 400) 0 (Cont.f .f32 (nX cs ms)), AV.f .f32 (nMean cs ms), .any, AV.f .f32 (nSpr cs ms), .any, AV.f .f32 (nMed cs ms)] ++ anys 4 ++ [AV.f .f32 (nLo cs ms), .any, AV.f .f32 (nHi cs ms), .any, .any, .any, AV.sl (Tag.own 744) 0 (Cont.f .f32 (nRk cs ms)), .any, AV.f .f64 (fadd .f64 sum (fconv .f32 .f64 (List.getD (nRk cs ms) (Int.toNat i) 0))), AV.i .i64 i, .i .i64 k] ++ anys 374
def c_laws_FnNumbersOf_4 (cs : List Int) (ms : List Int) : Env := [.any, AV.sl (Tag.par [1]) 0 (Cont.i .u8 ms), .any, .any, .any, AV.i .i64 (wrap .i64 (1 + atM ms 40 20)), AV.sl (Tag.own 400) 0 (Cont.f .f32 (nX cs ms)), AV.f .f32 (nMean cs ms), .any, AV.f .f32 (nSpr cs ms), .any, AV.f .f32 (nMed cs ms)] ++ anys 4 ++ [AV.f .f32 (nLo cs ms), .any, AV.f .f32 (nHi cs ms), .any, .any, .any, AV.sl (Tag.own 744) 0 (Cont.f .f32 (nRk cs ms)), .any, AV.f .f64 (nSum cs ms (nN ms)), AV.i .i64 (↑(nN ms) : Int)] ++ anys 375
def ks_laws_FnNumbersOf_4 : List Nat := [1, 5, 6, 7, 9, 11, 16, 18, 22, 24, 25]
def c_laws_FnNumbersOf_5 (cs : List Int) (ms : List Int) : Env := [.any, AV.sl (Tag.par [1]) 0 (Cont.i .u8 ms), .any, .any, .any, AV.i .i64 (wrap .i64 (1 + atM ms 40 20)), AV.sl (Tag.own 400) 0 (Cont.f .f32 (nX cs ms)), AV.f .f32 (nMean cs ms), .any, AV.f .f32 (nSpr cs ms), .any, AV.f .f32 (nMed cs ms)] ++ anys 4 ++ [AV.f .f32 (nLo cs ms), .any, AV.f .f32 (nHi cs ms), .any, .any, .any, AV.sl (Tag.own 744) 0 (Cont.f .f32 (nRk cs ms)), .any, AV.f .f64 (nSum cs ms (nN ms)), AV.i .i64 (↑(nN ms) : Int)] ++ anys 375
def ks_laws_FnNumbersOf_5 : List Nat := [1, 5, 6, 7, 9, 11, 16, 18, 22, 24, 25]
def c_laws_FnNumbersOf_6 (cs : List Int) (ms : List Int) : Env := [.any, AV.sl (Tag.par [1]) 0 (Cont.i .u8 ms), .any, .any, .any, AV.i .i64 (wrap .i64 (1 + atM ms 40 20)), AV.sl (Tag.own 400) 0 (Cont.f .f32 (nX cs ms)), AV.f .f32 (nMean cs ms), .any, AV.f .f32 (nSpr cs ms), .any, AV.f .f32 (nMed cs ms)] ++ anys 4 ++ [AV.f .f32 (nLo cs ms), .any, AV.f .f32 (nHi cs ms), .any, .any, .any, AV.sl (Tag.own 744) 0 (Cont.f .f32 (nRk cs ms)), .any, AV.f .f64 (nSum cs ms (nN ms)), AV.i .i64 (↑(nN ms) : Int), .any, AV.sl (Tag.own 2088) 0 (Cont.f .f32 (nEv cs ms)), AV.b (nEk cs ms)] ++ anys 372
def ks_laws_FnNumbersOf_6 : List Nat := [1, 5, 6, 7, 9, 11, 16, 18, 22, 24, 25, 27, 28]
def c_laws_FnNumbersOf_7 (cs : List Int) (ms : List Int) : Env := [.any, AV.sl (Tag.par [1]) 0 (Cont.i .u8 ms), .any, .any, .any, AV.i .i64 (wrap .i64 (1 + atM ms 40 20)), AV.sl (Tag.own 400) 0 (Cont.f .f32 (nX cs ms)), AV.f .f32 (nMean cs ms), .any, AV.f .f32 (nSpr cs ms), .any, AV.f .f32 (nMed cs ms)] ++ anys 4 ++ [AV.f .f32 (nLo cs ms), .any, AV.f .f32 (nHi cs ms), .any, .any, .any, AV.sl (Tag.own 744) 0 (Cont.f .f32 (nRk cs ms)), .any, AV.f .f64 (nSum cs ms (nN ms)), AV.i .i64 (↑(nN ms) : Int), .any, AV.sl (Tag.own 2088) 0 (Cont.f .f32 (nEv cs ms)), AV.b (nEk cs ms)] ++ anys 372
def ks_laws_FnNumbersOf_7 : List Nat := [1, 5, 6, 7, 9, 11, 16, 18, 22, 24, 25, 27, 28]
def c_laws_FnNumbersOf_8 (cs : List Int) (ms : List Int) : Env := [.any, AV.sl (Tag.par [1]) 0 (Cont.i .u8 ms), .any, .any, .any, AV.i .i64 (wrap .i64 (1 + atM ms 40 20)), AV.sl Tag.imm 0 (Cont.f .f32 (nX cs ms)), AV.f .f32 (nMean cs ms), .any, AV.f .f32 (nSpr cs ms), .any, AV.f .f32 (nMed cs ms)] ++ anys 4 ++ [AV.f .f32 (nLo cs ms), .any, AV.f .f32 (nHi cs ms), .any, .any, .any, AV.sl (Tag.own 744) 0 (Cont.f .f32 (nRk cs ms)), .any, AV.f .f64 (nSum cs ms (nN ms)), AV.i .i64 (↑(nN ms) : Int), .any, AV.sl (Tag.own 2088) 0 (Cont.f .f32 (nEv cs ms)), AV.b (nEk cs ms)] ++ anys 4 ++ [AV.f .f32 (fdiv .f32 (fofi .f32 (atM ms 42 8)) 1073741824), AV.sl (Tag.own 2416) 0 (Cont.i .i64 (nFo cs ms)), AV.b true, AV.sl (Tag.own 2464) 0 (Cont.f .f32 (nTm cs ms)), AV.b true, AV.sl (Tag.own 2544) 0 (Cont.f .f32 [nMean cs ms, nMean cs ms]), AV.b true] ++ anys 361
def ks_laws_FnNumbersOf_8 : List Nat := [1, 5, 6, 7, 9, 11, 16, 18, 22, 24, 25, 27, 28, 33, 34, 35, 36, 37, 38, 39]
def c_laws_FnNumbersOf_9 (cs : List Int) (ms : List Int) : Env := [.any, AV.sl (Tag.par [1]) 0 (Cont.i .u8 ms), .any, .any, .any, AV.i .i64 (wrap .i64 (1 + atM ms 40 20)), AV.sl Tag.imm 0 (Cont.f .f32 (nX cs ms)), AV.f .f32 (nMean cs ms), .any, AV.f .f32 (nSpr cs ms), .any, AV.f .f32 (nMed cs ms)] ++ anys 4 ++ [AV.f .f32 (nLo cs ms), .any, AV.f .f32 (nHi cs ms), .any, .any, .any, AV.sl (Tag.own 744) 0 (Cont.f .f32 (nRk cs ms)), .any, AV.f .f64 (nSum cs ms (nN ms)), AV.i .i64 (↑(nN ms) : Int), .any, AV.sl (Tag.own 2088) 0 (Cont.f .f32 (nEv cs ms)), AV.b (nEk cs ms)] ++ anys 4 ++ [AV.f .f32 (fdiv .f32 (fofi .f32 (atM ms 42 8)) 1073741824), AV.sl (Tag.own 2416) 0 (Cont.i .i64 (nFo cs ms)), AV.b true, AV.sl (Tag.own 2464) 0 (Cont.f .f32 (nTm cs ms)), AV.b true, AV.sl (Tag.own 2544) 0 (Cont.f .f32 [nMean cs ms, nMean cs ms]), AV.b true] ++ anys 361
def ks_laws_FnNumbersOf_9 : List Nat := [1, 5, 6, 7, 9, 11, 16, 18, 22, 24, 25, 27, 28, 33, 34, 35, 36, 37, 38, 39]
def h_laws_FnNumbersOf_L4 (cs : List Int) (ms : List Int) (at0 : Int) (i : Int) : Env := anys 5 ++ [AV.i .i64 (wrap .i64 (1 + atM ms 40 20)), AV.sl Tag.imm 0 (Cont.f .f32 (nX cs ms))] ++ anys 4 ++ [AV.f .f32 (nMed cs ms)] ++ anys 22 ++ [AV.sl (Tag.own 2416) 0 (Cont.i .i64 (nFo cs ms)), .any, AV.sl (Tag.own 2464) 0 (Cont.f .f32 (nTm cs ms)), .any, .any, .any, .i .i64 at0, .i .i64 i] ++ anys 359
def c_laws_FnNumbersOf_10 (cs : List Int) (ms : List Int) : Env := anys 5 ++ [AV.i .i64 (wrap .i64 (1 + atM ms 40 20)), AV.sl Tag.imm 0 (Cont.f .f32 (nX cs ms))] ++ anys 4 ++ [AV.f .f32 (nMed cs ms)] ++ anys 22 ++ [AV.sl (Tag.own 2416) 0 (Cont.i .i64 (nFo cs ms)), .any, AV.sl (Tag.own 2464) 0 (Cont.f .f32 (nTm cs ms)), .any, .any, .any, AV.i .i64 (nAt cs ms (nN ms)), AV.i .i64 (↑(nN ms) : Int)] ++ anys 359
def ks_laws_FnNumbersOf_10 : List Nat := [5, 6, 11, 34, 36, 40, 41]

theorem q_laws_FnNumbersOf_L0 {VC : FuncId → List AV → AV → Prop} {gq0 gq1 gq2 gq3 gq4 gq5 gq6 gq7 gq8 gq9 gq10 gq11 gq12 gq13 : FuncId} (cs : List Int) (ms : List Int) (sum : Nat) (i : Int) {e_ : Ex} {σ_ : Env} (ht : T.ok (fun x_ => x_ = (e_, σ_)) (
 T.ite (decide (i < wrap .i64 (1 + atM ms 40 20)))
 (T.ob (0 ≤ i ∧ i < (↑(List.length (nRk cs ms)) : Int))
 (T.ob (fconvOk .f32 .f64 (List.getD (nRk cs ms) (Int.toNat i) 0) = true)
 (T.ob (0 ≤ i ∧ i < (↑(List.length (nX cs ms)) : Int))
 (T.ite (flt .f32 (List.getD (nX cs ms) (Int.toNat i) 0) (nLo cs ms)) (T.leaf (Ex.ret, anys 4 ++ AV.b false :: anys 396))
 (T.ob (0 ≤ i ∧ i < (↑(List.length (nX cs ms)) : Int))
 (T.ite (fgt .f32 (List.getD (nX cs ms) (Int.toNat i) 0) (nHi cs ms)) (T.leaf (Ex.ret, anys 4 ++ AV.b false :: anys 396))
 (T.ob (0 ≤ i ∧ i < (↑(List.length (nRk cs ms)) : Int))
 (T.ite (flt .f32 (List.getD (nRk cs ms) (Int.toNat i) 0) 1065353216) (T.leaf (Ex.ret, anys 4 ++ AV.b false :: anys 396))
 (T.ob (0 ≤ i ∧ i < (↑(List.length (nRk cs ms)) : Int))
 (T.ob True
 (T.ite (fgt .f32 (List.getD (nRk cs ms) (Int.toNat i) 0) (fofi .f32 (wrap .i64 (1 + atM ms 40 20)))) (T.leaf (Ex.ret, anys 4 ++ AV.b false :: anys 396))
 (T.ob
 (Exec VC ps_laws_FnNumbersOf
 (VCode.block 2
 (VCode.loop
 (b_laws_FnNumbersOf_L2 gq0 gq1 gq2 gq3 gq4 gq5 gq6 gq7 gq8 gq9
 gq10 gq11 gq12 gq13)))
 (h_laws_FnNumbersOf_L2 cs ms sum i 0) Ex.normal (h_laws_FnNumbersOf_L2 cs ms sum i (↑(nN ms) : Int)))
 (T.leaf
 (Ex.normal, h_laws_FnNumbersOf_L0 cs ms (fadd .f64 sum (fconv .f32 .f64 (List.getD (nRk cs ms) (Int.toNat i) 0))) (wrap .i64 (i + 1))))))))))))))))
 (T.leaf (Ex.exit 0, h_laws_FnNumbersOf_L0 cs ms sum i)))) :
 Exec VC ps_laws_FnNumbersOf (b_laws_FnNumbersOf_L0 gq0 gq1 gq2 gq3 gq4 gq5 gq6 gq7 gq8 gq9 gq10 gq11 gq12 gq13) (h_laws_FnNumbersOf_L0 cs ms sum i) e_ σ_ := evL_of (lv := lv_laws_FnNumbersOf_L0) (rs := [4]) (O := ⟨oc_laws_FnNumbersOf cs ms, fun id σ => match id with | 2 => some (lv_laws_FnNumbersOf_L2, .leaf (.normal, h_laws_FnNumbersOf_L2 cs ms sum i (nN ms))) | _ => none⟩) (by kernel_rfl) ht

theorem q_laws_FnNumbersOf_L2 {VC : FuncId → List AV → AV → Prop} {gq0 gq1 gq2 gq3 gq4 gq5 gq6 gq7 gq8 gq9 gq10 gq11 gq12 gq13 : FuncId} (cs : List Int) (ms : List Int) (sum : Nat) (i : Int) (k : Int) {e_ : Ex} {σ_ : Env} (ht : T.ok (fun x_ => x_ = (e_, σ_)) (
 T.ite (decide (k < wrap .i64 (1 + atM ms 40 20)))
 (T.ob (0 ≤ i ∧ i < (↑(List.length (nX cs ms)) : Int))
 (T.ob (0 ≤ k ∧ k < (↑(List.length (nX cs ms)) : Int))
 (T.ob (0 ≤ i ∧ i < (↑(List.length (nRk cs ms)) : Int))
 (T.ob (0 ≤ k ∧ k < (↑(List.length (nRk cs ms)) : Int))
 (T.ite (!flt .f32 (List.getD (nX cs ms) (Int.toNat i) 0) (List.getD (nX cs ms) (Int.toNat k) 0) == flt .f32 (List.getD (nRk cs ms) (Int.toNat i) 0) (List.getD (nRk cs ms) (Int.toNat k) 0))
 (T.leaf (Ex.ret, anys 4 ++ AV.b false :: anys 396)) (T.leaf (Ex.normal, h_laws_FnNumbersOf_L2 cs ms sum i (wrap .i64 (k + 1)))))))))
 (T.leaf (Ex.exit 2, h_laws_FnNumbersOf_L2 cs ms sum i k)))) :
 Exec VC ps_laws_FnNumbersOf (b_laws_FnNumbersOf_L2 gq0 gq1 gq2 gq3 gq4 gq5 gq6 gq7 gq8 gq9 gq10 gq11 gq12 gq13) (h_laws_FnNumbersOf_L2 cs ms sum i k) e_ σ_ := evL_of (lv := lv_laws_FnNumbersOf_L2) (rs := [4]) (O := ⟨oc_laws_FnNumbersOf cs ms, fun _ _ => none⟩) (by kernel_rfl) ht

theorem q_laws_FnNumbersOf_L4 {VC : FuncId → List AV → AV → Prop} {gq0 gq1 gq2 gq3 gq4 gq5 gq6 gq7 gq8 gq9 gq10 gq11 gq12 gq13 : FuncId} (cs : List Int) (ms : List Int) (at0 : Int) (i : Int) {e_ : Ex} {σ_ : Env} (ht : T.ok (fun x_ => x_ = (e_, σ_)) (
 T.ite (decide (i < wrap .i64 (1 + atM ms 40 20)))
 (T.ite (decide (at0 < (↑(List.length (nFo cs ms)) : Int)))
 (T.ob (0 ≤ at0 ∧ at0 < (↑(List.length (nFo cs ms)) : Int))
 (T.ite (List.getD (nFo cs ms) (Int.toNat at0) 0 == i)
 (T.ob (0 ≤ i ∧ i < (↑(List.length (nTm cs ms)) : Int))
 (T.ob (VC gq9 [AV.f .f32 (List.getD (nTm cs ms) (Int.toNat i) 0), AV.f .f32 (nMed cs ms)] (AV.f .f64 (r8G (List.getD (nTm cs ms) (Int.toNat i) 0) (nMed cs ms))))
 (T.ob (0 ≤ i ∧ i < (↑(List.length (nX cs ms)) : Int))
 (T.ob (VC gq9 [AV.f .f32 (List.getD (nX cs ms) (Int.toNat i) 0), AV.f .f32 (nMed cs ms)] (AV.f .f64 (r8G (List.getD (nX cs ms) (Int.toNat i) 0) (nMed cs ms))))
 (T.ite (fgt .f64 (r8G (List.getD (nTm cs ms) (Int.toNat i) 0) (nMed cs ms)) (r8G (List.getD (nX cs ms) (Int.toNat i) 0) (nMed cs ms))) (T.leaf (Ex.ret, anys 4 ++ AV.b false :: anys 396))
 (T.leaf (Ex.normal, h_laws_FnNumbersOf_L4 cs ms (wrap .i64 (at0 + 1)) (wrap .i64 (i + 1)))))))))
 (T.ob (0 ≤ i ∧ i < (↑(List.length (nTm cs ms)) : Int))
 (T.ob (0 ≤ i ∧ i < (↑(List.length (nX cs ms)) : Int))
 (T.ite (fne .f32 (List.getD (nTm cs ms) (Int.toNat i) 0) (List.getD (nX cs ms) (Int.toNat i) 0)) (T.leaf (Ex.ret, anys 4 ++ AV.b false :: anys 396))
 (T.leaf (Ex.normal, h_laws_FnNumbersOf_L4 cs ms at0 (wrap .i64 (i + 1)))))))))
 (T.ob (0 ≤ i ∧ i < (↑(List.length (nTm cs ms)) : Int))
 (T.ob (0 ≤ i ∧ i < (↑(List.length (nX cs ms)) : Int))
 (T.ite (fne .f32 (List.getD (nTm cs ms) (Int.toNat i) 0) (List.getD (nX cs ms) (Int.toNat i) 0)) (T.leaf (Ex.ret, anys 4 ++ AV.b false :: anys 396))
 (T.leaf (Ex.normal, h_laws_FnNumbersOf_L4 cs ms at0 (wrap .i64 (i + 1))))))))
 (T.leaf (Ex.exit 4, h_laws_FnNumbersOf_L4 cs ms at0 i)))) :
 Exec VC ps_laws_FnNumbersOf (b_laws_FnNumbersOf_L4 gq0 gq1 gq2 gq3 gq4 gq5 gq6 gq7 gq8 gq9 gq10 gq11 gq12 gq13) (h_laws_FnNumbersOf_L4 cs ms at0 i) e_ σ_ := evL_of (lv := lv_laws_FnNumbersOf_L4) (rs := [4]) (O := ⟨oc_laws_FnNumbersOf cs ms, fun _ _ => none⟩) (by kernel_rfl) ht

set_option maxHeartbeats 4000000 in
set_option maxRecDepth 100000 in
theorem q_laws_FnNumbersOf_S0 {VC : FuncId → List AV → AV → Prop} {gq0 gq1 gq2 gq3 gq4 gq5 gq6 gq7 gq8 gq9 gq10 gq11 gq12 gq13 : FuncId} (cs : List Int) (ms : List Int) {Q_ : Option AV × Env → Prop} (ht : T.ok Q_ (
 T.ob (VC gq0 [AV.sl (Tag.par [0]) 0 (Cont.i .u8 cs), AV.sl (Tag.par [1]) 0 (Cont.i .u8 ms)] (AV.b (decide ((↑(List.length cs) : Int) > 48) || decide ((↑(List.length ms) : Int) > 48))))
 (T.ite (decide ((↑(List.length cs) : Int) > 48) || decide ((↑(List.length ms) : Int) > 48)) (T.leaf (some (AV.b true), []))
 (T.ob (VC gq1 [AV.sl (Tag.par [0]) 0 (Cont.i .u8 ms), AV.i .i64 40, AV.i .i64 20] (AV.i .i64 (atM ms 40 20)))
 (T.ob (VC gq2 [AV.sl (Tag.par [0]) 0 (Cont.i .u8 cs), AV.i .i64 (wrap .i64 (1 + atM ms 40 20))] (AV.sl (Tag.own 0) 0 (Cont.f .f32 (nX cs ms))))
 (T.leaf (none, c_laws_FnNumbersOf_1 cs ms))))))) :
 T.ok Q_ (evK VC ps_laws_FnNumbersOf ks_laws_FnNumbersOf_1 [.t 4] (.b true) ⟨oc_laws_FnNumbersOf cs ms, fun id σ => match id with | 0 => some (lv_laws_FnNumbersOf_L0, .leaf (.normal, h_laws_FnNumbersOf_L0 cs ms (nSum cs ms (nN ms)) (nN ms))) | 4 => some (lv_laws_FnNumbersOf_L4, .leaf (.normal, h_laws_FnNumbersOf_L4 cs ms (nAt cs ms (nN ms)) (nN ms))) | _ => none⟩ (front 4 (b_laws_FnNumbersOf gq0 gq1 gq2 gq3 gq4 gq5 gq6 gq7 gq8 gq9 gq10 gq11 gq12 gq13)) (startEnv 401 [PU [0] cs, PU [1] ms])) := evK_of (by kernel_rfl) ht

set_option maxHeartbeats 4000000 in
set_option maxRecDepth 100000 in
theorem q_laws_FnNumbersOf_S1 {VC : FuncId → List AV → AV → Prop} {gq0 gq1 gq2 gq3 gq4 gq5 gq6 gq7 gq8 gq9 gq10 gq11 gq12 gq13 : FuncId} (cs : List Int) (ms : List Int) {Q_ : Option AV × Env → Prop} (ht : T.ok Q_ (
 T.ob (VC gq3 [AV.sl (Tag.par [0]) 0 (Cont.f .f32 (nX cs ms))] (AV.tup [AV.f .f32 (nMean cs ms), AV.b true]))
 (T.ob (VC gq4 [AV.sl (Tag.par [0]) 0 (Cont.f .f32 (nX cs ms))] (AV.tup [AV.f .f32 (nSpr cs ms), AV.b true]))
 (T.ob (VC gq5 [AV.sl (Tag.par [0]) 0 (Cont.f .f32 (nX cs ms))] (AV.tup [AV.f .f32 (nMed cs ms), AV.b true]))
 (T.ob (VC gq1 [AV.sl (Tag.par [0]) 0 (Cont.i .u8 ms), AV.i .i64 41, AV.i .i64 17] (AV.i .i64 (atM ms 41 17)))
 (T.ob True
 (T.ob True
 (T.ob
 (VC gq6 [AV.sl (Tag.par [0]) 0 (Cont.f .f32 (nX cs ms)), AV.f .f32 (fdiv .f32 (fofi .f32 (atM ms 41 17)) 1098907648)]
 (AV.tup [AV.f .f32 (nQ cs ms), AV.b true]))
 (T.ob (VC gq6 [AV.sl (Tag.par [0]) 0 (Cont.f .f32 (nX cs ms)), AV.f .f32 0] (AV.tup [AV.f .f32 (nLo cs ms), AV.b true]))
 (T.ob (VC gq6 [AV.sl (Tag.par [0]) 0 (Cont.f .f32 (nX cs ms)), AV.f .f32 1065353216] (AV.tup [AV.f .f32 (nHi cs ms), AV.b true]))
 (T.ob (VC gq6 [AV.sl (Tag.par [0]) 0 (Cont.f .f32 (nX cs ms)), AV.f .f32 1056964608] (AV.tup [AV.f .f32 (nHalf cs ms), AV.b true]))
 (T.ob (VC gq7 [AV.sl (Tag.par [0]) 0 (Cont.f .f32 (nX cs ms))] (AV.tup [AV.sl (Tag.own 0) 0 (Cont.f .f32 (nRk cs ms)), AV.b true]))
 (T.leaf (none, c_laws_FnNumbersOf_2 cs ms)))))))))))))) :
 T.ok Q_ (evK VC ps_laws_FnNumbersOf ks_laws_FnNumbersOf_2 [.t 4] (.b true) ⟨oc_laws_FnNumbersOf cs ms, fun id σ => match id with | 0 => some (lv_laws_FnNumbersOf_L0, .leaf (.normal, h_laws_FnNumbersOf_L0 cs ms (nSum cs ms (nN ms)) (nN ms))) | 4 => some (lv_laws_FnNumbersOf_L4, .leaf (.normal, h_laws_FnNumbersOf_L4 cs ms (nAt cs ms (nN ms)) (nN ms))) | _ => none⟩ (front 9 (rest 4 (b_laws_FnNumbersOf gq0 gq1 gq2 gq3 gq4 gq5 gq6 gq7 gq8 gq9 gq10 gq11 gq12 gq13))) (c_laws_FnNumbersOf_1 cs ms)) := evK_of (by kernel_rfl) ht

set_option maxHeartbeats 4000000 in
set_option maxRecDepth 100000 in
theorem q_laws_FnNumbersOf_S2 {VC : FuncId → List AV → AV → Prop} {gq0 gq1 gq2 gq3 gq4 gq5 gq6 gq7 gq8 gq9 gq10 gq11 gq12 gq13 : FuncId} (cs : List Int) (ms : List Int) {Q_ : Option AV × Env → Prop} (ht : T.ok Q_ (
 T.ite false (T.leaf (some (AV.b false), []))
 (T.ite false (T.leaf (some (AV.b false), []))
 (T.ite false (T.leaf (some (AV.b false), []))
 (T.ite false (T.leaf (some (AV.b false), []))
 (T.ite false (T.leaf (some (AV.b false), []))
 (T.ite false (T.leaf (some (AV.b false), []))
 (T.ite false (T.leaf (some (AV.b false), []))
 (T.ite false (T.leaf (some (AV.b false), []))
 (T.ob (VC gq8 [AV.sl (Tag.par [0]) 0 (Cont.f .f32 (nX cs ms))] (AV.b true))
 (T.ite false (T.leaf (some (AV.b false), []))
 (T.ite ((↑(List.length (nRk cs ms)) : Int) != wrap .i64 (1 + atM ms 40 20)) (T.leaf (some (AV.b false), []))
 (T.ite (flt .f32 (nQ cs ms) (nLo cs ms)) (T.leaf (some (AV.b false), []))
 (T.ite (fgt .f32 (nQ cs ms) (nHi cs ms)) (T.leaf (some (AV.b false), []))
 (T.ob (VC gq9 [AV.f .f32 (nHalf cs ms), AV.f .f32 (nMed cs ms)] (AV.f .f64 (r8G (nHalf cs ms) (nMed cs ms))))
 (T.ite (fgt .f64 (r8G (nHalf cs ms) (nMed cs ms)) 4562254508917369340) (T.leaf (some (AV.b false), []))
 (T.ob (fconvOk .f32 .f64 (nMean cs ms) = true)
 (T.ob (fconvOk .f32 .f64 (nLo cs ms) = true)
 (T.ite (flt .f64 (fconv .f32 .f64 (nMean cs ms)) (fsub .f64 (fconv .f32 .f64 (nLo cs ms)) 4562254508917369340))
 (T.leaf (some (AV.b false), []))
 (T.ob (fconvOk .f32 .f64 (nMean cs ms) = true)
 (T.ob (fconvOk .f32 .f64 (nHi cs ms) = true)
 (T.ite (fgt .f64 (fconv .f32 .f64 (nMean cs ms)) (fadd .f64 (fconv .f32 .f64 (nHi cs ms)) 4562254508917369340))
 (T.leaf (some (AV.b false), []))
 (T.ite (flt .f32 (nSpr cs ms) 0) (T.leaf (some (AV.b false), []))
 (T.ob (fconvOk .f32 .f64 (nSpr cs ms) = true)
 (T.ob (fconvOk .f32 .f64 (fsub .f32 (nHi cs ms) (nLo cs ms)) = true)
 (T.ite
 (fgt .f64 (fconv .f32 .f64 (nSpr cs ms))
 (fadd .f64 (fconv .f32 .f64 (fsub .f32 (nHi cs ms) (nLo cs ms))) 4562254508917369340))
 (T.leaf (some (AV.b false), [])) (T.leaf (none, c_laws_FnNumbersOf_2 cs ms)))))))))))))))))))))))))))) :
 T.ok Q_ (evK VC ps_laws_FnNumbersOf ks_laws_FnNumbersOf_3 [.t 4] (.b true) ⟨oc_laws_FnNumbersOf cs ms, fun id σ => match id with | 0 => some (lv_laws_FnNumbersOf_L0, .leaf (.normal, h_laws_FnNumbersOf_L0 cs ms (nSum cs ms (nN ms)) (nN ms))) | 4 => some (lv_laws_FnNumbersOf_L4, .leaf (.normal, h_laws_FnNumbersOf_L4 cs ms (nAt cs ms (nN ms)) (nN ms))) | _ => none⟩ (front 1 (rest 9 (rest 4 (b_laws_FnNumbersOf gq0 gq1 gq2 gq3 gq4 gq5 gq6 gq7 gq8 gq9 gq10 gq11 gq12 gq13)))) (c_laws_FnNumbersOf_2 cs ms)) := evK_of (by kernel_rfl) ht

set_option maxHeartbeats 4000000 in
set_option maxRecDepth 100000 in
theorem q_laws_FnNumbersOf_S3 {VC : FuncId → List AV → AV → Prop} {gq0 gq1 gq2 gq3 gq4 gq5 gq6 gq7 gq8 gq9 gq10 gq11 gq12 gq13 : FuncId} (cs : List Int) (ms : List Int) {Q_ : Option AV × Env → Prop} (ht : T.ok Q_ (
 T.ob
 (Exec VC ps_laws_FnNumbersOf
 (VCode.block 0
 (VCode.loop
 (b_laws_FnNumbersOf_L0 gq0 gq1 gq2 gq3 gq4 gq5 gq6 gq7 gq8 gq9 gq10 gq11
 gq12 gq13)))
 (h_laws_FnNumbersOf_L0 cs ms 0 0) Ex.normal (c_laws_FnNumbersOf_4 cs ms))
 (T.leaf (none, c_laws_FnNumbersOf_4 cs ms)))) :
 T.ok Q_ (evK VC ps_laws_FnNumbersOf ks_laws_FnNumbersOf_4 [.t 4] (.b true) ⟨oc_laws_FnNumbersOf cs ms, fun id σ => match id with | 0 => some (lv_laws_FnNumbersOf_L0, .leaf (.normal, h_laws_FnNumbersOf_L0 cs ms (nSum cs ms (nN ms)) (nN ms))) | 4 => some (lv_laws_FnNumbersOf_L4, .leaf (.normal, h_laws_FnNumbersOf_L4 cs ms (nAt cs ms (nN ms)) (nN ms))) | _ => none⟩ (front 2 (rest 1 (rest 9 (rest 4 (b_laws_FnNumbersOf gq0 gq1 gq2 gq3 gq4 gq5 gq6 gq7 gq8 gq9 gq10 gq11 gq12 gq13))))) (c_laws_FnNumbersOf_3 cs ms)) := evK_of (by kernel_rfl) ht

set_option maxHeartbeats 4000000 in
set_option maxRecDepth 100000 in
theorem q_laws_FnNumbersOf_S4 {VC : FuncId → List AV → AV → Prop} {gq0 gq1 gq2 gq3 gq4 gq5 gq6 gq7 gq8 gq9 gq10 gq11 gq12 gq13 : FuncId} (cs : List Int) (ms : List Int) {Q_ : Option AV × Env → Prop} (ht : T.ok Q_ (
 T.ob (fconvOk .f64 .f32 (nSum cs ms (nN ms)) = true)
 (T.ob ((2 : Int) ≠ 0)
 (T.ob True
 (T.ob
 (VC gq9
 [AV.f .f32 (fconv .f64 .f32 (nSum cs ms (nN ms))),
 AV.f .f32
 (fofi .f32
 (wrap .i64 (Int.tdiv (wrap .i64 (wrap .i64 (1 + atM ms 40 20) * wrap .i64 (wrap .i64 (1 + atM ms 40 20) + 1))) 2)))]
 (AV.f .f64
 (r8G (fconv .f64 .f32 (nSum cs ms (nN ms)))
 (fofi .f32
 (wrap .i64 (Int.tdiv (wrap .i64 (wrap .i64 (1 + atM ms 40 20) * wrap .i64 (wrap .i64 (1 + atM ms 40 20) + 1))) 2))))))
 (T.ite
 (fgt .f64
 (r8G (fconv .f64 .f32 (nSum cs ms (nN ms)))
 (fofi .f32
 (wrap .i64 (Int.tdiv (wrap .i64 (wrap .i64 (1 + atM ms 40 20) * wrap .i64 (wrap .i64 (1 + atM ms 40 20) + 1))) 2))))
 4562254508917369340)
 (T.leaf (some (AV.b false), [])) (T.leaf (none, c_laws_FnNumbersOf_4 cs ms)))))))) :
 T.ok Q_ (evK VC ps_laws_FnNumbersOf ks_laws_FnNumbersOf_5 [.t 4] (.b true) ⟨oc_laws_FnNumbersOf cs ms, fun id σ => match id with | 0 => some (lv_laws_FnNumbersOf_L0, .leaf (.normal, h_laws_FnNumbersOf_L0 cs ms (nSum cs ms (nN ms)) (nN ms))) | 4 => some (lv_laws_FnNumbersOf_L4, .leaf (.normal, h_laws_FnNumbersOf_L4 cs ms (nAt cs ms (nN ms)) (nN ms))) | _ => none⟩ (front 1 (rest 2 (rest 1 (rest 9 (rest 4 (b_laws_FnNumbersOf gq0 gq1 gq2 gq3 gq4 gq5 gq6 gq7 gq8 gq9 gq10 gq11 gq12 gq13)))))) (c_laws_FnNumbersOf_4 cs ms)) := evK_of (by kernel_rfl) ht

set_option maxHeartbeats 4000000 in
set_option maxRecDepth 100000 in
theorem q_laws_FnNumbersOf_S5 {VC : FuncId → List AV → AV → Prop} {gq0 gq1 gq2 gq3 gq4 gq5 gq6 gq7 gq8 gq9 gq10 gq11 gq12 gq13 : FuncId} (cs : List Int) (ms : List Int) {Q_ : Option AV × Env → Prop} (ht : T.ok Q_ (
 T.ob (VC gq10 [AV.sl (Tag.par [0]) 0 (Cont.f .f32 (nX cs ms))] (AV.tup [AV.sl (Tag.own 0) 0 (Cont.f .f32 (nEv cs ms)), AV.b (nEk cs ms)]))
 (T.ite (!nEk cs ms == fgt .f32 (nSpr cs ms) 0) (T.leaf (some (AV.b false), [])) (T.leaf (none, c_laws_FnNumbersOf_6 cs ms))))) :
 T.ok Q_ (evK VC ps_laws_FnNumbersOf ks_laws_FnNumbersOf_6 [.t 4] (.b true) ⟨oc_laws_FnNumbersOf cs ms, fun id σ => match id with | 0 => some (lv_laws_FnNumbersOf_L0, .leaf (.normal, h_laws_FnNumbersOf_L0 cs ms (nSum cs ms (nN ms)) (nN ms))) | 4 => some (lv_laws_FnNumbersOf_L4, .leaf (.normal, h_laws_FnNumbersOf_L4 cs ms (nAt cs ms (nN ms)) (nN ms))) | _ => none⟩ (front 2 (rest 1 (rest 2 (rest 1 (rest 9 (rest 4 (b_laws_FnNumbersOf gq0 gq1 gq2 gq3 gq4 gq5 gq6 gq7 gq8 gq9 gq10 gq11 gq12 gq13))))))) (c_laws_FnNumbersOf_5 cs ms)) := evK_of (by kernel_rfl) ht

set_option maxHeartbeats 4000000 in
set_option maxRecDepth 100000 in
theorem q_laws_FnNumbersOf_S6 {VC : FuncId → List AV → AV → Prop} {gq0 gq1 gq2 gq3 gq4 gq5 gq6 gq7 gq8 gq9 gq10 gq11 gq12 gq13 : FuncId} (cs : List Int) (ms : List Int) {Q_ : Option AV × Env → Prop} (ht : T.ok Q_ (
 T.ite (nEk cs ms)
 (T.ob (VC gq3 [AV.sl (Tag.par [0]) 0 (Cont.f .f32 (nEv cs ms))] (AV.tup [AV.f .f32 (nEm cs ms), AV.b true]))
 (T.ob (VC gq4 [AV.sl (Tag.par [0]) 0 (Cont.f .f32 (nEv cs ms))] (AV.tup [AV.f .f32 (nEs cs ms), AV.b true]))
 (T.ite false (T.leaf (some (AV.b false), []))
 (T.ite false (T.leaf (some (AV.b false), []))
 (T.ob (VC gq9 [AV.f .f32 (nEm cs ms), AV.f .f32 0] (AV.f .f64 (r8G (nEm cs ms) 0)))
 (T.ite (fgt .f64 (r8G (nEm cs ms) 0) 4562254508917369340) (T.leaf (some (AV.b false), []))
 (T.ob (VC gq9 [AV.f .f32 (nEs cs ms), AV.f .f32 1065353216] (AV.f .f64 (r8G (nEs cs ms) 1065353216)))
 (T.ite (fgt .f64 (r8G (nEs cs ms) 1065353216) 4562254508917369340) (T.leaf (some (AV.b false), [])) (T.leaf (none, c_laws_FnNumbersOf_6 cs ms))))))))))
 (T.leaf (none, c_laws_FnNumbersOf_6 cs ms)))) :
 T.ok Q_ (evK VC ps_laws_FnNumbersOf ks_laws_FnNumbersOf_7 [.t 4] (.b true) ⟨oc_laws_FnNumbersOf cs ms, fun id σ => match id with | 0 => some (lv_laws_FnNumbersOf_L0, .leaf (.normal, h_laws_FnNumbersOf_L0 cs ms (nSum cs ms (nN ms)) (nN ms))) | 4 => some (lv_laws_FnNumbersOf_L4, .leaf (.normal, h_laws_FnNumbersOf_L4 cs ms (nAt cs ms (nN ms)) (nN ms))) | _ => none⟩ (front 1 (rest 2 (rest 1 (rest 2 (rest 1 (rest 9 (rest 4 (b_laws_FnNumbersOf gq0 gq1 gq2 gq3 gq4 gq5 gq6 gq7 gq8 gq9 gq10 gq11 gq12 gq13)))))))) (c_laws_FnNumbersOf_6 cs ms)) := evK_of (by kernel_rfl) ht

set_option maxHeartbeats 4000000 in
set_option maxRecDepth 100000 in
theorem q_laws_FnNumbersOf_S7 {VC : FuncId → List AV → AV → Prop} {gq0 gq1 gq2 gq3 gq4 gq5 gq6 gq7 gq8 gq9 gq10 gq11 gq12 gq13 : FuncId} (cs : List Int) (ms : List Int) {Q_ : Option AV × Env → Prop} (ht : T.ok Q_ (
 T.ob (VC gq1 [AV.sl (Tag.par [0]) 0 (Cont.i .u8 ms), AV.i .i64 42, AV.i .i64 8] (AV.i .i64 (atM ms 42 8)))
 (T.ob True
 (T.ob True
 (T.ob
 (VC gq11 [AV.sl (Tag.par [0]) 0 (Cont.f .f32 (nX cs ms)), AV.f .f32 (fdiv .f32 (fofi .f32 (atM ms 42 8)) 1073741824)]
 (AV.tup [AV.sl (Tag.own 0) 0 (Cont.i .i64 (nFo cs ms)), AV.b true]))
 (T.ob
 (VC gq12 [AV.sl (Tag.par [0]) 0 (Cont.f .f32 (nX cs ms)), AV.f .f32 (fdiv .f32 (fofi .f32 (atM ms 42 8)) 1073741824)]
 (AV.tup [AV.sl (Tag.own 0) 0 (Cont.f .f32 (nTm cs ms)), AV.b true]))
 (T.ob (VC gq1 [AV.sl (Tag.par [0]) 0 (Cont.i .u8 ms), AV.i .i64 43, AV.i .i64 8] (AV.i .i64 (atM ms 43 8)))
 (T.ob
 (VC gq13 [AV.sl (Tag.par [0]) 0 (Cont.ff .f32 [nX cs ms, nX cs ms]), AV.i .i64 (wrap .i64 (1 + atM ms 43 8))]
 (AV.tup [AV.sl (Tag.own 0) 0 (Cont.f .f32 [nMean cs ms, nMean cs ms]), AV.b true]))
 (T.leaf (none, c_laws_FnNumbersOf_8 cs ms)))))))))) :
 T.ok Q_ (evK VC ps_laws_FnNumbersOf ks_laws_FnNumbersOf_8 [.t 4] (.b true) ⟨oc_laws_FnNumbersOf cs ms, fun id σ => match id with | 0 => some (lv_laws_FnNumbersOf_L0, .leaf (.normal, h_laws_FnNumbersOf_L0 cs ms (nSum cs ms (nN ms)) (nN ms))) | 4 => some (lv_laws_FnNumbersOf_L4, .leaf (.normal, h_laws_FnNumbersOf_L4 cs ms (nAt cs ms (nN ms)) (nN ms))) | _ => none⟩ (front 4 (rest 1 (rest 2 (rest 1 (rest 2 (rest 1 (rest 9 (rest 4 (b_laws_FnNumbersOf gq0 gq1 gq2 gq3 gq4 gq5 gq6 gq7 gq8 gq9 gq10 gq11 gq12 gq13))))))))) (c_laws_FnNumbersOf_7 cs ms)) := evK_of (by kernel_rfl) ht

set_option maxHeartbeats 4000000 in
set_option maxRecDepth 100000 in
theorem q_laws_FnNumbersOf_S8 {VC : FuncId → List AV → AV → Prop} {gq0 gq1 gq2 gq3 gq4 gq5 gq6 gq7 gq8 gq9 gq10 gq11 gq12 gq13 : FuncId} (cs : List Int) (ms : List Int) {Q_ : Option AV × Env → Prop} (ht : T.ok Q_ (
 T.ite false (T.leaf (some (AV.b false), []))
 (T.ite false (T.leaf (some (AV.b false), []))
 (T.ite false (T.leaf (some (AV.b false), []))
 (T.ite ((↑(List.length (nTm cs ms)) : Int) != wrap .i64 (1 + atM ms 40 20)) (T.leaf (some (AV.b false), []))
 (T.ite false (T.leaf (some (AV.b false), []))
 (T.ob ((0 : Int) ≤ 0 ∧ 0 < (↑(List.length [nMean cs ms, nMean cs ms]) : Int))
 (T.ite (fne .f32 (List.getD [nMean cs ms, nMean cs ms] 0 0) (nMean cs ms)) (T.leaf (some (AV.b false), []))
 (T.ob ((0 : Int) ≤ 1 ∧ 1 < (↑(List.length [nMean cs ms, nMean cs ms]) : Int))
 (T.ite (fne .f32 (List.getD [nMean cs ms, nMean cs ms] 1 0) (nMean cs ms)) (T.leaf (some (AV.b false), [])) (T.leaf (none, c_laws_FnNumbersOf_8 cs ms)))))))))))) :
 T.ok Q_ (evK VC ps_laws_FnNumbersOf ks_laws_FnNumbersOf_9 [.t 4] (.b true) ⟨oc_laws_FnNumbersOf cs ms, fun id σ => match id with | 0 => some (lv_laws_FnNumbersOf_L0, .leaf (.normal, h_laws_FnNumbersOf_L0 cs ms (nSum cs ms (nN ms)) (nN ms))) | 4 => some (lv_laws_FnNumbersOf_L4, .leaf (.normal, h_laws_FnNumbersOf_L4 cs ms (nAt cs ms (nN ms)) (nN ms))) | _ => none⟩ (front 1 (rest 4 (rest 1 (rest 2 (rest 1 (rest 2 (rest 1 (rest 9 (rest 4 (b_laws_FnNumbersOf gq0 gq1 gq2 gq3 gq4 gq5 gq6 gq7 gq8 gq9 gq10 gq11 gq12 gq13)))))))))) (c_laws_FnNumbersOf_8 cs ms)) := evK_of (by kernel_rfl) ht

set_option maxHeartbeats 4000000 in
set_option maxRecDepth 100000 in
theorem q_laws_FnNumbersOf_S9 {VC : FuncId → List AV → AV → Prop} {gq0 gq1 gq2 gq3 gq4 gq5 gq6 gq7 gq8 gq9 gq10 gq11 gq12 gq13 : FuncId} (cs : List Int) (ms : List Int) {Q_ : Option AV × Env → Prop} (ht : T.ok Q_ (
 T.ob
 (Exec VC ps_laws_FnNumbersOf
 (VCode.block 4
 (VCode.loop
 (b_laws_FnNumbersOf_L4 gq0 gq1 gq2 gq3 gq4 gq5 gq6 gq7 gq8 gq9 gq10 gq11
 gq12 gq13)))
 (h_laws_FnNumbersOf_L4 cs ms 0 0) Ex.normal (c_laws_FnNumbersOf_10 cs ms))
 (T.leaf (none, c_laws_FnNumbersOf_10 cs ms)))) :
 T.ok Q_ (evK VC ps_laws_FnNumbersOf ks_laws_FnNumbersOf_10 [.t 4] (.b true) ⟨oc_laws_FnNumbersOf cs ms, fun id σ => match id with | 0 => some (lv_laws_FnNumbersOf_L0, .leaf (.normal, h_laws_FnNumbersOf_L0 cs ms (nSum cs ms (nN ms)) (nN ms))) | 4 => some (lv_laws_FnNumbersOf_L4, .leaf (.normal, h_laws_FnNumbersOf_L4 cs ms (nAt cs ms (nN ms)) (nN ms))) | _ => none⟩ (front 2 (rest 1 (rest 4 (rest 1 (rest 2 (rest 1 (rest 2 (rest 1 (rest 9 (rest 4 (b_laws_FnNumbersOf gq0 gq1 gq2 gq3 gq4 gq5 gq6 gq7 gq8 gq9 gq10 gq11 gq12 gq13))))))))))) (c_laws_FnNumbersOf_9 cs ms)) := evK_of (by kernel_rfl) ht

set_option maxHeartbeats 4000000 in
set_option maxRecDepth 100000 in
theorem q_laws_FnNumbersOf_S10 {VC : FuncId → List AV → AV → Prop} {gq0 gq1 gq2 gq3 gq4 gq5 gq6 gq7 gq8 gq9 gq10 gq11 gq12 gq13 : FuncId} (cs : List Int) (ms : List Int) {Q_ : Option AV × Env → Prop} (ht : T.ok Q_ (
 T.leaf (some (AV.b (nAt cs ms (nN ms) == (↑(List.length (nFo cs ms)) : Int))), []))) :
 T.ok Q_ (evS VC ps_laws_FnNumbersOf [.t 4] (.b true) ⟨oc_laws_FnNumbersOf cs ms, fun id σ => match id with | 0 => some (lv_laws_FnNumbersOf_L0, .leaf (.normal, h_laws_FnNumbersOf_L0 cs ms (nSum cs ms (nN ms)) (nN ms))) | 4 => some (lv_laws_FnNumbersOf_L4, .leaf (.normal, h_laws_FnNumbersOf_L4 cs ms (nAt cs ms (nN ms)) (nN ms))) | _ => none⟩ (rest 2 (rest 1 (rest 4 (rest 1 (rest 2 (rest 1 (rest 2 (rest 1 (rest 9 (rest 4 (b_laws_FnNumbersOf gq0 gq1 gq2 gq3 gq4 gq5 gq6 gq7 gq8 gq9 gq10 gq11 gq12 gq13))))))))))) (c_laws_FnNumbersOf_10 cs ms)) := evS_of (by kernel_rfl) ht

-- END laws_FnNumbersOf

/-- what the law draws -/
structure ND (cs ms : List Int) : Prop where
  hn : 1 ≤ nN ms ∧ nN ms ≤ 20
  wN : IntKind.wrap .i64 (1 + atM ms 40 20) = (nN ms : Int)
  lx : (nX cs ms).length = nN ms
  hx : HL 46 (nX cs ms)
  ha : ∃ a : Nat, a ≤ 16 ∧ nS ms = shW a
  hb : ∃ a : Nat, a ≤ 7 ∧ nB ms = fdiv .f32 (fofi .f32 (a : Int)) 1073741824
  hw : ∃ a : Nat, a ≤ 7 ∧ atM ms 43 8 = a
theorem nd_of {cs ms : List Int} (hc : Byt cs) (hm : Byt ms) : ND cs ms := by
  have a0 := at_le hm (i := 40) (n := 20) (by omega)
  have a1 := at_le hm (i := 41) (n := 17) (by omega)
  have a2 := at_le hm (i := 42) (n := 8) (by omega)
  have a3 := at_le hm (i := 43) (n := 8) (by omega)
  have eN : ((nN ms : Nat) : Int) = 1 + atM ms 40 20 := by unfold nN; omega
  exact {
    hn := by omega
    wN := by rw [eN]; exact wrap64_id (by omega) (by omega)
    lx := s2L_len _ _ _ _
    hx := s2L_46 hc (by omega)
    ha := ⟨(atM ms 41 17).toNat, by omega, by unfold nS shW; rw [show (((atM ms 41 17).toNat : Nat) : Int) = atM ms 41 17 by omega]⟩
    hb := ⟨(atM ms 42 8).toNat, by omega, by unfold nB; rw [show (((atM ms 42 8).toNat : Nat) : Int) = atM ms 42 8 by omega]⟩
    hw := ⟨(atM ms 43 8).toNat, by omega, by omega⟩ }
section
variable {P : Program} {cs ms : List Int} {g1 g2 g3 g4 g5 g6 g7 g8 g9 g10 g11 g12 g13 g14 : FuncId}
theorem ND.series (d : ND cs ms) : seriesM (nX cs ms) = true := d.hx.series (by have := d.hn; rw [d.lx]; omega)
theorem ND.rl (d : ND cs ms) : (nRk cs ms).length = nN ms := by unfold nRk; rw [rk_len, d.lx]
theorem nd_loop2 (d : ND cs ms) {sum : Nat} {i : Nat} (hi : i < nN ms) :
    Exec (VCall P) ps_laws_FnNumbersOf (VCode.block 2 (VCode.loop (b_laws_FnNumbersOf_L2 g1 g2 g3 g4 g5 g6 g7 g8 g9 g10 g11 g12 g13 g14))) (h_laws_FnNumbersOf_L2 cs ms sum i 0) Ex.normal (h_laws_FnNumbersOf_L2 cs ms sum i (nN ms : Nat)) := by
  have hn := d.hn; have lx := d.lx; have rl := d.rl
  refine for_up (e := .exit 2) (nN ms) (fun k => h_laws_FnNumbersOf_L2 cs ms sum i (k : Nat)) (by first | rfl | simp) (fun k hk => ?_) ?_
  · refine q_laws_FnNumbersOf_L2 _ _ _ _ _ ?_
    rw [d.wN, w_succ (by omega)]
    simp only [Int.toNat_natCast]
    obtain ⟨ri, _, vi⟩ := rk_val d.hx (by omega) (i := i) (by omega)
    obtain ⟨rk, _, vk⟩ := rk_val d.hx (by omega) (i := k) (by omega)
    have hiff := rk_iff d.hx (i := i) (k := k) (by omega) (by omega)
    have e : (flt .f32 ((nX cs ms).getD i 0) ((nX cs ms).getD k 0) == flt .f32 ((nRk cs ms).getD i 0) ((nRk cs ms).getD k 0)) = true := by
      unfold nRk
      rw [flt_rv (k := .f32) (d.hx i (by omega)).1 (d.hx k (by omega)).1, flt_rv (k := .f32) ri rk, beq_iff_eq]
      refine decide_eq_decide.2 ?_
      show sv _ < sv _ ↔ sv _ < sv _
      rw [vi, vk, ← hiff]
      constructor
      · intro h
        have := Rat.intCast_lt_intCast.2 (show rkI (nX cs ms) i + 1 < rkI (nX cs ms) k + 1 by omega)
        grind
      · intro h
        have : ((rkI (nX cs ms) i + 1 : Int) : Rat) < ((rkI (nX cs ms) k + 1 : Int) : Rat) := by grind
        have := Rat.intCast_lt_intCast.1 this
        omega
    rw [e]
    refine T.ok_ite (fun _ => ?_) (fun h => absurd (of_decide_eq_false h) (by omega))
    exact T.ok_ob ⟨by omega, by omega⟩ fun _ => T.ok_ob ⟨by omega, by omega⟩ fun _ => T.ok_ob ⟨by omega, by omega⟩ fun _ => T.ok_ob ⟨by omega, by omega⟩ fun _ => T.ok_ifalse (T.ok_leaf rfl)
  · refine q_laws_FnNumbersOf_L2 _ _ _ _ _ ?_
    rw [d.wN]
    exact T.ok_ite (fun h => absurd (of_decide_eq_true h) (by omega)) (fun _ => T.ok_leaf rfl)
theorem ND.qs (d : ND cs ms) : (∀ a, a ≤ 16 → sf (qV (nX cs ms) (shW a)) ∧ isShareM (shW a) = true ∧ sv ((sortM KS (nX cs ms)).getD 0 0) ≤ sv (qV (nX cs ms) (shW a)) ∧ sv (qV (nX cs ms) (shW a)) ≤ sv ((sortM KS (nX cs ms)).getD ((nX cs ms).length - 1) 0)) ∧
    (sf (nLo cs ms) ∧ sv (nLo cs ms) = sv ((sortM KS (nX cs ms)).getD 0 0)) ∧ (sf (nHi cs ms) ∧ sv (nHi cs ms) = sv ((sortM KS (nX cs ms)).getD ((nX cs ms).length - 1) 0)) ∧ sf (nMed cs ms) ∧ (sf (nHalf cs ms) ∧ sv (nHalf cs ms) = sv (nMed cs ms)) := by
  have hn := d.hn; have lx := d.lx
  obtain ⟨q1, q2, q3, q4, q5⟩ := q_facts d.hx (by omega) (by omega)
  obtain ⟨s1, s2, s3⟩ := sh_words
  have e1 := q1 0 (by omega)
  have e2 := q1 16 (by omega)
  have e3 := q1 8 (by omega)
  rw [s1] at q2 e1
  rw [s2] at q3 e2
  rw [s3] at q5 e3
  exact ⟨q1, ⟨e1.1, q2⟩, ⟨e2.1, q3⟩, q4, ⟨e3.1, q5⟩⟩
theorem ND.ends (d : ND cs ms) {i : Nat} (hi : i < nN ms) : sv (nLo cs ms) ≤ sv ((nX cs ms).getD i 0) ∧ sv ((nX cs ms).getD i 0) ≤ sv (nHi cs ms) := by
  obtain ⟨_, ⟨_, q2⟩, ⟨_, q3⟩, _⟩ := d.qs
  rw [q2, q3]
  exact sort_ends (by rw [d.lx]; exact hi)
theorem nd_loop0 (d : ND cs ms) :
    Exec (VCall P) ps_laws_FnNumbersOf (VCode.block 0 (VCode.loop (b_laws_FnNumbersOf_L0 g1 g2 g3 g4 g5 g6 g7 g8 g9 g10 g11 g12 g13 g14))) (h_laws_FnNumbersOf_L0 cs ms 0 0) Ex.normal (c_laws_FnNumbersOf_4 cs ms) := by
  have hn := d.hn; have lx := d.lx; have rl := d.rl
  obtain ⟨_, ⟨l1, _⟩, ⟨l2, _⟩, _⟩ := d.qs
  refine for_up (e := .exit 0) (nN ms) (fun i => h_laws_FnNumbersOf_L0 cs ms (nSum cs ms i) (i : Nat)) (by first | rfl | simp) (fun i hi => ?_) ?_
  · refine q_laws_FnNumbersOf_L0 _ _ _ _ ?_
    have L2 := nd_loop2 (P := P) (sum := nSum cs ms i) (g1 := g1) (g2 := g2) (g3 := g3) (g4 := g4) (g5 := g5) (g6 := g6) (g7 := g7) (g8 := g8) (g9 := g9) (g10 := g10) (g11 := g11) (g12 := g12) (g13 := g13) (g14 := g14) d hi
    rw [d.wN, w_succ (by omega)]
    simp only [Int.toNat_natCast]
    have xi := d.hx i (by omega)
    obtain ⟨e1, e2⟩ := d.ends hi
    obtain ⟨ri, _, vi⟩ := rk_val d.hx (by omega) (i := i) (by omega)
    obtain ⟨b1, b2, b3⟩ := rk_bounds d.hx (i := i) (by omega)
    obtain ⟨o1, o2⟩ := one_sf
    obtain ⟨f1, f2⟩ := fofi_rv .f32 (n := (nN ms : Int)) (nat_small (by omega))
    have f2 : sv (fofi .f32 (nN ms : Int)) = (nN ms : Rat) := f2
    have ri : sf ((nRk cs ms).getD i 0) := ri
    have vi : sv ((nRk cs ms).getD i 0) = ((rkI (nX cs ms) i + 1 : Int) : Rat) / 2 := vi
    have r1 : flt .f32 ((nRk cs ms).getD i 0) 1065353216 = false := flt_not ri o1 (by
      rw [o2, vi]
      have := Rat.intCast_le_intCast.2 (show (2 : Int) ≤ rkI (nX cs ms) i + 1 by unfold rkI; omega)
      have e : ((2 : Int) : Rat) = 2 := rfl
      rw [e] at this; grind)
    have r2 : fgt .f32 ((nRk cs ms).getD i 0) (fofi .f32 (nN ms : Int)) = false := fgt_not ri f1 (by
      rw [f2, vi]
      have := Rat.intCast_le_intCast.2 (show rkI (nX cs ms) i + 1 ≤ 2 * (nN ms : Int) by unfold rkI; omega)
      rw [Rat.intCast_mul] at this
      have e : ((2 : Int) : Rat) = 2 := rfl
      have e2 : (((nN ms : Nat) : Int) : Rat) = (nN ms : Rat) := rfl
      rw [e, e2] at this; grind)
    rw [flt_not xi.1 l1 e1, fgt_not xi.1 l2 e2, r1, r2]
    refine T.ok_ite (fun _ => ?_) (fun h => absurd (of_decide_eq_false h) (by omega))
    exact T.ok_ob ⟨by omega, by omega⟩ fun _ => T.ok_ob (fconvOk_32_64 _) fun _ => T.ok_ob ⟨by omega, by omega⟩ fun _ => T.ok_ifalse (T.ok_ob ⟨by omega, by omega⟩ fun _ => T.ok_ifalse (T.ok_ob ⟨by omega, by omega⟩ fun _ => T.ok_ifalse (T.ok_ob ⟨by omega, by omega⟩ fun _ => T.ok_ob True.intro fun _ => T.ok_ifalse (T.ok_ob L2 fun _ => T.ok_leaf rfl))))
  · refine q_laws_FnNumbersOf_L0 _ _ _ _ ?_
    rw [d.wN]
    exact T.ok_ite (fun h => absurd (of_decide_eq_true h) (by omega)) (fun _ => T.ok_leaf rfl)
theorem ND.tame (d : ND cs ms) {i : Nat} (hi : i < nN ms) : sf ((nTm cs ms).getD i 0) ∧ (foB (nX cs ms) (nMed cs ms) (nW cs ms) i = false → (nTm cs ms).getD i 0 = (nX cs ms).getD i 0) ∧ (foB (nX cs ms) (nMed cs ms) (nW cs ms) i = true → fgt .f64 (r8G ((nTm cs ms).getD i 0) (nMed cs ms)) (r8G ((nX cs ms).getD i 0) (nMed cs ms)) = false) := by
  obtain ⟨a, h1, h2⟩ := d.hb
  have hn := d.hn; have lx := d.lx
  exact tame_val d.hx (by omega) h1 rfl (by unfold nW; rw [h2]) (by omega)
theorem ND.tl (d : ND cs ms) : (nTm cs ms).length = nN ms := by unfold nTm; rw [tm_len, d.lx]
theorem nd_loop4 (d : ND cs ms) (c10 : C_laws_r8Gap P g10) :
    Exec (VCall P) ps_laws_FnNumbersOf (VCode.block 4 (VCode.loop (b_laws_FnNumbersOf_L4 g1 g2 g3 g4 g5 g6 g7 g8 g9 g10 g11 g12 g13 g14))) (h_laws_FnNumbersOf_L4 cs ms 0 0) Ex.normal (c_laws_FnNumbersOf_10 cs ms) := by
  have hn := d.hn; have lx := d.lx; have tl := d.tl
  have eF : nFo cs ms = foN (nX cs ms) (nMed cs ms) (nW cs ms) (nN ms) := by unfold nFo foM; rw [lx]
  refine for_up (e := .exit 4) (nN ms) (fun i => h_laws_FnNumbersOf_L4 cs ms (nAt cs ms i) (i : Nat)) (by first | rfl | simp) (fun i hi => ?_) ?_
  · refine q_laws_FnNumbersOf_L4 _ _ _ _ ?_
    rw [d.wN, w_succ (by omega)]
    have xi := d.hx i (by omega)
    obtain ⟨t0, t1, t2⟩ := d.tame hi
    have fl := fo_len (nX cs ms) (nMed cs ms) (nW cs ms) i
    have eA : nAt cs ms i = ((foN (nX cs ms) (nMed cs ms) (nW cs ms) i).length : Nat) := rfl
    have eA1 : nAt cs ms (i + 1) = ((foN (nX cs ms) (nMed cs ms) (nW cs ms) (i + 1)).length : Nat) := rfl
    rw [eA, eA1, eF, w_succ (by omega)]
    simp only [Int.toNat_natCast]
    refine T.ok_ite (fun _ => ?_) (fun h => absurd (of_decide_eq_false h) (by omega))
    cases hb : foB (nX cs ms) (nMed cs ms) (nW cs ms) i with
    | true =>
      obtain ⟨f1, f2, f3⟩ := fo_yes (N := nN ms) hi hb
      rw [f2, f3, t2 hb, beq_self_eq_true, List.length_append, List.length_singleton]
      refine T.ok_ite (fun _ => ?_) (fun h => absurd (of_decide_eq_false h) (by omega))
      exact T.ok_ob ⟨by omega, by omega⟩ fun _ => T.ok_itrue (T.ok_ob ⟨by omega, by omega⟩ fun _ => T.ok_ob (c10 _ _) fun _ => T.ok_ob ⟨by omega, by omega⟩ fun _ => T.ok_ob (c10 _ _) fun _ => T.ok_ifalse (T.ok_leaf rfl))
    | false =>
      obtain ⟨f1, f3⟩ := fo_no (N := nN ms) hi hb
      rw [f3, t1 hb, fne_same xi.1 xi.1 rfl]
      refine T.ok_ite (fun h => ?_) (fun _ => T.ok_ob ⟨by omega, by omega⟩ fun _ => T.ok_ob ⟨by omega, by omega⟩ fun _ => T.ok_ifalse (T.ok_leaf rfl))
      have h := of_decide_eq_true h
      have hne := f1 (by omega)
      refine T.ok_ob ⟨by omega, by omega⟩ fun _ => T.ok_ite (fun h => absurd (by simpa using h) hne) (fun _ => T.ok_ob ⟨by omega, by omega⟩ fun _ => T.ok_ob ⟨by omega, by omega⟩ fun _ => T.ok_ifalse (T.ok_leaf rfl))
  · refine q_laws_FnNumbersOf_L4 _ _ _ _ ?_
    rw [d.wN]
    exact T.ok_ite (fun h => absurd (of_decide_eq_true h) (by omega)) (fun _ => T.ok_leaf rfl)
end
theorem k_laws_FnNumbersOf {P : Program} {f g1 g2 g3 g4 g5 g6 g7 g8 g9 g10 g11 g12 g13 g14 : FuncId} (h : Is_laws_FnNumbersOf P f g1 g2 g3 g4 g5 g6 g7 g8 g9 g10 g11 g12 g13 g14) (c1 : C_laws_r8Long P g1) (c2 : C_laws_r8At P g2) (c3 : C_spec_R8Series P g3) (c4 : C_impl_MeanOf P g4) (c5 : C_impl_SpreadOf P g5) (c6 : C_impl_MedianOf P g6) (c7 : C_impl_QuantileOf P g7)
    (c8 : C_impl_RanksOf P g8) (c9 : C_impl_IsSeries P g9) (c10 : C_laws_r8Gap P g10) (c11 : C_impl_EvenSeries P g11) (c12 : C_impl_FarOnes P g12) (c13 : C_impl_TameOnes P g13) (c14 : C_impl_MeansShared P g14) : C_laws_FnNumbersOf P f := by
  intro cs ms
  refine VCall.rng (fun hr => ?_)
  obtain ⟨r1, r2, _⟩ := hr
  obtain ⟨hc, lc⟩ := byt_of (cs := cs) r1
  obtain ⟨hm, lm⟩ := byt_of (cs := ms) r2
  have d := nd_of hc hm
  have hn := d.hn; have lx := d.lx; have rl := d.rl; have tl := d.tl
  have mx : maxLen = 9223372036854775807 := rfl
  have ser := d.series
  have hl22 : 1 ≤ (nX cs ms).length ∧ (nX cs ms).length ≤ 22 := by omega
  obtain ⟨qa, ⟨lo1, lo2⟩, ⟨hi1, hi2⟩, md1, ⟨hf1, hf2⟩⟩ := d.qs
  obtain ⟨a, ha, ea⟩ := d.ha
  obtain ⟨w, hw, ew⟩ := d.hb
  obtain ⟨z, hz, ez⟩ := d.hw
  have hb := fun i hi => d.ends (i := i) (by rw [← lx]; exact hi)
  obtain ⟨mn1, mn2, mn3⟩ := mean_val (d.hx.mono (show 46 ≤ 100 by omega)) (by omega) hb
  have lb := (d.hx 0 (by omega)).bound HL46
  have e0 := d.ends (i := 0) (by omega)
  obtain ⟨s1, s2, s3⟩ := sh_words
  have lohi : -23 ≤ sv (nLo cs ms) ∧ sv (nLo cs ms) ≤ 23 ∧ -23 ≤ sv (nHi cs ms) ∧ sv (nHi cs ms) ≤ 23 := by
    have b1 := (sort_HL d.hx 0 (by rw [sort_len]; omega)).bound HL46
    have b2 := (sort_HL d.hx ((nX cs ms).length - 1) (by rw [sort_len]; omega)).bound HL46
    rw [lo2, hi2]; exact ⟨b1.1, b1.2, b2.1, b2.2⟩
  obtain ⟨sp1, sp2, sp3⟩ := spread_le d.hx hl22 hb (by constructor <;> grind)
  -- calls
  have a4 := c4 (nX cs ms) (by omega)
  have mok : meanOk (nX cs ms) = true := by unfold meanOk; rw [ser, (finM_sf _).2 mn1]; rfl
  rw [mok, if_pos rfl] at a4
  have a5 := c5 (nX cs ms) (by omega)
  have sok : spOk (nX cs ms) = true := by unfold spOk; rw [ser, (finM_sf _).2 sp1]; rfl
  rw [sok, if_pos rfl] at a5
  have a6 := c6 (nX cs ms) (by omega)
  have dok : (seriesM (nX cs ms) && finM (medM (nX cs ms))) = true := by rw [ser, show finM (medM (nX cs ms)) = true from (finM_sf _).2 md1]; rfl
  rw [dok, if_pos rfl] at a6
  have a7 : ∀ k, k ≤ 16 → VCall P g7 [PS [0] .f32 (nX cs ms), .f .f32 (shW k)] (.tup [.f .f32 (qV (nX cs ms) (shW k)), .b true]) := fun k hk => by
    have := c7 (nX cs ms) (shW k) (by omega)
    have ok : qtOk (nX cs ms) (shW k) = true := by unfold qtOk; rw [ser, (qa k hk).2.1, (finM_sf _).2 (qa k hk).1]; rfl
    rw [ok, if_pos rfl] at this
    exact this
  have a70 := a7 0 (by omega)
  have a71 := a7 16 (by omega)
  have a72 := a7 8 (by omega)
  have a73 := a7 a ha
  rw [s1] at a70
  rw [s2] at a71
  rw [s3] at a72
  rw [← ea] at a73
  have a8 := c8 (nX cs ms) (by omega)
  rw [ser, if_pos rfl] at a8
  have a9 := c9 (nX cs ms) (by omega)
  rw [ser] at a9
  have a11 := c11 (nX cs ms) (by omega)
  refine h.call_cut (ps := ps_laws_FnNumbersOf) ?_
  refine cut_stepK (H := True) (σ1 := c_laws_FnNumbersOf_1 cs ms) (q_laws_FnNumbersOf_S0 cs ms ?_) (fun _ => ?_)
  · refine T.ok_ob (c1 _ _) fun _ => T.ok_ite (fun _ => T.ok_end rfl) fun _ => ?_
    rw [d.wN]
    exact T.ok_ob (c2 _ _ _ (by omega) hm) fun _ => T.ok_ob (c3 _ _ (by omega) hc lc) fun _ => T.ok_go True.intro
  refine cut_stepK (H := True) (σ1 := c_laws_FnNumbersOf_2 cs ms) (q_laws_FnNumbersOf_S1 cs ms ?_) (fun _ => ?_)
  · exact T.ok_ob a4 fun _ => T.ok_ob a5 fun _ => T.ok_ob a6 fun _ => T.ok_ob (c2 _ _ _ (by omega) hm) fun _ => T.ok_ob True.intro fun _ => T.ok_ob True.intro fun _ => T.ok_ob a73 fun _ => T.ok_ob a70 fun _ => T.ok_ob a71 fun _ => T.ok_ob a72 fun _ => T.ok_ob a8 fun _ => T.ok_go True.intro
  refine cut_stepK (H := True) (σ1 := c_laws_FnNumbersOf_3 cs ms) (q_laws_FnNumbersOf_S2 cs ms ?_) (fun _ => ?_)
  · have qb := qa a ha
    rw [← ea] at qb
    have t1 : flt .f32 (nQ cs ms) (nLo cs ms) = false := flt_not qb.1 lo1 (by rw [lo2]; exact qb.2.2.1)
    have t2 : fgt .f32 (nQ cs ms) (nHi cs ms) = false := fgt_not qb.1 hi1 (by rw [hi2]; exact qb.2.2.2)
    have t3 : fgt .f64 (r8G (nHalf cs ms) (nMed cs ms)) 4562254508917369340 = false := r8G_same hf1 md1 hf2
    have t4 : flt .f64 (fconv .f32 .f64 (nMean cs ms)) (fsub .f64 (fconv .f32 .f64 (nLo cs ms)) 4562254508917369340) = false := not_below mn1 lo1 mn2 (by grind)
    have t5 : fgt .f64 (fconv .f32 .f64 (nMean cs ms)) (fadd .f64 (fconv .f32 .f64 (nHi cs ms)) 4562254508917369340) = false := not_above mn1 hi1 mn3 (by grind)
    have t6 : flt .f32 (nSpr cs ms) 0 = false := flt_not sp1 zero_sf (by show sv 0 ≤ sv (spreadM _); rw [show sv 0 = 0 from zero_rv _]; exact sp2)
    obtain ⟨x1, x2⟩ : sf (fsub .f32 (nHi cs ms) (nLo cs ms)) ∧ sv (fsub .f32 (nHi cs ms) (nLo cs ms)) = sv (nHi cs ms) - sv (nLo cs ms) := by
      have b1 := (sort_HL d.hx 0 (by rw [sort_len]; omega)).2
      have b2 := (sort_HL d.hx ((nX cs ms).length - 1) (by rw [sort_len]; omega)).2
      rw [← lo2] at b1
      rw [← hi2] at b2
      exact sub_gr .f32 hi1 lo1 b2 b1 (by decide) (by decide) (by decide)
    have t7 : fgt .f64 (fconv .f32 .f64 (nSpr cs ms)) (fadd .f64 (fconv .f32 .f64 (fsub .f32 (nHi cs ms) (nLo cs ms))) 4562254508917369340) = false := not_above8 sp1 x1 (by rw [x2]; exact Rat.le_trans sp3 (by grind)) (by rw [x2]; constructor <;> grind)
    rw [d.wN, bne_no (by omega), t1, t2, t3, t4, t5, t6, t7]
    refine T.ok_ifalse (T.ok_ifalse (T.ok_ifalse (T.ok_ifalse (T.ok_ifalse (T.ok_ifalse (T.ok_ifalse (T.ok_ifalse ?_)))))))
    refine T.ok_ob a9 fun _ => T.ok_ifalse (T.ok_ifalse (T.ok_ifalse (T.ok_ifalse ?_)))
    refine T.ok_ob (c10 _ _) fun _ => T.ok_ifalse (T.ok_ob (fconvOk_32_64 _) fun _ => T.ok_ob (fconvOk_32_64 _) fun _ => T.ok_ifalse ?_)
    refine T.ok_ob (fconvOk_32_64 _) fun _ => T.ok_ob (fconvOk_32_64 _) fun _ => T.ok_ifalse (T.ok_ifalse ?_)
    exact T.ok_ob (fconvOk_32_64 _) fun _ => T.ok_ob (fconvOk_32_64 _) fun _ => T.ok_ifalse (T.ok_go True.intro)
  refine cut_stepK (H := True) (σ1 := c_laws_FnNumbersOf_4 cs ms) (q_laws_FnNumbersOf_S3 cs ms ?_) (fun _ => ?_)
  · exact T.ok_ob (nd_loop0 d) fun _ => T.ok_go True.intro
  refine cut_stepK (H := True) (σ1 := c_laws_FnNumbersOf_5 cs ms) (q_laws_FnNumbersOf_S4 cs ms ?_) (fun _ => ?_)
  · obtain ⟨k1, k2, k3⟩ := rk_sum d.hx (by omega)
    have eS : nSum cs ms (nN ms) = accN (fun i s => fadd .f64 s (fconv .f32 .f64 ((rkM (nX cs ms)).getD i 0))) (nX cs ms).length 0 := by rw [lx]; rfl
    rw [← eS] at k1 k2 k3
    have hk : ∀ k : Nat, k < 21 → IntKind.wrap .i64 (Int.tdiv (IntKind.wrap .i64 ((k : Int) * IntKind.wrap .i64 ((k : Int) + 1))) 2) = ((k * (k + 1) / 2 : Nat) : Int) ∧ 2 * (k * (k + 1) / 2) = k * (k + 1) := by decide +kernel
    obtain ⟨k4, k5⟩ := hk (nN ms) (by omega)
    rw [d.wN, k4]
    obtain ⟨f1, f2⟩ := fofi_rv .f32 (n := ((nN ms * (nN ms + 1) / 2 : Nat) : Int)) (by
      have : nN ms * (nN ms + 1) ≤ 20 * 21 := Nat.mul_le_mul (by omega) (by omega)
      exact Nat.lt_of_le_of_lt (show (((nN ms * (nN ms + 1) / 2 : Nat) : Int)).natAbs ≤ 420 by omega) (by decide))
    have f2 : sv (fofi .f32 ((nN ms * (nN ms + 1) / 2 : Nat) : Int)) = ((nN ms * (nN ms + 1) / 2 : Nat) : Rat) := f2
    have e : sv (fconv .f64 .f32 (nSum cs ms (nN ms))) = sv (fofi .f32 ((nN ms * (nN ms + 1) / 2 : Nat) : Int)) := by
      rw [k3, f2, lx]
      have : ((2 * (nN ms * (nN ms + 1) / 2) : Nat) : Rat) = ((nN ms * (nN ms + 1) : Nat) : Rat) := by rw [k5]
      rw [Rat.natCast_mul, Rat.natCast_mul, nat_succ (nN ms)] at this
      have e2 : ((2 : Nat) : Rat) = 2 := rfl
      rw [e2] at this
      grind
    rw [r8G_same k1 f1 e]
    exact T.ok_ob k2 fun _ => T.ok_ob (by decide) fun _ => T.ok_ob True.intro fun _ => T.ok_ob (c10 _ _) fun _ => T.ok_ifalse (T.ok_go True.intro)
  have ek : (nEk cs ms == fgt .f32 (nSpr cs ms) 0) = true ∧ (nEk cs ms = true → (∀ i, i < (nX cs ms).length → sf ((evenM (nX cs ms)).getD i 0)) ∧ (sf (nEm cs ms) ∧ -(4 / 10000) ≤ sv (nEm cs ms) ∧ sv (nEm cs ms) ≤ 4 / 10000) ∧ (sf (nEs cs ms) ∧ 1 - 7 / 10000 ≤ sv (nEs cs ms) ∧ sv (nEs cs ms) ≤ 1 + 7 / 10000)) := by
    have z0 : sv 0 = 0 := zero_rv _
    have hg : fgt .f32 (nSpr cs ms) 0 = decide (0 < sv (nSpr cs ms)) := by
      have := fgt_rv (k := .f32) (x := nSpr cs ms) (y := 0) sp1 zero_sf
      rw [this]
      show decide (sv 0 < sv (nSpr cs ms)) = _
      rw [z0]
    by_cases hp : 0 < sv (nSpr cs ms)
    · obtain ⟨v1, v2, v3⟩ := even_near d.hx hl22 hp
      have le : (evenM (nX cs ms)).length = (nX cs ms).length := tab_len _ _
      have hk : nEk cs ms = true := by
        unfold nEk evenOk
        rw [ser, (finM_sf _).2 sp1, show fgt .f32 (spreadM (nX cs ms)) 0 = true from by rw [show fgt .f32 (spreadM (nX cs ms)) 0 = _ from hg]; exact decide_eq_true hp, finAll_of (fun i hi => v1 i (by omega))]; rfl
      have eE : nEv cs ms = evenM (nX cs ms) := by unfold nEv; rw [if_pos hk]
      refine ⟨by rw [hk, hg, decide_eq_true hp]; rfl, fun _ => ⟨v1, ?_, ?_⟩⟩
      · unfold nEm; rw [eE]; exact v2
      · unfold nEs; rw [eE]; exact v3
    · have hk : nEk cs ms = false := by
        unfold nEk evenOk
        rw [show fgt .f32 (spreadM (nX cs ms)) 0 = false from by rw [show fgt .f32 (spreadM (nX cs ms)) 0 = _ from hg]; exact decide_eq_false hp]
        simp
      exact ⟨by rw [hk, hg, decide_eq_false hp]; rfl, fun h => by rw [hk] at h; cases h⟩
  refine cut_stepK (H := True) (σ1 := c_laws_FnNumbersOf_6 cs ms) (q_laws_FnNumbersOf_S5 cs ms ?_) (fun _ => ?_)
  · rw [ek.1]
    exact T.ok_ob a11 fun _ => T.ok_ifalse (T.ok_go True.intro)
  set_option maxRecDepth 100000 in
  refine cut_stepK (H := True) (σ1 := c_laws_FnNumbersOf_7 cs ms) (q_laws_FnNumbersOf_S6 cs ms ?_) (fun _ => ?_)
  · refine T.ok_ite (fun hk => ?_) (fun _ => T.ok_go True.intro)
    obtain ⟨v1, ⟨v2, v3, v4⟩, ⟨v5, v6, v7⟩⟩ := ek.2 hk
    have eE : nEv cs ms = evenM (nX cs ms) := by unfold nEv; rw [if_pos hk]
    have le : (nEv cs ms).length = (nX cs ms).length := by rw [eE]; exact tab_len _ _
    have serE : seriesM (nEv cs ms) = true := series_of (by omega) (by omega) (fun i hi => by rw [eE]; exact v1 i (by omega))
    have b4 := c4 (nEv cs ms) (by omega)
    have mok : meanOk (nEv cs ms) = true := by unfold meanOk; rw [serE, show finM (meanM (nEv cs ms)) = true from (finM_sf _).2 v2]; rfl
    rw [mok, if_pos rfl] at b4
    have b5 := c5 (nEv cs ms) (by omega)
    have sok : spOk (nEv cs ms) = true := by unfold spOk; rw [serE, show finM (spreadM (nEv cs ms)) = true from (finM_sf _).2 v5]; rfl
    rw [sok, if_pos rfl] at b5
    have z0 : sv 0 = 0 := zero_rv _
    obtain ⟨o1, o2⟩ := one_sf
    have t1 : fgt .f64 (r8G (nEm cs ms) 0) 4562254508917369340 = false := r8G_near v2 zero_sf (by rw [z0]; grind) (by rw [z0]; grind)
    have t2 : fgt .f64 (r8G (nEs cs ms) 1065353216) 4562254508917369340 = false := r8G_near v5 o1 (by rw [o2]; grind) (by rw [o2]; grind)
    rw [t1, t2]
    exact T.ok_ob b4 fun _ => T.ok_ob b5 fun _ => T.ok_ifalse (T.ok_ifalse (T.ok_ob (c10 _ _) fun _ => T.ok_ifalse (T.ok_ob (c10 _ _) fun _ => T.ok_ifalse (T.ok_go True.intro))))
  set_option maxRecDepth 100000 in
  refine cut_stepK (H := True) (σ1 := c_laws_FnNumbersOf_8 cs ms) (q_laws_FnNumbersOf_S7 cs ms ?_) (fun _ => ?_)
  · obtain ⟨⟨m1, _⟩, fv, _⟩ := far_val d.hx (by omega)
    obtain ⟨x1, _, _⟩ := wide_val d.hx (by omega) hw
    obtain ⟨y1, y2, _⟩ := half_val (a := w) (by omega)
    rw [← ew] at x1 y1 y2
    have okV : okM (farV (nX cs ms)) := fin_ok (finAll_of fun i hi => (fv i hi).1)
    have hnl : notLessM [nB ms] = true := by
      have hk : ∀ k : Nat, k < 8 → notLessM [fdiv .f32 (fofi .f32 (k : Int)) 1073741824] = true := by decide +kernel
      rw [ew]; exact hk w (by omega)
    have hff : finAllM [nMed cs ms, nW cs ms] = true := by
      unfold finAllM
      simp only [List.all_cons, List.all_nil, Bool.and_true, Bool.and_eq_true]
      exact ⟨(finM_sf _).2 m1, (finM_sf _).2 x1⟩
    have a12 := c12 (nX cs ms) (nB ms) (nMed cs ms) (nW cs ms) rfl rfl ser okV hnl hff
    have a13 := c13 (nX cs ms) (nB ms) (nMed cs ms) (nW cs ms) rfl rfl ser okV hnl hff
    have ft : finAllM (nTm cs ms) = true := finAll_of fun i hi => (d.tame (by omega)).1
    rw [show finAllM (tmM (nX cs ms) (nMed cs ms) (nW cs ms)) = true from ft, show ifAllM (tmM (nX cs ms) (nMed cs ms) (nW cs ms)) = nTm cs ms from ifAll_fin ft] at a13
    have a14 := c14 [nX cs ms, nX cs ms] (1 + (z : Int)) (by simp [maxLen_eq]) (by intro x hx; simp at hx; subst hx; omega)
    have eM : msM [nX cs ms, nX cs ms] = [nMean cs ms, nMean cs ms] := rfl
    have mo : msOk [nX cs ms, nX cs ms] (1 + (z : Int)) = true := by
      unfold msOk
      have : msFin [nX cs ms, nX cs ms] = true := by
        unfold msFin
        rw [allN_iff]
        intro i hi
        have : i = 0 ∨ i = 1 := by simp at hi; omega
        rcases this with e | e <;> subst e <;> exact mok
      rw [this, inM_of (by omega)]; rfl
    rw [mo, if_pos rfl, eM] at a14
    have b2 := c2 ms 43 8 (by omega) hm
    rw [ez] at b2
    rw [ez, wrap64_id (n := 1 + (z : Int)) (by omega) (by omega)]
    exact T.ok_ob (c2 _ _ _ (by omega) hm) fun _ => T.ok_ob True.intro fun _ => T.ok_ob True.intro fun _ => T.ok_ob a12 fun _ => T.ok_ob a13 fun _ => T.ok_ob b2 fun _ => T.ok_ob a14 fun _ => T.ok_go True.intro
  set_option maxRecDepth 100000 in
  refine cut_stepK (H := True) (σ1 := c_laws_FnNumbersOf_9 cs ms) (q_laws_FnNumbersOf_S8 cs ms ?_) (fun _ => ?_)
  · rw [d.wN, bne_no (by omega), show ([nMean cs ms, nMean cs ms].getD 0 0) = nMean cs ms from rfl, show ([nMean cs ms, nMean cs ms].getD 1 0) = nMean cs ms from rfl, show fne .f32 (nMean cs ms) (nMean cs ms) = false from fne_same mn1 mn1 rfl]
    exact T.ok_ifalse (T.ok_ifalse (T.ok_ifalse (T.ok_ifalse (T.ok_ifalse (T.ok_ob (by simp) fun _ => T.ok_ifalse (T.ok_ob (by simp) fun _ => T.ok_ifalse (T.ok_go True.intro)))))))
  set_option maxRecDepth 100000 in
  refine cut_stepK (H := True) (σ1 := c_laws_FnNumbersOf_10 cs ms) (q_laws_FnNumbersOf_S9 cs ms ?_) (fun _ => ?_)
  · exact T.ok_ob (nd_loop4 d c10) fun _ => T.ok_go True.intro
  set_option maxRecDepth 100000 in
  refine cut_last (q_laws_FnNumbersOf_S10 cs ms (T.ok_endL ?_))
  have : nAt cs ms (nN ms) = ((nFo cs ms).length : Int) := by unfold nAt nFo foM; rw [lx]
  rw [this, beq_self_eq_true]

end Go.Proofs.LV
