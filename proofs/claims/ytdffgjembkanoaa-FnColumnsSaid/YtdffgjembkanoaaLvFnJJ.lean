/- The fit of columns: rows of numbers that are taken from one another. -/
import Derived.Test.YtdffgjembkanoaaLvFnHH
import Derived.Test.YtdffgjembkanoaaLvAbsX
namespace Go.Proofs.LV
open Go
set_option linter.unusedVariables false
set_option linter.unusedSimpArgs false

def mAt (M : LL) (r j : Nat) : Nat := (M.getD r []).getD j 0
/-- the rows as they are at first -/
def cfRow (xss : LL) (y : List Nat) (i : Nat) : List Nat := (tab xss.length fun k => dotM (xss.getD i []) (xss.getD k [])) ++ [dotM (xss.getD i []) y]
def cfG (xss : LL) (y : List Nat) : LL := tab xss.length (cfRow xss y)
/-- the row with the greatest number in column k, of m rows from row k on -/
def bestL (M : LL) (k : Nat) : Nat → Nat
  | 0 => k
  | m + 1 => if fgt .f32 (absF (mAt M (k + m) k)) (absF (mAt M (bestL M k m) k)) = true then k + m else bestL M k m
def rowsFin (M : LL) (k m : Nat) : Bool := allN m fun i => finAllM (M.getD (k + i) [])
def swL (M : LL) (k b : Nat) : LL := (M.set k (M.getD b [])).set b (M.getD k [])
/-- what is taken off row r -/
def elF (M : LL) (k r : Nat) : Nat := fdiv .f32 (mAt M r k) (mAt M k k)
def elR (M : LL) (k r J : Nat) : List Nat := tab (M.getD r []).length fun j => if k < j ∧ j < J then fsub .f32 (mAt M r j) (fmul .f32 (elF M k r) (mAt M k j)) else mAt M r j
def elL (M : LL) (k n R : Nat) : LL := tab M.length fun r => if k < r ∧ r < R then elR M k r (n + 1) else M.getD r []
def elOk (M : LL) (k n r : Nat) : Bool := finM (elF M k r) && finAllM (elR M k r (n + 1))
def pivOk (M : LL) (k : Nat) : Bool := fgt .f32 (absF (mAt M k k)) 897988541
def swK (M : LL) (n k : Nat) : LL := swL M k (bestL M k (n - k))
def stN (M : LL) (n : Nat) : Nat → LL
  | 0 => M
  | k + 1 => elL (swK (stN M n k) n k) k n n
def okK (M : LL) (n k : Nat) : Bool := rowsFin M k (n - k) && (pivOk (swK M n k) k && allN (n - (k + 1)) fun i => elOk (swK M n k) k n (k + 1 + i))
/-- what is left of the right side -/
def bkX (M : LL) (n : Nat) (out : List Nat) (k : Nat) (m : Nat) : Nat := accN (fun i x => fsub .f32 x (fmul .f32 (mAt M k (k + 1 + i)) (out.getD (k + 1 + i) 0))) m (mAt M k n)
def bkN (M : LL) (n : Nat) : Nat → List Nat
  | 0 => List.replicate n 0
  | m + 1 => (bkN M n m).set (n - (m + 1)) (fdiv .f32 (bkX M n (bkN M n m) (n - (m + 1)) m) (mAt M (n - (m + 1)) (n - (m + 1))))
def cfOk (M : LL) (n : Nat) : Bool := allN n fun k => okK (stN M n k) n k
def cfOut (M : LL) (n : Nat) : List Nat := bkN (stN M n n) n n

def cfRet : Env := anys 4 ++ .sl .nil 0 (.f .f32 []) :: .b false :: anys 218

open Go.IntKind (wrap)
-- FN impl_columnFit
def ps_impl_columnFit : List Nat := [0, 1, 4, 5, 6, 7, 9, 10, 12, 13, 14, 15, 17, 18, 19, 20, 21, 22, 23, 27, 28, 29, 30, 34, 35, 36, 37, 57, 58, 59, 65, 73, 90, 115, 119, 120, 121, 122, 141, 169, 177, 191]
def lv_impl_columnFit_L0 : List Nat := [0, 1, 6, 7, 27, 28, 29]
def lv_impl_columnFit_L2 : List Nat := [0, 1, 6, 7, 9, 10, 27, 28, 29, 34, 35, 36]
def lv_impl_columnFit_L4 : List Nat := [6, 7, 57, 58]
def lv_impl_columnFit_L6 : List Nat := [6, 7, 13, 14, 15, 57, 58]
def lv_impl_columnFit_L8 : List Nat := [6, 7, 13, 57, 58, 119, 120, 121]
def lv_impl_columnFit_L10 : List Nat := [6, 7, 13, 17, 18, 19, 57, 58, 119, 120, 121]
def lv_impl_columnFit_L12 : List Nat := [6, 7, 20, 21]
def lv_impl_columnFit_L14 : List Nat := [6, 7, 20, 21, 22, 23]
def b_impl_columnFit_L2 (gq0 gq1 gq2 gq3 : FuncId) : VCode :=
 (.seq
 (.region false [
 ⟨some 37, (.bin .lss), [.t 36, .t 35], none⟩])
 (.seq
 (.cond (.t 37)
 .skip
 (.exit 2))
 (.seq
 (.block 3
 (.seq
 (.region false [
 ⟨some 38, .iaddr, [.t 34, .t 36], none⟩,
 ⟨some 39, .load, [.t 38], none⟩,
 ⟨some 12, .mv, [.t 39], none⟩])
 (.region false [
 ⟨some 40, .mv, [.t 10], none⟩,
 ⟨some 41, .mv, [.t 9], none⟩,
 ⟨some 42, .mv, [.t 12], none⟩,
 ⟨some 43, (.call gq0), [.t 41, .t 42], none⟩,
 ⟨some 44, (.lit true (.f .f32 [])), [.t 43], none⟩,
 ⟨some 45, .app, [.t 40, .t 44], none⟩,
 ⟨some 10, .mv, [.t 45], none⟩])))
 (.region false [
 ⟨some 46, (.bin .add), [.t 36, .k (.i .i64 1)], none⟩,
 ⟨some 36, .mv, [.t 46], none⟩]))))

def b_impl_columnFit_L0 (gq0 gq1 gq2 gq3 : FuncId) : VCode :=
 (.seq
 (.region false [
 ⟨some 30, (.bin .lss), [.t 29, .t 28], none⟩])
 (.seq
 (.cond (.t 30)
 .skip
 (.exit 0))
 (.seq
 (.block 1
 (.seq
 (.region false [
 ⟨some 31, .iaddr, [.t 27, .t 29], none⟩,
 ⟨some 32, .load, [.t 31], none⟩,
 ⟨some 9, .mv, [.t 32], none⟩])
 (.seq
 (.region false [
 ⟨some 33, (.lit true (.f .f32 [])), [], none⟩,
 ⟨some 10, .mv, [.t 33], none⟩])
 (.seq
 (.seq
 (.region false [
 ⟨some 34, .mv, [.t 0], none⟩,
 ⟨some 35, .len, [.t 34], none⟩,
 ⟨some 36, .mv, [.k (.i .i64 0)], none⟩])
 (.block 2 (.loop (b_impl_columnFit_L2 gq0 gq1 gq2 gq3))))
 (.region false [
 ⟨some 47, .mv, [.t 7], none⟩,
 ⟨some 48, .mv, [.t 10], none⟩,
 ⟨some 49, .mv, [.t 9], none⟩,
 ⟨some 50, .mv, [.t 1], none⟩,
 ⟨some 51, (.call gq0), [.t 49, .t 50], none⟩,
 ⟨some 52, (.lit true (.f .f32 [])), [.t 51], none⟩,
 ⟨some 53, .app, [.t 48, .t 52], none⟩,
 ⟨some 54, (.lit true (.ff .f32 [])), [.t 53], none⟩,
 ⟨some 55, .app, [.t 47, .t 54], none⟩,
 ⟨some 7, .mv, [.t 55], none⟩])))))
 (.region false [
 ⟨some 56, (.bin .add), [.t 29, .k (.i .i64 1)], none⟩,
 ⟨some 29, .mv, [.t 56], none⟩]))))

def b_impl_columnFit_L6 (gq0 gq1 gq2 gq3 : FuncId) : VCode :=
 (.seq
 (.seq
 (.region false [
 ⟨some 63, .mv, [.t 15], none⟩,
 ⟨some 64, .mv, [.t 6], none⟩,
 ⟨some 65, (.bin .lss), [.t 63, .t 64], none⟩])
 (.cond (.t 65)
 .skip
 (.exit 6)))
 (.seq
 (.block 7
 (.seq
 (.seq
 (.region false [
 ⟨some 68, .mv, [.t 7], none⟩,
 ⟨some 69, .mv, [.t 15], none⟩,
 ⟨some 70, .iaddr, [.t 68, .t 69], none⟩,
 ⟨some 71, .load, [.t 70], none⟩,
 ⟨some 72, (.call gq1), [.t 71], none⟩,
 ⟨some 73, .not, [.t 72], none⟩])
 (.cond (.t 73)
 (.seq
 (.region false [
 ⟨some 4, (.nilsl (.f .f32 [])), [], none⟩,
 ⟨some 5, .mv, [.k (.b false)], none⟩])
 .ret)
 .skip))
 (.seq
 (.region true [
 ⟨some 74, .mv, [.t 7], none⟩,
 ⟨some 75, .mv, [.t 15], none⟩,
 ⟨some 76, .iaddr, [.t 74, .t 75], none⟩,
 ⟨some 77, .load, [.t 76], none⟩,
 ⟨some 78, .mv, [.t 13], none⟩,
 ⟨some 79, .iaddr, [.t 77, .t 78], none⟩,
 ⟨some 80, .load, [.t 79], none⟩,
 ⟨some 81, (.call gq2), [.t 80], none⟩,
 ⟨some 82, .mv, [.t 7], none⟩,
 ⟨some 83, .mv, [.t 14], none⟩,
 ⟨some 84, .iaddr, [.t 82, .t 83], none⟩,
 ⟨some 85, .load, [.t 84], none⟩,
 ⟨some 86, .mv, [.t 13], none⟩,
 ⟨some 87, .iaddr, [.t 85, .t 86], none⟩,
 ⟨some 88, .load, [.t 87], none⟩,
 ⟨some 89, (.call gq2), [.t 88], none⟩,
 ⟨some 90, (.bin .gtr), [.t 81, .t 89], none⟩])
 (.cond (.t 90)
 (.region false [
 ⟨some 91, .mv, [.t 15], none⟩,
 ⟨some 14, .mv, [.t 91], none⟩])
 .skip))))
 (.region false [
 ⟨some 66, .mv, [.t 15], none⟩,
 ⟨some 67, (.bin .add), [.t 66, .k (.i .i64 1)], none⟩,
 ⟨some 15, .mv, [.t 67], none⟩])))

def b_impl_columnFit_L10 (gq0 gq1 gq2 gq3 : FuncId) : VCode :=
 (.seq
 (.seq
 (.region false [
 ⟨some 139, .mv, [.t 19], none⟩,
 ⟨some 140, .mv, [.t 6], none⟩,
 ⟨some 141, (.bin .leq), [.t 139, .t 140], none⟩])
 (.cond (.t 141)
 .skip
 (.exit 10)))
 (.seq
 (.block 11
 (.region true [
 ⟨some 144, .mv, [.t 17], none⟩,
 ⟨some 145, .mv, [.t 19], none⟩,
 ⟨some 146, .mv, [.t 17], none⟩,
 ⟨some 147, .mv, [.t 19], none⟩,
 ⟨some 148, .iaddr, [.t 146, .t 147], none⟩,
 ⟨some 149, .load, [.t 148], none⟩,
 ⟨some 150, .mv, [.t 18], none⟩,
 ⟨some 151, .mv, [.t 7], none⟩,
 ⟨some 152, .mv, [.t 13], none⟩,
 ⟨some 153, .iaddr, [.t 151, .t 152], none⟩,
 ⟨some 154, .load, [.t 153], none⟩,
 ⟨some 155, .mv, [.t 19], none⟩,
 ⟨some 156, .iaddr, [.t 154, .t 155], none⟩,
 ⟨some 157, .load, [.t 156], none⟩,
 ⟨some 158, (.bin .mul), [.t 150, .t 157], none⟩,
 ⟨some 159, (.bin .sub), [.t 149, .t 158], none⟩,
 ⟨some 160, .iaddr, [.t 144, .t 145], none⟩,
 ⟨none, .store, [.t 160, .t 159], none⟩]))
 (.region false [
 ⟨some 142, .mv, [.t 19], none⟩,
 ⟨some 143, (.bin .add), [.t 142, .k (.i .i64 1)], none⟩,
 ⟨some 19, .mv, [.t 143], none⟩])))

def b_impl_columnFit_L8 (gq0 gq1 gq2 gq3 : FuncId) : VCode :=
 (.seq
 (.region false [
 ⟨some 122, (.bin .lss), [.t 121, .t 120], none⟩])
 (.seq
 (.cond (.t 122)
 .skip
 (.exit 8))
 (.seq
 (.block 9
 (.seq
 (.region false [
 ⟨some 123, .iaddr, [.t 119, .t 121], none⟩,
 ⟨some 124, .load, [.t 123], none⟩,
 ⟨some 17, .mv, [.t 124], none⟩])
 (.seq
 (.region true [
 ⟨some 125, .mv, [.t 17], none⟩,
 ⟨some 126, .mv, [.t 13], none⟩,
 ⟨some 127, .iaddr, [.t 125, .t 126], none⟩,
 ⟨some 128, .load, [.t 127], none⟩,
 ⟨some 129, .mv, [.t 7], none⟩,
 ⟨some 130, .mv, [.t 13], none⟩,
 ⟨some 131, .iaddr, [.t 129, .t 130], none⟩,
 ⟨some 132, .load, [.t 131], none⟩,
 ⟨some 133, .mv, [.t 13], none⟩,
 ⟨some 134, .iaddr, [.t 132, .t 133], none⟩,
 ⟨some 135, .load, [.t 134], none⟩,
 ⟨some 136, (.bin .quo), [.t 128, .t 135], none⟩,
 ⟨some 18, .mv, [.t 136], none⟩])
 (.seq
 (.seq
 (.region false [
 ⟨some 137, .mv, [.t 13], none⟩,
 ⟨some 138, (.bin .add), [.t 137, .k (.i .i64 1)], none⟩,
 ⟨some 19, .mv, [.t 138], none⟩])
 (.block 10 (.loop (b_impl_columnFit_L10 gq0 gq1 gq2 gq3))))
 (.seq
 (.region false [
 ⟨some 161, .mv, [.t 18], none⟩,
 ⟨some 162, (.lit true (.f .f32 [])), [.t 161], none⟩,
 ⟨some 163, (.call gq1), [.t 162], none⟩,
 ⟨some 164, .not, [.t 163], none⟩,
 ⟨some 165, .mv, [.t 164], none⟩,
 ⟨some 166, .mv, [.t 17], some (165, false)⟩,
 ⟨some 167, (.call gq1), [.t 166], some (165, false)⟩,
 ⟨some 168, .not, [.t 167], some (165, false)⟩,
 ⟨some 169, .pick, [.t 165, .k (.b true), .t 168], none⟩])
 (.cond (.t 169)
 (.seq
 (.region false [
 ⟨some 4, (.nilsl (.f .f32 [])), [], none⟩,
 ⟨some 5, .mv, [.k (.b false)], none⟩])
 .ret)
 .skip))))))
 (.region false [
 ⟨some 170, (.bin .add), [.t 121, .k (.i .i64 1)], none⟩,
 ⟨some 121, .mv, [.t 170], none⟩]))))

def b_impl_columnFit_L4 (gq0 gq1 gq2 gq3 : FuncId) : VCode :=
 (.seq
 (.region false [
 ⟨some 59, (.bin .lss), [.t 58, .t 57], none⟩])
 (.seq
 (.cond (.t 59)
 .skip
 (.exit 4))
 (.seq
 (.block 5
 (.seq
 (.region false [
 ⟨some 60, .mv, [.t 58], none⟩,
 ⟨some 13, .mv, [.t 60], none⟩])
 (.seq
 (.region false [
 ⟨some 61, .mv, [.t 13], none⟩,
 ⟨some 14, .mv, [.t 61], none⟩])
 (.seq
 (.seq
 (.region false [
 ⟨some 62, .mv, [.t 13], none⟩,
 ⟨some 15, .mv, [.t 62], none⟩])
 (.block 6 (.loop (b_impl_columnFit_L6 gq0 gq1 gq2 gq3))))
 (.seq
 (.region true [
 ⟨some 92, .mv, [.t 7], none⟩,
 ⟨some 93, .mv, [.t 13], none⟩,
 ⟨some 94, .mv, [.t 7], none⟩,
 ⟨some 95, .mv, [.t 14], none⟩,
 ⟨some 96, .mv, [.t 7], none⟩,
 ⟨some 97, .mv, [.t 14], none⟩,
 ⟨some 98, .iaddr, [.t 96, .t 97], none⟩,
 ⟨some 99, .load, [.t 98], none⟩,
 ⟨some 100, .mv, [.t 7], none⟩,
 ⟨some 101, .mv, [.t 13], none⟩,
 ⟨some 102, .iaddr, [.t 100, .t 101], none⟩,
 ⟨some 103, .load, [.t 102], none⟩,
 ⟨some 104, .iaddr, [.t 92, .t 93], none⟩,
 ⟨none, .store, [.t 104, .t 99], none⟩,
 ⟨some 105, .iaddr, [.t 94, .t 95], none⟩,
 ⟨none, .store, [.t 105, .t 103], none⟩])
 (.seq
 (.seq
 (.region false [
 ⟨some 106, .mv, [.t 7], none⟩,
 ⟨some 107, .mv, [.t 13], none⟩,
 ⟨some 108, .iaddr, [.t 106, .t 107], none⟩,
 ⟨some 109, .load, [.t 108], none⟩,
 ⟨some 110, .mv, [.t 13], none⟩,
 ⟨some 111, .iaddr, [.t 109, .t 110], none⟩,
 ⟨some 112, .load, [.t 111], none⟩,
 ⟨some 113, (.call gq2), [.t 112], none⟩,
 ⟨some 114, (.bin .gtr), [.t 113, .k (.f .f32 897988541)], none⟩,
 ⟨some 115, .not, [.t 114], none⟩])
 (.cond (.t 115)
 (.seq
 (.region false [
 ⟨some 4, (.nilsl (.f .f32 [])), [], none⟩,
 ⟨some 5, .mv, [.k (.b false)], none⟩])
 .ret)
 .skip))
 (.seq
 (.region false [
 ⟨some 116, .mv, [.t 7], none⟩,
 ⟨some 117, .mv, [.t 13], none⟩,
 ⟨some 118, (.bin .add), [.t 117, .k (.i .i64 1)], none⟩,
 ⟨some 119, (.slice true false false), [.t 116, .t 118], none⟩,
 ⟨some 120, .len, [.t 119], none⟩,
 ⟨some 121, .mv, [.k (.i .i64 0)], none⟩])
 (.block 8 (.loop (b_impl_columnFit_L8 gq0 gq1 gq2 gq3))))))))))
 (.region false [
 ⟨some 171, (.bin .add), [.t 58, .k (.i .i64 1)], none⟩,
 ⟨some 58, .mv, [.t 171], none⟩]))))

def b_impl_columnFit_L14 (gq0 gq1 gq2 gq3 : FuncId) : VCode :=
 (.seq
 (.seq
 (.region false [
 ⟨some 189, .mv, [.t 23], none⟩,
 ⟨some 190, .mv, [.t 6], none⟩,
 ⟨some 191, (.bin .lss), [.t 189, .t 190], none⟩])
 (.cond (.t 191)
 .skip
 (.exit 14)))
 (.seq
 (.block 15
 (.region true [
 ⟨some 194, .mv, [.t 22], none⟩,
 ⟨some 195, .mv, [.t 7], none⟩,
 ⟨some 196, .mv, [.t 21], none⟩,
 ⟨some 197, .iaddr, [.t 195, .t 196], none⟩,
 ⟨some 198, .load, [.t 197], none⟩,
 ⟨some 199, .mv, [.t 23], none⟩,
 ⟨some 200, .iaddr, [.t 198, .t 199], none⟩,
 ⟨some 201, .load, [.t 200], none⟩,
 ⟨some 202, .mv, [.t 20], none⟩,
 ⟨some 203, .mv, [.t 23], none⟩,
 ⟨some 204, .iaddr, [.t 202, .t 203], none⟩,
 ⟨some 205, .load, [.t 204], none⟩,
 ⟨some 206, (.bin .mul), [.t 201, .t 205], none⟩,
 ⟨some 207, (.bin .sub), [.t 194, .t 206], none⟩,
 ⟨some 22, .mv, [.t 207], none⟩]))
 (.region false [
 ⟨some 192, .mv, [.t 23], none⟩,
 ⟨some 193, (.bin .add), [.t 192, .k (.i .i64 1)], none⟩,
 ⟨some 23, .mv, [.t 193], none⟩])))

def b_impl_columnFit_L12 (gq0 gq1 gq2 gq3 : FuncId) : VCode :=
 (.seq
 (.seq
 (.region false [
 ⟨some 176, .mv, [.t 21], none⟩,
 ⟨some 177, (.bin .geq), [.t 176, .k (.i .i64 0)], none⟩])
 (.cond (.t 177)
 .skip
 (.exit 12)))
 (.seq
 (.block 13
 (.seq
 (.region false [
 ⟨some 180, .mv, [.t 7], none⟩,
 ⟨some 181, .mv, [.t 21], none⟩,
 ⟨some 182, .iaddr, [.t 180, .t 181], none⟩,
 ⟨some 183, .load, [.t 182], none⟩,
 ⟨some 184, .mv, [.t 6], none⟩,
 ⟨some 185, .iaddr, [.t 183, .t 184], none⟩,
 ⟨some 186, .load, [.t 185], none⟩,
 ⟨some 22, .mv, [.t 186], none⟩])
 (.seq
 (.seq
 (.region false [
 ⟨some 187, .mv, [.t 21], none⟩,
 ⟨some 188, (.bin .add), [.t 187, .k (.i .i64 1)], none⟩,
 ⟨some 23, .mv, [.t 188], none⟩])
 (.block 14 (.loop (b_impl_columnFit_L14 gq0 gq1 gq2 gq3))))
 (.region false [
 ⟨some 208, .mv, [.t 20], none⟩,
 ⟨some 209, .mv, [.t 21], none⟩,
 ⟨some 210, .mv, [.t 22], none⟩,
 ⟨some 211, .mv, [.t 7], none⟩,
 ⟨some 212, .mv, [.t 21], none⟩,
 ⟨some 213, .iaddr, [.t 211, .t 212], none⟩,
 ⟨some 214, .load, [.t 213], none⟩,
 ⟨some 215, .mv, [.t 21], none⟩,
 ⟨some 216, .iaddr, [.t 214, .t 215], none⟩,
 ⟨some 217, .load, [.t 216], none⟩,
 ⟨some 218, (.bin .quo), [.t 210, .t 217], none⟩,
 ⟨some 219, .iaddr, [.t 208, .t 209], none⟩,
 ⟨none, .store, [.t 219, .t 218], none⟩]))))
 (.region false [
 ⟨some 178, .mv, [.t 21], none⟩,
 ⟨some 179, (.bin .sub), [.t 178, .k (.i .i64 1)], none⟩,
 ⟨some 21, .mv, [.t 179], none⟩])))

def b_impl_columnFit (gq0 gq1 gq2 gq3 : FuncId) : VCode :=
 (.seq
 (.region false [
 ⟨some 4, (.nilsl (.f .f32 [])), [], none⟩,
 ⟨some 5, .mv, [.k (.b false)], none⟩])
 (.seq
 (.region false [
 ⟨some 24, .mv, [.t 0], none⟩,
 ⟨some 25, .len, [.t 24], none⟩,
 ⟨some 6, .mv, [.t 25], none⟩])
 (.seq
 (.region false [
 ⟨some 26, (.lit true (.ff .f32 [])), [], none⟩,
 ⟨some 7, .mv, [.t 26], none⟩])
 (.seq
 (.seq
 (.region false [
 ⟨some 27, .mv, [.t 0], none⟩,
 ⟨some 28, .len, [.t 27], none⟩,
 ⟨some 29, .mv, [.k (.i .i64 0)], none⟩])
 (.block 0 (.loop (b_impl_columnFit_L0 gq0 gq1 gq2 gq3))))
 (.seq
 (.seq
 (.region false [
 ⟨some 57, .mv, [.t 6], none⟩,
 ⟨some 58, .mv, [.k (.i .i64 0)], none⟩])
 (.block 4 (.loop (b_impl_columnFit_L4 gq0 gq1 gq2 gq3))))
 (.seq
 (.region false [
 ⟨some 172, .mv, [.t 6], none⟩,
 ⟨some 173, (.mksl (.f .f32 0)), [.t 172, .t 172], none⟩,
 ⟨some 20, .mv, [.t 173], none⟩])
 (.seq
 (.seq
 (.region false [
 ⟨some 174, .mv, [.t 6], none⟩,
 ⟨some 175, (.bin .sub), [.t 174, .k (.i .i64 1)], none⟩,
 ⟨some 21, .mv, [.t 175], none⟩])
 (.block 12 (.loop (b_impl_columnFit_L12 gq0 gq1 gq2 gq3))))
 (.seq
 (.region false [
 ⟨some 220, .mv, [.t 20], none⟩,
 ⟨some 221, (.call gq3), [.t 220], none⟩,
 ⟨some 222, (.extract 0), [.t 221], none⟩,
 ⟨some 223, (.extract 1), [.t 221], none⟩,
 ⟨some 4, .mv, [.t 222], none⟩,
 ⟨some 5, .mv, [.t 223], none⟩])
 .ret))))))))

abbrev Is_impl_columnFit (P : Program) (g_f : FuncId) (gq0 gq1 gq2 gq3 : FuncId) : Prop := FnIs P g_f 224 [.t 4, .t 5] (b_impl_columnFit gq0 gq1 gq2 gq3)

abbrev C_impl_columnFit (P : Program) (g_f : FuncId) : Prop := ∀ (xss : LL) (y : List Nat) (h1 : 1 ≤ xss.length ∧ xss.length ≤ 6) (hs : ∀ i, i < xss.length → (xss.getD i []).length = y.length) (hn : y.length ≤ 96), VCall P g_f [PF [0] xss, PS [1] .f32 y] (.tup [OS 0 .f32 (if cfOk (cfG xss y) xss.length = true then ifAllM (cfOut (cfG xss y) xss.length) else []), .b (cfOk (cfG xss y) xss.length && finAllM (cfOut (cfG xss y) xss.length))])
def oc1_impl_columnFit (as : List AV) : T AV := match as with | [.sl _ _ (.ff _ xss), .sl _ _ (.f .f32 y)] => .leaf (.tup [OS 0 .f32 (if cfOk (cfG xss y) xss.length = true then ifAllM (cfOut (cfG xss y) xss.length) else []), .b (cfOk (cfG xss y) xss.length && finAllM (cfOut (cfG xss y) xss.length))]) | _ => .fail
def oc_impl_columnFit (xss : LL) (y : List Nat) (d : Nat) (as : List AV) : T AV := match d with | 43 => oc1_impl_dot as | 51 => oc1_impl_dot as | 72 => oc1_impl_areFinite as | 81 => oc1_impl_absolute as | 89 => oc1_impl_absolute as | 113 => oc1_impl_absolute as | 163 => oc1_impl_areFinite as | 167 => oc1_impl_areFinite as | 221 => oc1_impl_ifAll as | _ => .fail
def h_impl_columnFit_L0 (xss : LL) (y : List Nat) (rows : LL) (v29 : Int) : Env := [AV.sl (Tag.par [0]) 0 (Cont.ff .f32 xss), AV.sl (Tag.par [1]) 0 (Cont.f .f32 y)] ++ anys 4 ++ [AV.i .i64 (↑(List.length xss) : Int), .nw 208 0 .f32 rows none] ++ anys 19 ++ [AV.sl (Tag.par [0]) 0 (Cont.ff .f32 xss), AV.i .i64 (↑(List.length xss) : Int), .i .i64 v29] ++ anys 194
def h_impl_columnFit_L2 (xss : LL) (y : List Nat) (rows : LL) (v29 : Int) (rows2 : LL) (row : List Nat) (v36 : Int) : Env := [AV.sl (Tag.par [0]) 0 (Cont.ff .f32 xss), AV.sl (Tag.par [1]) 0 (Cont.f .f32 y)] ++ anys 4 ++ [AV.i .i64 (↑(List.length xss) : Int), .nw 208 0 .f32 rows2 none, .any, AV.sl Tag.imm 0 (Cont.f .f32 (List.getD xss (Int.toNat v29) [])), .sl (Tag.own 264) 0 (.f .f32 row)] ++ anys 16 ++ [AV.sl (Tag.par [0]) 0 (Cont.ff .f32 xss), AV.i .i64 (↑(List.length xss) : Int), AV.i .i64 v29] ++ anys 4 ++ [AV.sl (Tag.par [0]) 0 (Cont.ff .f32 xss), AV.i .i64 (↑(List.length xss) : Int), .i .i64 v36] ++ anys 187
def h_impl_columnFit_L4 (xss : LL) (y : List Nat) (rows : LL) (v58 : Int) : Env := anys 6 ++ [AV.i .i64 (↑(List.length xss) : Int), .nw 208 0 .f32 rows none] ++ anys 49 ++ [AV.i .i64 (↑(List.length xss) : Int), .i .i64 v58] ++ anys 165
def h_impl_columnFit_L6 (xss : LL) (y : List Nat) (rows : LL) (v58 : Int) (best : Int) (i : Int) : Env := anys 6 ++ [AV.i .i64 (↑(List.length xss) : Int), AV.nw 208 0 .f32 rows none] ++ anys 5 ++ [AV.i .i64 v58, .i .i64 best, .i .i64 i] ++ anys 41 ++ [AV.i .i64 (↑(List.length xss) : Int), AV.i .i64 v58] ++ anys 165
def h_impl_columnFit_L8 (xss : LL) (y : List Nat) (rows : LL) (v58 : Int) (rows2 : LL) (v119 : LL) (v121 : Int) : Env := anys 6 ++ [AV.i .i64 (↑(List.length xss) : Int), .nw 208 0 .f32 rows2 none] ++ anys 5 ++ [AV.i .i64 v58] ++ anys 43 ++ [AV.i .i64 (↑(List.length xss) : Int), AV.i .i64 v58] ++ anys 60 ++ [.nw 208 (0 + Int.toNat (wrap .i64 (v58 + 1))) .f32 v119 none, AV.i .i64
 (↑(List.length
 (List.drop (Int.toNat (wrap .i64 (v58 + 1)))
 (List.set (List.set rows (0 + Int.toNat v58) (List.getD rows (Int.toNat (↑(bestL rows (Int.toNat v58) (List.length xss - Int.toNat v58)) : Int)) []))
 (0 + Int.toNat (↑(bestL rows (Int.toNat v58) (List.length xss - Int.toNat v58)) : Int)) (List.getD rows (Int.toNat v58) [])))) :
 Int), .i .i64 v121] ++ anys 102
def h_impl_columnFit_L10 (xss : LL) (y : List Nat) (rows : LL) (v58 : Int) (rows2 : LL) (v119 : LL) (v121 : Int) (rows3 : LL) (row : List Nat) (j : Int) (v1192 : LL) : Env := anys 6 ++ [AV.i .i64 (↑(List.length xss) : Int), .nw 208 0 .f32 rows3 none] ++ anys 5 ++ [AV.i .i64 v58, .any, .any, .any, .sl (Tag.row 208 (0 + Int.toNat (wrap .i64 (v58 + 1)) + Int.toNat v121)) 0 (.f .f32 row), AV.f .f32 (fdiv .f32 (List.getD (List.getD v119 (Int.toNat v121) []) (Int.toNat v58) 0) (List.getD (List.getD rows2 (Int.toNat v58) []) (Int.toNat v58) 0)), .i .i64 j] ++ anys 37 ++ [AV.i .i64 (↑(List.length xss) : Int), AV.i .i64 v58] ++ anys 60 ++ [.nw 208 (0 + Int.toNat (wrap .i64 (v58 + 1))) .f32 v1192 none, AV.i .i64
 (↑(List.length
 (List.drop (Int.toNat (wrap .i64 (v58 + 1)))
 (List.set (List.set rows (0 + Int.toNat v58) (List.getD rows (Int.toNat (↑(bestL rows (Int.toNat v58) (List.length xss - Int.toNat v58)) : Int)) []))
 (0 + Int.toNat (↑(bestL rows (Int.toNat v58) (List.length xss - Int.toNat v58)) : Int)) (List.getD rows (Int.toNat v58) [])))) :
 Int), AV.i .i64 v121] ++ anys 102
def h_impl_columnFit_L12 (xss : LL) (y : List Nat) (rows : LL) (out : List Nat) (k : Int) : Env := anys 6 ++ [AV.i .i64 (↑(List.length xss) : Int), .nw 208 0 .f32 rows none] ++ anys 12 ++ [.sl (Tag.own 1384) 0 (.f .f32 out), .i .i64 k] ++ anys 202
def h_impl_columnFit_L14 (xss : LL) (y : List Nat) (rows : LL) (out : List Nat) (k : Int) (x : Nat) (j : Int) : Env := anys 6 ++ [AV.i .i64 (↑(List.length xss) : Int), AV.nw 208 0 .f32 rows none] ++ anys 12 ++ [AV.sl (Tag.own 1384) 0 (Cont.f .f32 out), AV.i .i64 k, .f .f32 x, .i .i64 j] ++ anys 200

theorem q_impl_columnFit_L0 {VC : FuncId → List AV → AV → Prop} {gq0 gq1 gq2 gq3 : FuncId} (xss : LL) (y : List Nat) (rows : LL) (v29 : Int) {e_ : Ex} {σ_ : Env} (ht : T.ok (fun x_ => x_ = (e_, σ_)) (
 T.ite (decide (v29 < (↑(List.length xss) : Int)))
 (T.ob (0 ≤ v29 ∧ v29 < (↑(List.length xss) : Int))
 (T.ob
 (Exec VC ps_impl_columnFit (VCode.block 2 (VCode.loop (b_impl_columnFit_L2 gq0 gq1 gq2 gq3))) (h_impl_columnFit_L2 xss y rows v29 rows [] 0) Ex.normal
 (h_impl_columnFit_L2 xss y rows v29 rows (tab (List.length xss) fun (k : Nat) => dotM (List.getD xss (Int.toNat v29) []) (List.getD xss k [])) (↑(List.length xss) : Int)))
 (T.ob
 (VC gq0 [AV.sl (Tag.par [0]) 0 (Cont.f .f32 (List.getD xss (Int.toNat v29) [])), AV.sl (Tag.par [1]) 0 (Cont.f .f32 y)] (AV.f .f32 (dotM (List.getD xss (Int.toNat v29) []) y)))
 (T.ob (List.length (tab (List.length xss) fun (k : Nat) => dotM (List.getD xss (Int.toNat v29) []) (List.getD xss k [])) + List.length [dotM (List.getD xss (Int.toNat v29) []) y] ≤ 4294967296)
 (T.ob (List.length rows + List.length [(tab (List.length xss) fun (k : Nat) => dotM (List.getD xss (Int.toNat v29) []) (List.getD xss k [])) ++ [dotM (List.getD xss (Int.toNat v29) []) y]] ≤ 4294967296)
 (T.leaf
 (Ex.normal,
 h_impl_columnFit_L0 xss y (rows ++ [(tab (List.length xss) fun (k : Nat) => dotM (List.getD xss (Int.toNat v29) []) (List.getD xss k [])) ++ [dotM (List.getD xss (Int.toNat v29) []) y]])
 (wrap .i64 (v29 + 1)))))))))
 (T.leaf (Ex.exit 0, h_impl_columnFit_L0 xss y rows v29)))) :
 Exec VC ps_impl_columnFit (b_impl_columnFit_L0 gq0 gq1 gq2 gq3) (h_impl_columnFit_L0 xss y rows v29) e_ σ_ := evL_of (lv := lv_impl_columnFit_L0) (rs := [4, 5]) (O := ⟨oc_impl_columnFit xss y, fun id σ => match id with | 2 => some (lv_impl_columnFit_L2, .leaf (.normal, h_impl_columnFit_L2 xss y rows v29 rows (tab xss.length fun k => dotM (xss.getD v29.toNat []) (xss.getD k [])) xss.length)) | _ => none⟩) (by kernel_rfl) ht

theorem q_impl_columnFit_L2 {VC : FuncId → List AV → AV → Prop} {gq0 gq1 gq2 gq3 : FuncId} (xss : LL) (y : List Nat) (rows : LL) (v29 : Int) (rows2 : LL) (row : List Nat) (v36 : Int) {e_ : Ex} {σ_ : Env} (ht : T.ok (fun x_ => x_ = (e_, σ_)) (
 T.ite (decide (v36 < (↑(List.length xss) : Int)))
 (T.ob (0 ≤ v36 ∧ v36 < (↑(List.length xss) : Int))
 (T.ob
 (VC gq0 [AV.sl (Tag.par [0]) 0 (Cont.f .f32 (List.getD xss (Int.toNat v29) [])), AV.sl (Tag.par [1]) 0 (Cont.f .f32 (List.getD xss (Int.toNat v36) []))]
 (AV.f .f32 (dotM (List.getD xss (Int.toNat v29) []) (List.getD xss (Int.toNat v36) []))))
 (T.ob (List.length row + List.length [dotM (List.getD xss (Int.toNat v29) []) (List.getD xss (Int.toNat v36) [])] ≤ 4294967296)
 (T.leaf (Ex.normal, h_impl_columnFit_L2 xss y rows v29 rows2 (row ++ [dotM (List.getD xss (Int.toNat v29) []) (List.getD xss (Int.toNat v36) [])]) (wrap .i64 (v36 + 1)))))))
 (T.leaf (Ex.exit 2, h_impl_columnFit_L2 xss y rows v29 rows2 row v36)))) :
 Exec VC ps_impl_columnFit (b_impl_columnFit_L2 gq0 gq1 gq2 gq3) (h_impl_columnFit_L2 xss y rows v29 rows2 row v36) e_ σ_ := evL_of (lv := lv_impl_columnFit_L2) (rs := [4, 5]) (O := ⟨oc_impl_columnFit xss y, fun _ _ => none⟩) (by kernel_rfl) ht

theorem q_impl_columnFit_L4 {VC : FuncId → List AV → AV → Prop} {gq0 gq1 gq2 gq3 : FuncId} (xss : LL) (y : List Nat) (rows : LL) (v58 : Int) {e_ : Ex} {σ_ : Env} (ht : T.ok (fun x_ => x_ = (e_, σ_)) (
 T.ite (decide (v58 < (↑(List.length xss) : Int)))
 (T.ite (rowsFin rows (Int.toNat v58) (List.length xss - Int.toNat v58))
 (T.ob
 (Exec VC ps_impl_columnFit (VCode.block 6 (VCode.loop (b_impl_columnFit_L6 gq0 gq1 gq2 gq3))) (h_impl_columnFit_L6 xss y rows v58 v58 v58) Ex.normal
 (h_impl_columnFit_L6 xss y rows v58 (↑(bestL rows (Int.toNat v58) (List.length xss - Int.toNat v58)) : Int) (↑(List.length xss) : Int)))
 (T.ob (0 ≤ (↑(bestL rows (Int.toNat v58) (List.length xss - Int.toNat v58)) : Int) ∧ (↑(bestL rows (Int.toNat v58) (List.length xss - Int.toNat v58)) : Int) < (↑(List.length rows) : Int))
 (T.ob (0 ≤ v58 ∧ v58 < (↑(List.length rows) : Int))
 (T.ob (0 ≤ v58 ∧ v58 < (↑(List.length rows) : Int))
 (T.ob True
 (T.ob
 (0 ≤ (↑(bestL rows (Int.toNat v58) (List.length xss - Int.toNat v58)) : Int) ∧
 (↑(bestL rows (Int.toNat v58) (List.length xss - Int.toNat v58)) : Int) <
 (↑(List.length (List.set rows (0 + Int.toNat v58) (List.getD rows (Int.toNat (↑(bestL rows (Int.toNat v58) (List.length xss - Int.toNat v58)) : Int)) []))) : Int))
 (T.ob
 (0 + Int.toNat (↑(bestL rows (Int.toNat v58) (List.length xss - Int.toNat v58)) : Int) = 0 + Int.toNat (↑(bestL rows (Int.toNat v58) (List.length xss - Int.toNat v58)) : Int) ∧
 swn (0 + Int.toNat v58) (0 + Int.toNat (↑(bestL rows (Int.toNat v58) (List.length xss - Int.toNat v58)) : Int)) (0 + Int.toNat v58) =
 0 + Int.toNat (↑(bestL rows (Int.toNat v58) (List.length xss - Int.toNat v58)) : Int))
 (T.ob
 (0 ≤ v58 ∧
 v58 <
 (↑(List.length
 (List.set (List.set rows (0 + Int.toNat v58) (List.getD rows (Int.toNat (↑(bestL rows (Int.toNat v58) (List.length xss - Int.toNat v58)) : Int)) []))
 (0 + Int.toNat (↑(bestL rows (Int.toNat v58) (List.length xss - Int.toNat v58)) : Int)) (List.getD rows (Int.toNat v58) []))) :
 Int))
 (T.ob
 (0 ≤ v58 ∧
 v58 <
 (↑(List.length
 (List.getD
 (List.set (List.set rows (0 + Int.toNat v58) (List.getD rows (Int.toNat (↑(bestL rows (Int.toNat v58) (List.length xss - Int.toNat v58)) : Int)) []))
 (0 + Int.toNat (↑(bestL rows (Int.toNat v58) (List.length xss - Int.toNat v58)) : Int)) (List.getD rows (Int.toNat v58) []))
 (Int.toNat v58) [])) :
 Int))
 (T.ob
 (VC gq2
 [AV.f .f32
 (List.getD
 (List.getD
 (List.set (List.set rows (0 + Int.toNat v58) (List.getD rows (Int.toNat (↑(bestL rows (Int.toNat v58) (List.length xss - Int.toNat v58)) : Int)) []))
 (0 + Int.toNat (↑(bestL rows (Int.toNat v58) (List.length xss - Int.toNat v58)) : Int)) (List.getD rows (Int.toNat v58) []))
 (Int.toNat v58) [])
 (Int.toNat v58) 0)]
 (AV.f .f32
 (absF
 (List.getD
 (List.getD
 (List.set (List.set rows (0 + Int.toNat v58) (List.getD rows (Int.toNat (↑(bestL rows (Int.toNat v58) (List.length xss - Int.toNat v58)) : Int)) []))
 (0 + Int.toNat (↑(bestL rows (Int.toNat v58) (List.length xss - Int.toNat v58)) : Int)) (List.getD rows (Int.toNat v58) []))
 (Int.toNat v58) [])
 (Int.toNat v58) 0))))
 (T.ite
 (!fgt .f32
 (absF
 (List.getD
 (List.getD
 (List.set (List.set rows (0 + Int.toNat v58) (List.getD rows (Int.toNat (↑(bestL rows (Int.toNat v58) (List.length xss - Int.toNat v58)) : Int)) []))
 (0 + Int.toNat (↑(bestL rows (Int.toNat v58) (List.length xss - Int.toNat v58)) : Int)) (List.getD rows (Int.toNat v58) []))
 (Int.toNat v58) [])
 (Int.toNat v58) 0))
 897988541)
 (T.leaf (Ex.ret, anys 4 ++ AV.sl Tag.nil 0 (Cont.f .f32 []) :: AV.b false :: anys 218))
 (T.ob
 (0 ≤ wrap .i64 (v58 + 1) ∧
 wrap .i64 (v58 + 1) ≤
 (↑(List.length
 (List.set (List.set rows (0 + Int.toNat v58) (List.getD rows (Int.toNat (↑(bestL rows (Int.toNat v58) (List.length xss - Int.toNat v58)) : Int)) []))
 (0 + Int.toNat (↑(bestL rows (Int.toNat v58) (List.length xss - Int.toNat v58)) : Int)) (List.getD rows (Int.toNat v58) []))) :
 Int))
 (T.ite (allN (List.length xss - (Int.toNat v58 + 1)) fun (i : Nat) => elOk (swK rows (List.length xss) (Int.toNat v58)) (Int.toNat v58) (List.length xss) (Int.toNat v58 + 1 + i))
 (T.ob
 (Exec VC ps_impl_columnFit (VCode.block 8 (VCode.loop (b_impl_columnFit_L8 gq0 gq1 gq2 gq3)))
 (h_impl_columnFit_L8 xss y rows v58
 (List.set (List.set rows (0 + Int.toNat v58) (List.getD rows (Int.toNat (↑(bestL rows (Int.toNat v58) (List.length xss - Int.toNat v58)) : Int)) []))
 (0 + Int.toNat (↑(bestL rows (Int.toNat v58) (List.length xss - Int.toNat v58)) : Int)) (List.getD rows (Int.toNat v58) []))
 (List.drop (Int.toNat (wrap .i64 (v58 + 1)))
 (List.set (List.set rows (0 + Int.toNat v58) (List.getD rows (Int.toNat (↑(bestL rows (Int.toNat v58) (List.length xss - Int.toNat v58)) : Int)) []))
 (0 + Int.toNat (↑(bestL rows (Int.toNat v58) (List.length xss - Int.toNat v58)) : Int)) (List.getD rows (Int.toNat v58) [])))
 0)
 Ex.normal
 (h_impl_columnFit_L8 xss y rows v58 (elL (swK rows (List.length xss) (Int.toNat v58)) (Int.toNat v58) (List.length xss) (List.length xss))
 (List.drop (Int.toNat v58 + 1) (elL (swK rows (List.length xss) (Int.toNat v58)) (Int.toNat v58) (List.length xss) (List.length xss)))
 (↑(List.length xss - (Int.toNat v58 + 1)) : Int)))
 (T.leaf (Ex.normal, h_impl_columnFit_L4 xss y (elL (swK rows (List.length xss) (Int.toNat v58)) (Int.toNat v58) (List.length xss) (List.length xss)) (wrap .i64 (v58 + 1)))))
 (T.ob
 (Exec VC ps_impl_columnFit (VCode.block 8 (VCode.loop (b_impl_columnFit_L8 gq0 gq1 gq2 gq3)))
 (h_impl_columnFit_L8 xss y rows v58
 (List.set (List.set rows (0 + Int.toNat v58) (List.getD rows (Int.toNat (↑(bestL rows (Int.toNat v58) (List.length xss - Int.toNat v58)) : Int)) []))
 (0 + Int.toNat (↑(bestL rows (Int.toNat v58) (List.length xss - Int.toNat v58)) : Int)) (List.getD rows (Int.toNat v58) []))
 (List.drop (Int.toNat (wrap .i64 (v58 + 1)))
 (List.set (List.set rows (0 + Int.toNat v58) (List.getD rows (Int.toNat (↑(bestL rows (Int.toNat v58) (List.length xss - Int.toNat v58)) : Int)) []))
 (0 + Int.toNat (↑(bestL rows (Int.toNat v58) (List.length xss - Int.toNat v58)) : Int)) (List.getD rows (Int.toNat v58) [])))
 0)
 Ex.ret (anys 4 ++ AV.sl Tag.nil 0 (Cont.f .f32 []) :: AV.b false :: anys 218))
 (T.leaf (Ex.ret, anys 4 ++ AV.sl Tag.nil 0 (Cont.f .f32 []) :: AV.b false :: anys 218))))))))))))))))
 (T.ob
 (Exec VC ps_impl_columnFit (VCode.block 6 (VCode.loop (b_impl_columnFit_L6 gq0 gq1 gq2 gq3))) (h_impl_columnFit_L6 xss y rows v58 v58 v58) Ex.ret
 (anys 4 ++ AV.sl Tag.nil 0 (Cont.f .f32 []) :: AV.b false :: anys 218))
 (T.leaf (Ex.ret, anys 4 ++ AV.sl Tag.nil 0 (Cont.f .f32 []) :: AV.b false :: anys 218))))
 (T.leaf (Ex.exit 4, h_impl_columnFit_L4 xss y rows v58)))) :
 Exec VC ps_impl_columnFit (b_impl_columnFit_L4 gq0 gq1 gq2 gq3) (h_impl_columnFit_L4 xss y rows v58) e_ σ_ := evL_of (lv := lv_impl_columnFit_L4) (rs := [4, 5]) (O := ⟨oc_impl_columnFit xss y, fun id σ => match id with | 6 => some (lv_impl_columnFit_L6, .ite (rowsFin rows v58.toNat (xss.length - v58.toNat)) (.leaf (.normal, h_impl_columnFit_L6 xss y rows v58 (bestL rows v58.toNat (xss.length - v58.toNat)) xss.length)) (.leaf (.ret, cfRet))) | 8 => some (lv_impl_columnFit_L8, .ite (allN (xss.length - (v58.toNat + 1)) fun i => elOk (swK rows xss.length v58.toNat) v58.toNat xss.length (v58.toNat + 1 + i)) (.leaf (.normal, h_impl_columnFit_L8 xss y rows v58 (elL (swK rows xss.length v58.toNat) v58.toNat xss.length xss.length) ((elL (swK rows xss.length v58.toNat) v58.toNat xss.length xss.length).drop (v58.toNat + 1)) ((xss.length - (v58.toNat + 1) : Nat) : Int))) (.leaf (.ret, cfRet))) | _ => none⟩) (by kernel_rfl) ht

theorem q_impl_columnFit_L6 {VC : FuncId → List AV → AV → Prop} {gq0 gq1 gq2 gq3 : FuncId} (xss : LL) (y : List Nat) (rows : LL) (v58 : Int) (best : Int) (i : Int) {e_ : Ex} {σ_ : Env} (ht : T.ok (fun x_ => x_ = (e_, σ_)) (
 T.ite (decide (i < (↑(List.length xss) : Int)))
 (T.ob (0 ≤ i ∧ i < (↑(List.length rows) : Int))
 (T.ob (VC gq1 [AV.sl (Tag.par [0]) 0 (Cont.f .f32 (List.getD rows (Int.toNat i) []))] (AV.b (finAllM (List.getD rows (Int.toNat i) []))))
 (T.ite (!finAllM (List.getD rows (Int.toNat i) [])) (T.leaf (Ex.ret, anys 4 ++ AV.sl Tag.nil 0 (Cont.f .f32 []) :: AV.b false :: anys 218))
 (T.ob (0 ≤ i ∧ i < (↑(List.length rows) : Int))
 (T.ob (0 ≤ v58 ∧ v58 < (↑(List.length (List.getD rows (Int.toNat i) [])) : Int))
 (T.ob (VC gq2 [AV.f .f32 (List.getD (List.getD rows (Int.toNat i) []) (Int.toNat v58) 0)] (AV.f .f32 (absF (List.getD (List.getD rows (Int.toNat i) []) (Int.toNat v58) 0))))
 (T.ob (0 ≤ best ∧ best < (↑(List.length rows) : Int))
 (T.ob (0 ≤ v58 ∧ v58 < (↑(List.length (List.getD rows (Int.toNat best) [])) : Int))
 (T.ob
 (VC gq2 [AV.f .f32 (List.getD (List.getD rows (Int.toNat best) []) (Int.toNat v58) 0)]
 (AV.f .f32 (absF (List.getD (List.getD rows (Int.toNat best) []) (Int.toNat v58) 0))))
 (T.ite (fgt .f32 (absF (List.getD (List.getD rows (Int.toNat i) []) (Int.toNat v58) 0)) (absF (List.getD (List.getD rows (Int.toNat best) []) (Int.toNat v58) 0)))
 (T.leaf (Ex.normal, h_impl_columnFit_L6 xss y rows v58 i (wrap .i64 (i + 1))))
 (T.leaf (Ex.normal, h_impl_columnFit_L6 xss y rows v58 best (wrap .i64 (i + 1))))))))))))))
 (T.leaf (Ex.exit 6, h_impl_columnFit_L6 xss y rows v58 best i)))) :
 Exec VC ps_impl_columnFit (b_impl_columnFit_L6 gq0 gq1 gq2 gq3) (h_impl_columnFit_L6 xss y rows v58 best i) e_ σ_ := evL_of (lv := lv_impl_columnFit_L6) (rs := [4, 5]) (O := ⟨oc_impl_columnFit xss y, fun _ _ => none⟩) (by kernel_rfl) ht

theorem q_impl_columnFit_L8 {VC : FuncId → List AV → AV → Prop} {gq0 gq1 gq2 gq3 : FuncId} (xss : LL) (y : List Nat) (rows : LL) (v58 : Int) (rows2 : LL) (v119 : LL) (v121 : Int) {e_ : Ex} {σ_ : Env} (ht : T.ok (fun x_ => x_ = (e_, σ_)) (
 T.ite
 (decide
 (v121 <
 (↑(List.length
 (List.drop (Int.toNat (wrap .i64 (v58 + 1)))
 (List.set (List.set rows (0 + Int.toNat v58) (List.getD rows (Int.toNat (↑(bestL rows (Int.toNat v58) (List.length xss - Int.toNat v58)) : Int)) []))
 (0 + Int.toNat (↑(bestL rows (Int.toNat v58) (List.length xss - Int.toNat v58)) : Int)) (List.getD rows (Int.toNat v58) [])))) :
 Int)))
 (T.ob (0 ≤ v121 ∧ v121 < (↑(List.length v119) : Int))
 (T.ob (0 ≤ v58 ∧ v58 < (↑(List.length (List.getD v119 (Int.toNat v121) [])) : Int))
 (T.ob (0 ≤ v58 ∧ v58 < (↑(List.length rows2) : Int))
 (T.ob (0 ≤ v58 ∧ v58 < (↑(List.length (List.getD rows2 (Int.toNat v58) [])) : Int))
 (T.ob True
 (T.ob
 (Exec VC ps_impl_columnFit (VCode.block 10 (VCode.loop (b_impl_columnFit_L10 gq0 gq1 gq2 gq3)))
 (h_impl_columnFit_L10 xss y rows v58 rows2 v119 v121 rows2 (List.getD v119 (Int.toNat v121) []) (wrap .i64 (v58 + 1)) v119) Ex.normal
 (h_impl_columnFit_L10 xss y rows v58 rows2 v119 v121 (List.set rows2 (Int.toNat v58 + 1 + Int.toNat v121) (elR rows2 (Int.toNat v58) (Int.toNat v58 + 1 + Int.toNat v121) (List.length xss + 1)))
 (elR rows2 (Int.toNat v58) (Int.toNat v58 + 1 + Int.toNat v121) (List.length xss + 1)) ((↑(List.length xss) : Int) + 1)
 (List.set v119 (Int.toNat v121) (elR rows2 (Int.toNat v58) (Int.toNat v58 + 1 + Int.toNat v121) (List.length xss + 1)))))
 (T.ob
 (VC gq1
 [AV.sl (Tag.par [0]) 0 (Cont.f .f32 [fdiv .f32 (List.getD (List.getD v119 (Int.toNat v121) []) (Int.toNat v58) 0) (List.getD (List.getD rows2 (Int.toNat v58) []) (Int.toNat v58) 0)])]
 (AV.b (finAllM [fdiv .f32 (List.getD (List.getD v119 (Int.toNat v121) []) (Int.toNat v58) 0) (List.getD (List.getD rows2 (Int.toNat v58) []) (Int.toNat v58) 0)])))
 (T.ite (!finAllM [fdiv .f32 (List.getD (List.getD v119 (Int.toNat v121) []) (Int.toNat v58) 0) (List.getD (List.getD rows2 (Int.toNat v58) []) (Int.toNat v58) 0)])
 (T.leaf (Ex.ret, anys 4 ++ AV.sl Tag.nil 0 (Cont.f .f32 []) :: AV.b false :: anys 218))
 (T.ob
 (VC gq1 [AV.sl (Tag.par [0]) 0 (Cont.f .f32 (elR rows2 (Int.toNat v58) (Int.toNat v58 + 1 + Int.toNat v121) (List.length xss + 1)))]
 (AV.b (finAllM (elR rows2 (Int.toNat v58) (Int.toNat v58 + 1 + Int.toNat v121) (List.length xss + 1)))))
 (T.ite (!finAllM (elR rows2 (Int.toNat v58) (Int.toNat v58 + 1 + Int.toNat v121) (List.length xss + 1)))
 (T.leaf (Ex.ret, anys 4 ++ AV.sl Tag.nil 0 (Cont.f .f32 []) :: AV.b false :: anys 218))
 (T.leaf
 (Ex.normal,
 h_impl_columnFit_L8 xss y rows v58 (List.set rows2 (Int.toNat v58 + 1 + Int.toNat v121) (elR rows2 (Int.toNat v58) (Int.toNat v58 + 1 + Int.toNat v121) (List.length xss + 1)))
 (List.set v119 (Int.toNat v121) (elR rows2 (Int.toNat v58) (Int.toNat v58 + 1 + Int.toNat v121) (List.length xss + 1))) (wrap .i64 (v121 + 1))))))))))))))
 (T.leaf (Ex.exit 8, h_impl_columnFit_L8 xss y rows v58 rows2 v119 v121)))) :
 Exec VC ps_impl_columnFit (b_impl_columnFit_L8 gq0 gq1 gq2 gq3) (h_impl_columnFit_L8 xss y rows v58 rows2 v119 v121) e_ σ_ := evL_of (lv := lv_impl_columnFit_L8) (rs := [4, 5]) (O := ⟨oc_impl_columnFit xss y, fun id σ => match id with | 10 => some (lv_impl_columnFit_L10, .leaf (.normal, h_impl_columnFit_L10 xss y rows v58 rows2 v119 v121 (rows2.set (v58.toNat + 1 + v121.toNat) (elR rows2 v58.toNat (v58.toNat + 1 + v121.toNat) (xss.length + 1))) (elR rows2 v58.toNat (v58.toNat + 1 + v121.toNat) (xss.length + 1)) (xss.length + 1) (v119.set v121.toNat (elR rows2 v58.toNat (v58.toNat + 1 + v121.toNat) (xss.length + 1))))) | _ => none⟩) (by kernel_rfl) ht

theorem q_impl_columnFit_L10 {VC : FuncId → List AV → AV → Prop} {gq0 gq1 gq2 gq3 : FuncId} (xss : LL) (y : List Nat) (rows : LL) (v58 : Int) (rows2 : LL) (v119 : LL) (v121 : Int) (rows3 : LL) (row : List Nat) (j : Int) (v1192 : LL) {e_ : Ex} {σ_ : Env} (ht : T.ok (fun x_ => x_ = (e_, σ_)) (
 T.ite (decide (j ≤ (↑(List.length xss) : Int)))
 (T.ob (0 ≤ j ∧ j < (↑(List.length row) : Int))
 (T.ob (0 ≤ v58 ∧ v58 < (↑(List.length rows3) : Int))
 (T.ob (0 ≤ j ∧ j < (↑(List.length (List.getD rows3 (Int.toNat v58) [])) : Int))
 (T.ob (0 ≤ j ∧ j < (↑(List.length row) : Int))
 (T.ob True
 (T.leaf
 (Ex.normal,
 h_impl_columnFit_L10 xss y rows v58 rows2 v119 v121
 (if 0 ≤ 0 + Int.toNat (wrap .i64 (v58 + 1)) + Int.toNat v121 then
 List.set rows3 (0 + Int.toNat (wrap .i64 (v58 + 1)) + Int.toNat v121 - 0)
 (List.set (List.getD rows3 (0 + Int.toNat (wrap .i64 (v58 + 1)) + Int.toNat v121 - 0) []) (0 + Int.toNat j)
 (fsub .f32 (List.getD row (Int.toNat j) 0)
 (fmul .f32 (fdiv .f32 (List.getD (List.getD v119 (Int.toNat v121) []) (Int.toNat v58) 0) (List.getD (List.getD rows2 (Int.toNat v58) []) (Int.toNat v58) 0))
 (List.getD (List.getD rows3 (Int.toNat v58) []) (Int.toNat j) 0))))
 else rows3)
 (if 0 + Int.toNat (wrap .i64 (v58 + 1)) + Int.toNat v121 = 0 + Int.toNat (wrap .i64 (v58 + 1)) + Int.toNat v121 then
 List.set row (0 + Int.toNat j)
 (fsub .f32 (List.getD row (Int.toNat j) 0)
 (fmul .f32 (fdiv .f32 (List.getD (List.getD v119 (Int.toNat v121) []) (Int.toNat v58) 0) (List.getD (List.getD rows2 (Int.toNat v58) []) (Int.toNat v58) 0))
 (List.getD (List.getD rows3 (Int.toNat v58) []) (Int.toNat j) 0)))
 else row)
 (wrap .i64 (j + 1))
 (if 0 + Int.toNat (wrap .i64 (v58 + 1)) ≤ 0 + Int.toNat (wrap .i64 (v58 + 1)) + Int.toNat v121 then
 List.set v1192 (0 + Int.toNat (wrap .i64 (v58 + 1)) + Int.toNat v121 - (0 + Int.toNat (wrap .i64 (v58 + 1))))
 (List.set (List.getD v1192 (0 + Int.toNat (wrap .i64 (v58 + 1)) + Int.toNat v121 - (0 + Int.toNat (wrap .i64 (v58 + 1)))) []) (0 + Int.toNat j)
 (fsub .f32 (List.getD row (Int.toNat j) 0)
 (fmul .f32 (fdiv .f32 (List.getD (List.getD v119 (Int.toNat v121) []) (Int.toNat v58) 0) (List.getD (List.getD rows2 (Int.toNat v58) []) (Int.toNat v58) 0))
 (List.getD (List.getD rows3 (Int.toNat v58) []) (Int.toNat j) 0))))
 else v1192))))))))
 (T.leaf (Ex.exit 10, h_impl_columnFit_L10 xss y rows v58 rows2 v119 v121 rows3 row j v1192)))) :
 Exec VC ps_impl_columnFit (b_impl_columnFit_L10 gq0 gq1 gq2 gq3) (h_impl_columnFit_L10 xss y rows v58 rows2 v119 v121 rows3 row j v1192) e_ σ_ := evL_of (lv := lv_impl_columnFit_L10) (rs := [4, 5]) (O := ⟨oc_impl_columnFit xss y, fun _ _ => none⟩) (by kernel_rfl) ht

theorem q_impl_columnFit_L12 {VC : FuncId → List AV → AV → Prop} {gq0 gq1 gq2 gq3 : FuncId} (xss : LL) (y : List Nat) (rows : LL) (out : List Nat) (k : Int) {e_ : Ex} {σ_ : Env} (ht : T.ok (fun x_ => x_ = (e_, σ_)) (
 T.ite (decide (k ≥ 0))
 (T.ob (0 ≤ k ∧ k < (↑(List.length rows) : Int))
 (T.ob (0 ≤ (↑(List.length xss) : Int) ∧ (↑(List.length xss) : Int) < (↑(List.length (List.getD rows (Int.toNat k) [])) : Int))
 (T.ob
 (Exec VC ps_impl_columnFit (VCode.block 14 (VCode.loop (b_impl_columnFit_L14 gq0 gq1 gq2 gq3)))
 (h_impl_columnFit_L14 xss y rows out k (List.getD (List.getD rows (Int.toNat k) []) (Int.toNat (↑(List.length xss) : Int)) 0) (wrap .i64 (k + 1))) Ex.normal
 (h_impl_columnFit_L14 xss y rows out k (bkX rows (List.length xss) out (Int.toNat k) (List.length xss - (Int.toNat k + 1))) (↑(List.length xss) : Int)))
 (T.ob (0 ≤ k ∧ k < (↑(List.length rows) : Int))
 (T.ob (0 ≤ k ∧ k < (↑(List.length (List.getD rows (Int.toNat k) [])) : Int))
 (T.ob True
 (T.ob (0 ≤ k ∧ k < (↑(List.length out) : Int))
 (T.ob (false = false)
 (T.leaf
 (Ex.normal,
 h_impl_columnFit_L12 xss y rows
 (List.set out (0 + Int.toNat k - 0)
 (fdiv .f32 (bkX rows (List.length xss) out (Int.toNat k) (List.length xss - (Int.toNat k + 1))) (List.getD (List.getD rows (Int.toNat k) []) (Int.toNat k) 0)))
 (wrap .i64 (k - 1))))))))))))
 (T.leaf (Ex.exit 12, h_impl_columnFit_L12 xss y rows out k)))) :
 Exec VC ps_impl_columnFit (b_impl_columnFit_L12 gq0 gq1 gq2 gq3) (h_impl_columnFit_L12 xss y rows out k) e_ σ_ := evL_of (lv := lv_impl_columnFit_L12) (rs := [4, 5]) (O := ⟨oc_impl_columnFit xss y, fun id σ => match id with | 14 => some (lv_impl_columnFit_L14, .leaf (.normal, h_impl_columnFit_L14 xss y rows out k (bkX rows xss.length out k.toNat (xss.length - (k.toNat + 1))) xss.length)) | _ => none⟩) (by kernel_rfl) ht

theorem q_impl_columnFit_L14 {VC : FuncId → List AV → AV → Prop} {gq0 gq1 gq2 gq3 : FuncId} (xss : LL) (y : List Nat) (rows : LL) (out : List Nat) (k : Int) (x : Nat) (j : Int) {e_ : Ex} {σ_ : Env} (ht : T.ok (fun x_ => x_ = (e_, σ_)) (
 T.ite (decide (j < (↑(List.length xss) : Int)))
 (T.ob (0 ≤ k ∧ k < (↑(List.length rows) : Int))
 (T.ob (0 ≤ j ∧ j < (↑(List.length (List.getD rows (Int.toNat k) [])) : Int))
 (T.ob (0 ≤ j ∧ j < (↑(List.length out) : Int))
 (T.leaf
 (Ex.normal,
 h_impl_columnFit_L14 xss y rows out k (fsub .f32 x (fmul .f32 (List.getD (List.getD rows (Int.toNat k) []) (Int.toNat j) 0) (List.getD out (Int.toNat j) 0)))
 (wrap .i64 (j + 1)))))))
 (T.leaf (Ex.exit 14, h_impl_columnFit_L14 xss y rows out k x j)))) :
 Exec VC ps_impl_columnFit (b_impl_columnFit_L14 gq0 gq1 gq2 gq3) (h_impl_columnFit_L14 xss y rows out k x j) e_ σ_ := evL_of (lv := lv_impl_columnFit_L14) (rs := [4, 5]) (O := ⟨oc_impl_columnFit xss y, fun _ _ => none⟩) (by kernel_rfl) ht

theorem q_impl_columnFit {P : Program} {g_f : FuncId} {gq0 gq1 gq2 gq3 : FuncId} (h_ : Is_impl_columnFit P g_f gq0 gq1 gq2 gq3) (xss : LL) (y : List Nat) (ht : T.ok (fun x_ => x_ = .tup [OS 0 .f32 (if cfOk (cfG xss y) xss.length = true then ifAllM (cfOut (cfG xss y) xss.length) else []), .b (cfOk (cfG xss y) xss.length && finAllM (cfOut (cfG xss y) xss.length))]) (
 T.ob
 (Exec (VCall P) ps_impl_columnFit (VCode.block 0 (VCode.loop (b_impl_columnFit_L0 gq0 gq1 gq2 gq3))) (h_impl_columnFit_L0 xss y [] 0) Ex.normal
 (h_impl_columnFit_L0 xss y (cfG xss y) (↑(List.length xss) : Int)))
 (T.ite (cfOk (cfG xss y) (List.length xss))
 (T.ob
 (Exec (VCall P) ps_impl_columnFit (VCode.block 4 (VCode.loop (b_impl_columnFit_L4 gq0 gq1 gq2 gq3))) (h_impl_columnFit_L4 xss y (cfG xss y) 0) Ex.normal
 (h_impl_columnFit_L4 xss y (stN (cfG xss y) (List.length xss) (List.length xss)) (↑(List.length xss) : Int)))
 (T.ob ((↑(List.length xss) : Int) = (↑(List.length xss) : Int) ∧ 0 ≤ (↑(List.length xss) : Int) ∧ (↑(List.length xss) : Int) ≤ 4294967296)
 (T.ob
 (Exec (VCall P) ps_impl_columnFit (VCode.block 12 (VCode.loop (b_impl_columnFit_L12 gq0 gq1 gq2 gq3)))
 (h_impl_columnFit_L12 xss y (stN (cfG xss y) (List.length xss) (List.length xss)) (List.replicate (Int.toNat (↑(List.length xss) : Int)) 0) (wrap .i64 ((↑(List.length xss) : Int) - 1)))
 Ex.normal (h_impl_columnFit_L12 xss y (stN (cfG xss y) (List.length xss) (List.length xss)) (cfOut (cfG xss y) (List.length xss)) (-1)))
 (T.ob
 ((VCall P) gq3 [AV.sl (Tag.par [0]) 0 (Cont.f .f32 (cfOut (cfG xss y) (List.length xss)))]
 (AV.tup [AV.sl (Tag.par [0]) 0 (Cont.f .f32 (ifAllM (cfOut (cfG xss y) (List.length xss)))), AV.b (finAllM (cfOut (cfG xss y) (List.length xss)))]))
 (T.leaf (AV.tup [AV.sl (Tag.own 0) 0 (Cont.f .f32 (ifAllM (cfOut (cfG xss y) (List.length xss)))), AV.b (finAllM (cfOut (cfG xss y) (List.length xss)))]))))))
 (T.ob
 (Exec (VCall P) ps_impl_columnFit (VCode.block 4 (VCode.loop (b_impl_columnFit_L4 gq0 gq1 gq2 gq3))) (h_impl_columnFit_L4 xss y (cfG xss y) 0) Ex.ret
 (anys 4 ++ AV.sl Tag.nil 0 (Cont.f .f32 []) :: AV.b false :: anys 218))
 (T.leaf (AV.tup [AV.sl (Tag.own 0) 0 (Cont.f .f32 []), AV.b false])))))) :
 VCall P g_f [PF [0] xss, PS [1] .f32 y] (.tup [OS 0 .f32 (if cfOk (cfG xss y) xss.length = true then ifAllM (cfOut (cfG xss y) xss.length) else []), .b (cfOk (cfG xss y) xss.length && finAllM (cfOut (cfG xss y) xss.length))]) := h_.call_of ps_impl_columnFit ⟨oc_impl_columnFit xss y, fun id σ => match id with | 0 => some (lv_impl_columnFit_L0, .leaf (.normal, h_impl_columnFit_L0 xss y (cfG xss y) xss.length)) | 4 => some (lv_impl_columnFit_L4, .ite (cfOk (cfG xss y) xss.length) (.leaf (.normal, h_impl_columnFit_L4 xss y (stN (cfG xss y) xss.length xss.length) xss.length)) (.leaf (.ret, cfRet))) | 12 => some (lv_impl_columnFit_L12, .leaf (.normal, h_impl_columnFit_L12 xss y (stN (cfG xss y) xss.length xss.length) (cfOut (cfG xss y) xss.length) (-1))) | _ => none⟩ (by kernel_rfl) ht

-- END impl_columnFit

theorem getD_set {α : Type} (xs : List α) (i j : Nat) (v d : α) (h : i < xs.length) : (xs.set i v).getD j d = if i = j then v else xs.getD j d := by
  simp only [List.getD, List.getElem?_set]
  split
  · simp [h]
  · rfl
/-- n rows of n + 1 numbers -/
structure Rect (M : LL) (n : Nat) : Prop where
  len : M.length = n
  row : ∀ r, r < n → (M.getD r []).length = n + 1
theorem cfG_get (xss : LL) (y : List Nat) {r : Nat} (h : r < xss.length) : (cfG xss y).getD r [] = cfRow xss y r := tab_get _ _ _ _ h
theorem cfG_rect (xss : LL) (y : List Nat) : Rect (cfG xss y) xss.length := ⟨tab_len _ _, fun r h => by rw [cfG_get _ _ h]; simp [cfRow, tab_len]⟩
theorem bestL_range (M : LL) (k : Nat) : ∀ m, k ≤ bestL M k m ∧ bestL M k m ≤ k + (m - 1)
  | 0 => by simp [bestL]
  | m + 1 => by
    have := bestL_range M k m
    simp only [bestL]
    split <;> omega
theorem swL_get {M : LL} {k b r : Nat} (hk : k < M.length) (hb : b < M.length) : (swL M k b).getD r [] = if b = r then M.getD k [] else if k = r then M.getD b [] else M.getD r [] := by
  unfold swL
  rw [getD_set _ _ _ _ _ (by rw [List.length_set]; exact hb), getD_set _ _ _ _ _ hk]
theorem swL_rect {M : LL} {n k b : Nat} (h : Rect M n) (hk : k < n) (hb : b < n) : Rect (swL M k b) n := by
  refine ⟨by unfold swL; simp [h.len], fun r hr => ?_⟩
  rw [swL_get (by rw [h.len]; exact hk) (by rw [h.len]; exact hb)]
  split
  · exact h.row _ hk
  · split
    · exact h.row _ hb
    · exact h.row _ hr
theorem best_lt {M : LL} {n k : Nat} (hk : k < n) : bestL M k (n - k) < n := by have := bestL_range M k (n - k); omega
theorem swK_rect {M : LL} {n k : Nat} (h : Rect M n) (hk : k < n) : Rect (swK M n k) n := swL_rect h hk (best_lt hk)
theorem elR_len (M : LL) (k r J : Nat) : (elR M k r J).length = (M.getD r []).length := tab_len _ _
theorem elL_get {M : LL} {k n R r : Nat} (hr : r < M.length) : (elL M k n R).getD r [] = if k < r ∧ r < R then elR M k r (n + 1) else M.getD r [] := tab_get _ _ _ _ hr
theorem elL_rect {M : LL} {n k R : Nat} (h : Rect M n) : Rect (elL M k n R) n := by
  refine ⟨by unfold elL; rw [tab_len, h.len], fun r hr => ?_⟩
  rw [elL_get (by rw [h.len]; exact hr)]
  split
  · rw [elR_len]; exact h.row _ hr
  · exact h.row _ hr
theorem stN_rect {M : LL} {n : Nat} (h : Rect M n) : ∀ {k}, k ≤ n → Rect (stN M n k) n
  | 0, _ => h
  | k + 1, hk => elL_rect (swK_rect (stN_rect h (by omega)) (by omega))
theorem elR_get {M : LL} {k r J j : Nat} (hj : j < (M.getD r []).length) : (elR M k r J).getD j 0 = if k < j ∧ j < J then fsub .f32 (mAt M r j) (fmul .f32 (elF M k r) (mAt M k j)) else mAt M r j := tab_get _ _ _ _ hj
theorem elR_start {M : LL} {k r : Nat} : elR M k r (k + 1) = M.getD r [] := by
  refine List.ext_getElem (elR_len _ _ _ _) fun i h1 h2 => ?_
  simp only [elR, tab, List.getElem_map, List.getElem_range]
  rw [if_neg (by omega)]
  show (M.getD r []).getD i 0 = _
  rw [List.getD_eq_getElem?_getD, List.getElem?_eq_getElem h2]; rfl
theorem elR_step {M : LL} {k r J : Nat} (hk : k < J) (hJ : J < (M.getD r []).length) : (elR M k r J).set J (fsub .f32 (mAt M r J) (fmul .f32 (elF M k r) (mAt M k J))) = elR M k r (J + 1) := by
  unfold elR
  rw [tab_set]
  refine tab_congr fun j hj => ?_
  by_cases e : j = J
  · subst e; rw [if_pos rfl, if_pos (by omega)]
  · rw [if_neg e]
    by_cases h : k < j ∧ j < J
    · rw [if_pos h, if_pos (by omega)]
    · rw [if_neg h, if_neg (by omega)]
/-- rows that differ in nothing that matters -/
theorem elR_congr {M N : LL} {k r J : Nat} (h1 : M.getD r [] = N.getD r []) (h2 : M.getD k [] = N.getD k []) : elR M k r J = elR N k r J := by
  unfold elR elF mAt; rw [h1, h2]
theorem list_getD_ext {xs ys : LL} (hl : xs.length = ys.length) (h : ∀ i, i < xs.length → xs.getD i [] = ys.getD i []) : xs = ys := by
  refine List.ext_getElem hl fun i h1 h2 => ?_
  have := h i h1
  simpa [List.getD, h1, h2] using this
theorem elL_start {M : LL} {k n : Nat} : elL M k n (k + 1) = M := by
  refine list_getD_ext (tab_len _ _) fun i hi => ?_
  have hi : i < M.length := by unfold elL at hi; rw [tab_len] at hi; exact hi
  rw [elL_get hi, if_neg (by omega)]
theorem elL_step {M : LL} {k n R : Nat} (hk : k < R) (hR : R < M.length) : (elL M k n R).set R (elR M k R (n + 1)) = elL M k n (R + 1) := by
  have hl : ∀ R, (elL M k n R).length = M.length := fun R => tab_len _ _
  refine list_getD_ext (by rw [List.length_set, hl, hl]) fun i hi => ?_
  rw [List.length_set, hl] at hi
  rw [getD_set _ _ _ _ _ (by rw [hl]; exact hR), elL_get hi, elL_get hi]
  by_cases e : R = i
  · subst e; rw [if_pos rfl, if_pos (by omega)]
  · rw [if_neg e]
    by_cases h : k < i ∧ i < R
    · rw [if_pos h, if_pos (by omega)]
    · rw [if_neg h, if_neg (by omega)]
theorem drop_set' {α : Type} (xs : List α) (a m : Nat) (v : α) : (xs.drop a).set m v = (xs.set (a + m) v).drop a := by
  apply List.ext_getElem?
  intro i
  simp only [List.getElem?_set, List.getElem?_drop, List.length_drop]
  by_cases e : m = i
  · subst e
    simp only [if_true]
    by_cases h : m < xs.length - a
    · rw [if_pos h, if_pos (by omega)]
    · rw [if_neg h, if_neg (by omega)]
  · rw [if_neg e, if_neg (by omega)]
theorem getD_dropL (xs : LL) (a m : Nat) : (xs.drop a).getD m [] = xs.getD (a + m) [] := by
  simp [List.getD, List.getElem?_drop]
theorem bkN_len (M : LL) (n : Nat) : ∀ m, (bkN M n m).length = n
  | 0 => by simp [bkN]
  | m + 1 => by simp [bkN, bkN_len M n m]

section
variable {P : Program} {f g1 g2 g3 g4 : FuncId}
theorem cf_L0 (c1 : C_impl_dot P g1) (xss : LL) (y : List Nat) (h1 : 1 ≤ xss.length ∧ xss.length ≤ 6) (hs : ∀ i, i < xss.length → (xss.getD i []).length = y.length) (hn : y.length ≤ 96) :
    Exec (VCall P) ps_impl_columnFit (.block 0 (.loop (b_impl_columnFit_L0 g1 g2 g3 g4))) (h_impl_columnFit_L0 xss y [] 0) .normal (h_impl_columnFit_L0 xss y (cfG xss y) xss.length) := by
  refine for_up (e := .exit 0) xss.length (fun i => h_impl_columnFit_L0 xss y (tab i (cfRow xss y)) i) rfl (fun i hi => ?_) ?_
  · refine q_impl_columnFit_L0 _ _ _ _ ?_
    rw [Int.toNat_natCast]
    have hl := hs i hi
    refine ⟨fun _ => ⟨by omega, fun _ => ⟨?_, fun _ => ⟨c1 _ _ (by omega) (by rw [maxLen_eq]; omega), fun _ => ⟨by simp [tab_len]; omega, fun _ => ⟨by simp [tab_len]; omega, fun _ => ?_⟩⟩⟩⟩⟩, fun h => absurd (of_decide_eq_false h) (by omega)⟩
    · refine for_up (e := .exit 2) xss.length (fun j => h_impl_columnFit_L2 xss y (tab i (cfRow xss y)) i (tab i (cfRow xss y)) (tab j fun k => dotM (xss.getD i []) (xss.getD k [])) j) rfl (fun j hj => ?_) ?_
      · refine q_impl_columnFit_L2 _ _ _ _ _ _ _ ?_
        simp only [Int.toNat_natCast]
        have hl2 := hs j hj
        refine ⟨fun _ => ⟨by omega, fun _ => ⟨c1 _ _ (by omega) (by rw [maxLen_eq]; omega), fun _ => ⟨by simp [tab_len]; omega, fun _ => ?_⟩⟩⟩, fun h => absurd (of_decide_eq_false h) (by omega)⟩
        show _ = _
        rw [wrap64_id (by omega) (by omega), tab_succ]; rfl
      · refine q_impl_columnFit_L2 _ _ _ _ _ _ _ ⟨fun h => absurd (of_decide_eq_true h) (by omega), fun _ => ?_⟩
        rfl
    · show _ = _
      rw [wrap64_id (by omega) (by omega), tab_succ]; rfl
  · exact q_impl_columnFit_L0 _ _ _ _ ⟨fun h => absurd (of_decide_eq_true h) (by omega), fun _ => rfl⟩

theorem cf_L6_step (c2 : C_impl_areFinite P g2) (c3 : C_impl_absolute P g3) (xss : LL) (y : List Nat) {M : LL} {k : Nat} (hM : Rect M xss.length) (h1 : xss.length ≤ 6) (hk : k < xss.length) {m : Nat} (hm : m < xss.length - k) (hc : finAllM (M.getD (k + m) []) = true) :
    Exec (VCall P) ps_impl_columnFit (b_impl_columnFit_L6 g1 g2 g3 g4) (h_impl_columnFit_L6 xss y M k (bestL M k m : Nat) (k + m : Nat)) .normal (h_impl_columnFit_L6 xss y M k (bestL M k (m + 1) : Nat) (k + (m + 1) : Nat)) := by
  have hb := bestL_range M k m
  have r1 := hM.row (k + m) (by omega)
  have r2 := hM.row (bestL M k m) (by omega)
  have hl := hM.len
  refine q_impl_columnFit_L6 _ _ _ _ _ _ ?_
  simp only [Int.toNat_natCast]
  refine ⟨fun _ => ⟨by omega, fun _ => ⟨c2 _ (by rw [r1, maxLen_eq]; omega), fun _ => ⟨fun h => absurd h (by rw [hc]; simp), fun _ => ⟨by omega, fun _ => ⟨by omega, fun _ => ⟨c3 _, fun _ => ⟨by omega, fun _ => ⟨by omega, fun _ => ⟨c3 _, fun _ => ⟨fun h => ?_, fun h => ?_⟩⟩⟩⟩⟩⟩⟩⟩⟩⟩, fun h => absurd (of_decide_eq_false h) (by omega)⟩
  · show _ = _
    rw [wrap64_id (by omega) (by omega)]
    have : bestL M k (m + 1) = k + m := by simp only [bestL]; exact if_pos h
    rw [this]; rfl
  · show _ = _
    rw [wrap64_id (by omega) (by omega)]
    have : bestL M k (m + 1) = bestL M k m := by simp only [bestL]; exact if_neg (by rw [show fgt FloatKind.f32 (absF (mAt M (k + m) k)) (absF (mAt M (bestL M k m) k)) = false from h]; simp)
    rw [this]; rfl
theorem cf_L6_ok (c2 : C_impl_areFinite P g2) (c3 : C_impl_absolute P g3) (xss : LL) (y : List Nat) {M : LL} {k : Nat} (hM : Rect M xss.length) (h1 : xss.length ≤ 6) (hk : k < xss.length) (hc : rowsFin M k (xss.length - k) = true) :
    Exec (VCall P) ps_impl_columnFit (.block 6 (.loop (b_impl_columnFit_L6 g1 g2 g3 g4))) (h_impl_columnFit_L6 xss y M k k k) .normal (h_impl_columnFit_L6 xss y M k (bestL M k (xss.length - k) : Nat) xss.length) := by
  refine for_all (e := .exit 6) _ (xss.length - k) (fun m => h_impl_columnFit_L6 xss y M k (bestL M k m : Nat) (k + m : Nat)) hc rfl (fun m hm h => cf_L6_step c2 c3 xss y hM h1 hk hm h) ?_
  rw [show k + (xss.length - k) = xss.length by omega]
  exact q_impl_columnFit_L6 _ _ _ _ _ _ ⟨fun h => absurd (of_decide_eq_true h) (by omega), fun _ => rfl⟩
theorem cf_L6_bad (c2 : C_impl_areFinite P g2) (c3 : C_impl_absolute P g3) (xss : LL) (y : List Nat) {M : LL} {k : Nat} (hM : Rect M xss.length) (h1 : xss.length ≤ 6) (hk : k < xss.length) (hc : rowsFin M k (xss.length - k) = false) :
    Exec (VCall P) ps_impl_columnFit (.block 6 (.loop (b_impl_columnFit_L6 g1 g2 g3 g4))) (h_impl_columnFit_L6 xss y M k k k) .ret cfRet := by
  refine for_one (e := .ret) _ (xss.length - k) (fun m => h_impl_columnFit_L6 xss y M k (bestL M k m : Nat) (k + m : Nat)) hc rfl (fun m hm h => cf_L6_step c2 c3 xss y hM h1 hk hm h) (fun m hm h => ?_)
  have r1 := hM.row (k + m) (by omega)
  have hl := hM.len
  refine q_impl_columnFit_L6 _ _ _ _ _ _ ?_
  simp only [Int.toNat_natCast]
  refine ⟨fun _ => ⟨by omega, fun _ => ⟨c2 _ (by rw [r1, maxLen_eq]; omega), fun _ => ⟨fun _ => rfl, fun h' => absurd h' (by rw [h]; simp)⟩⟩⟩, fun h => absurd (of_decide_eq_false h) (by omega)⟩

theorem cf_L10 (xss : LL) (y : List Nat) {A M : LL} {k m : Nat} (hM : Rect M xss.length) (h1 : xss.length ≤ 6) (hm : k + 1 + m < xss.length) :
    Exec (VCall P) ps_impl_columnFit (.block 10 (.loop (b_impl_columnFit_L10 g1 g2 g3 g4))) (h_impl_columnFit_L10 xss y A k M (M.drop (k + 1)) m M (M.getD (k + 1 + m) []) (IntKind.wrap .i64 ((k : Int) + 1)) (M.drop (k + 1))) .normal
      (h_impl_columnFit_L10 xss y A k M (M.drop (k + 1)) m (M.set (k + 1 + m) (elR M k (k + 1 + m) (xss.length + 1))) (elR M k (k + 1 + m) (xss.length + 1)) ((xss.length : Int) + 1) ((M.drop (k + 1)).set m (elR M k (k + 1 + m) (xss.length + 1)))) := by
  have w1 : IntKind.wrap .i64 ((k : Int) + 1) = (k + 1 : Nat) := by rw [wrap64_id (by omega) (by omega)]; rfl
  have hl := hM.len
  have hr := hM.row (k + 1 + m) hm
  have hk := hM.row k (by omega)
  rw [w1]
  refine for_up (e := .exit 10) (xss.length - k) (fun t => h_impl_columnFit_L10 xss y A k M (M.drop (k + 1)) m (M.set (k + 1 + m) (elR M k (k + 1 + m) (k + 1 + t))) (elR M k (k + 1 + m) (k + 1 + t)) (k + 1 + t : Nat) ((M.drop (k + 1)).set m (elR M k (k + 1 + m) (k + 1 + t)))) ?_ (fun t ht => ?_) ?_
  · rw [Nat.add_zero, elR_start]
    have e1 : M.set (k + 1 + m) (M.getD (k + 1 + m) []) = M := by
      refine list_getD_ext (by simp) fun i hi => ?_
      rw [getD_set _ _ _ _ _ (by omega)]
      split
      · subst_vars; rfl
      · rfl
    rw [e1]
    rw [drop_set', e1]
  · refine q_impl_columnFit_L10 _ _ _ _ _ _ _ _ _ _ _ ?_
    rw [w1]
    simp only [Int.toNat_natCast, Nat.zero_add, Nat.sub_zero, Nat.zero_le, if_true, Nat.le_add_right, Nat.add_sub_cancel_left, getD_dropL]
    have ek : (M.set (k + 1 + m) (elR M k (k + 1 + m) (k + 1 + t))).getD k [] = M.getD k [] := by
      rw [getD_set _ _ _ _ _ (by omega), if_neg (by omega)]
    have er : (M.set (k + 1 + m) (elR M k (k + 1 + m) (k + 1 + t))).getD (k + 1 + m) [] = elR M k (k + 1 + m) (k + 1 + t) := by
      rw [getD_set _ _ _ _ _ (by omega), if_pos rfl]
    have ed : ((M.drop (k + 1)).set m (elR M k (k + 1 + m) (k + 1 + t))).getD m [] = elR M k (k + 1 + m) (k + 1 + t) := by
      rw [getD_set _ _ _ _ _ (by simp; omega), if_pos rfl]
    have eg : (elR M k (k + 1 + m) (k + 1 + t)).getD (k + 1 + t) 0 = mAt M (k + 1 + m) (k + 1 + t) := by
      rw [elR_get (by omega), if_neg (by omega)]
    rw [ek, er, ed, eg, elR_len, hr, hk, List.length_set]
    have es := elR_step (M := M) (k := k) (r := k + 1 + m) (J := k + 1 + t) (by omega) (by omega)
    have es' : (elR M k (k + 1 + m) (k + 1 + t)).set (k + 1 + t) (fsub .f32 (mAt M (k + 1 + m) (k + 1 + t)) (fmul .f32 (fdiv .f32 ((M.getD (k + 1 + m) []).getD k 0) ((M.getD k []).getD k 0)) ((M.getD k []).getD (k + 1 + t) 0))) = elR M k (k + 1 + m) (k + 1 + (t + 1)) := es
    rw [es', List.set_set, List.set_set]
    refine ⟨fun _ => ⟨by omega, fun _ => ⟨by omega, fun _ => ⟨by omega, fun _ => ⟨by omega, fun _ => ⟨trivial, fun _ => ?_⟩⟩⟩⟩⟩, fun h => absurd (of_decide_eq_false h) (by omega)⟩
    show _ = _
    rw [wrap64_id (by omega) (by omega)]; rfl
  · rw [show k + 1 + (xss.length - k) = xss.length + 1 by omega]
    refine q_impl_columnFit_L10 _ _ _ _ _ _ _ _ _ _ _ ⟨fun h => absurd (of_decide_eq_true h) (by omega), fun _ => ?_⟩
    rfl

/-- the state of the rows' loop -/
abbrev h8 (xss : LL) (y : List Nat) (A M : LL) (k R : Nat) (m : Int) : Env := h_impl_columnFit_L8 xss y A k (elL M k xss.length R) ((elL M k xss.length R).drop (k + 1)) m
theorem cf_L8_row (c2 : C_impl_areFinite P g2) (xss : LL) (y : List Nat) {A M : LL} {k m : Nat} {e : Ex} {σ : Env} (hA : Rect A xss.length) (hM : Rect M xss.length) (h1 : xss.length ≤ 6) (hm : k + 1 + m < xss.length)
    (hg : elOk M k xss.length (k + 1 + m) = true → e = .normal ∧ σ = h8 xss y A M k (k + 1 + (m + 1)) (m + 1 : Nat)) (hb : elOk M k xss.length (k + 1 + m) = false → e = .ret ∧ σ = cfRet) :
    Exec (VCall P) ps_impl_columnFit (b_impl_columnFit_L8 g1 g2 g3 g4) (h8 xss y A M k (k + 1 + m) m) e σ := by
  have hE := elL_rect (k := k) (R := k + 1 + m) hM
  have hl := hE.len
  have hAl := hA.len
  have hMl := hM.len
  have w1 : IntKind.wrap .i64 ((k : Int) + 1) = (k + 1 : Nat) := by rw [wrap64_id (by omega) (by omega)]; rfl
  have gr : (elL M k xss.length (k + 1 + m)).getD (k + 1 + m) [] = M.getD (k + 1 + m) [] := by rw [elL_get (by omega), if_neg (by omega)]
  have gk : (elL M k xss.length (k + 1 + m)).getD k [] = M.getD k [] := by rw [elL_get (by omega), if_neg (by omega)]
  have er : ∀ J, elR (elL M k xss.length (k + 1 + m)) k (k + 1 + m) J = elR M k (k + 1 + m) J := fun J => elR_congr gr gk
  have x10 := cf_L10 (P := P) (g1 := g1) (g2 := g2) (g3 := g3) (g4 := g4) xss y (A := A) hE h1 hm
  have hs := elL_step (M := M) (k := k) (n := xss.length) (R := k + 1 + m) (by omega) (by omega)
  rw [er, drop_set', hs] at x10
  have rr := hM.row (k + 1 + m) hm
  have rk := hM.row k (by omega)
  refine q_impl_columnFit_L8 _ _ _ _ _ _ _ ?_
  rw [w1] at x10 ⊢
  simp only [Int.toNat_natCast, getD_dropL, List.length_drop, List.length_set, er, gr, gk, drop_set', hs, hl, hAl] at x10 ⊢
  have ef : fdiv .f32 ((M.getD (k + 1 + m) []).getD k 0) ((M.getD k []).getD k 0) = elF M k (k + 1 + m) := rfl
  rw [ef]
  refine ⟨fun _ => ⟨by omega, fun _ => ⟨by omega, fun _ => ⟨by omega, fun _ => ⟨by omega, fun _ => ⟨trivial, fun _ => ⟨x10, fun _ => ⟨c2 _ (by simp [maxLen_eq]), fun _ => ⟨fun h => ?_, fun h => ⟨c2 _ (by rw [elR_len, rr, maxLen_eq]; omega), fun _ => ⟨fun h' => ?_, fun h' => ?_⟩⟩⟩⟩⟩⟩⟩⟩⟩⟩, fun h => absurd (of_decide_eq_false h) (by omega)⟩
  · have hz : finM (elF M k (k + 1 + m)) = false := by simpa [finAllM] using h
    obtain ⟨rfl, rfl⟩ := hb (by unfold elOk; rw [hz]; rfl)
    rfl
  · have hz : finAllM (elR M k (k + 1 + m) (xss.length + 1)) = false := by simpa using h'
    obtain ⟨rfl, rfl⟩ := hb (by unfold elOk; rw [hz, Bool.and_false])
    rfl
  · have hz : finM (elF M k (k + 1 + m)) = true := by simpa [finAllM] using h
    have hz' : finAllM (elR M k (k + 1 + m) (xss.length + 1)) = true := by simpa using h'
    obtain ⟨rfl, rfl⟩ := hg (by unfold elOk; rw [hz, hz']; rfl)
    show _ = _
    rw [wrap64_id (by omega) (by omega)]; rfl

theorem cf_L8_ok (c2 : C_impl_areFinite P g2) (xss : LL) (y : List Nat) {A M : LL} {k : Nat} (hA : Rect A xss.length) (hM : Rect M xss.length) (h1 : xss.length ≤ 6) (hk : k < xss.length) (hc : (allN (xss.length - (k + 1)) fun i => elOk M k xss.length (k + 1 + i)) = true) :
    Exec (VCall P) ps_impl_columnFit (.block 8 (.loop (b_impl_columnFit_L8 g1 g2 g3 g4))) (h_impl_columnFit_L8 xss y A k M (M.drop (k + 1)) 0) .normal (h8 xss y A M k xss.length ((xss.length - (k + 1) : Nat) : Int)) := by
  refine for_all (e := .exit 8) _ (xss.length - (k + 1)) (fun m => h8 xss y A M k (k + 1 + m) m) hc (by show _ = h8 xss y A M k (k + 1) _; unfold h8; rw [elL_start]; rfl) (fun m hm h => cf_L8_row c2 xss y hA hM h1 (by omega) (fun _ => ⟨rfl, rfl⟩) (fun h' => by rw [h] at h'; cases h')) ?_
  rw [show k + 1 + (xss.length - (k + 1)) = xss.length by omega]
  have hAl := hA.len
  have w1 : IntKind.wrap .i64 ((k : Int) + 1) = (k + 1 : Nat) := by rw [wrap64_id (by omega) (by omega)]; rfl
  refine q_impl_columnFit_L8 _ _ _ _ _ _ _ ?_
  rw [w1]
  simp only [Int.toNat_natCast, List.length_drop, List.length_set, hAl]
  exact ⟨fun h => absurd (of_decide_eq_true h) (by omega), fun _ => rfl⟩
theorem cf_L8_bad (c2 : C_impl_areFinite P g2) (xss : LL) (y : List Nat) {A M : LL} {k : Nat} (hA : Rect A xss.length) (hM : Rect M xss.length) (h1 : xss.length ≤ 6) (hk : k < xss.length) (hc : (allN (xss.length - (k + 1)) fun i => elOk M k xss.length (k + 1 + i)) = false) :
    Exec (VCall P) ps_impl_columnFit (.block 8 (.loop (b_impl_columnFit_L8 g1 g2 g3 g4))) (h_impl_columnFit_L8 xss y A k M (M.drop (k + 1)) 0) .ret cfRet := by
  exact for_one (e := .ret) _ (xss.length - (k + 1)) (fun m => h8 xss y A M k (k + 1 + m) m) hc (by show _ = h8 xss y A M k (k + 1) _; unfold h8; rw [elL_start]; rfl) (fun m hm h => cf_L8_row c2 xss y hA hM h1 (by omega) (fun _ => ⟨rfl, rfl⟩) (fun h' => by rw [h] at h'; cases h'))
    (fun m hm h => cf_L8_row c2 xss y hA hM h1 (by omega) (fun h' => by rw [h] at h'; cases h') (fun _ => ⟨rfl, rfl⟩))

theorem cf_L4_row (c2 : C_impl_areFinite P g2) (c3 : C_impl_absolute P g3) (xss : LL) (y : List Nat) {M : LL} {k : Nat} {e : Ex} {σ : Env} (hM : Rect M xss.length) (h1 : xss.length ≤ 6) (hk : k < xss.length)
    (hg : okK M xss.length k = true → e = .normal ∧ σ = h_impl_columnFit_L4 xss y (elL (swK M xss.length k) k xss.length xss.length) (k + 1 : Nat)) (hb : okK M xss.length k = false → e = .ret ∧ σ = cfRet) :
    Exec (VCall P) ps_impl_columnFit (b_impl_columnFit_L4 g1 g2 g3 g4) (h_impl_columnFit_L4 xss y M k) e σ := by
  have hl := hM.len
  have hbest := best_lt (M := M) hk
  have hS := swK_rect hM hk
  have w1 : IntKind.wrap .i64 ((k : Int) + 1) = (k + 1 : Nat) := by rw [wrap64_id (by omega) (by omega)]; rfl
  have hsw : (M.set k (M.getD (bestL M k (xss.length - k)) [])).set (bestL M k (xss.length - k)) (M.getD k []) = swK M xss.length k := rfl
  have hSl := hS.len
  have hSk := hS.row k hk
  refine q_impl_columnFit_L4 _ _ _ _ ?_
  rw [w1]
  simp only [Int.toNat_natCast, Nat.zero_add, hsw]
  refine ⟨fun _ => ⟨fun h6 => ⟨cf_L6_ok c2 c3 xss y hM h1 hk h6, fun _ => ⟨by omega, fun _ => ⟨by omega, fun _ => ⟨by omega, fun _ => ⟨trivial, fun _ => ⟨(by rw [List.length_set]; omega), fun _ => ⟨⟨trivial, ?_⟩, fun _ => ⟨by omega, fun _ => ⟨by omega, fun _ => ⟨c3 _, fun _ => ⟨fun hp => ?_, fun hp => ⟨by omega, fun _ => ⟨fun h8 => ⟨cf_L8_ok c2 xss y hM hS h1 hk h8, fun _ => ?_⟩, fun h8 => ⟨cf_L8_bad c2 xss y hM hS h1 hk h8, fun _ => ?_⟩⟩⟩⟩⟩⟩⟩⟩⟩⟩⟩⟩⟩⟩, fun h6 => ⟨cf_L6_bad c2 c3 xss y hM h1 hk h6, fun _ => ?_⟩⟩, fun h => absurd (of_decide_eq_false h) (by omega)⟩
  · unfold swn; rw [if_pos rfl]
  · have hp' : pivOk (swK M xss.length k) k = false := by
      have : (!pivOk (swK M xss.length k) k) = true := hp
      simpa using this
    obtain ⟨rfl, rfl⟩ := hb (by unfold okK; rw [h6, hp']; rfl)
    rfl
  · have hp' : pivOk (swK M xss.length k) k = true := by
      have : (!pivOk (swK M xss.length k) k) = false := hp
      simpa using this
    obtain ⟨rfl, rfl⟩ := hg (by unfold okK; rw [h6, hp', h8]; rfl)
    rfl
  · obtain ⟨rfl, rfl⟩ := hb (by unfold okK; rw [h8, Bool.and_false, Bool.and_false])
    rfl
  · obtain ⟨rfl, rfl⟩ := hb (by unfold okK; rw [h6]; rfl)
    rfl

theorem cf_L14 (xss : LL) (y : List Nat) {M : LL} {k : Nat} (out : List Nat) (ho : out.length = xss.length) (hM : Rect M xss.length) (h1 : xss.length ≤ 6) (hk : k < xss.length) :
    Exec (VCall P) ps_impl_columnFit (.block 14 (.loop (b_impl_columnFit_L14 g1 g2 g3 g4))) (h_impl_columnFit_L14 xss y M out k ((M.getD k []).getD xss.length 0) (IntKind.wrap .i64 ((k : Int) + 1))) .normal
      (h_impl_columnFit_L14 xss y M out k (bkX M xss.length out k (xss.length - (k + 1))) xss.length) := by
  have w1 : IntKind.wrap .i64 ((k : Int) + 1) = (k + 1 : Nat) := by rw [wrap64_id (by omega) (by omega)]; rfl
  have hl := hM.len
  have hr := hM.row k hk
  rw [w1]
  refine for_up (e := .exit 14) (xss.length - (k + 1)) (fun t => h_impl_columnFit_L14 xss y M out k (bkX M xss.length out k t) (k + 1 + t : Nat)) rfl (fun t ht => ?_) ?_
  · refine q_impl_columnFit_L14 _ _ _ _ _ _ _ ?_
    simp only [Int.toNat_natCast]
    refine ⟨fun _ => ⟨by omega, fun _ => ⟨by omega, fun _ => ⟨by omega, fun _ => ?_⟩⟩⟩, fun h => absurd (of_decide_eq_false h) (by omega)⟩
    show _ = _
    rw [wrap64_id (by omega) (by omega)]; rfl
  · rw [show k + 1 + (xss.length - (k + 1)) = xss.length by omega]
    exact q_impl_columnFit_L14 _ _ _ _ _ _ _ ⟨fun h => absurd (of_decide_eq_true h) (by omega), fun _ => rfl⟩

theorem cf_L12 (xss : LL) (y : List Nat) {M : LL} (hM : Rect M xss.length) (h1 : 1 ≤ xss.length ∧ xss.length ≤ 6) :
    Exec (VCall P) ps_impl_columnFit (.block 12 (.loop (b_impl_columnFit_L12 g1 g2 g3 g4))) (h_impl_columnFit_L12 xss y M (List.replicate xss.length 0) (IntKind.wrap .i64 ((xss.length : Int) - 1))) .normal
      (h_impl_columnFit_L12 xss y M (bkN M xss.length xss.length) (-1)) := by
  rw [wrap64_id (by omega) (by omega)]
  have hl := hM.len
  refine for_up (e := .exit 12) xss.length (fun m => h_impl_columnFit_L12 xss y M (bkN M xss.length m) ((xss.length : Int) - 1 - m)) (by show _ = h_impl_columnFit_L12 xss y M (bkN M xss.length 0) _; rw [Int.natCast_zero, Int.sub_zero]; rfl) (fun m hm => ?_) ?_
  · obtain ⟨k, hk⟩ : ∃ k : Nat, k = xss.length - (m + 1) := ⟨_, rfl⟩
    have ek : (xss.length : Int) - 1 - m = k := by omega
    have ek2 : xss.length - (k + 1) = m := by omega
    have ho := bkN_len M xss.length m
    have hr := hM.row k (by omega)
    have x14 := cf_L14 (P := P) (g1 := g1) (g2 := g2) (g3 := g3) (g4 := g4) xss y _ ho hM h1.2 (k := k) (by omega)
    rw [ek]
    refine q_impl_columnFit_L12 _ _ _ _ _ ?_
    simp only [Int.toNat_natCast, Nat.zero_add, Nat.sub_zero]
    refine ⟨fun _ => ⟨by omega, fun _ => ⟨by omega, fun _ => ⟨x14, fun _ => ⟨by omega, fun _ => ⟨by omega, fun _ => ⟨trivial, fun _ => ⟨by omega, fun _ => ⟨trivial, fun _ => ?_⟩⟩⟩⟩⟩⟩⟩⟩, fun h => absurd (of_decide_eq_false h) (by omega)⟩
    show _ = _
    rw [wrap64_id (by omega) (by omega), ek2, show (k : Int) - 1 = (xss.length : Int) - 1 - (m + 1 : Nat) by omega, hk]
    rfl
  · rw [show (xss.length : Int) - 1 - (xss.length : Nat) = -1 by omega]
    exact q_impl_columnFit_L12 _ _ _ _ _ ⟨fun h => absurd (of_decide_eq_true h) (by omega), fun _ => rfl⟩

theorem k_impl_columnFit (h : Is_impl_columnFit P f g1 g2 g3 g4) (c1 : C_impl_dot P g1) (c2 : C_impl_areFinite P g2) (c3 : C_impl_absolute P g3) (c4 : C_impl_ifAll P g4) : C_impl_columnFit P f := by
  intro xss y h1 hs hn
  have hG := cfG_rect xss y
  have hS := stN_rect hG (Nat.le_refl xss.length)
  have hbl := bkN_len (stN (cfG xss y) xss.length xss.length) xss.length xss.length
  refine q_impl_columnFit h xss y ⟨cf_L0 c1 xss y h1 hs hn, fun _ => ⟨fun hc => ⟨?_, fun _ => ⟨by omega, fun _ => ⟨?_, fun _ => ⟨c4 _ (by unfold cfOut; rw [hbl, maxLen_eq]; omega), fun _ => ?_⟩⟩⟩⟩, fun hc => ⟨?_, fun _ => ?_⟩⟩⟩
  · refine for_all (e := .exit 4) _ xss.length (fun k => h_impl_columnFit_L4 xss y (stN (cfG xss y) xss.length k) k) hc rfl (fun k hk h => cf_L4_row c2 c3 xss y (stN_rect hG (by omega)) h1.2 hk (fun _ => ⟨rfl, rfl⟩) (fun h' => by rw [h] at h'; cases h')) ?_
    exact q_impl_columnFit_L4 _ _ _ _ ⟨fun h => absurd (of_decide_eq_true h) (by omega), fun _ => rfl⟩
  · rw [Int.toNat_natCast]; exact cf_L12 xss y hS h1
  · simp only [T.ok, hc, if_true, Bool.true_and]
  · exact for_one (e := .ret) _ xss.length (fun k => h_impl_columnFit_L4 xss y (stN (cfG xss y) xss.length k) k) hc rfl (fun k hk h => cf_L4_row c2 c3 xss y (stN_rect hG (by omega)) h1.2 hk (fun _ => ⟨rfl, rfl⟩) (fun h' => by rw [h] at h'; cases h'))
      (fun k hk h => cf_L4_row c2 c3 xss y (stN_rect hG (by omega)) h1.2 hk (fun h' => by rw [h] at h'; cases h') (fun _ => ⟨rfl, rfl⟩))
  · simp only [T.ok, hc, if_false, Bool.false_and, Bool.false_eq_true]
end

end Go.Proofs.LV
