/- The reference's fit of columns: a flat list of numbers, a right side. -/
import Derived.Test.YtdffgjembkanoaaLvFnJJ
namespace Go.Proofs.LV
open Go
set_option linter.unusedVariables false
set_option linter.unusedSimpArgs false

def slP (a : List Nat) (n k : Nat) : Nat → Nat
  | 0 => k
  | m + 1 => if fgt .f32 (sizF (a.getD ((k + 1 + m) * n + k) 0)) (sizF (a.getD (slP a n k m * n + k) 0)) = true then k + 1 + m else slP a n k m
def slW (n k p c : Nat) (a : List Nat) : List Nat := accN (fun c a => (a.set (k * n + c) (a.getD (p * n + c) 0)).set (p * n + c) (a.getD (k * n + c) 0)) c a
def slB (k p : Nat) (b : List Nat) : List Nat := (b.set k (b.getD p 0)).set p (b.getD k 0)
def slE (n k r f : Nat) (t : Nat) (a : List Nat) : List Nat := accN (fun t a => a.set (r * n + (k + 1 + t)) (fsub .f32 (a.getD (r * n + (k + 1 + t)) 0) (fmul .f32 f (a.getD (k * n + (k + 1 + t)) 0)))) t a
def slF (n k r : Nat) (a : List Nat) : Nat := fdiv .f32 (a.getD (r * n + k) 0) (a.getD (k * n + k) 0)
def slR (n k : Nat) (m : Nat) (q : List Nat × List Nat) : List Nat × List Nat := accN (fun m q => (slE n k (k + 1 + m) (slF n k (k + 1 + m) q.1) (n - (k + 1)) q.1, q.2.set (k + 1 + m) (fsub .f32 (q.2.getD (k + 1 + m) 0) (fmul .f32 (slF n k (k + 1 + m) q.1) (q.2.getD k 0))))) m q
def slK (n k : Nat) (q : List Nat × List Nat) : Nat := slP q.1 n k (n - (k + 1))
def slS (n k : Nat) (q : List Nat × List Nat) : List Nat × List Nat := slR n k (n - (k + 1)) (slW n k (slK n k q) n q.1, slB k (slK n k q) q.2)
def slN (n : Nat) (q : List Nat × List Nat) : Nat → List Nat × List Nat
  | 0 => q
  | k + 1 => slS n k (slN n q k)
def slPiv (n k : Nat) (q : List Nat × List Nat) : Bool := fgt .f32 (sizF (q.1.getD (slK n k q * n + k) 0)) 897988541
def slFin (q : List Nat × List Nat) : Bool := finAllM q.1 && finAllM q.2
def slOk (n : Nat) (q : List Nat × List Nat) (k : Nat) : Bool := slPiv n k (slN n q k) && slFin (slN n q (k + 1))
/-- where it ends -/
def slEnd (n : Nat) (q : List Nat × List Nat) : Nat → List Nat × List Nat
  | 0 => q
  | k + 1 => if allN k (slOk n q) = true then (if slPiv n k (slN n q k) = true then slN n q (k + 1) else slN n q k) else slEnd n q k
def slX (n : Nat) (q : List Nat × List Nat) (x : List Nat) (k m : Nat) : Nat := accN (fun t s => fsub .f32 s (fmul .f32 (q.1.getD (k * n + (k + 1 + t)) 0) (x.getD (k + 1 + t) 0))) m (q.2.getD k 0)
def slBk (n : Nat) (q : List Nat × List Nat) : Nat → List Nat
  | 0 => List.replicate n 0
  | m + 1 => (slBk n q m).set (n - (m + 1)) (fdiv .f32 (slX n q (slBk n q m) (n - (m + 1)) m) (q.1.getD ((n - (m + 1)) * n + (n - (m + 1))) 0))
def slAll (a b : List Nat) : Bool := allN b.length (slOk b.length (a, b))
def slOut (a b : List Nat) : List Nat := slBk b.length (slN b.length (a, b) b.length) b.length
def slRet (q : List Nat × List Nat) : Env := [OS HI .f32 q.1, OS (HI+1) .f32 q.2, .any, .any, .sl .nil 0 (.f .f32 []), .b false] ++ anys 240

open Go.IntKind (wrap)
-- FN spec_l03Solve
def ps_spec_l03Solve : List Nat := [0, 1, 4, 5, 6, 7, 8, 9, 10, 11, 12, 13, 14, 15, 16, 17, 18, 19, 24, 32, 53, 65, 68, 121, 145, 195, 201, 212]
def lv_spec_l03Solve_L0 : List Nat := [0, 1, 6, 7]
def lv_spec_l03Solve_L2 : List Nat := [0, 1, 6, 7, 8, 9]
def lv_spec_l03Solve_L4 : List Nat := [0, 1, 6, 7, 8, 10]
def lv_spec_l03Solve_L6 : List Nat := [0, 1, 6, 7, 13]
def lv_spec_l03Solve_L8 : List Nat := [0, 1, 6, 7, 13, 14, 15]
def lv_spec_l03Solve_L10 : List Nat := [0, 1, 6, 16, 17]
def lv_spec_l03Solve_L12 : List Nat := [0, 1, 6, 16, 17, 18, 19]
def b_spec_l03Solve_L2 (gq0 gq1 : FuncId) : VCode :=
 (.seq
 (.seq
 (.region false [
 ⟨some 30, .mv, [.t 9], none⟩,
 ⟨some 31, .mv, [.t 6], none⟩,
 ⟨some 32, (.bin .lss), [.t 30, .t 31], none⟩])
 (.cond (.t 32)
 .skip
 (.exit 2)))
 (.seq
 (.block 3
 (.seq
 (.region true [
 ⟨some 35, .mv, [.t 0], none⟩,
 ⟨some 36, .mv, [.t 9], none⟩,
 ⟨some 37, .mv, [.t 6], none⟩,
 ⟨some 38, (.bin .mul), [.t 36, .t 37], none⟩,
 ⟨some 39, .mv, [.t 7], none⟩,
 ⟨some 40, (.bin .add), [.t 38, .t 39], none⟩,
 ⟨some 41, .iaddr, [.t 35, .t 40], none⟩,
 ⟨some 42, .load, [.t 41], none⟩,
 ⟨some 43, (.call gq0), [.t 42], none⟩,
 ⟨some 44, .mv, [.t 0], none⟩,
 ⟨some 45, .mv, [.t 8], none⟩,
 ⟨some 46, .mv, [.t 6], none⟩,
 ⟨some 47, (.bin .mul), [.t 45, .t 46], none⟩,
 ⟨some 48, .mv, [.t 7], none⟩,
 ⟨some 49, (.bin .add), [.t 47, .t 48], none⟩,
 ⟨some 50, .iaddr, [.t 44, .t 49], none⟩,
 ⟨some 51, .load, [.t 50], none⟩,
 ⟨some 52, (.call gq0), [.t 51], none⟩,
 ⟨some 53, (.bin .gtr), [.t 43, .t 52], none⟩])
 (.cond (.t 53)
 (.region false [
 ⟨some 54, .mv, [.t 9], none⟩,
 ⟨some 8, .mv, [.t 54], none⟩])
 .skip)))
 (.region false [
 ⟨some 33, .mv, [.t 9], none⟩,
 ⟨some 34, (.bin .add), [.t 33, .k (.i .i64 1)], none⟩,
 ⟨some 9, .mv, [.t 34], none⟩])))

def b_spec_l03Solve_L4 (gq0 gq1 : FuncId) : VCode :=
 (.seq
 (.seq
 (.region false [
 ⟨some 66, .mv, [.t 10], none⟩,
 ⟨some 67, .mv, [.t 6], none⟩,
 ⟨some 68, (.bin .lss), [.t 66, .t 67], none⟩])
 (.cond (.t 68)
 .skip
 (.exit 4)))
 (.seq
 (.block 5
 (.seq
 (.region false [
 ⟨some 71, .mv, [.t 0], none⟩,
 ⟨some 72, .mv, [.t 7], none⟩,
 ⟨some 73, .mv, [.t 6], none⟩,
 ⟨some 74, (.bin .mul), [.t 72, .t 73], none⟩,
 ⟨some 75, .mv, [.t 10], none⟩,
 ⟨some 76, (.bin .add), [.t 74, .t 75], none⟩,
 ⟨some 77, .iaddr, [.t 71, .t 76], none⟩,
 ⟨some 78, .load, [.t 77], none⟩,
 ⟨some 11, .mv, [.t 78], none⟩])
 (.seq
 (.region false [
 ⟨some 79, .mv, [.t 0], none⟩,
 ⟨some 80, .mv, [.t 7], none⟩,
 ⟨some 81, .mv, [.t 6], none⟩,
 ⟨some 82, (.bin .mul), [.t 80, .t 81], none⟩,
 ⟨some 83, .mv, [.t 10], none⟩,
 ⟨some 84, (.bin .add), [.t 82, .t 83], none⟩,
 ⟨some 85, .mv, [.t 0], none⟩,
 ⟨some 86, .mv, [.t 8], none⟩,
 ⟨some 87, .mv, [.t 6], none⟩,
 ⟨some 88, (.bin .mul), [.t 86, .t 87], none⟩,
 ⟨some 89, .mv, [.t 10], none⟩,
 ⟨some 90, (.bin .add), [.t 88, .t 89], none⟩,
 ⟨some 91, .iaddr, [.t 85, .t 90], none⟩,
 ⟨some 92, .load, [.t 91], none⟩,
 ⟨some 93, .iaddr, [.t 79, .t 84], none⟩,
 ⟨none, .store, [.t 93, .t 92], none⟩])
 (.region false [
 ⟨some 94, .mv, [.t 0], none⟩,
 ⟨some 95, .mv, [.t 8], none⟩,
 ⟨some 96, .mv, [.t 6], none⟩,
 ⟨some 97, (.bin .mul), [.t 95, .t 96], none⟩,
 ⟨some 98, .mv, [.t 10], none⟩,
 ⟨some 99, (.bin .add), [.t 97, .t 98], none⟩,
 ⟨some 100, .mv, [.t 11], none⟩,
 ⟨some 101, .iaddr, [.t 94, .t 99], none⟩,
 ⟨none, .store, [.t 101, .t 100], none⟩]))))
 (.region false [
 ⟨some 69, .mv, [.t 10], none⟩,
 ⟨some 70, (.bin .add), [.t 69, .k (.i .i64 1)], none⟩,
 ⟨some 10, .mv, [.t 70], none⟩])))

def b_spec_l03Solve_L8 (gq0 gq1 : FuncId) : VCode :=
 (.seq
 (.seq
 (.region false [
 ⟨some 143, .mv, [.t 15], none⟩,
 ⟨some 144, .mv, [.t 6], none⟩,
 ⟨some 145, (.bin .lss), [.t 143, .t 144], none⟩])
 (.cond (.t 145)
 .skip
 (.exit 8)))
 (.seq
 (.block 9
 (.region true [
 ⟨some 148, .mv, [.t 0], none⟩,
 ⟨some 149, .mv, [.t 13], none⟩,
 ⟨some 150, .mv, [.t 6], none⟩,
 ⟨some 151, (.bin .mul), [.t 149, .t 150], none⟩,
 ⟨some 152, .mv, [.t 15], none⟩,
 ⟨some 153, (.bin .add), [.t 151, .t 152], none⟩,
 ⟨some 154, .mv, [.t 0], none⟩,
 ⟨some 155, .mv, [.t 13], none⟩,
 ⟨some 156, .mv, [.t 6], none⟩,
 ⟨some 157, (.bin .mul), [.t 155, .t 156], none⟩,
 ⟨some 158, .mv, [.t 15], none⟩,
 ⟨some 159, (.bin .add), [.t 157, .t 158], none⟩,
 ⟨some 160, .iaddr, [.t 154, .t 159], none⟩,
 ⟨some 161, .load, [.t 160], none⟩,
 ⟨some 162, .mv, [.t 14], none⟩,
 ⟨some 163, .mv, [.t 0], none⟩,
 ⟨some 164, .mv, [.t 7], none⟩,
 ⟨some 165, .mv, [.t 6], none⟩,
 ⟨some 166, (.bin .mul), [.t 164, .t 165], none⟩,
 ⟨some 167, .mv, [.t 15], none⟩,
 ⟨some 168, (.bin .add), [.t 166, .t 167], none⟩,
 ⟨some 169, .iaddr, [.t 163, .t 168], none⟩,
 ⟨some 170, .load, [.t 169], none⟩,
 ⟨some 171, (.bin .mul), [.t 162, .t 170], none⟩,
 ⟨some 172, (.bin .sub), [.t 161, .t 171], none⟩,
 ⟨some 173, .iaddr, [.t 148, .t 153], none⟩,
 ⟨none, .store, [.t 173, .t 172], none⟩]))
 (.region false [
 ⟨some 146, .mv, [.t 15], none⟩,
 ⟨some 147, (.bin .add), [.t 146, .k (.i .i64 1)], none⟩,
 ⟨some 15, .mv, [.t 147], none⟩])))

def b_spec_l03Solve_L6 (gq0 gq1 : FuncId) : VCode :=
 (.seq
 (.seq
 (.region false [
 ⟨some 119, .mv, [.t 13], none⟩,
 ⟨some 120, .mv, [.t 6], none⟩,
 ⟨some 121, (.bin .lss), [.t 119, .t 120], none⟩])
 (.cond (.t 121)
 .skip
 (.exit 6)))
 (.seq
 (.block 7
 (.seq
 (.region true [
 ⟨some 124, .mv, [.t 0], none⟩,
 ⟨some 125, .mv, [.t 13], none⟩,
 ⟨some 126, .mv, [.t 6], none⟩,
 ⟨some 127, (.bin .mul), [.t 125, .t 126], none⟩,
 ⟨some 128, .mv, [.t 7], none⟩,
 ⟨some 129, (.bin .add), [.t 127, .t 128], none⟩,
 ⟨some 130, .iaddr, [.t 124, .t 129], none⟩,
 ⟨some 131, .load, [.t 130], none⟩,
 ⟨some 132, .mv, [.t 0], none⟩,
 ⟨some 133, .mv, [.t 7], none⟩,
 ⟨some 134, .mv, [.t 6], none⟩,
 ⟨some 135, (.bin .mul), [.t 133, .t 134], none⟩,
 ⟨some 136, .mv, [.t 7], none⟩,
 ⟨some 137, (.bin .add), [.t 135, .t 136], none⟩,
 ⟨some 138, .iaddr, [.t 132, .t 137], none⟩,
 ⟨some 139, .load, [.t 138], none⟩,
 ⟨some 140, (.bin .quo), [.t 131, .t 139], none⟩,
 ⟨some 14, .mv, [.t 140], none⟩])
 (.seq
 (.seq
 (.region false [
 ⟨some 141, .mv, [.t 7], none⟩,
 ⟨some 142, (.bin .add), [.t 141, .k (.i .i64 1)], none⟩,
 ⟨some 15, .mv, [.t 142], none⟩])
 (.block 8 (.loop (b_spec_l03Solve_L8 gq0 gq1))))
 (.region true [
 ⟨some 174, .mv, [.t 1], none⟩,
 ⟨some 175, .mv, [.t 13], none⟩,
 ⟨some 176, .mv, [.t 1], none⟩,
 ⟨some 177, .mv, [.t 13], none⟩,
 ⟨some 178, .iaddr, [.t 176, .t 177], none⟩,
 ⟨some 179, .load, [.t 178], none⟩,
 ⟨some 180, .mv, [.t 14], none⟩,
 ⟨some 181, .mv, [.t 1], none⟩,
 ⟨some 182, .mv, [.t 7], none⟩,
 ⟨some 183, .iaddr, [.t 181, .t 182], none⟩,
 ⟨some 184, .load, [.t 183], none⟩,
 ⟨some 185, (.bin .mul), [.t 180, .t 184], none⟩,
 ⟨some 186, (.bin .sub), [.t 179, .t 185], none⟩,
 ⟨some 187, .iaddr, [.t 174, .t 175], none⟩,
 ⟨none, .store, [.t 187, .t 186], none⟩]))))
 (.region false [
 ⟨some 122, .mv, [.t 13], none⟩,
 ⟨some 123, (.bin .add), [.t 122, .k (.i .i64 1)], none⟩,
 ⟨some 13, .mv, [.t 123], none⟩])))

def b_spec_l03Solve_L0 (gq0 gq1 : FuncId) : VCode :=
 (.seq
 (.seq
 (.region false [
 ⟨some 22, .mv, [.t 7], none⟩,
 ⟨some 23, .mv, [.t 6], none⟩,
 ⟨some 24, (.bin .lss), [.t 22, .t 23], none⟩])
 (.cond (.t 24)
 .skip
 (.exit 0)))
 (.seq
 (.block 1
 (.seq
 (.region false [
 ⟨some 27, .mv, [.t 7], none⟩,
 ⟨some 8, .mv, [.t 27], none⟩])
 (.seq
 (.seq
 (.region false [
 ⟨some 28, .mv, [.t 7], none⟩,
 ⟨some 29, (.bin .add), [.t 28, .k (.i .i64 1)], none⟩,
 ⟨some 9, .mv, [.t 29], none⟩])
 (.block 2 (.loop (b_spec_l03Solve_L2 gq0 gq1))))
 (.seq
 (.seq
 (.region false [
 ⟨some 55, .mv, [.t 0], none⟩,
 ⟨some 56, .mv, [.t 8], none⟩,
 ⟨some 57, .mv, [.t 6], none⟩,
 ⟨some 58, (.bin .mul), [.t 56, .t 57], none⟩,
 ⟨some 59, .mv, [.t 7], none⟩,
 ⟨some 60, (.bin .add), [.t 58, .t 59], none⟩,
 ⟨some 61, .iaddr, [.t 55, .t 60], none⟩,
 ⟨some 62, .load, [.t 61], none⟩,
 ⟨some 63, (.call gq0), [.t 62], none⟩,
 ⟨some 64, (.bin .gtr), [.t 63, .k (.f .f32 897988541)], none⟩,
 ⟨some 65, .not, [.t 64], none⟩])
 (.cond (.t 65)
 (.seq
 (.region false [
 ⟨some 4, (.nilsl (.f .f32 [])), [], none⟩,
 ⟨some 5, .mv, [.k (.b false)], none⟩])
 .ret)
 .skip))
 (.seq
 (.seq
 (.region false [
 ⟨some 10, .mv, [.k (.i .i64 0)], none⟩])
 (.block 4 (.loop (b_spec_l03Solve_L4 gq0 gq1))))
 (.seq
 (.region false [
 ⟨some 102, .mv, [.t 1], none⟩,
 ⟨some 103, .mv, [.t 7], none⟩,
 ⟨some 104, .iaddr, [.t 102, .t 103], none⟩,
 ⟨some 105, .load, [.t 104], none⟩,
 ⟨some 12, .mv, [.t 105], none⟩])
 (.seq
 (.region false [
 ⟨some 106, .mv, [.t 1], none⟩,
 ⟨some 107, .mv, [.t 7], none⟩,
 ⟨some 108, .mv, [.t 1], none⟩,
 ⟨some 109, .mv, [.t 8], none⟩,
 ⟨some 110, .iaddr, [.t 108, .t 109], none⟩,
 ⟨some 111, .load, [.t 110], none⟩,
 ⟨some 112, .iaddr, [.t 106, .t 107], none⟩,
 ⟨none, .store, [.t 112, .t 111], none⟩])
 (.seq
 (.region false [
 ⟨some 113, .mv, [.t 1], none⟩,
 ⟨some 114, .mv, [.t 8], none⟩,
 ⟨some 115, .mv, [.t 12], none⟩,
 ⟨some 116, .iaddr, [.t 113, .t 114], none⟩,
 ⟨none, .store, [.t 116, .t 115], none⟩])
 (.seq
 (.seq
 (.region false [
 ⟨some 117, .mv, [.t 7], none⟩,
 ⟨some 118, (.bin .add), [.t 117, .k (.i .i64 1)], none⟩,
 ⟨some 13, .mv, [.t 118], none⟩])
 (.block 6 (.loop (b_spec_l03Solve_L6 gq0 gq1))))
 (.seq
 (.region false [
 ⟨some 188, .mv, [.t 0], none⟩,
 ⟨some 189, (.call gq1), [.t 188], none⟩,
 ⟨some 190, .not, [.t 189], none⟩,
 ⟨some 191, .mv, [.t 190], none⟩,
 ⟨some 192, .mv, [.t 1], some (191, false)⟩,
 ⟨some 193, (.call gq1), [.t 192], some (191, false)⟩,
 ⟨some 194, .not, [.t 193], some (191, false)⟩,
 ⟨some 195, .pick, [.t 191, .k (.b true), .t 194], none⟩])
 (.cond (.t 195)
 (.seq
 (.region false [
 ⟨some 4, (.nilsl (.f .f32 [])), [], none⟩,
 ⟨some 5, .mv, [.k (.b false)], none⟩])
 .ret)
 .skip)))))))))))
 (.region false [
 ⟨some 25, .mv, [.t 7], none⟩,
 ⟨some 26, (.bin .add), [.t 25, .k (.i .i64 1)], none⟩,
 ⟨some 7, .mv, [.t 26], none⟩])))

def b_spec_l03Solve_L12 (gq0 gq1 : FuncId) : VCode :=
 (.seq
 (.seq
 (.region false [
 ⟨some 210, .mv, [.t 19], none⟩,
 ⟨some 211, .mv, [.t 6], none⟩,
 ⟨some 212, (.bin .lss), [.t 210, .t 211], none⟩])
 (.cond (.t 212)
 .skip
 (.exit 12)))
 (.seq
 (.block 13
 (.region true [
 ⟨some 215, .mv, [.t 18], none⟩,
 ⟨some 216, .mv, [.t 0], none⟩,
 ⟨some 217, .mv, [.t 17], none⟩,
 ⟨some 218, .mv, [.t 6], none⟩,
 ⟨some 219, (.bin .mul), [.t 217, .t 218], none⟩,
 ⟨some 220, .mv, [.t 19], none⟩,
 ⟨some 221, (.bin .add), [.t 219, .t 220], none⟩,
 ⟨some 222, .iaddr, [.t 216, .t 221], none⟩,
 ⟨some 223, .load, [.t 222], none⟩,
 ⟨some 224, .mv, [.t 16], none⟩,
 ⟨some 225, .mv, [.t 19], none⟩,
 ⟨some 226, .iaddr, [.t 224, .t 225], none⟩,
 ⟨some 227, .load, [.t 226], none⟩,
 ⟨some 228, (.bin .mul), [.t 223, .t 227], none⟩,
 ⟨some 229, (.bin .sub), [.t 215, .t 228], none⟩,
 ⟨some 18, .mv, [.t 229], none⟩]))
 (.region false [
 ⟨some 213, .mv, [.t 19], none⟩,
 ⟨some 214, (.bin .add), [.t 213, .k (.i .i64 1)], none⟩,
 ⟨some 19, .mv, [.t 214], none⟩])))

def b_spec_l03Solve_L10 (gq0 gq1 : FuncId) : VCode :=
 (.seq
 (.seq
 (.region false [
 ⟨some 200, .mv, [.t 17], none⟩,
 ⟨some 201, (.bin .geq), [.t 200, .k (.i .i64 0)], none⟩])
 (.cond (.t 201)
 .skip
 (.exit 10)))
 (.seq
 (.block 11
 (.seq
 (.region false [
 ⟨some 204, .mv, [.t 1], none⟩,
 ⟨some 205, .mv, [.t 17], none⟩,
 ⟨some 206, .iaddr, [.t 204, .t 205], none⟩,
 ⟨some 207, .load, [.t 206], none⟩,
 ⟨some 18, .mv, [.t 207], none⟩])
 (.seq
 (.seq
 (.region false [
 ⟨some 208, .mv, [.t 17], none⟩,
 ⟨some 209, (.bin .add), [.t 208, .k (.i .i64 1)], none⟩,
 ⟨some 19, .mv, [.t 209], none⟩])
 (.block 12 (.loop (b_spec_l03Solve_L12 gq0 gq1))))
 (.region false [
 ⟨some 230, .mv, [.t 16], none⟩,
 ⟨some 231, .mv, [.t 17], none⟩,
 ⟨some 232, .mv, [.t 18], none⟩,
 ⟨some 233, .mv, [.t 0], none⟩,
 ⟨some 234, .mv, [.t 17], none⟩,
 ⟨some 235, .mv, [.t 6], none⟩,
 ⟨some 236, (.bin .mul), [.t 234, .t 235], none⟩,
 ⟨some 237, .mv, [.t 17], none⟩,
 ⟨some 238, (.bin .add), [.t 236, .t 237], none⟩,
 ⟨some 239, .iaddr, [.t 233, .t 238], none⟩,
 ⟨some 240, .load, [.t 239], none⟩,
 ⟨some 241, (.bin .quo), [.t 232, .t 240], none⟩,
 ⟨some 242, .iaddr, [.t 230, .t 231], none⟩,
 ⟨none, .store, [.t 242, .t 241], none⟩]))))
 (.region false [
 ⟨some 202, .mv, [.t 17], none⟩,
 ⟨some 203, (.bin .sub), [.t 202, .k (.i .i64 1)], none⟩,
 ⟨some 17, .mv, [.t 203], none⟩])))

def b_spec_l03Solve (gq0 gq1 : FuncId) : VCode :=
 (.seq
 (.region false [
 ⟨some 4, (.nilsl (.f .f32 [])), [], none⟩,
 ⟨some 5, .mv, [.k (.b false)], none⟩])
 (.seq
 (.region false [
 ⟨some 20, .mv, [.t 1], none⟩,
 ⟨some 21, .len, [.t 20], none⟩,
 ⟨some 6, .mv, [.t 21], none⟩])
 (.seq
 (.seq
 (.region false [
 ⟨some 7, .mv, [.k (.i .i64 0)], none⟩])
 (.block 0 (.loop (b_spec_l03Solve_L0 gq0 gq1))))
 (.seq
 (.region false [
 ⟨some 196, .mv, [.t 6], none⟩,
 ⟨some 197, (.mksl (.f .f32 0)), [.t 196, .t 196], none⟩,
 ⟨some 16, .mv, [.t 197], none⟩])
 (.seq
 (.seq
 (.region false [
 ⟨some 198, .mv, [.t 6], none⟩,
 ⟨some 199, (.bin .sub), [.t 198, .k (.i .i64 1)], none⟩,
 ⟨some 17, .mv, [.t 199], none⟩])
 (.block 10 (.loop (b_spec_l03Solve_L10 gq0 gq1))))
 (.seq
 (.region false [
 ⟨some 243, .mv, [.t 16], none⟩,
 ⟨some 244, .mv, [.t 16], none⟩,
 ⟨some 245, (.call gq1), [.t 244], none⟩,
 ⟨some 4, .mv, [.t 243], none⟩,
 ⟨some 5, .mv, [.t 245], none⟩])
 .ret))))))

abbrev Is_spec_l03Solve (P : Program) (g_f : FuncId) (gq0 gq1 : FuncId) : Prop := FnIs P g_f 246 [.t 4, .t 5] (b_spec_l03Solve gq0 gq1)

abbrev C_spec_l03Solve (P : Program) (g_f : FuncId) : Prop := ∀ (a : List Nat) (b : List Nat) (h1 : 1 ≤ b.length ∧ b.length ≤ 6) (hl : a.length = b.length * b.length), VCall P g_f [OS HI .f32 a, OS (HI+1) .f32 b] ((AV.M (.tup [OS 0 .f32 (if slAll a b = true then slOut a b else []), .b (slAll a b && finAllM (slOut a b))]) [OS HI .f32 (if slAll a b = true then (slN b.length (a, b) b.length).1 else (slEnd b.length (a, b) b.length).1), OS (HI+1) .f32 (if slAll a b = true then (slN b.length (a, b) b.length).2 else (slEnd b.length (a, b) b.length).2)]))
def oc1_spec_l03Solve (as : List AV) : T AV := match as with | [.sl _ _ (.f .f32 a), .sl _ _ (.f .f32 b)] => .leaf ((AV.M (.tup [OS 0 .f32 (if slAll a b = true then slOut a b else []), .b (slAll a b && finAllM (slOut a b))]) [OS HI .f32 (if slAll a b = true then (slN b.length (a, b) b.length).1 else (slEnd b.length (a, b) b.length).1), OS (HI+1) .f32 (if slAll a b = true then (slN b.length (a, b) b.length).2 else (slEnd b.length (a, b) b.length).2)])) | _ => .fail
def oc_spec_l03Solve (a : List Nat) (b : List Nat) (d : Nat) (as : List AV) : T AV := match d with | 43 => oc1_spec_l03Size as | 52 => oc1_spec_l03Size as | 63 => oc1_spec_l03Size as | 189 => oc1_spec_l02Finite as | 193 => oc1_spec_l02Finite as | 245 => oc1_spec_l02Finite as | _ => .fail
def h_spec_l03Solve_L0 (a : List Nat) (b : List Nat) (a2 : List Nat) (b2 : List Nat) (k : Int) : Env := [.sl (Tag.own 800000) 0 (.f .f32 a2), .sl (Tag.own 800001) 0 (.f .f32 b2)] ++ anys 4 ++ [AV.i .i64 (↑(List.length b) : Int), .i .i64 k] ++ anys 238
def h_spec_l03Solve_L2 (a : List Nat) (b : List Nat) (a2 : List Nat) (b2 : List Nat) (k : Int) (p : Int) (r : Int) : Env := [AV.sl (Tag.own 800000) 0 (Cont.f .f32 a2), AV.sl (Tag.own 800001) 0 (Cont.f .f32 b2)] ++ anys 4 ++ [AV.i .i64 (↑(List.length b) : Int), AV.i .i64 k, .i .i64 p, .i .i64 r] ++ anys 236
def h_spec_l03Solve_L4 (a : List Nat) (b : List Nat) (a2 : List Nat) (b2 : List Nat) (k : Int) (a3 : List Nat) (b3 : List Nat) (c : Int) : Env := [.sl (Tag.own 800000) 0 (.f .f32 a3), .sl (Tag.own 800001) 0 (.f .f32 b3)] ++ anys 4 ++ [AV.i .i64 (↑(List.length b) : Int), AV.i .i64 k, AV.i .i64 (↑(slK (List.length b) (Int.toNat k) (a2, b2)) : Int), .any, .i .i64 c] ++ anys 235
def h_spec_l03Solve_L6 (a : List Nat) (b : List Nat) (a2 : List Nat) (b2 : List Nat) (k : Int) (a3 : List Nat) (b3 : List Nat) (r : Int) : Env := [.sl (Tag.own 800000) 0 (.f .f32 a3), .sl (Tag.own 800001) 0 (.f .f32 b3)] ++ anys 4 ++ [AV.i .i64 (↑(List.length b) : Int), AV.i .i64 k] ++ anys 5 ++ [.i .i64 r] ++ anys 232
def h_spec_l03Solve_L8 (a : List Nat) (b : List Nat) (a2 : List Nat) (b2 : List Nat) (k : Int) (a3 : List Nat) (b3 : List Nat) (r : Int) (a4 : List Nat) (b4 : List Nat) (c : Int) : Env := [.sl (Tag.own 800000) 0 (.f .f32 a4), .sl (Tag.own 800001) 0 (.f .f32 b4)] ++ anys 4 ++ [AV.i .i64 (↑(List.length b) : Int), AV.i .i64 k] ++ anys 5 ++ [AV.i .i64 r, AV.f .f32
 (fdiv .f32 (List.getD a3 (Int.toNat (wrap .i64 (wrap .i64 (r * (↑(List.length b) : Int)) + k))) 0)
 (List.getD a3 (Int.toNat (wrap .i64 (wrap .i64 (k * (↑(List.length b) : Int)) + k))) 0)), .i .i64 c] ++ anys 230
def h_spec_l03Solve_L10 (a : List Nat) (b : List Nat) (a2 : List Nat) (b2 : List Nat) (x : List Nat) (k : Int) : Env := [.sl (Tag.own 800000) 0 (.f .f32 a2), .sl (Tag.own 800001) 0 (.f .f32 b2)] ++ anys 4 ++ [AV.i .i64 (↑(List.length b) : Int)] ++ anys 9 ++ [.sl (Tag.own 1576) 0 (.f .f32 x), .i .i64 k] ++ anys 228
def h_spec_l03Solve_L12 (a : List Nat) (b : List Nat) (a2 : List Nat) (b2 : List Nat) (x : List Nat) (k : Int) (s : Nat) (c : Int) : Env := [AV.sl (Tag.own 800000) 0 (Cont.f .f32 a2), AV.sl (Tag.own 800001) 0 (Cont.f .f32 b2)] ++ anys 4 ++ [AV.i .i64 (↑(List.length b) : Int)] ++ anys 9 ++ [AV.sl (Tag.own 1576) 0 (Cont.f .f32 x), AV.i .i64 k, .f .f32 s, .i .i64 c] ++ anys 226

theorem q_spec_l03Solve_L0 {VC : FuncId → List AV → AV → Prop} {gq0 gq1 : FuncId} (a : List Nat) (b : List Nat) (a2 : List Nat) (b2 : List Nat) (k : Int) {e_ : Ex} {σ_ : Env} (ht : T.ok (fun x_ => x_ = (e_, σ_)) (
 T.ite (decide (k < (↑(List.length b) : Int)))
 (T.ob
 (Exec VC ps_spec_l03Solve (VCode.block 2 (VCode.loop (b_spec_l03Solve_L2 gq0 gq1))) (h_spec_l03Solve_L2 a b a2 b2 k k (wrap .i64 (k + 1))) Ex.normal
 (h_spec_l03Solve_L2 a b a2 b2 k (↑(slK (List.length b) (Int.toNat k) (a2, b2)) : Int) (↑(List.length b) : Int)))
 (T.ob
 (0 ≤ wrap .i64 (wrap .i64 ((↑(slK (List.length b) (Int.toNat k) (a2, b2)) : Int) * (↑(List.length b) : Int)) + k) ∧
 wrap .i64 (wrap .i64 ((↑(slK (List.length b) (Int.toNat k) (a2, b2)) : Int) * (↑(List.length b) : Int)) + k) < (↑(List.length a2) : Int))
 (T.ob
 (VC gq0 [AV.f .f32 (List.getD a2 (Int.toNat (wrap .i64 (wrap .i64 ((↑(slK (List.length b) (Int.toNat k) (a2, b2)) : Int) * (↑(List.length b) : Int)) + k))) 0)]
 (AV.f .f32 (sizF (List.getD a2 (Int.toNat (wrap .i64 (wrap .i64 ((↑(slK (List.length b) (Int.toNat k) (a2, b2)) : Int) * (↑(List.length b) : Int)) + k))) 0))))
 (T.ite
 (!fgt .f32 (sizF (List.getD a2 (Int.toNat (wrap .i64 (wrap .i64 ((↑(slK (List.length b) (Int.toNat k) (a2, b2)) : Int) * (↑(List.length b) : Int)) + k))) 0)) 897988541)
 (T.leaf
 (Ex.ret, AV.sl (Tag.own 800000) 0 (Cont.f .f32 a2) :: AV.sl (Tag.own 800001) 0 (Cont.f .f32 b2) :: AV.any :: AV.any :: AV.sl Tag.nil 0 (Cont.f .f32 []) :: AV.b false :: anys 240))
 (T.ob
 (Exec VC ps_spec_l03Solve (VCode.block 4 (VCode.loop (b_spec_l03Solve_L4 gq0 gq1))) (h_spec_l03Solve_L4 a b a2 b2 k a2 b2 0) Ex.normal
 (h_spec_l03Solve_L4 a b a2 b2 k (slW (List.length b) (Int.toNat k) (slK (List.length b) (Int.toNat k) (a2, b2)) (List.length b) a2) b2 (↑(List.length b) : Int)))
 (T.ob (0 ≤ k ∧ k < (↑(List.length b2) : Int))
 (T.ob (0 ≤ (↑(slK (List.length b) (Int.toNat k) (a2, b2)) : Int) ∧ (↑(slK (List.length b) (Int.toNat k) (a2, b2)) : Int) < (↑(List.length b2) : Int))
 (T.ob (0 ≤ k ∧ k < (↑(List.length b2) : Int))
 (T.ob (false = false)
 (T.ob
 (0 ≤ (↑(slK (List.length b) (Int.toNat k) (a2, b2)) : Int) ∧
 (↑(slK (List.length b) (Int.toNat k) (a2, b2)) : Int) <
 (↑(List.length (List.set b2 (0 + Int.toNat k - 0) (List.getD b2 (Int.toNat (↑(slK (List.length b) (Int.toNat k) (a2, b2)) : Int)) 0))) : Int))
 (T.ob (false = false)
 (T.ob
 (Exec VC ps_spec_l03Solve (VCode.block 6 (VCode.loop (b_spec_l03Solve_L6 gq0 gq1)))
 (h_spec_l03Solve_L6 a b a2 b2 k (slW (List.length b) (Int.toNat k) (slK (List.length b) (Int.toNat k) (a2, b2)) (List.length b) a2)
 (List.set (List.set b2 (0 + Int.toNat k - 0) (List.getD b2 (Int.toNat (↑(slK (List.length b) (Int.toNat k) (a2, b2)) : Int)) 0))
 (0 + Int.toNat (↑(slK (List.length b) (Int.toNat k) (a2, b2)) : Int) - 0) (List.getD b2 (Int.toNat k) 0))
 (wrap .i64 (k + 1)))
 Ex.normal (h_spec_l03Solve_L6 a b a2 b2 k (Prod.fst (slS (List.length b) (Int.toNat k) (a2, b2))) (Prod.snd (slS (List.length b) (Int.toNat k) (a2, b2))) (↑(List.length b) : Int)))
 (T.ob
 (VC gq1 [AV.sl (Tag.par [0]) 0 (Cont.f .f32 (Prod.fst (slS (List.length b) (Int.toNat k) (a2, b2))))]
 (AV.b (finAllM (Prod.fst (slS (List.length b) (Int.toNat k) (a2, b2))))))
 (T.ite (!finAllM (Prod.fst (slS (List.length b) (Int.toNat k) (a2, b2))))
 (T.leaf
 (Ex.ret,
 AV.sl (Tag.own 800000) 0 (Cont.f .f32 (Prod.fst (slS (List.length b) (Int.toNat k) (a2, b2)))) ::
 AV.sl (Tag.own 800001) 0 (Cont.f .f32 (Prod.snd (slS (List.length b) (Int.toNat k) (a2, b2)))) ::
 AV.any :: AV.any :: AV.sl Tag.nil 0 (Cont.f .f32 []) :: AV.b false :: anys 240))
 (T.ob
 (VC gq1 [AV.sl (Tag.par [0]) 0 (Cont.f .f32 (Prod.snd (slS (List.length b) (Int.toNat k) (a2, b2))))]
 (AV.b (finAllM (Prod.snd (slS (List.length b) (Int.toNat k) (a2, b2))))))
 (T.ite (!finAllM (Prod.snd (slS (List.length b) (Int.toNat k) (a2, b2))))
 (T.leaf
 (Ex.ret,
 AV.sl (Tag.own 800000) 0 (Cont.f .f32 (Prod.fst (slS (List.length b) (Int.toNat k) (a2, b2)))) ::
 AV.sl (Tag.own 800001) 0 (Cont.f .f32 (Prod.snd (slS (List.length b) (Int.toNat k) (a2, b2)))) ::
 AV.any :: AV.any :: AV.sl Tag.nil 0 (Cont.f .f32 []) :: AV.b false :: anys 240))
 (T.leaf
 (Ex.normal,
 h_spec_l03Solve_L0 a b (Prod.fst (slS (List.length b) (Int.toNat k) (a2, b2))) (Prod.snd (slS (List.length b) (Int.toNat k) (a2, b2)))
 (wrap .i64 (k + 1))))))))))))))))))))
 (T.leaf (Ex.exit 0, h_spec_l03Solve_L0 a b a2 b2 k)))) :
 Exec VC ps_spec_l03Solve (b_spec_l03Solve_L0 gq0 gq1) (h_spec_l03Solve_L0 a b a2 b2 k) e_ σ_ := evL_of (lv := lv_spec_l03Solve_L0) (rs := [0, 1, 4, 5]) (O := ⟨oc_spec_l03Solve a b, fun id σ => match id with | 2 => some (lv_spec_l03Solve_L2, .leaf (.normal, h_spec_l03Solve_L2 a b a2 b2 k (slK b.length k.toNat (a2, b2)) b.length)) | 4 => some (lv_spec_l03Solve_L4, .leaf (.normal, h_spec_l03Solve_L4 a b a2 b2 k (slW b.length k.toNat (slK b.length k.toNat (a2, b2)) b.length a2) b2 b.length)) | 6 => some (lv_spec_l03Solve_L6, .leaf (.normal, h_spec_l03Solve_L6 a b a2 b2 k (slS b.length k.toNat (a2, b2)).1 (slS b.length k.toNat (a2, b2)).2 b.length)) | _ => none⟩) (by kernel_rfl) ht

theorem q_spec_l03Solve_L2 {VC : FuncId → List AV → AV → Prop} {gq0 gq1 : FuncId} (a : List Nat) (b : List Nat) (a2 : List Nat) (b2 : List Nat) (k : Int) (p : Int) (r : Int) {e_ : Ex} {σ_ : Env} (ht : T.ok (fun x_ => x_ = (e_, σ_)) (
 T.ite (decide (r < (↑(List.length b) : Int)))
 (T.ob (0 ≤ wrap .i64 (wrap .i64 (r * (↑(List.length b) : Int)) + k) ∧ wrap .i64 (wrap .i64 (r * (↑(List.length b) : Int)) + k) < (↑(List.length a2) : Int))
 (T.ob
 (VC gq0 [AV.f .f32 (List.getD a2 (Int.toNat (wrap .i64 (wrap .i64 (r * (↑(List.length b) : Int)) + k))) 0)]
 (AV.f .f32 (sizF (List.getD a2 (Int.toNat (wrap .i64 (wrap .i64 (r * (↑(List.length b) : Int)) + k))) 0))))
 (T.ob
 (0 ≤ wrap .i64 (wrap .i64 (p * (↑(List.length b) : Int)) + k) ∧ wrap .i64 (wrap .i64 (p * (↑(List.length b) : Int)) + k) < (↑(List.length a2) : Int))
 (T.ob
 (VC gq0 [AV.f .f32 (List.getD a2 (Int.toNat (wrap .i64 (wrap .i64 (p * (↑(List.length b) : Int)) + k))) 0)]
 (AV.f .f32 (sizF (List.getD a2 (Int.toNat (wrap .i64 (wrap .i64 (p * (↑(List.length b) : Int)) + k))) 0))))
 (T.ite
 (fgt .f32 (sizF (List.getD a2 (Int.toNat (wrap .i64 (wrap .i64 (r * (↑(List.length b) : Int)) + k))) 0))
 (sizF (List.getD a2 (Int.toNat (wrap .i64 (wrap .i64 (p * (↑(List.length b) : Int)) + k))) 0)))
 (T.leaf (Ex.normal, h_spec_l03Solve_L2 a b a2 b2 k r (wrap .i64 (r + 1)))) (T.leaf (Ex.normal, h_spec_l03Solve_L2 a b a2 b2 k p (wrap .i64 (r + 1)))))))))
 (T.leaf (Ex.exit 2, h_spec_l03Solve_L2 a b a2 b2 k p r)))) :
 Exec VC ps_spec_l03Solve (b_spec_l03Solve_L2 gq0 gq1) (h_spec_l03Solve_L2 a b a2 b2 k p r) e_ σ_ := evL_of (lv := lv_spec_l03Solve_L2) (rs := [0, 1, 4, 5]) (O := ⟨oc_spec_l03Solve a b, fun _ _ => none⟩) (by kernel_rfl) ht

theorem q_spec_l03Solve_L4 {VC : FuncId → List AV → AV → Prop} {gq0 gq1 : FuncId} (a : List Nat) (b : List Nat) (a2 : List Nat) (b2 : List Nat) (k : Int) (a3 : List Nat) (b3 : List Nat) (c : Int) {e_ : Ex} {σ_ : Env} (ht : T.ok (fun x_ => x_ = (e_, σ_)) (
 T.ite (decide (c < (↑(List.length b) : Int)))
 (T.ob (0 ≤ wrap .i64 (wrap .i64 (k * (↑(List.length b) : Int)) + c) ∧ wrap .i64 (wrap .i64 (k * (↑(List.length b) : Int)) + c) < (↑(List.length a3) : Int))
 (T.ob
 (0 ≤ wrap .i64 (wrap .i64 ((↑(slK (List.length b) (Int.toNat k) (a2, b2)) : Int) * (↑(List.length b) : Int)) + c) ∧
 wrap .i64 (wrap .i64 ((↑(slK (List.length b) (Int.toNat k) (a2, b2)) : Int) * (↑(List.length b) : Int)) + c) < (↑(List.length a3) : Int))
 (T.ob
 (0 ≤ wrap .i64 (wrap .i64 (k * (↑(List.length b) : Int)) + c) ∧ wrap .i64 (wrap .i64 (k * (↑(List.length b) : Int)) + c) < (↑(List.length a3) : Int))
 (T.ob (false = false)
 (T.ob
 (0 ≤ wrap .i64 (wrap .i64 ((↑(slK (List.length b) (Int.toNat k) (a2, b2)) : Int) * (↑(List.length b) : Int)) + c) ∧
 wrap .i64 (wrap .i64 ((↑(slK (List.length b) (Int.toNat k) (a2, b2)) : Int) * (↑(List.length b) : Int)) + c) <
 (↑(List.length
 (List.set a3 (0 + Int.toNat (wrap .i64 (wrap .i64 (k * (↑(List.length b) : Int)) + c)) - 0)
 (List.getD a3 (Int.toNat (wrap .i64 (wrap .i64 ((↑(slK (List.length b) (Int.toNat k) (a2, b2)) : Int) * (↑(List.length b) : Int)) + c))) 0))) :
 Int))
 (T.ob (false = false)
 (T.leaf
 (Ex.normal,
 h_spec_l03Solve_L4 a b a2 b2 k
 (List.set
 (List.set a3 (0 + Int.toNat (wrap .i64 (wrap .i64 (k * (↑(List.length b) : Int)) + c)) - 0)
 (List.getD a3 (Int.toNat (wrap .i64 (wrap .i64 ((↑(slK (List.length b) (Int.toNat k) (a2, b2)) : Int) * (↑(List.length b) : Int)) + c))) 0))
 (0 + Int.toNat (wrap .i64 (wrap .i64 ((↑(slK (List.length b) (Int.toNat k) (a2, b2)) : Int) * (↑(List.length b) : Int)) + c)) - 0)
 (List.getD a3 (Int.toNat (wrap .i64 (wrap .i64 (k * (↑(List.length b) : Int)) + c))) 0))
 b3 (wrap .i64 (c + 1))))))))))
 (T.leaf (Ex.exit 4, h_spec_l03Solve_L4 a b a2 b2 k a3 b3 c)))) :
 Exec VC ps_spec_l03Solve (b_spec_l03Solve_L4 gq0 gq1) (h_spec_l03Solve_L4 a b a2 b2 k a3 b3 c) e_ σ_ := evL_of (lv := lv_spec_l03Solve_L4) (rs := [0, 1, 4, 5]) (O := ⟨oc_spec_l03Solve a b, fun _ _ => none⟩) (by kernel_rfl) ht

theorem q_spec_l03Solve_L6 {VC : FuncId → List AV → AV → Prop} {gq0 gq1 : FuncId} (a : List Nat) (b : List Nat) (a2 : List Nat) (b2 : List Nat) (k : Int) (a3 : List Nat) (b3 : List Nat) (r : Int) {e_ : Ex} {σ_ : Env} (ht : T.ok (fun x_ => x_ = (e_, σ_)) (
 T.ite (decide (r < (↑(List.length b) : Int)))
 (T.ob (0 ≤ wrap .i64 (wrap .i64 (r * (↑(List.length b) : Int)) + k) ∧ wrap .i64 (wrap .i64 (r * (↑(List.length b) : Int)) + k) < (↑(List.length a3) : Int))
 (T.ob (0 ≤ wrap .i64 (wrap .i64 (k * (↑(List.length b) : Int)) + k) ∧ wrap .i64 (wrap .i64 (k * (↑(List.length b) : Int)) + k) < (↑(List.length a3) : Int))
 (T.ob True
 (T.ob
 (Exec VC ps_spec_l03Solve (VCode.block 8 (VCode.loop (b_spec_l03Solve_L8 gq0 gq1))) (h_spec_l03Solve_L8 a b a2 b2 k a3 b3 r a3 b3 (wrap .i64 (k + 1))) Ex.normal
 (h_spec_l03Solve_L8 a b a2 b2 k a3 b3 r (slE (List.length b) (Int.toNat k) (Int.toNat r) (slF (List.length b) (Int.toNat k) (Int.toNat r) a3) (List.length b - (Int.toNat k + 1)) a3) b3
 (↑(List.length b) : Int)))
 (T.ob (0 ≤ r ∧ r < (↑(List.length b3) : Int))
 (T.ob (0 ≤ k ∧ k < (↑(List.length b3) : Int))
 (T.ob (0 ≤ r ∧ r < (↑(List.length b3) : Int))
 (T.ob (false = false)
 (T.leaf
 (Ex.normal,
 h_spec_l03Solve_L6 a b a2 b2 k (slE (List.length b) (Int.toNat k) (Int.toNat r) (slF (List.length b) (Int.toNat k) (Int.toNat r) a3) (List.length b - (Int.toNat k + 1)) a3)
 (List.set b3 (0 + Int.toNat r - 0)
 (fsub .f32 (List.getD b3 (Int.toNat r) 0)
 (fmul .f32
 (fdiv .f32 (List.getD a3 (Int.toNat (wrap .i64 (wrap .i64 (r * (↑(List.length b) : Int)) + k))) 0)
 (List.getD a3 (Int.toNat (wrap .i64 (wrap .i64 (k * (↑(List.length b) : Int)) + k))) 0))
 (List.getD b3 (Int.toNat k) 0))))
 (wrap .i64 (r + 1))))))))))))
 (T.leaf (Ex.exit 6, h_spec_l03Solve_L6 a b a2 b2 k a3 b3 r)))) :
 Exec VC ps_spec_l03Solve (b_spec_l03Solve_L6 gq0 gq1) (h_spec_l03Solve_L6 a b a2 b2 k a3 b3 r) e_ σ_ := evL_of (lv := lv_spec_l03Solve_L6) (rs := [0, 1, 4, 5]) (O := ⟨oc_spec_l03Solve a b, fun id σ => match id with | 8 => some (lv_spec_l03Solve_L8, .leaf (.normal, h_spec_l03Solve_L8 a b a2 b2 k a3 b3 r (slE b.length k.toNat r.toNat (slF b.length k.toNat r.toNat a3) (b.length - (k.toNat + 1)) a3) b3 b.length)) | _ => none⟩) (by kernel_rfl) ht

theorem q_spec_l03Solve_L8 {VC : FuncId → List AV → AV → Prop} {gq0 gq1 : FuncId} (a : List Nat) (b : List Nat) (a2 : List Nat) (b2 : List Nat) (k : Int) (a3 : List Nat) (b3 : List Nat) (r : Int) (a4 : List Nat) (b4 : List Nat) (c : Int) {e_ : Ex} {σ_ : Env} (ht : T.ok (fun x_ => x_ = (e_, σ_)) (
 T.ite (decide (c < (↑(List.length b) : Int)))
 (T.ob (0 ≤ wrap .i64 (wrap .i64 (r * (↑(List.length b) : Int)) + c) ∧ wrap .i64 (wrap .i64 (r * (↑(List.length b) : Int)) + c) < (↑(List.length a4) : Int))
 (T.ob (0 ≤ wrap .i64 (wrap .i64 (k * (↑(List.length b) : Int)) + c) ∧ wrap .i64 (wrap .i64 (k * (↑(List.length b) : Int)) + c) < (↑(List.length a4) : Int))
 (T.ob
 (0 ≤ wrap .i64 (wrap .i64 (r * (↑(List.length b) : Int)) + c) ∧ wrap .i64 (wrap .i64 (r * (↑(List.length b) : Int)) + c) < (↑(List.length a4) : Int))
 (T.ob (false = false)
 (T.leaf
 (Ex.normal,
 h_spec_l03Solve_L8 a b a2 b2 k a3 b3 r
 (List.set a4 (0 + Int.toNat (wrap .i64 (wrap .i64 (r * (↑(List.length b) : Int)) + c)) - 0)
 (fsub .f32 (List.getD a4 (Int.toNat (wrap .i64 (wrap .i64 (r * (↑(List.length b) : Int)) + c))) 0)
 (fmul .f32
 (fdiv .f32 (List.getD a3 (Int.toNat (wrap .i64 (wrap .i64 (r * (↑(List.length b) : Int)) + k))) 0)
 (List.getD a3 (Int.toNat (wrap .i64 (wrap .i64 (k * (↑(List.length b) : Int)) + k))) 0))
 (List.getD a4 (Int.toNat (wrap .i64 (wrap .i64 (k * (↑(List.length b) : Int)) + c))) 0))))
 b4 (wrap .i64 (c + 1))))))))
 (T.leaf (Ex.exit 8, h_spec_l03Solve_L8 a b a2 b2 k a3 b3 r a4 b4 c)))) :
 Exec VC ps_spec_l03Solve (b_spec_l03Solve_L8 gq0 gq1) (h_spec_l03Solve_L8 a b a2 b2 k a3 b3 r a4 b4 c) e_ σ_ := evL_of (lv := lv_spec_l03Solve_L8) (rs := [0, 1, 4, 5]) (O := ⟨oc_spec_l03Solve a b, fun _ _ => none⟩) (by kernel_rfl) ht

theorem q_spec_l03Solve_L10 {VC : FuncId → List AV → AV → Prop} {gq0 gq1 : FuncId} (a : List Nat) (b : List Nat) (a2 : List Nat) (b2 : List Nat) (x : List Nat) (k : Int) {e_ : Ex} {σ_ : Env} (ht : T.ok (fun x_ => x_ = (e_, σ_)) (
 T.ite (decide (k ≥ 0))
 (T.ob (0 ≤ k ∧ k < (↑(List.length b2) : Int))
 (T.ob
 (Exec VC ps_spec_l03Solve (VCode.block 12 (VCode.loop (b_spec_l03Solve_L12 gq0 gq1))) (h_spec_l03Solve_L12 a b a2 b2 x k (List.getD b2 (Int.toNat k) 0) (wrap .i64 (k + 1)))
 Ex.normal (h_spec_l03Solve_L12 a b a2 b2 x k (slX (List.length b) (a2, b2) x (Int.toNat k) (List.length b - (Int.toNat k + 1))) (↑(List.length b) : Int)))
 (T.ob
 (0 ≤ wrap .i64 (wrap .i64 (k * (↑(List.length b) : Int)) + k) ∧ wrap .i64 (wrap .i64 (k * (↑(List.length b) : Int)) + k) < (↑(List.length a2) : Int))
 (T.ob True
 (T.ob (0 ≤ k ∧ k < (↑(List.length x) : Int))
 (T.ob (false = false)
 (T.leaf
 (Ex.normal,
 h_spec_l03Solve_L10 a b a2 b2
 (List.set x (0 + Int.toNat k - 0)
 (fdiv .f32 (slX (List.length b) (a2, b2) x (Int.toNat k) (List.length b - (Int.toNat k + 1)))
 (List.getD a2 (Int.toNat (wrap .i64 (wrap .i64 (k * (↑(List.length b) : Int)) + k))) 0)))
 (wrap .i64 (k - 1))))))))))
 (T.leaf (Ex.exit 10, h_spec_l03Solve_L10 a b a2 b2 x k)))) :
 Exec VC ps_spec_l03Solve (b_spec_l03Solve_L10 gq0 gq1) (h_spec_l03Solve_L10 a b a2 b2 x k) e_ σ_ := evL_of (lv := lv_spec_l03Solve_L10) (rs := [0, 1, 4, 5]) (O := ⟨oc_spec_l03Solve a b, fun id σ => match id with | 12 => some (lv_spec_l03Solve_L12, .leaf (.normal, h_spec_l03Solve_L12 a b a2 b2 x k (slX b.length (a2, b2) x k.toNat (b.length - (k.toNat + 1))) b.length)) | _ => none⟩) (by kernel_rfl) ht

theorem q_spec_l03Solve_L12 {VC : FuncId → List AV → AV → Prop} {gq0 gq1 : FuncId} (a : List Nat) (b : List Nat) (a2 : List Nat) (b2 : List Nat) (x : List Nat) (k : Int) (s : Nat) (c : Int) {e_ : Ex} {σ_ : Env} (ht : T.ok (fun x_ => x_ = (e_, σ_)) (
 T.ite (decide (c < (↑(List.length b) : Int)))
 (T.ob (0 ≤ wrap .i64 (wrap .i64 (k * (↑(List.length b) : Int)) + c) ∧ wrap .i64 (wrap .i64 (k * (↑(List.length b) : Int)) + c) < (↑(List.length a2) : Int))
 (T.ob (0 ≤ c ∧ c < (↑(List.length x) : Int))
 (T.leaf
 (Ex.normal,
 h_spec_l03Solve_L12 a b a2 b2 x k
 (fsub .f32 s (fmul .f32 (List.getD a2 (Int.toNat (wrap .i64 (wrap .i64 (k * (↑(List.length b) : Int)) + c))) 0) (List.getD x (Int.toNat c) 0)))
 (wrap .i64 (c + 1))))))
 (T.leaf (Ex.exit 12, h_spec_l03Solve_L12 a b a2 b2 x k s c)))) :
 Exec VC ps_spec_l03Solve (b_spec_l03Solve_L12 gq0 gq1) (h_spec_l03Solve_L12 a b a2 b2 x k s c) e_ σ_ := evL_of (lv := lv_spec_l03Solve_L12) (rs := [0, 1, 4, 5]) (O := ⟨oc_spec_l03Solve a b, fun _ _ => none⟩) (by kernel_rfl) ht

theorem q_spec_l03Solve {P : Program} {g_f : FuncId} {gq0 gq1 : FuncId} (h_ : Is_spec_l03Solve P g_f gq0 gq1) (a : List Nat) (b : List Nat) (ht : T.ok (fun x_ => x_ = (.tup [OS 0 .f32 (if slAll a b = true then slOut a b else []), .b (slAll a b && finAllM (slOut a b))], [OS HI .f32 (if slAll a b = true then (slN b.length (a, b) b.length).1 else (slEnd b.length (a, b) b.length).1), OS (HI+1) .f32 (if slAll a b = true then (slN b.length (a, b) b.length).2 else (slEnd b.length (a, b) b.length).2)])) (
 T.ite (slAll a b)
 (T.ob
 (Exec (VCall P) ps_spec_l03Solve (VCode.block 0 (VCode.loop (b_spec_l03Solve_L0 gq0 gq1))) (h_spec_l03Solve_L0 a b a b 0) Ex.normal
 (h_spec_l03Solve_L0 a b (Prod.fst (slN (List.length b) (a, b) (List.length b))) (Prod.snd (slN (List.length b) (a, b) (List.length b))) (↑(List.length b) : Int)))
 (T.ob ((↑(List.length b) : Int) = (↑(List.length b) : Int) ∧ 0 ≤ (↑(List.length b) : Int) ∧ (↑(List.length b) : Int) ≤ 4294967296)
 (T.ob
 (Exec (VCall P) ps_spec_l03Solve (VCode.block 10 (VCode.loop (b_spec_l03Solve_L10 gq0 gq1)))
 (h_spec_l03Solve_L10 a b (Prod.fst (slN (List.length b) (a, b) (List.length b))) (Prod.snd (slN (List.length b) (a, b) (List.length b))) (List.replicate (Int.toNat (↑(List.length b) : Int)) 0)
 (wrap .i64 ((↑(List.length b) : Int) - 1)))
 Ex.normal (h_spec_l03Solve_L10 a b (Prod.fst (slN (List.length b) (a, b) (List.length b))) (Prod.snd (slN (List.length b) (a, b) (List.length b))) (slOut a b) (-1)))
 (T.ob ((VCall P) gq1 [AV.sl (Tag.par [0]) 0 (Cont.f .f32 (slOut a b))] (AV.b (finAllM (slOut a b))))
 (T.ob (List.length a = List.length (Prod.fst (slN (List.length b) (a, b) (List.length b))) ∧ List.length b = List.length (Prod.snd (slN (List.length b) (a, b) (List.length b))) ∧ True)
 (T.leaf
 (AV.tup [AV.sl (Tag.own 0) 0 (Cont.f .f32 (slOut a b)), AV.b (finAllM (slOut a b))],
 [AV.sl (Tag.own 800000) 0 (Cont.f .f32 (Prod.fst (slN (List.length b) (a, b) (List.length b)))),
 AV.sl (Tag.own 800001) 0 (Cont.f .f32 (Prod.snd (slN (List.length b) (a, b) (List.length b))))])))))))
 (T.ob
 (Exec (VCall P) ps_spec_l03Solve (VCode.block 0 (VCode.loop (b_spec_l03Solve_L0 gq0 gq1))) (h_spec_l03Solve_L0 a b a b 0) Ex.ret
 (AV.sl (Tag.own 800000) 0 (Cont.f .f32 (Prod.fst (slEnd (List.length b) (a, b) (List.length b)))) ::
 AV.sl (Tag.own 800001) 0 (Cont.f .f32 (Prod.snd (slEnd (List.length b) (a, b) (List.length b)))) :: AV.any :: AV.any :: AV.sl Tag.nil 0 (Cont.f .f32 []) :: AV.b false :: anys 240))
 (T.ob (List.length a = List.length (Prod.fst (slEnd (List.length b) (a, b) (List.length b))) ∧ List.length b = List.length (Prod.snd (slEnd (List.length b) (a, b) (List.length b))) ∧ True)
 (T.leaf
 (AV.tup [AV.sl (Tag.own 0) 0 (Cont.f .f32 []), AV.b false],
 [AV.sl (Tag.own 800000) 0 (Cont.f .f32 (Prod.fst (slEnd (List.length b) (a, b) (List.length b)))),
 AV.sl (Tag.own 800001) 0 (Cont.f .f32 (Prod.snd (slEnd (List.length b) (a, b) (List.length b))))])))))) :
 VCall P g_f [OS HI .f32 a, OS (HI+1) .f32 b] (AV.M (.tup [OS 0 .f32 (if slAll a b = true then slOut a b else []), .b (slAll a b && finAllM (slOut a b))]) [OS HI .f32 (if slAll a b = true then (slN b.length (a, b) b.length).1 else (slEnd b.length (a, b) b.length).1), OS (HI+1) .f32 (if slAll a b = true then (slN b.length (a, b) b.length).2 else (slEnd b.length (a, b) b.length).2)]) := h_.callM_of ps_spec_l03Solve [0, 1] ⟨oc_spec_l03Solve a b, fun id σ => match id with | 0 => some (lv_spec_l03Solve_L0, .ite (slAll a b) (.leaf (.normal, h_spec_l03Solve_L0 a b (slN b.length (a, b) b.length).1 (slN b.length (a, b) b.length).2 b.length)) (.leaf (.ret, slRet (slEnd b.length (a, b) b.length)))) | 10 => some (lv_spec_l03Solve_L10, .leaf (.normal, h_spec_l03Solve_L10 a b (slN b.length (a, b) b.length).1 (slN b.length (a, b) b.length).2 (slOut a b) (-1))) | _ => none⟩ (by kernel_rfl) ht

-- END spec_l03Solve

theorem ix {r c n : Nat} (hr : r < n) (hc : c < n) (hn : n ≤ 6) : IntKind.wrap .i64 (IntKind.wrap .i64 ((r : Int) * (n : Int)) + (c : Int)) = ((r * n + c : Nat) : Int) ∧ r * n + c < n * n := by
  have h1 : r * n + n ≤ n * n := by
    have := Nat.mul_le_mul_right n (show r + 1 ≤ n by omega)
    rw [Nat.add_mul, Nat.one_mul] at this; exact this
  have h2 : n * n ≤ 36 := Nat.mul_le_mul hn hn
  refine ⟨?_, by omega⟩
  rw [← Int.natCast_mul, wrap64_id (n := ((r * n : Nat) : Int)) (by omega) (by omega), ← Int.natCast_add, wrap64_id (by omega) (by omega)]
theorem slP_range (a : List Nat) (n k : Nat) : ∀ m, k ≤ slP a n k m ∧ slP a n k m ≤ k + m
  | 0 => by simp [slP]
  | m + 1 => by
    have := slP_range a n k m
    simp only [slP]
    split <;> omega
theorem slW_len (n k p : Nat) (a : List Nat) : ∀ c, (slW n k p c a).length = a.length
  | 0 => rfl
  | c + 1 => by
    have := slW_len n k p a c
    show (((slW n k p c a).set _ _).set _ _).length = _
    rw [List.length_set, List.length_set, this]
theorem slE_len (n k r f : Nat) (a : List Nat) : ∀ t, (slE n k r f t a).length = a.length
  | 0 => rfl
  | t + 1 => by
    have := slE_len n k r f a t
    show ((slE n k r f t a).set _ _).length = _
    rw [List.length_set, this]
theorem slB_len (k p : Nat) (b : List Nat) : (slB k p b).length = b.length := by unfold slB; simp
theorem slR_len (n k : Nat) (q : List Nat × List Nat) : ∀ m, (slR n k m q).1.length = q.1.length ∧ (slR n k m q).2.length = q.2.length
  | 0 => ⟨rfl, rfl⟩
  | m + 1 => by
    have := slR_len n k q m
    refine ⟨?_, ?_⟩
    · show (slE _ _ _ _ _ _).length = _
      rw [slE_len]; exact this.1
    · show ((slR n k m q).2.set _ _).length = _
      rw [List.length_set]; exact this.2
theorem slS_len (n k : Nat) (q : List Nat × List Nat) : (slS n k q).1.length = q.1.length ∧ (slS n k q).2.length = q.2.length := by
  unfold slS
  have := slR_len n k (slW n k (slK n k q) n q.1, slB k (slK n k q) q.2) (n - (k + 1))
  rw [this.1, this.2, slW_len, slB_len]; exact ⟨rfl, rfl⟩
theorem slN_len (n : Nat) (q : List Nat × List Nat) : ∀ k, (slN n q k).1.length = q.1.length ∧ (slN n q k).2.length = q.2.length
  | 0 => ⟨rfl, rfl⟩
  | k + 1 => by
    have h := slN_len n q k
    have h2 := slS_len n k (slN n q k)
    exact ⟨h2.1.trans h.1, h2.2.trans h.2⟩
theorem slEnd_len (n : Nat) (q : List Nat × List Nat) : ∀ k, (slEnd n q k).1.length = q.1.length ∧ (slEnd n q k).2.length = q.2.length
  | 0 => ⟨rfl, rfl⟩
  | k + 1 => by
    unfold slEnd
    split
    · split
      · exact slN_len n q (k + 1)
      · exact slN_len n q k
    · exact slEnd_len n q k
theorem slEnd_at {n : Nat} {q : List Nat × List Nat} {k : Nat} (h1 : ∀ j, j < k → slOk n q j = true) (h2 : slOk n q k = false) : ∀ {m}, k < m → slEnd n q m = if slPiv n k (slN n q k) = true then slN n q (k + 1) else slN n q k
  | m + 1, hm => by
    unfold slEnd
    by_cases e : k = m
    · subst e
      rw [if_pos (allN_iff.2 h1)]
    · rw [if_neg (by rw [allN_iff]; intro h; rw [h k (by omega)] at h2; cases h2)]
      exact slEnd_at h1 h2 (by omega)
theorem slBk_len (n : Nat) (q : List Nat × List Nat) : ∀ m, (slBk n q m).length = n
  | 0 => by simp [slBk]
  | m + 1 => by simp [slBk, slBk_len n q m]

section
variable {P : Program} {f g1 g2 : FuncId} {a b : List Nat}
theorem sl_L2 (c1 : C_spec_l03Size P g1) (h1 : b.length ≤ 6) {a2 b2 : List Nat} (ha : a2.length = b.length * b.length) {k : Nat} (hk : k < b.length) :
    Exec (VCall P) ps_spec_l03Solve (.block 2 (.loop (b_spec_l03Solve_L2 g1 g2))) (h_spec_l03Solve_L2 a b a2 b2 k k (IntKind.wrap .i64 ((k : Int) + 1))) .normal (h_spec_l03Solve_L2 a b a2 b2 k (slK b.length k (a2, b2) : Nat) b.length) := by
  have w1 : IntKind.wrap .i64 ((k : Int) + 1) = (k + 1 : Nat) := by rw [wrap64_id (by omega) (by omega)]; rfl
  rw [w1]
  refine for_up (e := .exit 2) (b.length - (k + 1)) (fun m => h_spec_l03Solve_L2 a b a2 b2 k (slP a2 b.length k m : Nat) (k + 1 + m : Nat)) rfl (fun m hm => ?_) ?_
  · have hp := slP_range a2 b.length k m
    obtain ⟨x1, y1⟩ := ix (r := k + 1 + m) (c := k) (n := b.length) (by omega) hk h1
    obtain ⟨x2, y2⟩ := ix (r := slP a2 b.length k m) (c := k) (n := b.length) (by omega) hk h1
    refine q_spec_l03Solve_L2 _ _ _ _ _ _ _ ?_
    rw [x1, x2]
    simp only [Int.toNat_natCast]
    refine ⟨fun _ => ⟨by omega, fun _ => ⟨c1 _, fun _ => ⟨by omega, fun _ => ⟨c1 _, fun _ => ⟨fun h => ?_, fun h => ?_⟩⟩⟩⟩⟩, fun h => absurd (of_decide_eq_false h) (by omega)⟩
    · show _ = _
      rw [wrap64_id (by omega) (by omega)]
      have : slP a2 b.length k (m + 1) = k + 1 + m := by simp only [slP]; exact if_pos h
      rw [this]; rfl
    · show _ = _
      rw [wrap64_id (by omega) (by omega)]
      have : slP a2 b.length k (m + 1) = slP a2 b.length k m := by simp only [slP]; exact if_neg (by rw [h]; simp)
      rw [this]; rfl
  · rw [show k + 1 + (b.length - (k + 1)) = b.length by omega]
    exact q_spec_l03Solve_L2 _ _ _ _ _ _ _ ⟨fun h => absurd (of_decide_eq_true h) (by omega), fun _ => rfl⟩

theorem slK_lt {n k : Nat} {q : List Nat × List Nat} (hk : k < n) : slK n k q < n := by
  have := slP_range q.1 n k (n - (k + 1)); unfold slK; omega

theorem sl_L4 (h1 : b.length ≤ 6) {a2 b2 : List Nat} (ha : a2.length = b.length * b.length) {k : Nat} (hk : k < b.length) :
    Exec (VCall P) ps_spec_l03Solve (.block 4 (.loop (b_spec_l03Solve_L4 g1 g2))) (h_spec_l03Solve_L4 a b a2 b2 k a2 b2 0) .normal (h_spec_l03Solve_L4 a b a2 b2 k (slW b.length k (slK b.length k (a2, b2)) b.length a2) b2 b.length) := by
  have hp : slK b.length k (a2, b2) < b.length := slK_lt hk
  refine for_up (e := .exit 4) b.length (fun c => h_spec_l03Solve_L4 a b a2 b2 k (slW b.length k (slK b.length k (a2, b2)) c a2) b2 c) rfl (fun c hc => ?_) ?_
  · have hl := slW_len b.length k (slK b.length k (a2, b2)) a2 c
    obtain ⟨x1, y1⟩ := ix (r := k) (c := c) (n := b.length) hk hc h1
    obtain ⟨x2, y2⟩ := ix (r := slK b.length k (a2, b2)) (c := c) (n := b.length) hp hc h1
    refine q_spec_l03Solve_L4 _ _ _ _ _ _ _ _ ?_
    simp only [Int.toNat_natCast, x1, x2, Nat.zero_add, Nat.sub_zero, List.length_set]
    refine ⟨fun _ => ⟨by omega, fun _ => ⟨by omega, fun _ => ⟨by omega, fun _ => ⟨trivial, fun _ => ⟨by omega, fun _ => ⟨trivial, fun _ => ?_⟩⟩⟩⟩⟩⟩, fun h => absurd (of_decide_eq_false h) (by omega)⟩
    show _ = _
    rw [wrap64_id (by omega) (by omega)]; rfl
  · exact q_spec_l03Solve_L4 _ _ _ _ _ _ _ _ ⟨fun h => absurd (of_decide_eq_true h) (by omega), fun _ => rfl⟩

theorem sl_L8 (h1 : b.length ≤ 6) {a2 b2 a3 b3 : List Nat} (ha : a3.length = b.length * b.length) {k r : Nat} (hk : k < b.length) (hr : r < b.length) :
    Exec (VCall P) ps_spec_l03Solve (.block 8 (.loop (b_spec_l03Solve_L8 g1 g2))) (h_spec_l03Solve_L8 a b a2 b2 k a3 b3 r a3 b3 (IntKind.wrap .i64 ((k : Int) + 1))) .normal (h_spec_l03Solve_L8 a b a2 b2 k a3 b3 r (slE b.length k r (slF b.length k r a3) (b.length - (k + 1)) a3) b3 b.length) := by
  have w1 : IntKind.wrap .i64 ((k : Int) + 1) = (k + 1 : Nat) := by rw [wrap64_id (by omega) (by omega)]; rfl
  rw [w1]
  refine for_up (e := .exit 8) (b.length - (k + 1)) (fun t => h_spec_l03Solve_L8 a b a2 b2 k a3 b3 r (slE b.length k r (slF b.length k r a3) t a3) b3 (k + 1 + t : Nat)) rfl (fun t ht => ?_) ?_
  · have hl := slE_len b.length k r (slF b.length k r a3) a3 t
    obtain ⟨x1, y1⟩ := ix (r := r) (c := k + 1 + t) (n := b.length) hr (by omega) h1
    obtain ⟨x2, y2⟩ := ix (r := k) (c := k + 1 + t) (n := b.length) hk (by omega) h1
    obtain ⟨x3, y3⟩ := ix (r := r) (c := k) (n := b.length) hr hk h1
    obtain ⟨x4, y4⟩ := ix (r := k) (c := k) (n := b.length) hk hk h1
    refine q_spec_l03Solve_L8 _ _ _ _ _ _ _ _ _ _ _ ?_
    simp only [Int.toNat_natCast, x1, x2, x3, x4, Nat.zero_add, Nat.sub_zero]
    refine ⟨fun _ => ⟨by omega, fun _ => ⟨by omega, fun _ => ⟨by omega, fun _ => ⟨trivial, fun _ => ?_⟩⟩⟩⟩, fun h => absurd (of_decide_eq_false h) (by omega)⟩
    show _ = _
    rw [wrap64_id (by omega) (by omega)]; rfl
  · rw [show k + 1 + (b.length - (k + 1)) = b.length by omega]
    exact q_spec_l03Solve_L8 _ _ _ _ _ _ _ _ _ _ _ ⟨fun h => absurd (of_decide_eq_true h) (by omega), fun _ => rfl⟩

theorem sl_L6 (h1 : b.length ≤ 6) {a2 b2 a3 b3 : List Nat} (ha : a3.length = b.length * b.length) (hb : b3.length = b.length) {k : Nat} (hk : k < b.length) :
    Exec (VCall P) ps_spec_l03Solve (.block 6 (.loop (b_spec_l03Solve_L6 g1 g2))) (h_spec_l03Solve_L6 a b a2 b2 k a3 b3 (IntKind.wrap .i64 ((k : Int) + 1))) .normal (h_spec_l03Solve_L6 a b a2 b2 k (slR b.length k (b.length - (k + 1)) (a3, b3)).1 (slR b.length k (b.length - (k + 1)) (a3, b3)).2 b.length) := by
  have w1 : IntKind.wrap .i64 ((k : Int) + 1) = (k + 1 : Nat) := by rw [wrap64_id (by omega) (by omega)]; rfl
  rw [w1]
  refine for_up (e := .exit 6) (b.length - (k + 1)) (fun m => h_spec_l03Solve_L6 a b a2 b2 k (slR b.length k m (a3, b3)).1 (slR b.length k m (a3, b3)).2 (k + 1 + m : Nat)) rfl (fun m hm => ?_) ?_
  · have hl := slR_len b.length k (a3, b3) m
    have hl1 : (slR b.length k m (a3, b3)).1.length = b.length * b.length := hl.1.trans ha
    have hl2 : (slR b.length k m (a3, b3)).2.length = b.length := hl.2.trans hb
    obtain ⟨x3, y3⟩ := ix (r := k + 1 + m) (c := k) (n := b.length) (by omega) hk h1
    obtain ⟨x4, y4⟩ := ix (r := k) (c := k) (n := b.length) hk hk h1
    have x8 := sl_L8 (P := P) (g1 := g1) (g2 := g2) (a := a) (b := b) (a2 := a2) (b2 := b2) (b3 := (slR b.length k m (a3, b3)).2) h1 hl1 (k := k) (r := k + 1 + m) hk (by omega)
    refine q_spec_l03Solve_L6 _ _ _ _ _ _ _ _ ?_
    simp only [Int.toNat_natCast, x3, x4, Nat.zero_add, Nat.sub_zero]
    refine ⟨fun _ => ⟨by omega, fun _ => ⟨by omega, fun _ => ⟨trivial, fun _ => ⟨x8, fun _ => ⟨by omega, fun _ => ⟨by omega, fun _ => ⟨by omega, fun _ => ⟨trivial, fun _ => ?_⟩⟩⟩⟩⟩⟩⟩⟩, fun h => absurd (of_decide_eq_false h) (by omega)⟩
    show _ = _
    rw [wrap64_id (by omega) (by omega)]; rfl
  · rw [show k + 1 + (b.length - (k + 1)) = b.length by omega]
    exact q_spec_l03Solve_L6 _ _ _ _ _ _ _ _ ⟨fun h => absurd (of_decide_eq_true h) (by omega), fun _ => rfl⟩

theorem sl_L0_row (c1 : C_spec_l03Size P g1) (c2 : C_spec_l02Finite P g2) (h1 : b.length ≤ 6) {a2 b2 : List Nat} (ha : a2.length = b.length * b.length) (hb : b2.length = b.length) {k : Nat} (hk : k < b.length) {e : Ex} {σ : Env}
    (hg : slPiv b.length k (a2, b2) = true → slFin (slS b.length k (a2, b2)) = true → e = .normal ∧ σ = h_spec_l03Solve_L0 a b (slS b.length k (a2, b2)).1 (slS b.length k (a2, b2)).2 (k + 1 : Nat))
    (hb1 : slPiv b.length k (a2, b2) = false → e = .ret ∧ σ = slRet (a2, b2)) (hb2 : slPiv b.length k (a2, b2) = true → slFin (slS b.length k (a2, b2)) = false → e = .ret ∧ σ = slRet (slS b.length k (a2, b2))) :
    Exec (VCall P) ps_spec_l03Solve (b_spec_l03Solve_L0 g1 g2) (h_spec_l03Solve_L0 a b a2 b2 k) e σ := by
  have hp : slK b.length k (a2, b2) < b.length := slK_lt hk
  obtain ⟨x1, y1⟩ := ix (r := slK b.length k (a2, b2)) (c := k) (n := b.length) hp hk h1
  have hS := slS_len b.length k (a2, b2)
  have hS1 : (slS b.length k (a2, b2)).1.length = b.length * b.length := hS.1.trans ha
  have hS2 : (slS b.length k (a2, b2)).2.length = b.length := hS.2.trans hb
  have hbb : b.length * b.length ≤ 36 := Nat.mul_le_mul h1 h1
  have x6 := sl_L6 (P := P) (g1 := g1) (g2 := g2) (a := a) (b := b) (a2 := a2) (b2 := b2) (a3 := slW b.length k (slK b.length k (a2, b2)) b.length a2) (b3 := slB k (slK b.length k (a2, b2)) b2) h1 (by rw [slW_len]; exact ha) (by rw [slB_len]; exact hb) hk
  refine q_spec_l03Solve_L0 _ _ _ _ _ ?_
  simp only [Int.toNat_natCast, x1, Nat.zero_add, Nat.sub_zero, List.length_set]
  refine ⟨fun _ => ⟨sl_L2 c1 h1 ha hk, fun _ => ⟨by omega, fun _ => ⟨c1 _, fun _ => ⟨fun hq => ?_, fun hq => ⟨sl_L4 h1 ha hk, fun _ => ⟨by omega, fun _ => ⟨by omega, fun _ => ⟨by omega, fun _ => ⟨trivial, fun _ => ⟨by omega, fun _ => ⟨trivial, fun _ => ⟨x6, fun _ => ⟨c2 _ (by rw [hS1, maxLen_eq]; omega), fun _ => ⟨fun hf => ?_, fun hf => ⟨c2 _ (by rw [hS2, maxLen_eq]; omega), fun _ => ⟨fun hf2 => ?_, fun hf2 => ?_⟩⟩⟩⟩⟩⟩⟩⟩⟩⟩⟩⟩⟩⟩⟩⟩, fun h => absurd (of_decide_eq_false h) (by omega)⟩
  · have hz : slPiv b.length k (a2, b2) = false := by
      have : (!slPiv b.length k (a2, b2)) = true := hq
      simpa using this
    obtain ⟨rfl, rfl⟩ := hb1 hz
    rfl
  all_goals have hz : slPiv b.length k (a2, b2) = true := by simpa using (show (!slPiv b.length k (a2, b2)) = false from hq)
  · have hf' : finAllM (slS b.length k (a2, b2)).1 = false := by simpa using hf
    obtain ⟨rfl, rfl⟩ := hb2 hz (by unfold slFin; rw [hf']; rfl)
    rfl
  · have hf' : finAllM (slS b.length k (a2, b2)).2 = false := by simpa using hf2
    obtain ⟨rfl, rfl⟩ := hb2 hz (by unfold slFin; rw [hf', Bool.and_false])
    rfl
  · have hf' : finAllM (slS b.length k (a2, b2)).1 = true := by simpa using hf
    have hf2' : finAllM (slS b.length k (a2, b2)).2 = true := by simpa using hf2
    obtain ⟨rfl, rfl⟩ := hg hz (by unfold slFin; rw [hf', hf2']; rfl)
    show _ = _
    rw [wrap64_id (by omega) (by omega)]; rfl

theorem sl_L12 (h1 : b.length ≤ 6) {a2 b2 : List Nat} (ha : a2.length = b.length * b.length) {x : List Nat} (hx : x.length = b.length) {k : Nat} (hk : k < b.length) :
    Exec (VCall P) ps_spec_l03Solve (.block 12 (.loop (b_spec_l03Solve_L12 g1 g2))) (h_spec_l03Solve_L12 a b a2 b2 x k (b2.getD k 0) (IntKind.wrap .i64 ((k : Int) + 1))) .normal (h_spec_l03Solve_L12 a b a2 b2 x k (slX b.length (a2, b2) x k (b.length - (k + 1))) b.length) := by
  have w1 : IntKind.wrap .i64 ((k : Int) + 1) = (k + 1 : Nat) := by rw [wrap64_id (by omega) (by omega)]; rfl
  rw [w1]
  refine for_up (e := .exit 12) (b.length - (k + 1)) (fun t => h_spec_l03Solve_L12 a b a2 b2 x k (slX b.length (a2, b2) x k t) (k + 1 + t : Nat)) rfl (fun t ht => ?_) ?_
  · obtain ⟨x1, y1⟩ := ix (r := k) (c := k + 1 + t) (n := b.length) hk (by omega) h1
    refine q_spec_l03Solve_L12 _ _ _ _ _ _ _ _ ?_
    rw [x1]
    simp only [Int.toNat_natCast]
    refine ⟨fun _ => ⟨by omega, fun _ => ⟨by omega, fun _ => ?_⟩⟩, fun h => absurd (of_decide_eq_false h) (by omega)⟩
    show _ = _
    rw [wrap64_id (by omega) (by omega)]; rfl
  · rw [show k + 1 + (b.length - (k + 1)) = b.length by omega]
    exact q_spec_l03Solve_L12 _ _ _ _ _ _ _ _ ⟨fun h => absurd (of_decide_eq_true h) (by omega), fun _ => rfl⟩

theorem sl_L10 (h1 : 1 ≤ b.length ∧ b.length ≤ 6) {a2 b2 : List Nat} (ha : a2.length = b.length * b.length) (hb : b2.length = b.length) :
    Exec (VCall P) ps_spec_l03Solve (.block 10 (.loop (b_spec_l03Solve_L10 g1 g2))) (h_spec_l03Solve_L10 a b a2 b2 (List.replicate b.length 0) (IntKind.wrap .i64 ((b.length : Int) - 1))) .normal (h_spec_l03Solve_L10 a b a2 b2 (slBk b.length (a2, b2) b.length) (-1)) := by
  rw [wrap64_id (by omega) (by omega)]
  refine for_up (e := .exit 10) b.length (fun m => h_spec_l03Solve_L10 a b a2 b2 (slBk b.length (a2, b2) m) ((b.length : Int) - 1 - m)) (by show _ = h_spec_l03Solve_L10 a b a2 b2 (slBk b.length (a2, b2) 0) _; rw [Int.natCast_zero, Int.sub_zero]; rfl) (fun m hm => ?_) ?_
  · obtain ⟨k, hk⟩ : ∃ k : Nat, k = b.length - (m + 1) := ⟨_, rfl⟩
    have ek : (b.length : Int) - 1 - m = k := by omega
    have ek2 : b.length - (k + 1) = m := by omega
    have ho := slBk_len b.length (a2, b2) m
    have x12 := sl_L12 (P := P) (g1 := g1) (g2 := g2) (a := a) (b := b) (b2 := b2) h1.2 ha ho (k := k) (by omega)
    obtain ⟨x1, y1⟩ := ix (r := k) (c := k) (n := b.length) (by omega) (by omega) h1.2
    rw [ek]
    refine q_spec_l03Solve_L10 _ _ _ _ _ _ ?_
    simp only [Int.toNat_natCast, x1, Nat.zero_add, Nat.sub_zero]
    refine ⟨fun _ => ⟨by omega, fun _ => ⟨x12, fun _ => ⟨by omega, fun _ => ⟨trivial, fun _ => ⟨by omega, fun _ => ⟨trivial, fun _ => ?_⟩⟩⟩⟩⟩⟩, fun h => absurd (of_decide_eq_false h) (by omega)⟩
    show _ = _
    rw [wrap64_id (by omega) (by omega), ek2, show (k : Int) - 1 = (b.length : Int) - 1 - (m + 1 : Nat) by omega, hk]
    rfl
  · rw [show (b.length : Int) - 1 - (b.length : Nat) = -1 by omega]
    exact q_spec_l03Solve_L10 _ _ _ _ _ _ ⟨fun h => absurd (of_decide_eq_true h) (by omega), fun _ => rfl⟩

theorem k_spec_l03Solve (h : Is_spec_l03Solve P f g1 g2) (c1 : C_spec_l03Size P g1) (c2 : C_spec_l02Finite P g2) : C_spec_l03Solve P f := by
  intro a b h1 hl
  have hN := fun k => slN_len b.length (a, b) k
  have hE := slEnd_len b.length (a, b) b.length
  have row : ∀ k, k < b.length → (slOk b.length (a, b) k = true → Exec (VCall P) ps_spec_l03Solve (b_spec_l03Solve_L0 g1 g2) (h_spec_l03Solve_L0 a b (slN b.length (a, b) k).1 (slN b.length (a, b) k).2 k) .normal (h_spec_l03Solve_L0 a b (slN b.length (a, b) (k + 1)).1 (slN b.length (a, b) (k + 1)).2 (k + 1 : Nat))) ∧
      (slOk b.length (a, b) k = false → Exec (VCall P) ps_spec_l03Solve (b_spec_l03Solve_L0 g1 g2) (h_spec_l03Solve_L0 a b (slN b.length (a, b) k).1 (slN b.length (a, b) k).2 k) .ret (slRet (if slPiv b.length k (slN b.length (a, b) k) = true then slN b.length (a, b) (k + 1) else slN b.length (a, b) k))) := by
    intro k hk
    refine ⟨fun ho => ?_, fun ho => ?_⟩
    all_goals refine sl_L0_row c1 c2 h1.2 ((hN k).1.trans hl) (hN k).2 hk (fun hp hf => ?_) (fun hp => ?_) (fun hp hf => ?_)
    all_goals have hp : slPiv b.length k (slN b.length (a, b) k) = _ := hp
    · exact ⟨rfl, rfl⟩
    · unfold slOk at ho; rw [hp] at ho; cases ho
    · have hf : slFin (slN b.length (a, b) (k + 1)) = false := hf
      unfold slOk at ho; rw [hf, Bool.and_false] at ho; cases ho
    · have hf : slFin (slN b.length (a, b) (k + 1)) = true := hf
      unfold slOk at ho; rw [hp, hf] at ho; cases ho
    · rw [hp]; exact ⟨rfl, rfl⟩
    · rw [hp]; exact ⟨rfl, rfl⟩
  have hbk := slBk_len b.length (slN b.length (a, b) b.length) b.length
  refine q_spec_l03Solve h a b ⟨fun hc => ⟨?_, fun _ => ⟨by omega, fun _ => ⟨?_, fun _ => ⟨c2 _ (by unfold slOut; rw [hbk, maxLen_eq]; omega), fun _ => ⟨⟨(hN b.length).1.symm, (hN b.length).2.symm, trivial⟩, fun _ => ?_⟩⟩⟩⟩⟩, fun hc => ⟨?_, fun _ => ⟨⟨hE.1.symm, hE.2.symm, trivial⟩, fun _ => ?_⟩⟩⟩
  · refine for_all (e := .exit 0) _ b.length (fun k => h_spec_l03Solve_L0 a b (slN b.length (a, b) k).1 (slN b.length (a, b) k).2 k) hc rfl (fun k hk h => (row k hk).1 h) ?_
    exact q_spec_l03Solve_L0 _ _ _ _ _ ⟨fun h => absurd (of_decide_eq_true h) (by omega), fun _ => rfl⟩
  · rw [Int.toNat_natCast]; exact sl_L10 h1 ((hN b.length).1.trans hl) (hN b.length).2
  · simp only [T.ok, hc, if_true, Bool.true_and]
  · refine for_oneS (e := .ret) _ b.length (fun k => h_spec_l03Solve_L0 a b (slN b.length (a, b) k).1 (slN b.length (a, b) k).2 k) hc rfl (fun k hk _ h => (row k hk).1 h) (fun k hk hb h => ?_)
    have := (row k hk).2 h
    rw [← slEnd_at hb h hk] at this
    exact this
  · simp only [T.ok, hc, if_false, Bool.false_and, Bool.false_eq_true]
end

end Go.Proofs.LV
