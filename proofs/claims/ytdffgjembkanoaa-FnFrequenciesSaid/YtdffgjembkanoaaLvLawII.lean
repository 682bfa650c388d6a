/- The law FnFrequencies. -/
import Derived.Test.YtdffgjembkanoaaLvFnWX
import Derived.Test.YtdffgjembkanoaaLvCutX
import Derived.Test.YtdffgjembkanoaaLvFreq7
import Derived.Test.YtdffgjembkanoaaLvFnUU
import Derived.Test.YtdffgjembkanoaaLvFnHX
namespace Go.Proofs.LV
open Go Ieee
set_option linter.unusedVariables false
set_option linter.unusedSimpArgs false

def qN (ms : List Int) : Nat := (1 + btM ms 0 20).toNat
def qA (cs ms : List Int) : List Nat := s3L cs 0 0 (qN ms)
def qL (cs ms : List Int) : LC := lnsM (qA cs ms) (qN ms / 2 + 1)
def qB (cs ms : List Int) : List Nat := bkM (qL cs ms) (qN ms) (qN ms)
def qP (cs ms : List Int) : List Nat := lpM (qA cs ms) (qN ms / 2 + 1)
def qSq (cs ms : List Int) (m : Nat) : Nat := accN (fun i s => fadd .f64 s (fmul .f64 (up ((qA cs ms).getD i 0)) (up ((qA cs ms).getD i 0)))) m 0
def qX (cs ms : List Int) (k : Nat) : Nat := if k ≠ 0 ∧ 2 * k ≠ qN ms then fmul .f64 (up ((qP cs ms).getD k 0)) 4611686018427387904 else up ((qP cs ms).getD k 0)
def qSum (cs ms : List Int) (m : Nat) : Nat := accN (fun k s => fadd .f64 s (qX cs ms k)) m 0
def qK (ms : List Int) : Nat := (btM ms 1 ((qN ms / 2 + 1 : Nat) : Int)).toNat
def qU (cs ms : List Int) : Nat := (lnM (qA cs ms) (qK ms) (qN ms)).1
def qV (cs ms : List Int) : Nat := (lnM (qA cs ms) (qK ms) (qN ms)).2
def qPw (cs ms : List Int) : Nat := dn (pwW (qU cs ms) (qV cs ms))
def qF (cs ms : List Int) : Bool := fgt .f32 (qPw cs ms) 0
def qDd (cs ms : List Int) : Nat := fmul .f32 (fadd .f32 0 (qPw cs ms)) (fadd .f32 0 (qPw cs ms))
def qG (cs ms : List Int) : Bool := fgt .f32 (qDd cs ms) 0
def qT (cs ms : List Int) : Nat := if qG cs ms = true then fdiv .f32 (qDd cs ms) (qDd cs ms) else 0
def qKd (ms : List Int) : Nat := (btM ms 2 3).toNat
def qW (cs ms : List Int) : List Nat := tpM (qA cs ms) (qKd ms) (qN ms)

open Go.IntKind (wrap)
-- FN laws_FnFrequencies
def ps_laws_FnFrequencies : List Nat := [0, 1, 4, 5, 6, 7, 8, 9, 10, 11, 12, 13, 14, 15, 16, 17, 18, 20, 21, 22, 24, 25, 26, 27, 28, 29, 30, 33, 86, 88, 89, 90, 116, 119, 120, 121, 135, 148, 213, 229, 231, 232, 233, 263]
def lv_laws_FnFrequencies_L0 : List Nat := [1, 5, 6, 9, 11, 13, 88, 89]
def lv_laws_FnFrequencies_L2 : List Nat := [1, 5, 6, 11, 13, 15, 119, 120]
def lv_laws_FnFrequencies_L4 : List Nat := [6, 27, 28, 231, 232]
def b_laws_FnFrequencies_L0 (gq0 gq1 gq2 gq3 gq4 gq5 gq6 gq7 gq8 gq9 gq10 gq11 : FuncId) : VCode :=
 (.seq
 (.region false [
 ⟨some 90, (.bin .lss), [.t 89, .t 88], none⟩])
 (.seq
 (.cond (.t 90)
 .skip
 (.exit 0))
 (.seq
 (.block 1
 (.seq
 (.region false [
 ⟨some 91, .mv, [.t 89], none⟩,
 ⟨some 14, .mv, [.t 91], none⟩])
 (.seq
 (.region true [
 ⟨some 92, .mv, [.t 13], none⟩,
 ⟨some 93, .mv, [.t 6], none⟩,
 ⟨some 94, .mv, [.t 14], none⟩,
 ⟨some 95, .iaddr, [.t 93, .t 94], none⟩,
 ⟨some 96, .load, [.t 95], none⟩,
 ⟨some 97, (.convF .f64), [.t 96], none⟩,
 ⟨some 98, .mv, [.t 6], none⟩,
 ⟨some 99, .mv, [.t 14], none⟩,
 ⟨some 100, .iaddr, [.t 98, .t 99], none⟩,
 ⟨some 101, .load, [.t 100], none⟩,
 ⟨some 102, (.convF .f64), [.t 101], none⟩,
 ⟨some 103, (.bin .mul), [.t 97, .t 102], none⟩,
 ⟨some 104, (.bin .add), [.t 92, .t 103], none⟩,
 ⟨some 13, .mv, [.t 104], none⟩])
 (.seq
 (.region true [
 ⟨some 105, .mv, [.t 9], none⟩,
 ⟨some 106, .mv, [.t 14], none⟩,
 ⟨some 107, .iaddr, [.t 105, .t 106], none⟩,
 ⟨some 108, .load, [.t 107], none⟩,
 ⟨some 109, (.convF .f64), [.t 108], none⟩,
 ⟨some 110, .mv, [.t 6], none⟩,
 ⟨some 111, .mv, [.t 14], none⟩,
 ⟨some 112, .iaddr, [.t 110, .t 111], none⟩,
 ⟨some 113, .load, [.t 112], none⟩,
 ⟨some 114, (.convF .f64), [.t 113], none⟩,
 ⟨some 115, (.call gq6), [.t 109, .t 114], none⟩,
 ⟨some 116, (.bin .gtr), [.t 115, .k (.f .f64 4562254508917369340)], none⟩])
 (.cond (.t 116)
 (.seq
 (.region false [
 ⟨some 4, .mv, [.k (.b false)], none⟩])
 .ret)
 .skip)))))
 (.region false [
 ⟨some 117, (.bin .add), [.t 89, .k (.i .i64 1)], none⟩,
 ⟨some 89, .mv, [.t 117], none⟩]))))

def b_laws_FnFrequencies_L2 (gq0 gq1 gq2 gq3 gq4 gq5 gq6 gq7 gq8 gq9 gq10 gq11 : FuncId) : VCode :=
 (.seq
 (.region false [
 ⟨some 121, (.bin .lss), [.t 120, .t 119], none⟩])
 (.seq
 (.cond (.t 121)
 .skip
 (.exit 2))
 (.seq
 (.block 3
 (.seq
 (.region false [
 ⟨some 122, .mv, [.t 120], none⟩,
 ⟨some 16, .mv, [.t 122], none⟩])
 (.seq
 (.region false [
 ⟨some 123, .mv, [.t 11], none⟩,
 ⟨some 124, .mv, [.t 16], none⟩,
 ⟨some 125, .iaddr, [.t 123, .t 124], none⟩,
 ⟨some 126, .load, [.t 125], none⟩,
 ⟨some 127, (.convF .f64), [.t 126], none⟩,
 ⟨some 17, .mv, [.t 127], none⟩])
 (.seq
 (.seq
 (.region false [
 ⟨some 128, .mv, [.t 16], none⟩,
 ⟨some 129, (.bin .gtr), [.t 128, .k (.i .i64 0)], none⟩,
 ⟨some 130, .mv, [.t 129], none⟩,
 ⟨some 131, .mv, [.t 16], some (130, true)⟩,
 ⟨some 132, (.bin .mul), [.k (.i .i64 2), .t 131], some (130, true)⟩,
 ⟨some 133, .mv, [.t 5], some (130, true)⟩,
 ⟨some 134, (.bin .neq), [.t 132, .t 133], some (130, true)⟩,
 ⟨some 135, .pick, [.t 130, .t 134, .k (.b false)], none⟩])
 (.cond (.t 135)
 (.region false [
 ⟨some 136, .mv, [.t 17], none⟩,
 ⟨some 137, (.bin .mul), [.t 136, .k (.f .f64 4611686018427387904)], none⟩,
 ⟨some 17, .mv, [.t 137], none⟩])
 .skip))
 (.region false [
 ⟨some 138, .mv, [.t 15], none⟩,
 ⟨some 139, .mv, [.t 17], none⟩,
 ⟨some 140, (.bin .add), [.t 138, .t 139], none⟩,
 ⟨some 15, .mv, [.t 140], none⟩])))))
 (.region false [
 ⟨some 141, (.bin .add), [.t 120, .k (.i .i64 1)], none⟩,
 ⟨some 120, .mv, [.t 141], none⟩]))))

def b_laws_FnFrequencies_L4 (gq0 gq1 gq2 gq3 gq4 gq5 gq6 gq7 gq8 gq9 gq10 gq11 : FuncId) : VCode :=
 (.seq
 (.region false [
 ⟨some 233, (.bin .lss), [.t 232, .t 231], none⟩])
 (.seq
 (.cond (.t 233)
 .skip
 (.exit 4))
 (.seq
 (.block 5
 (.seq
 (.region false [
 ⟨some 234, .mv, [.t 232], none⟩,
 ⟨some 30, .mv, [.t 234], none⟩])
 (.seq
 (.region true [
 ⟨some 235, .mv, [.t 28], none⟩,
 ⟨some 236, .mv, [.t 30], none⟩,
 ⟨some 237, .iaddr, [.t 235, .t 236], none⟩,
 ⟨some 238, .load, [.t 237], none⟩,
 ⟨some 239, (.convF .f64), [.t 238], none⟩,
 ⟨some 240, (.call gq6), [.t 239, .k (.f .f64 0)], none⟩,
 ⟨some 241, .mv, [.t 6], none⟩,
 ⟨some 242, .mv, [.t 30], none⟩,
 ⟨some 243, .iaddr, [.t 241, .t 242], none⟩,
 ⟨some 244, .load, [.t 243], none⟩,
 ⟨some 245, (.convF .f64), [.t 244], none⟩,
 ⟨some 246, (.call gq6), [.t 245, .k (.f .f64 0)], none⟩,
 ⟨some 247, (.bin .add), [.t 246, .k (.f .f64 4562254508917369340)], none⟩,
 ⟨some 248, (.bin .gtr), [.t 240, .t 247], none⟩,
 ⟨some 249, .mv, [.t 248], none⟩,
 ⟨some 250, .mv, [.t 27], some (249, false)⟩,
 ⟨some 251, (.bin .eql), [.t 250, .k (.i .i64 0)], some (249, false)⟩,
 ⟨some 252, .mv, [.t 251], some (249, false)⟩,
 ⟨some 253, .mv, [.t 28], some (252, true)⟩,
 ⟨some 254, .mv, [.t 30], some (252, true)⟩,
 ⟨some 255, .iaddr, [.t 253, .t 254], some (252, true)⟩,
 ⟨some 256, .load, [.t 255], some (252, true)⟩,
 ⟨some 257, .mv, [.t 6], some (252, true)⟩,
 ⟨some 258, .mv, [.t 30], some (252, true)⟩,
 ⟨some 259, .iaddr, [.t 257, .t 258], some (252, true)⟩,
 ⟨some 260, .load, [.t 259], some (252, true)⟩,
 ⟨some 261, (.bin .neq), [.t 256, .t 260], some (252, true)⟩,
 ⟨some 262, .pick, [.t 252, .t 261, .k (.b false)], some (249, false)⟩,
 ⟨some 263, .pick, [.t 249, .k (.b true), .t 262], none⟩])
 (.cond (.t 263)
 (.seq
 (.region false [
 ⟨some 4, .mv, [.k (.b false)], none⟩])
 .ret)
 .skip))))
 (.region false [
 ⟨some 264, (.bin .add), [.t 232, .k (.i .i64 1)], none⟩,
 ⟨some 232, .mv, [.t 264], none⟩]))))

def b_laws_FnFrequencies (gq0 gq1 gq2 gq3 gq4 gq5 gq6 gq7 gq8 gq9 gq10 gq11 : FuncId) : VCode :=
 (.seq
 (.region false [
 ⟨some 4, .mv, [.k (.b false)], none⟩])
 (.seq
 (.seq
 (.region false [
 ⟨some 31, .mv, [.t 0], none⟩,
 ⟨some 32, .mv, [.t 1], none⟩,
 ⟨some 33, (.call gq0), [.t 31, .t 32], none⟩])
 (.cond (.t 33)
 (.seq
 (.region false [
 ⟨some 4, .mv, [.k (.b true)], none⟩])
 .ret)
 .skip))
 (.seq
 (.region false [
 ⟨some 34, .mv, [.t 1], none⟩,
 ⟨some 35, (.call gq1), [.t 34, .k (.i .i64 0), .k (.i .i64 20)], none⟩,
 ⟨some 36, (.bin .add), [.k (.i .i64 1), .t 35], none⟩,
 ⟨some 5, .mv, [.t 36], none⟩])
 (.seq
 (.region false [
 ⟨some 37, .mv, [.t 0], none⟩,
 ⟨some 38, .mv, [.t 5], none⟩,
 ⟨some 39, (.call gq2), [.t 37, .t 38], none⟩,
 ⟨some 6, .mv, [.t 39], none⟩])
 (.seq
 (.region false [
 ⟨some 41, .mv, [.t 6], none⟩,
 ⟨some 42, (.call gq3), [.t 41], none⟩,
 ⟨some 40, .mv, [.t 42], none⟩,
 ⟨some 43, (.extract 0), [.t 40], none⟩,
 ⟨some 44, (.extract 1), [.t 40], none⟩,
 ⟨some 7, .mv, [.t 43], none⟩,
 ⟨some 8, .mv, [.t 44], none⟩])
 (.seq
 (.region false [
 ⟨some 46, .mv, [.t 7], none⟩,
 ⟨some 47, .mv, [.t 5], none⟩,
 ⟨some 48, (.call gq4), [.t 46, .t 47], none⟩,
 ⟨some 45, .mv, [.t 48], none⟩,
 ⟨some 49, (.extract 0), [.t 45], none⟩,
 ⟨some 50, (.extract 1), [.t 45], none⟩,
 ⟨some 9, .mv, [.t 49], none⟩,
 ⟨some 10, .mv, [.t 50], none⟩])
 (.seq
 (.region false [
 ⟨some 52, .mv, [.t 6], none⟩,
 ⟨some 53, (.call gq5), [.t 52], none⟩,
 ⟨some 51, .mv, [.t 53], none⟩,
 ⟨some 54, (.extract 0), [.t 51], none⟩,
 ⟨some 55, (.extract 1), [.t 51], none⟩,
 ⟨some 11, .mv, [.t 54], none⟩,
 ⟨some 12, .mv, [.t 55], none⟩])
 (.seq
 (.seq
 (.region false [
 ⟨some 56, .mv, [.t 8], none⟩,
 ⟨some 57, .not, [.t 56], none⟩,
 ⟨some 58, .mv, [.t 57], none⟩,
 ⟨some 59, .mv, [.t 10], some (58, false)⟩,
 ⟨some 60, .not, [.t 59], some (58, false)⟩,
 ⟨some 61, .pick, [.t 58, .k (.b true), .t 60], none⟩,
 ⟨some 62, .mv, [.t 61], none⟩,
 ⟨some 63, .mv, [.t 12], some (62, false)⟩,
 ⟨some 64, .not, [.t 63], some (62, false)⟩,
 ⟨some 65, .pick, [.t 62, .k (.b true), .t 64], none⟩,
 ⟨some 66, .mv, [.t 65], none⟩,
 ⟨some 67, .mv, [.t 7], some (66, false)⟩,
 ⟨some 68, .len, [.t 67], some (66, false)⟩,
 ⟨some 69, .mv, [.t 5], some (66, false)⟩,
 ⟨some 70, (.bin .quo), [.t 69, .k (.i .i64 2)], some (66, false)⟩,
 ⟨some 71, (.bin .add), [.t 70, .k (.i .i64 1)], some (66, false)⟩,
 ⟨some 72, (.bin .neq), [.t 68, .t 71], some (66, false)⟩,
 ⟨some 73, .pick, [.t 66, .k (.b true), .t 72], none⟩,
 ⟨some 74, .mv, [.t 73], none⟩,
 ⟨some 75, .mv, [.t 9], some (74, false)⟩,
 ⟨some 76, .len, [.t 75], some (74, false)⟩,
 ⟨some 77, .mv, [.t 5], some (74, false)⟩,
 ⟨some 78, (.bin .neq), [.t 76, .t 77], some (74, false)⟩,
 ⟨some 79, .pick, [.t 74, .k (.b true), .t 78], none⟩,
 ⟨some 80, .mv, [.t 79], none⟩,
 ⟨some 81, .mv, [.t 11], some (80, false)⟩,
 ⟨some 82, .len, [.t 81], some (80, false)⟩,
 ⟨some 83, .mv, [.t 7], some (80, false)⟩,
 ⟨some 84, .len, [.t 83], some (80, false)⟩,
 ⟨some 85, (.bin .neq), [.t 82, .t 84], some (80, false)⟩,
 ⟨some 86, .pick, [.t 80, .k (.b true), .t 85], none⟩])
 (.cond (.t 86)
 (.seq
 (.region false [
 ⟨some 4, .mv, [.k (.b false)], none⟩])
 .ret)
 .skip))
 (.seq
 (.region false [
 ⟨some 13, .mv, [.k (.f .f64 0)], none⟩])
 (.seq
 (.seq
 (.region false [
 ⟨some 87, .mv, [.t 6], none⟩,
 ⟨some 88, .len, [.t 87], none⟩,
 ⟨some 89, .mv, [.k (.i .i64 0)], none⟩])
 (.block 0 (.loop (b_laws_FnFrequencies_L0 gq0 gq1 gq2 gq3 gq4 gq5 gq6 gq7 gq8 gq9 gq10 gq11))))
 (.seq
 (.region false [
 ⟨some 15, .mv, [.k (.f .f64 0)], none⟩])
 (.seq
 (.seq
 (.region false [
 ⟨some 118, .mv, [.t 11], none⟩,
 ⟨some 119, .len, [.t 118], none⟩,
 ⟨some 120, .mv, [.k (.i .i64 0)], none⟩])
 (.block 2 (.loop (b_laws_FnFrequencies_L2 gq0 gq1 gq2 gq3 gq4 gq5 gq6 gq7 gq8 gq9 gq10 gq11))))
 (.seq
 (.seq
 (.region false [
 ⟨some 142, .mv, [.t 15], none⟩,
 ⟨some 143, .mv, [.t 13], none⟩,
 ⟨some 144, (.call gq6), [.t 142, .t 143], none⟩,
 ⟨some 145, .mv, [.t 13], none⟩,
 ⟨some 146, (.bin .add), [.k (.f .f64 4607182418800017408), .t 145], none⟩,
 ⟨some 147, (.bin .mul), [.k (.f .f64 4562254508917369340), .t 146], none⟩,
 ⟨some 148, (.bin .gtr), [.t 144, .t 147], none⟩])
 (.cond (.t 148)
 (.seq
 (.region false [
 ⟨some 4, .mv, [.k (.b false)], none⟩])
 .ret)
 .skip))
 (.seq
 (.region false [
 ⟨some 149, .mv, [.t 1], none⟩,
 ⟨some 150, .mv, [.t 5], none⟩,
 ⟨some 151, (.bin .quo), [.t 150, .k (.i .i64 2)], none⟩,
 ⟨some 152, (.bin .add), [.t 151, .k (.i .i64 1)], none⟩,
 ⟨some 153, (.call gq1), [.t 149, .k (.i .i64 1), .t 152], none⟩,
 ⟨some 18, .mv, [.t 153], none⟩])
 (.seq
 (.region false [
 ⟨some 155, .mv, [.t 6], none⟩,
 ⟨some 156, .mv, [.t 6], none⟩,
 ⟨some 157, .mv, [.t 18], none⟩,
 ⟨some 158, (.call gq7), [.t 155, .t 156, .t 157], none⟩,
 ⟨some 154, .mv, [.t 158], none⟩,
 ⟨some 159, (.extract 0), [.t 154], none⟩,
 ⟨some 160, (.extract 1), [.t 154], none⟩,
 ⟨some 19, .mv, [.t 159], none⟩,
 ⟨some 20, .mv, [.t 160], none⟩])
 (.seq
 (.region false [
 ⟨some 162, .mv, [.t 6], none⟩,
 ⟨some 163, .mv, [.t 6], none⟩,
 ⟨some 164, .mv, [.t 18], none⟩,
 ⟨some 165, (.call gq8), [.t 162, .t 163, .t 164], none⟩,
 ⟨some 161, .mv, [.t 165], none⟩,
 ⟨some 166, (.extract 0), [.t 161], none⟩,
 ⟨some 167, (.extract 1), [.t 161], none⟩,
 ⟨some 21, .mv, [.t 166], none⟩,
 ⟨some 22, .mv, [.t 167], none⟩])
 (.seq
 (.region false [
 ⟨some 169, .mv, [.t 6], none⟩,
 ⟨some 170, .mv, [.t 6], none⟩,
 ⟨some 171, .mv, [.t 18], none⟩,
 ⟨some 172, (.call gq9), [.t 169, .t 170, .k (.i .i64 1), .t 171], none⟩,
 ⟨some 168, .mv, [.t 172], none⟩,
 ⟨some 173, (.extract 0), [.t 168], none⟩,
 ⟨some 174, (.extract 1), [.t 168], none⟩,
 ⟨some 23, .mv, [.t 173], none⟩,
 ⟨some 24, .mv, [.t 174], none⟩])
 (.seq
 (.region false [
 ⟨some 176, .mv, [.t 6], none⟩,
 ⟨some 177, .mv, [.t 6], none⟩,
 ⟨some 178, .mv, [.t 18], none⟩,
 ⟨some 179, (.call gq10), [.t 176, .t 177, .k (.i .i64 1), .t 178], none⟩,
 ⟨some 175, .mv, [.t 179], none⟩,
 ⟨some 180, (.extract 0), [.t 175], none⟩,
 ⟨some 181, (.extract 1), [.t 175], none⟩,
 ⟨some 25, .mv, [.t 180], none⟩,
 ⟨some 26, .mv, [.t 181], none⟩])
 (.seq
 (.seq
 (.region false [
 ⟨some 182, .mv, [.t 22], none⟩,
 ⟨some 183, .mv, [.t 20], none⟩,
 ⟨some 184, (.binb .neq), [.t 182, .t 183], none⟩,
 ⟨some 185, .mv, [.t 184], none⟩,
 ⟨some 186, .mv, [.t 26], some (185, false)⟩,
 ⟨some 187, .mv, [.t 24], some (185, false)⟩,
 ⟨some 188, (.binb .neq), [.t 186, .t 187], some (185, false)⟩,
 ⟨some 189, .pick, [.t 185, .k (.b true), .t 188], none⟩,
 ⟨some 190, .mv, [.t 189], none⟩,
 ⟨some 191, .mv, [.t 22], some (190, false)⟩,
 ⟨some 192, .mv, [.t 191], some (190, false)⟩,
 ⟨some 193, .mv, [.t 21], some (192, true)⟩,
 ⟨some 194, (.convF .f64), [.t 193], some (192, true)⟩,
 ⟨some 195, (.call gq6), [.t 194, .k (.f .f64 0)], some (192, true)⟩,
 ⟨some 196, (.bin .gtr), [.t 195, .k (.f .f64 4562254508917369340)], some (192, true)⟩,
 ⟨some 197, .pick, [.t 192, .t 196, .k (.b false)], some (190, false)⟩,
 ⟨some 198, .mv, [.t 197], some (190, false)⟩,
 ⟨some 199, .mv, [.t 21], some (198, true)⟩,
 ⟨some 200, (.convF .f64), [.t 199], some (198, true)⟩,
 ⟨some 201, (.call gq6), [.t 200, .k (.f .f64 4607182418800017408)], some (198, true)⟩,
 ⟨some 202, (.bin .gtr), [.t 201, .k (.f .f64 4562254508917369340)], some (198, true)⟩,
 ⟨some 203, .pick, [.t 198, .t 202, .k (.b false)], some (190, false)⟩,
 ⟨some 204, .pick, [.t 190, .k (.b true), .t 203], none⟩,
 ⟨some 205, .mv, [.t 204], none⟩,
 ⟨some 206, .mv, [.t 26], some (205, false)⟩,
 ⟨some 207, .mv, [.t 206], some (205, false)⟩,
 ⟨some 208, .mv, [.t 25], some (207, true)⟩,
 ⟨some 209, (.convF .f64), [.t 208], some (207, true)⟩,
 ⟨some 210, (.call gq6), [.t 209, .k (.f .f64 4607182418800017408)], some (207, true)⟩,
 ⟨some 211, (.bin .gtr), [.t 210, .k (.f .f64 4562254508917369340)], some (207, true)⟩,
 ⟨some 212, .pick, [.t 207, .t 211, .k (.b false)], some (205, false)⟩,
 ⟨some 213, .pick, [.t 205, .k (.b true), .t 212], none⟩])
 (.cond (.t 213)
 (.seq
 (.region false [
 ⟨some 4, .mv, [.k (.b false)], none⟩])
 .ret)
 .skip))
 (.seq
 (.region false [
 ⟨some 214, .mv, [.t 1], none⟩,
 ⟨some 215, (.call gq1), [.t 214, .k (.i .i64 2), .k (.i .i64 3)], none⟩,
 ⟨some 27, .mv, [.t 215], none⟩])
 (.seq
 (.region false [
 ⟨some 217, .mv, [.t 6], none⟩,
 ⟨some 218, .mv, [.t 27], none⟩,
 ⟨some 219, (.call gq11), [.t 217, .t 218], none⟩,
 ⟨some 216, .mv, [.t 219], none⟩,
 ⟨some 220, (.extract 0), [.t 216], none⟩,
 ⟨some 221, (.extract 1), [.t 216], none⟩,
 ⟨some 28, .mv, [.t 220], none⟩,
 ⟨some 29, .mv, [.t 221], none⟩])
 (.seq
 (.seq
 (.region false [
 ⟨some 222, .mv, [.t 29], none⟩,
 ⟨some 223, .not, [.t 222], none⟩,
 ⟨some 224, .mv, [.t 223], none⟩,
 ⟨some 225, .mv, [.t 28], some (224, false)⟩,
 ⟨some 226, .len, [.t 225], some (224, false)⟩,
 ⟨some 227, .mv, [.t 5], some (224, false)⟩,
 ⟨some 228, (.bin .neq), [.t 226, .t 227], some (224, false)⟩,
 ⟨some 229, .pick, [.t 224, .k (.b true), .t 228], none⟩])
 (.cond (.t 229)
 (.seq
 (.region false [
 ⟨some 4, .mv, [.k (.b false)], none⟩])
 .ret)
 .skip))
 (.seq
 (.seq
 (.region false [
 ⟨some 230, .mv, [.t 6], none⟩,
 ⟨some 231, .len, [.t 230], none⟩,
 ⟨some 232, .mv, [.k (.i .i64 0)], none⟩])
 (.block 4 (.loop (b_laws_FnFrequencies_L4 gq0 gq1 gq2 gq3 gq4 gq5 gq6 gq7 gq8 gq9 gq10 gq11))))
 (.seq
 (.region false [
 ⟨some 4, .mv, [.k (.b true)], none⟩])
 .ret))))))))))))))))))))))))

abbrev Is_laws_FnFrequencies (P : Program) (g_f : FuncId) (gq0 gq1 gq2 gq3 gq4 gq5 gq6 gq7 gq8 gq9 gq10 gq11 : FuncId) : Prop := FnIs P g_f 265 [.t 4] (b_laws_FnFrequencies gq0 gq1 gq2 gq3 gq4 gq5 gq6 gq7 gq8 gq9 gq10 gq11)

abbrev C_laws_FnFrequencies (P : Program) (g_f : FuncId) : Prop := ∀ (cs : List Int) (ms : List Int), VCall P g_f [PU [0] cs, PU [1] ms] (.b true)
def oc_laws_FnFrequencies (cs : List Int) (ms : List Int) (d : Nat) (as : List AV) : T AV := match d with | 33 => oc1_laws_b10Long as | 35 => oc1_laws_b10At as | 39 => .leaf (OS 0 .f32 (qA cs ms)) | 42 => .leaf (.tup [OC 0 (qL cs ms), .b true]) | 48 => .leaf (.tup [OS 0 .f32 (qB cs ms), .b true]) | 53 => .leaf (.tup [OS 0 .f32 (qP cs ms), .b true]) | 115 => oc1_laws_b10Gap as | 144 => oc1_laws_b10Gap as | 153 => oc1_laws_b10At as | 158 => .leaf (.tup [.f .f32 0, .b (qF cs ms)]) | 165 => .leaf (.tup [.f .f32 0, .b (qF cs ms)]) | 172 => .leaf (.tup [.f .f32 (qT cs ms), .b (qG cs ms)]) | 179 => .leaf (.tup [.f .f32 (qT cs ms), .b (qG cs ms)]) | 195 => oc1_laws_b10Gap as | 201 => oc1_laws_b10Gap as | 210 => oc1_laws_b10Gap as | 215 => oc1_laws_b10At as | 219 => .leaf (.tup [OS 0 .f32 (qW cs ms), .b true]) | 240 => oc1_laws_b10Gap as | 246 => oc1_laws_b10Gap as | _ => .fail
def c_laws_FnFrequencies_1 (cs : List Int) (ms : List Int) : Env := [AV.sl (Tag.par [0]) 0 (Cont.i .u8 cs), AV.sl (Tag.par [1]) 0 (Cont.i .u8 ms), .any, .any, AV.b false, AV.i .i64 (wrap .i64 (1 + btM ms 0 20)), AV.sl (Tag.own 312) 0 (Cont.f .f32 (qA cs ms))] ++ anys 258
def ks_laws_FnFrequencies_1 : List Nat := [0, 1, 4, 5, 6]
def c_laws_FnFrequencies_2 (cs : List Int) (ms : List Int) : Env := [AV.sl (Tag.par [0]) 0 (Cont.i .u8 cs), AV.sl (Tag.par [1]) 0 (Cont.i .u8 ms), .any, .any, AV.b false, AV.i .i64 (wrap .i64 (1 + btM ms 0 20)), AV.sl (Tag.own 312) 0 (Cont.f .f32 (qA cs ms)), AV.sl (Tag.own 336) 0 (Cont.c .f32 (qL cs ms)), AV.b true, AV.sl (Tag.own 384) 0 (Cont.f .f32 (qB cs ms)), AV.b true, AV.sl (Tag.own 424) 0 (Cont.f .f32 (qP cs ms)), AV.b true] ++ anys 252
def ks_laws_FnFrequencies_2 : List Nat := [0, 1, 4, 5, 6, 7, 8, 9, 10, 11, 12]
def c_laws_FnFrequencies_3 (cs : List Int) (ms : List Int) : Env := [AV.sl (Tag.par [0]) 0 (Cont.i .u8 cs), AV.sl (Tag.par [1]) 0 (Cont.i .u8 ms), .any, .any, AV.b false, AV.i .i64 (wrap .i64 (1 + btM ms 0 20)), AV.sl (Tag.own 312) 0 (Cont.f .f32 (qA cs ms)), AV.sl (Tag.own 336) 0 (Cont.c .f32 (qL cs ms)), AV.b true, AV.sl (Tag.own 384) 0 (Cont.f .f32 (qB cs ms)), AV.b true, AV.sl (Tag.own 424) 0 (Cont.f .f32 (qP cs ms)), AV.b true] ++ anys 252
def ks_laws_FnFrequencies_3 : List Nat := [0, 1, 4, 5, 6, 7, 8, 9, 10, 11, 12]
def h_laws_FnFrequencies_L0 (cs : List Int) (ms : List Int) (squares : Nat) (v89 : Int) : Env := [.any, AV.sl (Tag.par [1]) 0 (Cont.i .u8 ms), .any, .any, .any, AV.i .i64 (wrap .i64 (1 + btM ms 0 20)), AV.sl (Tag.own 312) 0 (Cont.f .f32 (qA cs ms)), .any, .any, AV.sl (Tag.own 384) 0 (Cont.f .f32 (qB cs ms)), .any, AV.sl (Tag.own 424) 0 (Cont.f .f32 (qP cs ms)), .any, .f .f64 squares] ++ anys 74 ++ [AV.i .i64 (↑(List.length (qA cs ms)) : Int), .i .i64 v89] ++ anys 175
def c_laws_FnFrequencies_4 (cs : List Int) (ms : List Int) : Env := [.any, AV.sl (Tag.par [1]) 0 (Cont.i .u8 ms), .any, .any, .any, AV.i .i64 (wrap .i64 (1 + btM ms 0 20)), AV.sl (Tag.own 312) 0 (Cont.f .f32 (qA cs ms)), .any, .any, AV.sl (Tag.own 384) 0 (Cont.f .f32 (qB cs ms)), .any, AV.sl (Tag.own 424) 0 (Cont.f .f32 (qP cs ms)), .any, AV.f .f64 (qSq cs ms (qN ms))] ++ anys 74 ++ [AV.i .i64 (↑(List.length (qA cs ms)) : Int), AV.i .i64 (↑(qN ms) : Int)] ++ anys 175
def ks_laws_FnFrequencies_4 : List Nat := [1, 5, 6, 9, 11, 13, 88, 89]
def h_laws_FnFrequencies_L2 (cs : List Int) (ms : List Int) (sum : Nat) (v120 : Int) : Env := [.any, AV.sl (Tag.par [1]) 0 (Cont.i .u8 ms), .any, .any, .any, AV.i .i64 (wrap .i64 (1 + btM ms 0 20)), AV.sl (Tag.own 312) 0 (Cont.f .f32 (qA cs ms))] ++ anys 4 ++ [AV.sl (Tag.own 424) 0 (Cont.f .f32 (qP cs ms)), .any, AV.f .f64 (qSq cs ms (qN ms)), .any, .f .f64 sum] ++ anys 103 ++ [AV.i .i64 (↑(List.length (qP cs ms)) : Int), .i .i64 v120] ++ anys 144
def c_laws_FnFrequencies_5 (cs : List Int) (ms : List Int) : Env := [.any, AV.sl (Tag.par [1]) 0 (Cont.i .u8 ms), .any, .any, .any, AV.i .i64 (wrap .i64 (1 + btM ms 0 20)), AV.sl (Tag.own 312) 0 (Cont.f .f32 (qA cs ms))] ++ anys 4 ++ [AV.sl (Tag.own 424) 0 (Cont.f .f32 (qP cs ms)), .any, AV.f .f64 (qSq cs ms (qN ms)), .any, AV.f .f64 (qSum cs ms (qN ms / 2 + 1))] ++ anys 103 ++ [AV.i .i64 (↑(List.length (qP cs ms)) : Int), AV.i .i64 ((↑(qN ms) : Int) / 2 + 1)] ++ anys 144
def ks_laws_FnFrequencies_5 : List Nat := [1, 5, 6, 11, 13, 15, 119, 120]
def c_laws_FnFrequencies_6 (cs : List Int) (ms : List Int) : Env := [.any, AV.sl (Tag.par [1]) 0 (Cont.i .u8 ms), .any, .any, .any, AV.i .i64 (wrap .i64 (1 + btM ms 0 20)), AV.sl (Tag.own 312) 0 (Cont.f .f32 (qA cs ms))] ++ anys 4 ++ [AV.sl (Tag.own 424) 0 (Cont.f .f32 (qP cs ms)), .any, AV.f .f64 (qSq cs ms (qN ms)), .any, AV.f .f64 (qSum cs ms (qN ms / 2 + 1))] ++ anys 103 ++ [AV.i .i64 (↑(List.length (qP cs ms)) : Int), AV.i .i64 ((↑(qN ms) : Int) / 2 + 1)] ++ anys 144
def ks_laws_FnFrequencies_6 : List Nat := [1, 5, 6, 11, 13, 15, 119, 120]
def c_laws_FnFrequencies_7 (cs : List Int) (ms : List Int) : Env := [.any, AV.sl (Tag.par [1]) 0 (Cont.i .u8 ms), .any, .any, .any, AV.i .i64 (wrap .i64 (1 + btM ms 0 20)), AV.sl (Tag.own 312) 0 (Cont.f .f32 (qA cs ms))] ++ anys 4 ++ [AV.sl (Tag.own 424) 0 (Cont.f .f32 (qP cs ms)), .any, AV.f .f64 (qSq cs ms (qN ms)), .any, AV.f .f64 (qSum cs ms (qN ms / 2 + 1)), .any, .any, AV.i .i64 (btM ms 1 (wrap .i64 (wrap .i64 (Int.tdiv (wrap .i64 (1 + btM ms 0 20)) 2) + 1))), .any, AV.b (qF cs ms), AV.f .f32 0, AV.b (qF cs ms), .any, AV.b (qG cs ms), AV.f .f32 (qT cs ms), AV.b (qG cs ms)] ++ anys 92 ++ [AV.i .i64 (↑(List.length (qP cs ms)) : Int), AV.i .i64 ((↑(qN ms) : Int) / 2 + 1)] ++ anys 144
def ks_laws_FnFrequencies_7 : List Nat := [1, 5, 6, 11, 13, 15, 18, 20, 21, 22, 24, 25, 26, 119, 120]
def c_laws_FnFrequencies_8 (cs : List Int) (ms : List Int) : Env := [.any, AV.sl (Tag.par [1]) 0 (Cont.i .u8 ms), .any, .any, .any, AV.i .i64 (wrap .i64 (1 + btM ms 0 20)), AV.sl (Tag.own 312) 0 (Cont.f .f32 (qA cs ms))] ++ anys 4 ++ [AV.sl (Tag.own 424) 0 (Cont.f .f32 (qP cs ms)), .any, AV.f .f64 (qSq cs ms (qN ms)), .any, AV.f .f64 (qSum cs ms (qN ms / 2 + 1)), .any, .any, AV.i .i64 (btM ms 1 (wrap .i64 (wrap .i64 (Int.tdiv (wrap .i64 (1 + btM ms 0 20)) 2) + 1))), .any, AV.b (qF cs ms), AV.f .f32 0, AV.b (qF cs ms), .any, AV.b (qG cs ms), AV.f .f32 (qT cs ms), AV.b (qG cs ms)] ++ anys 92 ++ [AV.i .i64 (↑(List.length (qP cs ms)) : Int), AV.i .i64 ((↑(qN ms) : Int) / 2 + 1)] ++ anys 144
def ks_laws_FnFrequencies_8 : List Nat := [1, 5, 6, 11, 13, 15, 18, 20, 21, 22, 24, 25, 26, 119, 120]
def c_laws_FnFrequencies_9 (cs : List Int) (ms : List Int) : Env := [.any, AV.sl (Tag.par [1]) 0 (Cont.i .u8 ms), .any, .any, .any, AV.i .i64 (wrap .i64 (1 + btM ms 0 20)), AV.sl (Tag.own 312) 0 (Cont.f .f32 (qA cs ms))] ++ anys 4 ++ [AV.sl (Tag.own 424) 0 (Cont.f .f32 (qP cs ms)), .any, AV.f .f64 (qSq cs ms (qN ms)), .any, AV.f .f64 (qSum cs ms (qN ms / 2 + 1)), .any, .any, AV.i .i64 (btM ms 1 (wrap .i64 (wrap .i64 (Int.tdiv (wrap .i64 (1 + btM ms 0 20)) 2) + 1))), .any, AV.b (qF cs ms), AV.f .f32 0, AV.b (qF cs ms), .any, AV.b (qG cs ms), AV.f .f32 (qT cs ms), AV.b (qG cs ms), AV.i .i64 (btM ms 2 3), AV.sl (Tag.own 1752) 0 (Cont.f .f32 (qW cs ms)), AV.b true] ++ anys 89 ++ [AV.i .i64 (↑(List.length (qP cs ms)) : Int), AV.i .i64 ((↑(qN ms) : Int) / 2 + 1)] ++ anys 144
def ks_laws_FnFrequencies_9 : List Nat := [1, 5, 6, 11, 13, 15, 18, 20, 21, 22, 24, 25, 26, 27, 28, 29, 119, 120]
def c_laws_FnFrequencies_10 (cs : List Int) (ms : List Int) : Env := [.any, AV.sl (Tag.par [1]) 0 (Cont.i .u8 ms), .any, .any, .any, AV.i .i64 (wrap .i64 (1 + btM ms 0 20)), AV.sl (Tag.own 312) 0 (Cont.f .f32 (qA cs ms))] ++ anys 4 ++ [AV.sl (Tag.own 424) 0 (Cont.f .f32 (qP cs ms)), .any, AV.f .f64 (qSq cs ms (qN ms)), .any, AV.f .f64 (qSum cs ms (qN ms / 2 + 1)), .any, .any, AV.i .i64 (btM ms 1 (wrap .i64 (wrap .i64 (Int.tdiv (wrap .i64 (1 + btM ms 0 20)) 2) + 1))), .any, AV.b (qF cs ms), AV.f .f32 0, AV.b (qF cs ms), .any, AV.b (qG cs ms), AV.f .f32 (qT cs ms), AV.b (qG cs ms), AV.i .i64 (btM ms 2 3), AV.sl (Tag.own 1752) 0 (Cont.f .f32 (qW cs ms)), AV.b true] ++ anys 89 ++ [AV.i .i64 (↑(List.length (qP cs ms)) : Int), AV.i .i64 ((↑(qN ms) : Int) / 2 + 1)] ++ anys 144
def ks_laws_FnFrequencies_10 : List Nat := [1, 5, 6, 11, 13, 15, 18, 20, 21, 22, 24, 25, 26, 27, 28, 29, 119, 120]
def h_laws_FnFrequencies_L4 (cs : List Int) (ms : List Int) (v232 : Int) : Env := anys 6 ++ [AV.sl (Tag.own 312) 0 (Cont.f .f32 (qA cs ms))] ++ anys 20 ++ [AV.i .i64 (btM ms 2 3), AV.sl (Tag.own 1752) 0 (Cont.f .f32 (qW cs ms))] ++ anys 202 ++ [AV.i .i64 (↑(List.length (qA cs ms)) : Int), .i .i64 v232] ++ anys 32

theorem q_laws_FnFrequencies_L0 {VC : FuncId → List AV → AV → Prop} {gq0 gq1 gq2 gq3 gq4 gq5 gq6 gq7 gq8 gq9 gq10 gq11 : FuncId} (cs : List Int) (ms : List Int) (squares : Nat) (v89 : Int) {e_ : Ex} {σ_ : Env} (ht : T.ok (fun x_ => x_ = (e_, σ_)) (
 T.ite (decide (v89 < (↑(List.length (qA cs ms)) : Int)))
 (T.ob (0 ≤ v89 ∧ v89 < (↑(List.length (qA cs ms)) : Int))
 (T.ob (fconvOk .f32 .f64 (List.getD (qA cs ms) (Int.toNat v89) 0) = true)
 (T.ob (0 ≤ v89 ∧ v89 < (↑(List.length (qA cs ms)) : Int))
 (T.ob (fconvOk .f32 .f64 (List.getD (qA cs ms) (Int.toNat v89) 0) = true)
 (T.ob (0 ≤ v89 ∧ v89 < (↑(List.length (qB cs ms)) : Int))
 (T.ob (fconvOk .f32 .f64 (List.getD (qB cs ms) (Int.toNat v89) 0) = true)
 (T.ob (0 ≤ v89 ∧ v89 < (↑(List.length (qA cs ms)) : Int))
 (T.ob (fconvOk .f32 .f64 (List.getD (qA cs ms) (Int.toNat v89) 0) = true)
 (T.ob
 (VC gq6
 [AV.f .f64 (fconv .f32 .f64 (List.getD (qB cs ms) (Int.toNat v89) 0)), AV.f .f64 (fconv .f32 .f64 (List.getD (qA cs ms) (Int.toNat v89) 0))]
 (AV.f .f64 (gapD (fconv .f32 .f64 (List.getD (qB cs ms) (Int.toNat v89) 0)) (fconv .f32 .f64 (List.getD (qA cs ms) (Int.toNat v89) 0)))))
 (T.ite
 (fgt .f64 (gapD (fconv .f32 .f64 (List.getD (qB cs ms) (Int.toNat v89) 0)) (fconv .f32 .f64 (List.getD (qA cs ms) (Int.toNat v89) 0)))
 4562254508917369340)
 (T.leaf (Ex.ret, anys 4 ++ AV.b false :: anys 260))
 (T.leaf
 (Ex.normal,
 h_laws_FnFrequencies_L0 cs ms
 (fadd .f64 squares
 (fmul .f64 (fconv .f32 .f64 (List.getD (qA cs ms) (Int.toNat v89) 0)) (fconv .f32 .f64 (List.getD (qA cs ms) (Int.toNat v89) 0))))
 (wrap .i64 (v89 + 1))))))))))))))
 (T.leaf (Ex.exit 0, h_laws_FnFrequencies_L0 cs ms squares v89)))) :
 Exec VC ps_laws_FnFrequencies (b_laws_FnFrequencies_L0 gq0 gq1 gq2 gq3 gq4 gq5 gq6 gq7 gq8 gq9 gq10 gq11) (h_laws_FnFrequencies_L0 cs ms squares v89) e_ σ_ := evL_of (lv := lv_laws_FnFrequencies_L0) (rs := [4]) (O := ⟨oc_laws_FnFrequencies cs ms, fun _ _ => none⟩) (by kernel_rfl) ht

theorem q_laws_FnFrequencies_L2 {VC : FuncId → List AV → AV → Prop} {gq0 gq1 gq2 gq3 gq4 gq5 gq6 gq7 gq8 gq9 gq10 gq11 : FuncId} (cs : List Int) (ms : List Int) (sum : Nat) (v120 : Int) {e_ : Ex} {σ_ : Env} (ht : T.ok (fun x_ => x_ = (e_, σ_)) (
 T.ite (decide (v120 < (↑(List.length (qP cs ms)) : Int)))
 (T.ob (0 ≤ v120 ∧ v120 < (↑(List.length (qP cs ms)) : Int))
 (T.ob (fconvOk .f32 .f64 (List.getD (qP cs ms) (Int.toNat v120) 0) = true)
 (T.ite (decide (v120 > 0))
 (T.ite (wrap .i64 (2 * v120) != wrap .i64 (1 + btM ms 0 20))
 (T.leaf
 (Ex.normal,
 h_laws_FnFrequencies_L2 cs ms (fadd .f64 sum (fmul .f64 (fconv .f32 .f64 (List.getD (qP cs ms) (Int.toNat v120) 0)) 4611686018427387904))
 (wrap .i64 (v120 + 1))))
 (T.leaf (Ex.normal, h_laws_FnFrequencies_L2 cs ms (fadd .f64 sum (fconv .f32 .f64 (List.getD (qP cs ms) (Int.toNat v120) 0))) (wrap .i64 (v120 + 1)))))
 (T.leaf (Ex.normal, h_laws_FnFrequencies_L2 cs ms (fadd .f64 sum (fconv .f32 .f64 (List.getD (qP cs ms) (Int.toNat v120) 0))) (wrap .i64 (v120 + 1)))))))
 (T.leaf (Ex.exit 2, h_laws_FnFrequencies_L2 cs ms sum v120)))) :
 Exec VC ps_laws_FnFrequencies (b_laws_FnFrequencies_L2 gq0 gq1 gq2 gq3 gq4 gq5 gq6 gq7 gq8 gq9 gq10 gq11) (h_laws_FnFrequencies_L2 cs ms sum v120) e_ σ_ := evL_of (lv := lv_laws_FnFrequencies_L2) (rs := [4]) (O := ⟨oc_laws_FnFrequencies cs ms, fun _ _ => none⟩) (by kernel_rfl) ht

theorem q_laws_FnFrequencies_L4 {VC : FuncId → List AV → AV → Prop} {gq0 gq1 gq2 gq3 gq4 gq5 gq6 gq7 gq8 gq9 gq10 gq11 : FuncId} (cs : List Int) (ms : List Int) (v232 : Int) {e_ : Ex} {σ_ : Env} (ht : T.ok (fun x_ => x_ = (e_, σ_)) (
 T.ite (decide (v232 < (↑(List.length (qA cs ms)) : Int)))
 (T.ob (0 ≤ v232 ∧ v232 < (↑(List.length (qW cs ms)) : Int))
 (T.ob (fconvOk .f32 .f64 (List.getD (qW cs ms) (Int.toNat v232) 0) = true)
 (T.ob
 (VC gq6 [AV.f .f64 (fconv .f32 .f64 (List.getD (qW cs ms) (Int.toNat v232) 0)), AV.f .f64 0]
 (AV.f .f64 (gapD (fconv .f32 .f64 (List.getD (qW cs ms) (Int.toNat v232) 0)) 0)))
 (T.ob (0 ≤ v232 ∧ v232 < (↑(List.length (qA cs ms)) : Int))
 (T.ob (fconvOk .f32 .f64 (List.getD (qA cs ms) (Int.toNat v232) 0) = true)
 (T.ob
 (VC gq6 [AV.f .f64 (fconv .f32 .f64 (List.getD (qA cs ms) (Int.toNat v232) 0)), AV.f .f64 0]
 (AV.f .f64 (gapD (fconv .f32 .f64 (List.getD (qA cs ms) (Int.toNat v232) 0)) 0)))
 (T.ite
 (fgt .f64 (gapD (fconv .f32 .f64 (List.getD (qW cs ms) (Int.toNat v232) 0)) 0)
 (fadd .f64 (gapD (fconv .f32 .f64 (List.getD (qA cs ms) (Int.toNat v232) 0)) 0) 4562254508917369340))
 (T.leaf (Ex.ret, anys 4 ++ AV.b false :: anys 260))
 (T.ite (btM ms 2 3 == 0)
 (T.ob (0 ≤ v232 ∧ v232 < (↑(List.length (qW cs ms)) : Int))
 (T.ob (0 ≤ v232 ∧ v232 < (↑(List.length (qA cs ms)) : Int))
 (T.ite (fne .f32 (List.getD (qW cs ms) (Int.toNat v232) 0) (List.getD (qA cs ms) (Int.toNat v232) 0)) (T.leaf (Ex.ret, anys 4 ++ AV.b false :: anys 260))
 (T.leaf (Ex.normal, h_laws_FnFrequencies_L4 cs ms (wrap .i64 (v232 + 1)))))))
 (T.leaf (Ex.normal, h_laws_FnFrequencies_L4 cs ms (wrap .i64 (v232 + 1))))))))))))
 (T.leaf (Ex.exit 4, h_laws_FnFrequencies_L4 cs ms v232)))) :
 Exec VC ps_laws_FnFrequencies (b_laws_FnFrequencies_L4 gq0 gq1 gq2 gq3 gq4 gq5 gq6 gq7 gq8 gq9 gq10 gq11) (h_laws_FnFrequencies_L4 cs ms v232) e_ σ_ := evL_of (lv := lv_laws_FnFrequencies_L4) (rs := [4]) (O := ⟨oc_laws_FnFrequencies cs ms, fun _ _ => none⟩) (by kernel_rfl) ht

set_option maxHeartbeats 4000000 in
set_option maxRecDepth 100000 in
theorem q_laws_FnFrequencies_S0 {VC : FuncId → List AV → AV → Prop} {gq0 gq1 gq2 gq3 gq4 gq5 gq6 gq7 gq8 gq9 gq10 gq11 : FuncId} (cs : List Int) (ms : List Int) {Q_ : Option AV × Env → Prop} (ht : T.ok Q_ (
 T.ob (VC gq0 [AV.sl (Tag.par [0]) 0 (Cont.i .u8 cs), AV.sl (Tag.par [1]) 0 (Cont.i .u8 ms)] (AV.b (decide ((↑(List.length cs) : Int) > 1048576) || decide ((↑(List.length ms) : Int) > 1048576))))
 (T.ite (decide ((↑(List.length cs) : Int) > 1048576) || decide ((↑(List.length ms) : Int) > 1048576)) (T.leaf (some (AV.b true), []))
 (T.ob (VC gq1 [AV.sl (Tag.par [0]) 0 (Cont.i .u8 ms), AV.i .i64 0, AV.i .i64 20] (AV.i .i64 (btM ms 0 20)))
 (T.ob (VC gq2 [AV.sl (Tag.par [0]) 0 (Cont.i .u8 cs), AV.i .i64 (wrap .i64 (1 + btM ms 0 20))] (AV.sl (Tag.own 0) 0 (Cont.f .f32 (qA cs ms))))
 (T.leaf (none, c_laws_FnFrequencies_1 cs ms))))))) :
 T.ok Q_ (evK VC ps_laws_FnFrequencies ks_laws_FnFrequencies_1 [.t 4] (.b true) ⟨oc_laws_FnFrequencies cs ms, fun id σ => match id with | 0 => some (lv_laws_FnFrequencies_L0, .leaf (.normal, h_laws_FnFrequencies_L0 cs ms (qSq cs ms (qN ms)) (qN ms))) | 2 => some (lv_laws_FnFrequencies_L2, .leaf (.normal, h_laws_FnFrequencies_L2 cs ms (qSum cs ms (qN ms / 2 + 1)) (qN ms / 2 + 1))) | 4 => some (lv_laws_FnFrequencies_L4, .leaf (.normal, h_laws_FnFrequencies_L4 cs ms (qN ms))) | _ => none⟩ (front 4 (b_laws_FnFrequencies gq0 gq1 gq2 gq3 gq4 gq5 gq6 gq7 gq8 gq9 gq10 gq11)) (startEnv 265 [PU [0] cs, PU [1] ms])) := evK_of (by kernel_rfl) ht

set_option maxHeartbeats 4000000 in
set_option maxRecDepth 100000 in
theorem q_laws_FnFrequencies_S1 {VC : FuncId → List AV → AV → Prop} {gq0 gq1 gq2 gq3 gq4 gq5 gq6 gq7 gq8 gq9 gq10 gq11 : FuncId} (cs : List Int) (ms : List Int) {Q_ : Option AV × Env → Prop} (ht : T.ok Q_ (
 T.ob (VC gq3 [AV.sl (Tag.par [0]) 0 (Cont.f .f32 (qA cs ms))] (AV.tup [AV.sl (Tag.own 0) 0 (Cont.c .f32 (qL cs ms)), AV.b true]))
 (T.ob
 (VC gq4 [AV.sl (Tag.par [0]) 0 (Cont.c .f32 (qL cs ms)), AV.i .i64 (wrap .i64 (1 + btM ms 0 20))]
 (AV.tup [AV.sl (Tag.own 0) 0 (Cont.f .f32 (qB cs ms)), AV.b true]))
 (T.ob (VC gq5 [AV.sl (Tag.par [0]) 0 (Cont.f .f32 (qA cs ms))] (AV.tup [AV.sl (Tag.own 0) 0 (Cont.f .f32 (qP cs ms)), AV.b true])) (T.leaf (none, c_laws_FnFrequencies_2 cs ms)))))) :
 T.ok Q_ (evK VC ps_laws_FnFrequencies ks_laws_FnFrequencies_2 [.t 4] (.b true) ⟨oc_laws_FnFrequencies cs ms, fun id σ => match id with | 0 => some (lv_laws_FnFrequencies_L0, .leaf (.normal, h_laws_FnFrequencies_L0 cs ms (qSq cs ms (qN ms)) (qN ms))) | 2 => some (lv_laws_FnFrequencies_L2, .leaf (.normal, h_laws_FnFrequencies_L2 cs ms (qSum cs ms (qN ms / 2 + 1)) (qN ms / 2 + 1))) | 4 => some (lv_laws_FnFrequencies_L4, .leaf (.normal, h_laws_FnFrequencies_L4 cs ms (qN ms))) | _ => none⟩ (front 3 (rest 4 (b_laws_FnFrequencies gq0 gq1 gq2 gq3 gq4 gq5 gq6 gq7 gq8 gq9 gq10 gq11))) (c_laws_FnFrequencies_1 cs ms)) := evK_of (by kernel_rfl) ht

set_option maxHeartbeats 4000000 in
set_option maxRecDepth 100000 in
theorem q_laws_FnFrequencies_S2 {VC : FuncId → List AV → AV → Prop} {gq0 gq1 gq2 gq3 gq4 gq5 gq6 gq7 gq8 gq9 gq10 gq11 : FuncId} (cs : List Int) (ms : List Int) {Q_ : Option AV × Env → Prop} (ht : T.ok Q_ (
 T.ite false (T.leaf (some (AV.b false), []))
 (T.ite false (T.leaf (some (AV.b false), []))
 (T.ite false (T.leaf (some (AV.b false), []))
 (T.ob ((2 : Int) ≠ 0)
 (T.ite ((↑(List.length (qL cs ms)) : Int) != wrap .i64 (wrap .i64 (Int.tdiv (wrap .i64 (1 + btM ms 0 20)) 2) + 1)) (T.leaf (some (AV.b false), []))
 (T.ite ((↑(List.length (qB cs ms)) : Int) != wrap .i64 (1 + btM ms 0 20)) (T.leaf (some (AV.b false), []))
 (T.ite ((↑(List.length (qP cs ms)) : Int) != (↑(List.length (qL cs ms)) : Int)) (T.leaf (some (AV.b false), [])) (T.leaf (none, c_laws_FnFrequencies_2 cs ms)))))))))) :
 T.ok Q_ (evK VC ps_laws_FnFrequencies ks_laws_FnFrequencies_3 [.t 4] (.b true) ⟨oc_laws_FnFrequencies cs ms, fun id σ => match id with | 0 => some (lv_laws_FnFrequencies_L0, .leaf (.normal, h_laws_FnFrequencies_L0 cs ms (qSq cs ms (qN ms)) (qN ms))) | 2 => some (lv_laws_FnFrequencies_L2, .leaf (.normal, h_laws_FnFrequencies_L2 cs ms (qSum cs ms (qN ms / 2 + 1)) (qN ms / 2 + 1))) | 4 => some (lv_laws_FnFrequencies_L4, .leaf (.normal, h_laws_FnFrequencies_L4 cs ms (qN ms))) | _ => none⟩ (front 1 (rest 3 (rest 4 (b_laws_FnFrequencies gq0 gq1 gq2 gq3 gq4 gq5 gq6 gq7 gq8 gq9 gq10 gq11)))) (c_laws_FnFrequencies_2 cs ms)) := evK_of (by kernel_rfl) ht

set_option maxHeartbeats 4000000 in
set_option maxRecDepth 100000 in
theorem q_laws_FnFrequencies_S3 {VC : FuncId → List AV → AV → Prop} {gq0 gq1 gq2 gq3 gq4 gq5 gq6 gq7 gq8 gq9 gq10 gq11 : FuncId} (cs : List Int) (ms : List Int) {Q_ : Option AV × Env → Prop} (ht : T.ok Q_ (
 T.ob
 (Exec VC ps_laws_FnFrequencies
 (VCode.block 0
 (VCode.loop
 (b_laws_FnFrequencies_L0 gq0 gq1 gq2 gq3 gq4 gq5 gq6 gq7 gq8 gq9 gq10
 gq11)))
 (h_laws_FnFrequencies_L0 cs ms 0 0) Ex.normal (c_laws_FnFrequencies_4 cs ms))
 (T.leaf (none, c_laws_FnFrequencies_4 cs ms)))) :
 T.ok Q_ (evK VC ps_laws_FnFrequencies ks_laws_FnFrequencies_4 [.t 4] (.b true) ⟨oc_laws_FnFrequencies cs ms, fun id σ => match id with | 0 => some (lv_laws_FnFrequencies_L0, .leaf (.normal, h_laws_FnFrequencies_L0 cs ms (qSq cs ms (qN ms)) (qN ms))) | 2 => some (lv_laws_FnFrequencies_L2, .leaf (.normal, h_laws_FnFrequencies_L2 cs ms (qSum cs ms (qN ms / 2 + 1)) (qN ms / 2 + 1))) | 4 => some (lv_laws_FnFrequencies_L4, .leaf (.normal, h_laws_FnFrequencies_L4 cs ms (qN ms))) | _ => none⟩ (front 2 (rest 1 (rest 3 (rest 4 (b_laws_FnFrequencies gq0 gq1 gq2 gq3 gq4 gq5 gq6 gq7 gq8 gq9 gq10 gq11))))) (c_laws_FnFrequencies_3 cs ms)) := evK_of (by kernel_rfl) ht

set_option maxHeartbeats 4000000 in
set_option maxRecDepth 100000 in
theorem q_laws_FnFrequencies_S4 {VC : FuncId → List AV → AV → Prop} {gq0 gq1 gq2 gq3 gq4 gq5 gq6 gq7 gq8 gq9 gq10 gq11 : FuncId} (cs : List Int) (ms : List Int) {Q_ : Option AV × Env → Prop} (ht : T.ok Q_ (
 T.ob
 (Exec VC ps_laws_FnFrequencies
 (VCode.block 2
 (VCode.loop
 (b_laws_FnFrequencies_L2 gq0 gq1 gq2 gq3 gq4 gq5 gq6 gq7 gq8 gq9 gq10
 gq11)))
 (h_laws_FnFrequencies_L2 cs ms 0 0) Ex.normal (c_laws_FnFrequencies_5 cs ms))
 (T.leaf (none, c_laws_FnFrequencies_5 cs ms)))) :
 T.ok Q_ (evK VC ps_laws_FnFrequencies ks_laws_FnFrequencies_5 [.t 4] (.b true) ⟨oc_laws_FnFrequencies cs ms, fun id σ => match id with | 0 => some (lv_laws_FnFrequencies_L0, .leaf (.normal, h_laws_FnFrequencies_L0 cs ms (qSq cs ms (qN ms)) (qN ms))) | 2 => some (lv_laws_FnFrequencies_L2, .leaf (.normal, h_laws_FnFrequencies_L2 cs ms (qSum cs ms (qN ms / 2 + 1)) (qN ms / 2 + 1))) | 4 => some (lv_laws_FnFrequencies_L4, .leaf (.normal, h_laws_FnFrequencies_L4 cs ms (qN ms))) | _ => none⟩ (front 2 (rest 2 (rest 1 (rest 3 (rest 4 (b_laws_FnFrequencies gq0 gq1 gq2 gq3 gq4 gq5 gq6 gq7 gq8 gq9 gq10 gq11)))))) (c_laws_FnFrequencies_4 cs ms)) := evK_of (by kernel_rfl) ht

set_option maxHeartbeats 4000000 in
set_option maxRecDepth 100000 in
theorem q_laws_FnFrequencies_S5 {VC : FuncId → List AV → AV → Prop} {gq0 gq1 gq2 gq3 gq4 gq5 gq6 gq7 gq8 gq9 gq10 gq11 : FuncId} (cs : List Int) (ms : List Int) {Q_ : Option AV × Env → Prop} (ht : T.ok Q_ (
 T.ob (VC gq6 [AV.f .f64 (qSum cs ms (qN ms / 2 + 1)), AV.f .f64 (qSq cs ms (qN ms))] (AV.f .f64 (gapD (qSum cs ms (qN ms / 2 + 1)) (qSq cs ms (qN ms)))))
 (T.ite (fgt .f64 (gapD (qSum cs ms (qN ms / 2 + 1)) (qSq cs ms (qN ms))) (fmul .f64 4562254508917369340 (fadd .f64 4607182418800017408 (qSq cs ms (qN ms))))) (T.leaf (some (AV.b false), []))
 (T.leaf (none, c_laws_FnFrequencies_5 cs ms))))) :
 T.ok Q_ (evK VC ps_laws_FnFrequencies ks_laws_FnFrequencies_6 [.t 4] (.b true) ⟨oc_laws_FnFrequencies cs ms, fun id σ => match id with | 0 => some (lv_laws_FnFrequencies_L0, .leaf (.normal, h_laws_FnFrequencies_L0 cs ms (qSq cs ms (qN ms)) (qN ms))) | 2 => some (lv_laws_FnFrequencies_L2, .leaf (.normal, h_laws_FnFrequencies_L2 cs ms (qSum cs ms (qN ms / 2 + 1)) (qN ms / 2 + 1))) | 4 => some (lv_laws_FnFrequencies_L4, .leaf (.normal, h_laws_FnFrequencies_L4 cs ms (qN ms))) | _ => none⟩ (front 1 (rest 2 (rest 2 (rest 1 (rest 3 (rest 4 (b_laws_FnFrequencies gq0 gq1 gq2 gq3 gq4 gq5 gq6 gq7 gq8 gq9 gq10 gq11))))))) (c_laws_FnFrequencies_5 cs ms)) := evK_of (by kernel_rfl) ht

set_option maxHeartbeats 4000000 in
set_option maxRecDepth 100000 in
theorem q_laws_FnFrequencies_S6 {VC : FuncId → List AV → AV → Prop} {gq0 gq1 gq2 gq3 gq4 gq5 gq6 gq7 gq8 gq9 gq10 gq11 : FuncId} (cs : List Int) (ms : List Int) {Q_ : Option AV × Env → Prop} (ht : T.ok Q_ (
 T.ob ((2 : Int) ≠ 0)
 (T.ob
 (VC gq1
 [AV.sl (Tag.par [0]) 0 (Cont.i .u8 ms), AV.i .i64 1, AV.i .i64 (wrap .i64 (wrap .i64 (Int.tdiv (wrap .i64 (1 + btM ms 0 20)) 2) + 1))]
 (AV.i .i64 (btM ms 1 (wrap .i64 (wrap .i64 (Int.tdiv (wrap .i64 (1 + btM ms 0 20)) 2) + 1)))))
 (T.ob
 (VC gq7
 [AV.sl (Tag.par [0]) 0 (Cont.f .f32 (qA cs ms)), AV.sl (Tag.par [1]) 0 (Cont.f .f32 (qA cs ms)),
 AV.i .i64 (btM ms 1 (wrap .i64 (wrap .i64 (Int.tdiv (wrap .i64 (1 + btM ms 0 20)) 2) + 1)))]
 (AV.tup [AV.f .f32 0, AV.b (qF cs ms)]))
 (T.ob
 (VC gq8
 [AV.sl (Tag.par [0]) 0 (Cont.f .f32 (qA cs ms)), AV.sl (Tag.par [1]) 0 (Cont.f .f32 (qA cs ms)),
 AV.i .i64 (btM ms 1 (wrap .i64 (wrap .i64 (Int.tdiv (wrap .i64 (1 + btM ms 0 20)) 2) + 1)))]
 (AV.tup [AV.f .f32 0, AV.b (qF cs ms)]))
 (T.ob
 (VC gq9
 [AV.sl (Tag.par [0]) 0 (Cont.f .f32 (qA cs ms)), AV.sl (Tag.par [1]) 0 (Cont.f .f32 (qA cs ms)), AV.i .i64 1,
 AV.i .i64 (btM ms 1 (wrap .i64 (wrap .i64 (Int.tdiv (wrap .i64 (1 + btM ms 0 20)) 2) + 1)))]
 (AV.tup [AV.f .f32 (qT cs ms), AV.b (qG cs ms)]))
 (T.ob
 (VC gq10
 [AV.sl (Tag.par [0]) 0 (Cont.f .f32 (qA cs ms)), AV.sl (Tag.par [1]) 0 (Cont.f .f32 (qA cs ms)), AV.i .i64 1,
 AV.i .i64 (btM ms 1 (wrap .i64 (wrap .i64 (Int.tdiv (wrap .i64 (1 + btM ms 0 20)) 2) + 1)))]
 (AV.tup [AV.f .f32 (qT cs ms), AV.b (qG cs ms)]))
 (T.leaf (none, c_laws_FnFrequencies_7 cs ms))))))))) :
 T.ok Q_ (evK VC ps_laws_FnFrequencies ks_laws_FnFrequencies_7 [.t 4] (.b true) ⟨oc_laws_FnFrequencies cs ms, fun id σ => match id with | 0 => some (lv_laws_FnFrequencies_L0, .leaf (.normal, h_laws_FnFrequencies_L0 cs ms (qSq cs ms (qN ms)) (qN ms))) | 2 => some (lv_laws_FnFrequencies_L2, .leaf (.normal, h_laws_FnFrequencies_L2 cs ms (qSum cs ms (qN ms / 2 + 1)) (qN ms / 2 + 1))) | 4 => some (lv_laws_FnFrequencies_L4, .leaf (.normal, h_laws_FnFrequencies_L4 cs ms (qN ms))) | _ => none⟩ (front 5 (rest 1 (rest 2 (rest 2 (rest 1 (rest 3 (rest 4 (b_laws_FnFrequencies gq0 gq1 gq2 gq3 gq4 gq5 gq6 gq7 gq8 gq9 gq10 gq11)))))))) (c_laws_FnFrequencies_6 cs ms)) := evK_of (by kernel_rfl) ht

set_option maxHeartbeats 4000000 in
set_option maxRecDepth 100000 in
theorem q_laws_FnFrequencies_S7 {VC : FuncId → List AV → AV → Prop} {gq0 gq1 gq2 gq3 gq4 gq5 gq6 gq7 gq8 gq9 gq10 gq11 : FuncId} (cs : List Int) (ms : List Int) {Q_ : Option AV × Env → Prop} (ht : T.ok Q_ (
 T.ite (!qF cs ms == qF cs ms) (T.leaf (some (AV.b false), []))
 (T.ite (!qG cs ms == qG cs ms) (T.leaf (some (AV.b false), []))
 (T.ite (qF cs ms)
 (T.ob (true = true)
 (T.ob (VC gq6 [AV.f .f64 0, AV.f .f64 0] (AV.f .f64 0))
 (T.ite false
 (T.ob (true = true)
 (T.ob (VC gq6 [AV.f .f64 0, AV.f .f64 4607182418800017408] (AV.f .f64 4607182418800017408))
 (T.ite true (T.leaf (some (AV.b false), []))
 (T.ite (qG cs ms)
 (T.ob (fconvOk .f32 .f64 (qT cs ms) = true)
 (T.ob
 (VC gq6 [AV.f .f64 (fconv .f32 .f64 (qT cs ms)), AV.f .f64 4607182418800017408]
 (AV.f .f64 (gapD (fconv .f32 .f64 (qT cs ms)) 4607182418800017408)))
 (T.ite (fgt .f64 (gapD (fconv .f32 .f64 (qT cs ms)) 4607182418800017408) 4562254508917369340) (T.leaf (some (AV.b false), []))
 (T.leaf (none, c_laws_FnFrequencies_7 cs ms)))))
 (T.leaf (none, c_laws_FnFrequencies_7 cs ms))))))
 (T.ite (qG cs ms)
 (T.ob (fconvOk .f32 .f64 (qT cs ms) = true)
 (T.ob
 (VC gq6 [AV.f .f64 (fconv .f32 .f64 (qT cs ms)), AV.f .f64 4607182418800017408]
 (AV.f .f64 (gapD (fconv .f32 .f64 (qT cs ms)) 4607182418800017408)))
 (T.ite (fgt .f64 (gapD (fconv .f32 .f64 (qT cs ms)) 4607182418800017408) 4562254508917369340) (T.leaf (some (AV.b false), [])) (T.leaf (none, c_laws_FnFrequencies_7 cs ms)))))
 (T.leaf (none, c_laws_FnFrequencies_7 cs ms))))))
 (T.ite (qG cs ms)
 (T.ob (fconvOk .f32 .f64 (qT cs ms) = true)
 (T.ob
 (VC gq6 [AV.f .f64 (fconv .f32 .f64 (qT cs ms)), AV.f .f64 4607182418800017408]
 (AV.f .f64 (gapD (fconv .f32 .f64 (qT cs ms)) 4607182418800017408)))
 (T.ite (fgt .f64 (gapD (fconv .f32 .f64 (qT cs ms)) 4607182418800017408) 4562254508917369340) (T.leaf (some (AV.b false), [])) (T.leaf (none, c_laws_FnFrequencies_7 cs ms)))))
 (T.leaf (none, c_laws_FnFrequencies_7 cs ms))))))) :
 T.ok Q_ (evK VC ps_laws_FnFrequencies ks_laws_FnFrequencies_8 [.t 4] (.b true) ⟨oc_laws_FnFrequencies cs ms, fun id σ => match id with | 0 => some (lv_laws_FnFrequencies_L0, .leaf (.normal, h_laws_FnFrequencies_L0 cs ms (qSq cs ms (qN ms)) (qN ms))) | 2 => some (lv_laws_FnFrequencies_L2, .leaf (.normal, h_laws_FnFrequencies_L2 cs ms (qSum cs ms (qN ms / 2 + 1)) (qN ms / 2 + 1))) | 4 => some (lv_laws_FnFrequencies_L4, .leaf (.normal, h_laws_FnFrequencies_L4 cs ms (qN ms))) | _ => none⟩ (front 1 (rest 5 (rest 1 (rest 2 (rest 2 (rest 1 (rest 3 (rest 4 (b_laws_FnFrequencies gq0 gq1 gq2 gq3 gq4 gq5 gq6 gq7 gq8 gq9 gq10 gq11))))))))) (c_laws_FnFrequencies_7 cs ms)) := evK_of (by kernel_rfl) ht

set_option maxHeartbeats 4000000 in
set_option maxRecDepth 100000 in
theorem q_laws_FnFrequencies_S8 {VC : FuncId → List AV → AV → Prop} {gq0 gq1 gq2 gq3 gq4 gq5 gq6 gq7 gq8 gq9 gq10 gq11 : FuncId} (cs : List Int) (ms : List Int) {Q_ : Option AV × Env → Prop} (ht : T.ok Q_ (
 T.ob (VC gq1 [AV.sl (Tag.par [0]) 0 (Cont.i .u8 ms), AV.i .i64 2, AV.i .i64 3] (AV.i .i64 (btM ms 2 3)))
 (T.ob (VC gq11 [AV.sl (Tag.par [0]) 0 (Cont.f .f32 (qA cs ms)), AV.i .i64 (btM ms 2 3)] (AV.tup [AV.sl (Tag.own 0) 0 (Cont.f .f32 (qW cs ms)), AV.b true]))
 (T.leaf (none, c_laws_FnFrequencies_9 cs ms))))) :
 T.ok Q_ (evK VC ps_laws_FnFrequencies ks_laws_FnFrequencies_9 [.t 4] (.b true) ⟨oc_laws_FnFrequencies cs ms, fun id σ => match id with | 0 => some (lv_laws_FnFrequencies_L0, .leaf (.normal, h_laws_FnFrequencies_L0 cs ms (qSq cs ms (qN ms)) (qN ms))) | 2 => some (lv_laws_FnFrequencies_L2, .leaf (.normal, h_laws_FnFrequencies_L2 cs ms (qSum cs ms (qN ms / 2 + 1)) (qN ms / 2 + 1))) | 4 => some (lv_laws_FnFrequencies_L4, .leaf (.normal, h_laws_FnFrequencies_L4 cs ms (qN ms))) | _ => none⟩ (front 2 (rest 1 (rest 5 (rest 1 (rest 2 (rest 2 (rest 1 (rest 3 (rest 4 (b_laws_FnFrequencies gq0 gq1 gq2 gq3 gq4 gq5 gq6 gq7 gq8 gq9 gq10 gq11)))))))))) (c_laws_FnFrequencies_8 cs ms)) := evK_of (by kernel_rfl) ht

set_option maxHeartbeats 4000000 in
set_option maxRecDepth 100000 in
theorem q_laws_FnFrequencies_S9 {VC : FuncId → List AV → AV → Prop} {gq0 gq1 gq2 gq3 gq4 gq5 gq6 gq7 gq8 gq9 gq10 gq11 : FuncId} (cs : List Int) (ms : List Int) {Q_ : Option AV × Env → Prop} (ht : T.ok Q_ (
 T.ite false (T.leaf (some (AV.b false), [])) (T.ite ((↑(List.length (qW cs ms)) : Int) != wrap .i64 (1 + btM ms 0 20)) (T.leaf (some (AV.b false), [])) (T.leaf (none, c_laws_FnFrequencies_9 cs ms))))) :
 T.ok Q_ (evK VC ps_laws_FnFrequencies ks_laws_FnFrequencies_10 [.t 4] (.b true) ⟨oc_laws_FnFrequencies cs ms, fun id σ => match id with | 0 => some (lv_laws_FnFrequencies_L0, .leaf (.normal, h_laws_FnFrequencies_L0 cs ms (qSq cs ms (qN ms)) (qN ms))) | 2 => some (lv_laws_FnFrequencies_L2, .leaf (.normal, h_laws_FnFrequencies_L2 cs ms (qSum cs ms (qN ms / 2 + 1)) (qN ms / 2 + 1))) | 4 => some (lv_laws_FnFrequencies_L4, .leaf (.normal, h_laws_FnFrequencies_L4 cs ms (qN ms))) | _ => none⟩ (front 1 (rest 2 (rest 1 (rest 5 (rest 1 (rest 2 (rest 2 (rest 1 (rest 3 (rest 4 (b_laws_FnFrequencies gq0 gq1 gq2 gq3 gq4 gq5 gq6 gq7 gq8 gq9 gq10 gq11))))))))))) (c_laws_FnFrequencies_9 cs ms)) := evK_of (by kernel_rfl) ht

set_option maxHeartbeats 4000000 in
set_option maxRecDepth 100000 in
theorem q_laws_FnFrequencies_S10 {VC : FuncId → List AV → AV → Prop} {gq0 gq1 gq2 gq3 gq4 gq5 gq6 gq7 gq8 gq9 gq10 gq11 : FuncId} (cs : List Int) (ms : List Int) {Q_ : Option AV × Env → Prop} (ht : T.ok Q_ (
 T.ob
 (Exec VC ps_laws_FnFrequencies
 (VCode.block 4
 (VCode.loop
 (b_laws_FnFrequencies_L4 gq0 gq1 gq2 gq3 gq4 gq5 gq6 gq7 gq8 gq9 gq10
 gq11)))
 (h_laws_FnFrequencies_L4 cs ms 0) Ex.normal (h_laws_FnFrequencies_L4 cs ms (↑(qN ms) : Int)))
 (T.leaf (some (AV.b true), [])))) :
 T.ok Q_ (evS VC ps_laws_FnFrequencies [.t 4] (.b true) ⟨oc_laws_FnFrequencies cs ms, fun id σ => match id with | 0 => some (lv_laws_FnFrequencies_L0, .leaf (.normal, h_laws_FnFrequencies_L0 cs ms (qSq cs ms (qN ms)) (qN ms))) | 2 => some (lv_laws_FnFrequencies_L2, .leaf (.normal, h_laws_FnFrequencies_L2 cs ms (qSum cs ms (qN ms / 2 + 1)) (qN ms / 2 + 1))) | 4 => some (lv_laws_FnFrequencies_L4, .leaf (.normal, h_laws_FnFrequencies_L4 cs ms (qN ms))) | _ => none⟩ (rest 1 (rest 2 (rest 1 (rest 5 (rest 1 (rest 2 (rest 2 (rest 1 (rest 3 (rest 4 (b_laws_FnFrequencies gq0 gq1 gq2 gq3 gq4 gq5 gq6 gq7 gq8 gq9 gq10 gq11))))))))))) (c_laws_FnFrequencies_10 cs ms)) := evS_of (by kernel_rfl) ht

-- END laws_FnFrequencies

/-- what the law draws -/
structure QD (cs ms : List Int) : Prop where
  hn : 1 ≤ qN ms ∧ qN ms ≤ 20
  wN : IntKind.wrap .i64 (1 + btM ms 0 20) = (qN ms : Int)
  wH : IntKind.wrap .i64 (IntKind.wrap .i64 (Int.tdiv (qN ms : Int) 2) + 1) = ((qN ms / 2 + 1 : Nat) : Int)
  sa : SA (qA cs ms) (qN ms)
  ser : seriesM (qA cs ms) = true
  hk : qK ms < qN ms / 2 + 1
  wK : btM ms 1 ((qN ms / 2 + 1 : Nat) : Int) = (qK ms : Int)
  hd : qKd ms ≤ 2
  wD : btM ms 2 3 = (qKd ms : Int)
theorem qd_of {cs ms : List Int} (hc : Byt cs) (hm : Byt ms) : QD cs ms := by
  have a0 := bt_le hm (i := 0) (n := 20) (by omega) (by omega)
  have a2 := bt_le hm (i := 2) (n := 3) (by omega) (by omega)
  have eN : ((qN ms : Nat) : Int) = 1 + btM ms 0 20 := by unfold qN; omega
  have hn : 1 ≤ qN ms ∧ qN ms ≤ 20 := by omega
  have a1 : 0 ≤ btM ms 1 ((qN ms / 2 + 1 : Nat) : Int) ∧ btM ms 1 ((qN ms / 2 + 1 : Nat) : Int) < ((qN ms / 2 + 1 : Nat) : Int) := by
    by_cases h : qN ms / 2 + 1 ≤ 1
    · have e : btM ms 1 ((qN ms / 2 + 1 : Nat) : Int) = 0 := by unfold btM; rw [if_pos (by omega)]
      rw [e]; omega
    · exact bt_le hm (by omega) (by omega)
  have lx : (qA cs ms).length = qN ms := by unfold qA s3L; rw [tab_len]; rfl
  have hq : ∀ i, i < qN ms → Qx ((qA cs ms).getD i 0) := fun i hi => s3L_q hc 0 0 (qN ms) i (by omega)
  exact {
    hn := hn
    wN := by rw [eN]; exact wrap64_id (by omega) (by omega)
    wH := by
      have e : Int.tdiv (qN ms : Int) 2 = ((qN ms / 2 : Nat) : Int) := by rw [Int.tdiv_eq_ediv_of_nonneg (by omega)]; rfl
      rw [e, wrap64_id (n := ((qN ms / 2 : Nat) : Int)) (by omega) (by omega), wrap64_id (by omega) (by omega)]; rfl
    sa := ⟨hn, lx, fun i hi => ⟨(hq i hi).1, q_bound (hq i hi)⟩⟩
    ser := by
      unfold seriesM
      have h1 : finAllM (qA cs ms) = true := finAll_of fun i hi => (hq i (by omega)).1
      simp only [h1, lx]
      simp; omega
    hk := by unfold qK; omega
    wK := by unfold qK; omega
    hd := by unfold qKd; omega
    wD := by unfold qKd; omega }
section
variable {P : Program} {cs ms : List Int} {g1 g2 g3 g4 g5 g6 g7 g8 g9 g10 g11 g12 : FuncId}
theorem QD.lx (d : QD cs ms) : (qA cs ms).length = qN ms := d.sa.ln
theorem QD.ll (d : QD cs ms) : (qL cs ms).length = qN ms / 2 + 1 := lns_len _ _
theorem QD.lb (d : QD cs ms) : (qB cs ms).length = qN ms := bk_len _ _ _
theorem QD.lp (d : QD cs ms) : (qP cs ms).length = qN ms / 2 + 1 := lp_len _ _
theorem QD.lw (d : QD cs ms) : (qW cs ms).length = qN ms := tp_len _ _ _
theorem qw_succ {i : Nat} (h : i ≤ 1000) : IntKind.wrap .i64 ((i : Int) + 1) = ((i + 1 : Nat) : Int) := by rw [wrap64_id (by omega) (by omega)]; omega
theorem qbne {a b : Int} (h : a = b) : (a != b) = false := by rw [h]; simp
theorem qfne {x y : Nat} (hx : sf x) (hy : sf y) (h : sv x = sv y) : fne .f32 x y = false := by
  have e : fne .f32 x y = !(feq .f32 x y) := rfl
  rw [e, feq_rv (k := .f32) hx hy]
  show (!decide (sv x = sv y)) = false
  rw [decide_eq_true h]; rfl
theorem qSq_succ (cs ms : List Int) (i : Nat) : qSq cs ms (i + 1) = fadd .f64 (qSq cs ms i) (fmul .f64 (up ((qA cs ms).getD i 0)) (up ((qA cs ms).getD i 0))) := rfl
theorem qSum_succ (cs ms : List Int) (i : Nat) : qSum cs ms (i + 1) = fadd .f64 (qSum cs ms i) (qX cs ms i) := rfl
theorem q_loop0 (d : QD cs ms) (c7 : C_laws_b10Gap P g7) :
    Exec (VCall P) ps_laws_FnFrequencies (VCode.block 0 (VCode.loop (b_laws_FnFrequencies_L0 g1 g2 g3 g4 g5 g6 g7 g8 g9 g10 g11 g12))) (h_laws_FnFrequencies_L0 cs ms 0 0) Ex.normal (c_laws_FnFrequencies_4 cs ms) := by
  have hn := d.hn; have lx := d.lx; have lb := d.lb
  refine for_up (e := .exit 0) (qN ms) (fun i => h_laws_FnFrequencies_L0 cs ms (qSq cs ms i) (i : Nat)) (by first | rfl | simp) (fun i hi => ?_) ?_
  · refine q_laws_FnFrequencies_L0 _ _ _ _ ?_
    have hb := back_held d.sa hi
    have hb : fgt .f64 (gapD (up ((qB cs ms).getD i 0)) (up ((qA cs ms).getD i 0))) 4562254508917369340 = false := hb
    rw [qw_succ (by omega), qSq_succ, Int.toNat_natCast, hb]
    exact T.ok_ite (fun _ => T.ok_ob ⟨by omega, by omega⟩ fun _ => T.ok_ob (fconvOk_32_64 _) fun _ => T.ok_ob ⟨by omega, by omega⟩ fun _ => T.ok_ob (fconvOk_32_64 _) fun _ => T.ok_ob ⟨by omega, by omega⟩ fun _ => T.ok_ob (fconvOk_32_64 _) fun _ => T.ok_ob ⟨by omega, by omega⟩ fun _ => T.ok_ob (fconvOk_32_64 _) fun _ => T.ok_ob (c7 _ _) fun _ => T.ok_ifalse (T.ok_leaf rfl)) (fun h => absurd (of_decide_eq_false h) (by omega))
  · refine q_laws_FnFrequencies_L0 _ _ _ _ ?_
    exact T.ok_ite (fun h => absurd (of_decide_eq_true h) (by omega)) (fun _ => T.ok_leaf rfl)
theorem q_loop2 (d : QD cs ms) :
    Exec (VCall P) ps_laws_FnFrequencies (VCode.block 2 (VCode.loop (b_laws_FnFrequencies_L2 g1 g2 g3 g4 g5 g6 g7 g8 g9 g10 g11 g12))) (h_laws_FnFrequencies_L2 cs ms 0 0) Ex.normal (c_laws_FnFrequencies_5 cs ms) := by
  have hn := d.hn; have lp := d.lp
  refine for_up (e := .exit 2) (qN ms / 2 + 1) (fun i => h_laws_FnFrequencies_L2 cs ms (qSum cs ms i) (i : Nat)) (by first | rfl | simp) (fun i hi => ?_) ?_
  · refine q_laws_FnFrequencies_L2 _ _ _ _ ?_
    have e2 : IntKind.wrap .i64 (2 * (i : Int)) = ((2 * i : Nat) : Int) := by rw [wrap64_id (by omega) (by omega)]; omega
    rw [qw_succ (by omega), qSum_succ, Int.toNat_natCast, d.wN, e2]
    refine T.ok_ite (fun _ => T.ok_ob ⟨by omega, by omega⟩ fun _ => T.ok_ob (fconvOk_32_64 _) fun _ => T.ok_ite (fun h0 => T.ok_ite (fun h1 => T.ok_leaf ?_) (fun h1 => T.ok_leaf ?_)) (fun h0 => T.ok_leaf ?_)) (fun h => absurd (of_decide_eq_false h) (by omega))
    · have h0 := of_decide_eq_true h0
      have h1 : ((2 * i : Nat) : Int) ≠ (qN ms : Int) := by simpa using h1
      unfold qX
      rw [if_pos ⟨by omega, by omega⟩]
    · have h1 : ((2 * i : Nat) : Int) = (qN ms : Int) := by simpa using h1
      unfold qX
      rw [if_neg (by omega)]
    · have h0 := of_decide_eq_false h0
      unfold qX
      rw [if_neg (by omega)]
  · refine q_laws_FnFrequencies_L2 _ _ _ _ ?_
    exact T.ok_ite (fun h => absurd (of_decide_eq_true h) (by omega)) (fun _ => T.ok_leaf rfl)
theorem q_loop4 (d : QD cs ms) (c7 : C_laws_b10Gap P g7) :
    Exec (VCall P) ps_laws_FnFrequencies (VCode.block 4 (VCode.loop (b_laws_FnFrequencies_L4 g1 g2 g3 g4 g5 g6 g7 g8 g9 g10 g11 g12))) (h_laws_FnFrequencies_L4 cs ms 0) Ex.normal (h_laws_FnFrequencies_L4 cs ms (qN ms : Nat)) := by
  have hn := d.hn; have lx := d.lx; have lw := d.lw
  refine for_up (e := .exit 4) (qN ms) (fun i => h_laws_FnFrequencies_L4 cs ms (i : Nat)) (by first | rfl | simp) (fun i hi => ?_) ?_
  · refine q_laws_FnFrequencies_L4 _ _ _ ?_
    have hb := taper_held d.sa (kind := qKd ms) hi
    have hb : fgt .f64 (gapD (up ((qW cs ms).getD i 0)) 0) (fadd .f64 (gapD (up ((qA cs ms).getD i 0)) 0) 4562254508917369340) = false := hb
    rw [qw_succ (by omega), Int.toNat_natCast, hb, d.wD]
    refine T.ok_ite (fun _ => T.ok_ob ⟨by omega, by omega⟩ fun _ => T.ok_ob (fconvOk_32_64 _) fun _ => T.ok_ob (c7 _ _) fun _ => T.ok_ob ⟨by omega, by omega⟩ fun _ => T.ok_ob (fconvOk_32_64 _) fun _ => T.ok_ob (c7 _ _) fun _ => T.ok_ifalse (T.ok_ite (fun h => ?_) (fun _ => T.ok_leaf rfl))) (fun h => absurd (of_decide_eq_false h) (by omega))
    have h : qKd ms = 0 := by have : ((qKd ms : Nat) : Int) = 0 := by simpa using h
                              omega
    have e : qW cs ms = tpM (qA cs ms) 0 (qN ms) := by unfold qW; rw [h]; rfl
    have hf : fne .f32 ((qW cs ms).getD i 0) ((qA cs ms).getD i 0) = false := by
      rw [e]
      exact qfne (tp_near d.sa (kind := 0) hi).1 (d.sa.bd i hi).1 (taper_none d.sa hi)
    rw [hf]
    exact T.ok_ob ⟨by omega, by omega⟩ fun _ => T.ok_ob ⟨by omega, by omega⟩ fun _ => T.ok_ifalse (T.ok_leaf rfl)
  · refine q_laws_FnFrequencies_L4 _ _ _ ?_
    exact T.ok_ite (fun h => absurd (of_decide_eq_true h) (by omega)) (fun _ => T.ok_leaf rfl)
/-- what goes together with itself -/
theorem QD.one (d : QD cs ms) : Lead (qU cs ms) (qV cs ms) := by
  have l := line_of d.sa d.hk
  obtain ⟨b1, b2⟩ := line_bd d.sa d.hk
  exact lead_of l.fu l.fv b1 b2
theorem QD.ratio (d : QD cs ms) (hg : qG cs ms = true) : finM (fdiv .f32 (qDd cs ms) (qDd cs ms)) = true ∧ fgt .f64 (gapD (up (qT cs ms)) 4607182418800017408) 4562254508917369340 = false := by
  have hd := d.one.hd
  have hd : sf (qDd cs ms) := hd
  have z0 : sv 0 = 0 := zero_rv _
  have hpos : 0 < sv (qDd cs ms) := by
    have h : fgt .f32 (qDd cs ms) 0 = decide (sv 0 < sv (qDd cs ms)) := fgt_rv (k := .f32) hd zero_sf
    have hg : fgt .f32 (qDd cs ms) 0 = true := hg
    rw [h, z0] at hg
    exact of_decide_eq_true hg
  have hr : RdQ single (fdiv .f32 (qDd cs ms) (qDd cs ms)) 1 := fdiv_rd .f32 hd hd (by show sv _ ≠ 0; grind) (by show 1 * sv _ = sv _; grind) (topS (B := rabs 1 * 2) (by decide +kernel))
  have h1 : sv (fdiv .f32 (qDd cs ms) (qDd cs ms)) = 1 := hr.exact 1 0 (by decide +kernel) (by decide) (by decide)
  have hf : sf (fdiv .f32 (qDd cs ms) (qDd cs ms)) := hr.fin
  refine ⟨(finM_sf _).2 hf, ?_⟩
  have e : qT cs ms = fdiv .f32 (qDd cs ms) (qDd cs ms) := by unfold qT; rw [if_pos hg]
  rw [e]
  obtain ⟨u1, u2⟩ := conv_up hf
  obtain ⟨o1, o2⟩ := one_dv
  obtain ⟨k1, k2, k3⟩ := c001
  obtain ⟨g1', g2', g3'⟩ := gap_le (G := 0) u1 o1 ⟨by rw [u2, o2, h1]; decide +kernel, by rw [u2, o2, h1]; decide +kernel⟩ (by decide)
  rw [fgt_rv (k := .f64) g1' k1]
  refine decide_eq_false fun hlt => ?_
  have hlt : dv 4562254508917369340 < dv (gapD (up (fdiv .f32 (qDd cs ms) (qDd cs ms))) 4607182418800017408) := hlt
  have small : eta ≤ 1 / 10000 := by decide +kernel
  grind
end
set_option maxRecDepth 100000 in
theorem k_laws_FnFrequencies {P : Program} {f g1 g2 g3 g4 g5 g6 g7 g8 g9 g10 g11 g12 : FuncId} (h : Is_laws_FnFrequencies P f g1 g2 g3 g4 g5 g6 g7 g8 g9 g10 g11 g12) (c1 : C_laws_b10Long P g1) (c2 : C_laws_b10At P g2) (c3 : C_spec_B10List P g3) (c4 : C_impl_LinesOf P g4) (c5 : C_impl_BackOfLines P g5) (c6 : C_impl_LinePowers P g6) (c7 : C_laws_b10Gap P g7) (c8 : C_spec_LeadOf P g8) (c9 : C_impl_LeadOf P g9) (c10 : C_spec_TogetherOf P g10) (c11 : C_impl_TogetherOf P g11) (c12 : C_impl_Tapered P g12) : C_laws_FnFrequencies P f := by
  intro cs ms
  refine VCall.rng (fun hr => ?_)
  obtain ⟨r1, r2, _⟩ := hr
  obtain ⟨hc, lc⟩ := byt_of (cs := cs) r1
  obtain ⟨hm, lm⟩ := byt_of (cs := ms) r2
  have d := qd_of hc hm
  have hn := d.hn; have lx := d.lx; have ll := d.ll; have lb := d.lb; have lp := d.lp; have lw := d.lw; have hk := d.hk; have hd := d.hd; have s := d.sa
  have mx : maxLen = 9223372036854775807 := rfl
  refine h.call_cut (ps := ps_laws_FnFrequencies) ?_
  refine cut_stepK (H := True) (σ1 := c_laws_FnFrequencies_1 cs ms) (q_laws_FnFrequencies_S0 cs ms ?_) (fun _ => ?_)
  · refine T.ok_ob (c1 _ _) fun _ => T.ok_ite (fun _ => T.ok_end rfl) fun _ => ?_
    have a3 := c3 cs (qN ms) (by omega) hc lc
    rw [d.wN]
    exact T.ok_ob (c2 _ _ _ (by omega) hm) fun _ => T.ok_ob a3 fun _ => T.ok_go True.intro
  refine cut_stepK (H := True) (σ1 := c_laws_FnFrequencies_2 cs ms) (q_laws_FnFrequencies_S1 cs ms ?_) (fun _ => ?_)
  · have lo : lnsOk (qA cs ms) = true := by
      unfold lnsOk
      rw [d.ser, lx, lines_fin s]; rfl
    have a4 := c4 (qA cs ms) (by omega)
    rw [lo, if_pos rfl, lx] at a4
    have a5 := c5 (qL cs ms) (qN ms) (by omega) ll (lines_fin s) (fun i k hi hk' => freq_ok s hi (by omega))
    have f5 : finAllM (bkM (qL cs ms) (qN ms) (qN ms)) = true := finAll_of fun i hi => (back_near s (by rw [bk_len] at hi; exact hi)).1
    have a6 := c6 (qA cs ms) lo (fun k hk' => by rw [lx] at hk' ⊢; exact pow_ok s hk')
    rw [lx] at a6
    have f6 : finAllM (lpM (qA cs ms) (qN ms / 2 + 1)) = true := finAll_of fun i hi => (pow_near s (by rw [lp_len] at hi; exact hi)).1
    unfold ifAllM at a5 a6
    rw [f5, if_pos rfl] at a5
    rw [f6, if_pos rfl] at a6
    rw [d.wN]
    exact T.ok_ob a4 fun _ => T.ok_ob a5 fun _ => T.ok_ob a6 fun _ => T.ok_go True.intro
  refine cut_stepK (H := True) (σ1 := c_laws_FnFrequencies_3 cs ms) (q_laws_FnFrequencies_S2 cs ms ?_) (fun _ => ?_)
  · rw [d.wN, d.wH, qbne (by omega), qbne (by omega), qbne (by omega)]
    exact T.ok_ifalse (T.ok_ifalse (T.ok_ifalse (T.ok_ob (by decide) fun _ => T.ok_ifalse (T.ok_ifalse (T.ok_ifalse (T.ok_go True.intro))))))
  refine cut_stepK (H := True) (σ1 := c_laws_FnFrequencies_4 cs ms) (q_laws_FnFrequencies_S3 cs ms ?_) (fun _ => ?_)
  · exact T.ok_ob (q_loop0 d c7) fun _ => T.ok_go True.intro
  refine cut_stepK (H := True) (σ1 := c_laws_FnFrequencies_5 cs ms) (q_laws_FnFrequencies_S4 cs ms ?_) (fun _ => ?_)
  · exact T.ok_ob (q_loop2 d) fun _ => T.ok_go True.intro
  refine cut_stepK (H := True) (σ1 := c_laws_FnFrequencies_6 cs ms) (q_laws_FnFrequencies_S5 cs ms ?_) (fun _ => ?_)
  · have hp : fgt .f64 (gapD (qSum cs ms (qN ms / 2 + 1)) (qSq cs ms (qN ms))) (fmul .f64 4562254508917369340 (fadd .f64 4607182418800017408 (qSq cs ms (qN ms)))) = false := powers_held s rfl rfl
    rw [hp]
    exact T.ok_ob (c7 _ _) fun _ => T.ok_ifalse (T.ok_go True.intro)
  refine cut_stepK (H := True) (σ1 := c_laws_FnFrequencies_7 cs ms) (q_laws_FnFrequencies_S6 cs ms ?_) (fun _ => ?_)
  · have o := d.one
    have he : lnM (qA cs ms) (qK ms) (qA cs ms).length = (qU cs ms, qV cs ms) := by rw [lx]; rfl
    have kk : (0 : Int) ≤ (qK ms : Int) ∧ (qK ms : Int) ≤ ((qA cs ms).length / 2 : Nat) := by rw [lx]; omega
    have a8 := c8 (qA cs ms) (qK ms) (qU cs ms) (qV cs ms) _ _ d.ser kk he o.hu o.hv o.hp rfl o.hl o.hs o.hq
    have a9 := c9 (qA cs ms) (qK ms) (qU cs ms) (qV cs ms) _ _ d.ser kk he o.hu o.hv o.hp rfl o.hl o.hs o.hq
    have hq0 : finM (fadd .f32 0 (dn (muV (qU cs ms) (qV cs ms) (qU cs ms) (fneg .f32 (qV cs ms))))) = true := by
      rcases o.hq with e | e <;> rw [e] <;> decide +kernel
    have fd : finM (fmul .f32 (fadd .f32 0 (dn (pwW (qU cs ms) (qV cs ms)))) (fadd .f32 0 (dn (pwW (qU cs ms) (qV cs ms))))) = true := (finM_sf _).2 o.hd
    have a10 := c10 (qA cs ms) (qK ms) (qU cs ms) (qV cs ms) _ _ _ _ d.ser kk he o.hu o.hv o.hp rfl o.hl o.hs o.hq ⟨o.hw, rfl⟩ (o.hz _ o.hq) ⟨o.hc, hq0⟩ fd (fun hg => (d.ratio hg).1)
    have a11 := c11 (qA cs ms) (qK ms) (qU cs ms) (qV cs ms) _ _ _ _ d.ser kk he o.hu o.hv o.hp rfl o.hl o.hs o.hq ⟨o.hw, rfl⟩ (o.hz _ o.hq) fd (fun hg => (d.ratio hg).1)
    have b2 := c2 ms 1 ((qN ms / 2 + 1 : Nat) : Int) (by omega) hm
    rw [d.wK] at b2
    rw [d.wN, d.wH, d.wK]
    exact T.ok_ob (by decide) fun _ => T.ok_ob b2 fun _ => T.ok_ob a8 fun _ => T.ok_ob a9 fun _ => T.ok_ob a10 fun _ => T.ok_ob a11 fun _ => T.ok_go True.intro
  refine cut_stepK (H := True) (σ1 := c_laws_FnFrequencies_8 cs ms) (q_laws_FnFrequencies_S7 cs ms ?_) (fun _ => ?_)
  · have e0 : (!qF cs ms == qF cs ms) = false := by cases qF cs ms <;> rfl
    have e1 : (!qG cs ms == qG cs ms) = false := by cases qG cs ms <;> rfl
    rw [e0, e1]
    refine T.ok_ifalse (T.ok_ifalse ?_)
    have z : gapD 0 0 = 0 := by decide +kernel
    have c0 := c7 0 0
    rw [z] at c0
    cases hg : qG cs ms with
    | true =>
      have hr := (d.ratio hg).2
      rw [hr]
      exact T.ok_ite (fun _ => T.ok_ob rfl fun _ => T.ok_ob c0 fun _ => T.ok_ifalse (T.ok_itrue (T.ok_ob (fconvOk_32_64 _) fun _ => T.ok_ob (c7 _ _) fun _ => T.ok_ifalse (T.ok_go True.intro)))) (fun _ => T.ok_itrue (T.ok_ob (fconvOk_32_64 _) fun _ => T.ok_ob (c7 _ _) fun _ => T.ok_ifalse (T.ok_go True.intro)))
    | false =>
      exact T.ok_ite (fun _ => T.ok_ob rfl fun _ => T.ok_ob c0 fun _ => T.ok_ifalse (T.ok_ifalse (T.ok_go True.intro))) (fun _ => T.ok_ifalse (T.ok_go True.intro))
  refine cut_stepK (H := True) (σ1 := c_laws_FnFrequencies_9 cs ms) (q_laws_FnFrequencies_S8 cs ms ?_) (fun _ => ?_)
  · have a12 := c12 (qA cs ms) (qKd ms) (by omega)
    have ft : finAllM (tpM (qA cs ms) (qKd ms) (qN ms)) = true := finAll_of fun i hi => (tp_near s (kind := qKd ms) (by rw [tp_len] at hi; exact hi)).1
    have to : tpOk (qA cs ms) (qKd ms) = true := by
      unfold tpOk
      rw [d.ser, in_of (by omega), lx, ft]; rfl
    rw [to, if_pos rfl, lx] at a12
    have b2 := c2 ms 2 3 (by omega) hm
    rw [d.wD] at b2
    rw [d.wD]
    exact T.ok_ob b2 fun _ => T.ok_ob a12 fun _ => T.ok_go True.intro
  refine cut_stepK (H := True) (σ1 := c_laws_FnFrequencies_10 cs ms) (q_laws_FnFrequencies_S9 cs ms ?_) (fun _ => ?_)
  · rw [d.wN, qbne (by omega)]
    exact T.ok_ifalse (T.ok_ifalse (T.ok_go True.intro))
  refine cut_last (q_laws_FnFrequencies_S10 cs ms ?_)
  exact T.ok_ob (q_loop4 d c7) fun _ => T.ok_leaf rfl

end Go.Proofs.LV
