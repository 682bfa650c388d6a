/- The law FnUndone. -/
import Derived.Test.YtjfgmnfkkehgfaaLvUndo5X
import Derived.Test.YtjfgmnfkkehgfaaLvAbsX
import Derived.Test.YtjfgmnfkkehgfaaLvFnK
import Derived.Test.YtjfgmnfkkehgfaaLvFnRRX
namespace Go.Proofs.LV
open Go Ieee
set_option linter.unusedVariables false
set_option linter.unusedSimpArgs false

def uN (ms : List Int) : Nat := (2 + atM ms 40 20).toNat
def uX (cs ms : List Int) : List Nat := s2L cs 0 0 (uN ms)
def uL (ms : List Int) : Nat := (1 + atM ms 41 ((uN ms : Int) - 1)).toNat
def uZ (ms : List Int) : Nat := (1 + atM ms 42 (uN ms)).toNat
def uS (ms : List Int) : Nat := (atM ms 43 6).toNat
def uF (ms : List Int) : Int := atM ms 44 (uN ms)
def uK (cs ms : List Int) (n : Nat) : List Bool := tab n fun i => ((i : Int) == uF ms) || decide (atM cs i 3 > 0)
def uA (n s i : Nat) : Nat := i - s
def uB (n s i : Nat) : Nat := min (n - 1) (i + s)
def uLo (xs : List Nat) (s i m : Nat) : Nat := accN (fun j a => fmin .f32 a (xs.getD (uA xs.length s i + j) 0)) m (xs.getD i 0)
def uHi (xs : List Nat) (s i m : Nat) : Nat := accN (fun j a => fmax .f32 a (xs.getD (uA xs.length s i + j) 0)) m (xs.getD i 0)

-- FN laws_FnUndone
/-- laws.FnUndone: slots 466, results [.t 4]; calls [43:gq0, 45:gq1, 49:gq2, 53:gq1, 58:gq3, 66:gq4, 71:gq5, 76:gq3, 125:gq6, 140:gq6, 146:gq1, 151:gq7, 157:gq8, 203:gq6, 207:gq1, 211:gq9, 217:gq10, 342:gq1, 355:gq1, 363:gq11]; names [(code, 0), (more, 1), (code, 2), (more, 3), (n, 5), (list, 6), (lag, 7), (differences, 8), (one, 9), (undone, 10), (two, 11), (sums, 12), (three, 13), (back, 14), (four, 15), (i, 16), (size, 17), (joined, 18), (five, 19), (thin, 20), (six, 21), (side, 22), (means, 23), (seven, 24), (medians, 25), (eight, 26), (i, 27), (low, 28), (high, 29), (k, 30), (known, 31), (first, 32), (i, 33), (filled, 34), (nine, 35), (i, 36), (before, 37), (behind, 38), (low, 39), (high, 40)] -/
def ps_laws_FnUndone : List Nat := [0, 1, 4, 5, 6, 7, 8, 9, 10, 11, 12, 13, 14, 15, 16, 17, 18, 19, 20, 21, 22, 23, 24, 25, 26, 27, 28, 29, 30, 31, 32, 33, 34, 35, 36, 37, 38, 39, 40, 43, 111, 114, 143, 205, 237, 240, 262, 338, 345, 373, 376, 382, 391, 401, 414, 418, 433, 465]
def lv_laws_FnUndone_L0 : List Nat := [0, 1, 5, 6, 10, 12, 14, 16]
def lv_laws_FnUndone_L2 : List Nat := [0, 1, 5, 6, 22, 23, 25, 27]
def lv_laws_FnUndone_L4 : List Nat := [0, 1, 5, 6, 22, 23, 25, 27, 28, 29, 30]
def lv_laws_FnUndone_L6 : List Nat := [0, 5, 6, 31, 32, 33]
def lv_laws_FnUndone_L8 : List Nat := [5, 6, 31, 34, 36]
def lv_laws_FnUndone_L10 : List Nat := [5, 6, 31, 34, 36, 37]
def lv_laws_FnUndone_L12 : List Nat := [5, 6, 31, 34, 36, 37, 38]
def b_laws_FnUndone_L0 (gq0 gq1 gq2 gq3 gq4 gq5 gq6 gq7 gq8 gq9 gq10 gq11 : FuncId) : VCode :=
 (.seq
 (.seq
 (.region false [
 ⟨some 112, .mv, [.t 16], none⟩,
 ⟨some 113, .mv, [.t 5], none⟩,
 ⟨some 114, (.bin .lss), [.t 112, .t 113], none⟩])
 (.cond (.t 114)
 .skip
 (.exit 0)))
 (.seq
 (.block 1
 (.seq
 (.region true [
 ⟨some 117, .mv, [.t 10], none⟩,
 ⟨some 118, .mv, [.t 16], none⟩,
 ⟨some 119, .iaddr, [.t 117, .t 118], none⟩,
 ⟨some 120, .load, [.t 119], none⟩,
 ⟨some 121, .mv, [.t 6], none⟩,
 ⟨some 122, .mv, [.t 16], none⟩,
 ⟨some 123, .iaddr, [.t 121, .t 122], none⟩,
 ⟨some 124, .load, [.t 123], none⟩,
 ⟨some 125, (.call gq6), [.t 120, .t 124], none⟩,
 ⟨some 126, (.bin .gtr), [.t 125, .k (.f .f64 4562254508917369340)], none⟩,
 ⟨some 127, .mv, [.t 126], none⟩,
 ⟨some 128, .mv, [.t 16], some (127, false)⟩,
 ⟨some 129, (.bin .gtr), [.t 128, .k (.i .i64 0)], some (127, false)⟩,
 ⟨some 130, .mv, [.t 129], some (127, false)⟩,
 ⟨some 131, .mv, [.t 14], some (130, true)⟩,
 ⟨some 132, .mv, [.t 16], some (130, true)⟩,
 ⟨some 133, (.bin .sub), [.t 132, .k (.i .i64 1)], some (130, true)⟩,
 ⟨some 134, .iaddr, [.t 131, .t 133], some (130, true)⟩,
 ⟨some 135, .load, [.t 134], some (130, true)⟩,
 ⟨some 136, .mv, [.t 6], some (130, true)⟩,
 ⟨some 137, .mv, [.t 16], some (130, true)⟩,
 ⟨some 138, .iaddr, [.t 136, .t 137], some (130, true)⟩,
 ⟨some 139, .load, [.t 138], some (130, true)⟩,
 ⟨some 140, (.call gq6), [.t 135, .t 139], some (130, true)⟩,
 ⟨some 141, (.bin .gtr), [.t 140, .k (.f .f64 4562254508917369340)], some (130, true)⟩,
 ⟨some 142, .pick, [.t 130, .t 141, .k (.b false)], some (127, false)⟩,
 ⟨some 143, .pick, [.t 127, .k (.b true), .t 142], none⟩])
 (.cond (.t 143)
 (.seq
 (.region false [
 ⟨some 4, .mv, [.k (.b false)], none⟩])
 .ret)
 .skip)))
 (.region false [
 ⟨some 115, .mv, [.t 16], none⟩,
 ⟨some 116, (.bin .add), [.t 115, .k (.i .i64 1)], none⟩,
 ⟨some 16, .mv, [.t 116], none⟩])))

def b_laws_FnUndone_L4 (gq0 gq1 gq2 gq3 gq4 gq5 gq6 gq7 gq8 gq9 gq10 gq11 : FuncId) : VCode :=
 (.seq
 (.seq
 (.region false [
 ⟨some 255, .mv, [.t 30], none⟩,
 ⟨some 256, .mv, [.t 5], none⟩,
 ⟨some 257, (.bin .sub), [.t 256, .k (.i .i64 1)], none⟩,
 ⟨some 258, .mv, [.t 27], none⟩,
 ⟨some 259, .mv, [.t 22], none⟩,
 ⟨some 260, (.bin .add), [.t 258, .t 259], none⟩,
 ⟨some 261, .min, [.t 257, .t 260], none⟩,
 ⟨some 262, (.bin .leq), [.t 255, .t 261], none⟩])
 (.cond (.t 262)
 .skip
 (.exit 4)))
 (.seq
 (.block 5
 (.seq
 (.region false [
 ⟨some 265, .mv, [.t 28], none⟩,
 ⟨some 266, .mv, [.t 6], none⟩,
 ⟨some 267, .mv, [.t 30], none⟩,
 ⟨some 268, .iaddr, [.t 266, .t 267], none⟩,
 ⟨some 269, .load, [.t 268], none⟩,
 ⟨some 270, .min, [.t 265, .t 269], none⟩,
 ⟨some 28, .mv, [.t 270], none⟩])
 (.region false [
 ⟨some 271, .mv, [.t 29], none⟩,
 ⟨some 272, .mv, [.t 6], none⟩,
 ⟨some 273, .mv, [.t 30], none⟩,
 ⟨some 274, .iaddr, [.t 272, .t 273], none⟩,
 ⟨some 275, .load, [.t 274], none⟩,
 ⟨some 276, .max, [.t 271, .t 275], none⟩,
 ⟨some 29, .mv, [.t 276], none⟩])))
 (.region false [
 ⟨some 263, .mv, [.t 30], none⟩,
 ⟨some 264, (.bin .add), [.t 263, .k (.i .i64 1)], none⟩,
 ⟨some 30, .mv, [.t 264], none⟩])))

def b_laws_FnUndone_L2 (gq0 gq1 gq2 gq3 gq4 gq5 gq6 gq7 gq8 gq9 gq10 gq11 : FuncId) : VCode :=
 (.seq
 (.seq
 (.region false [
 ⟨some 238, .mv, [.t 27], none⟩,
 ⟨some 239, .mv, [.t 5], none⟩,
 ⟨some 240, (.bin .lss), [.t 238, .t 239], none⟩])
 (.cond (.t 240)
 .skip
 (.exit 2)))
 (.seq
 (.block 3
 (.seq
 (.region false [
 ⟨some 243, .mv, [.t 6], none⟩,
 ⟨some 244, .mv, [.t 27], none⟩,
 ⟨some 245, .iaddr, [.t 243, .t 244], none⟩,
 ⟨some 246, .load, [.t 245], none⟩,
 ⟨some 28, .mv, [.t 246], none⟩])
 (.seq
 (.region false [
 ⟨some 247, .mv, [.t 6], none⟩,
 ⟨some 248, .mv, [.t 27], none⟩,
 ⟨some 249, .iaddr, [.t 247, .t 248], none⟩,
 ⟨some 250, .load, [.t 249], none⟩,
 ⟨some 29, .mv, [.t 250], none⟩])
 (.seq
 (.seq
 (.region false [
 ⟨some 251, .mv, [.t 27], none⟩,
 ⟨some 252, .mv, [.t 22], none⟩,
 ⟨some 253, (.bin .sub), [.t 251, .t 252], none⟩,
 ⟨some 254, .max, [.k (.i .i64 0), .t 253], none⟩,
 ⟨some 30, .mv, [.t 254], none⟩])
 (.block 4 (.loop (b_laws_FnUndone_L4 gq0 gq1 gq2 gq3 gq4 gq5 gq6 gq7 gq8 gq9 gq10 gq11))))
 (.seq
 (.region true [
 ⟨some 277, .mv, [.t 23], none⟩,
 ⟨some 278, .mv, [.t 27], none⟩,
 ⟨some 279, .iaddr, [.t 277, .t 278], none⟩,
 ⟨some 280, .load, [.t 279], none⟩,
 ⟨some 281, (.convF .f64), [.t 280], none⟩,
 ⟨some 282, .mv, [.t 28], none⟩,
 ⟨some 283, (.convF .f64), [.t 282], none⟩,
 ⟨some 284, (.bin .sub), [.t 283, .k (.f .f64 4562254508917369340)], none⟩,
 ⟨some 285, (.bin .lss), [.t 281, .t 284], none⟩,
 ⟨some 286, .mv, [.t 285], none⟩,
 ⟨some 287, .mv, [.t 23], some (286, false)⟩,
 ⟨some 288, .mv, [.t 27], some (286, false)⟩,
 ⟨some 289, .iaddr, [.t 287, .t 288], some (286, false)⟩,
 ⟨some 290, .load, [.t 289], some (286, false)⟩,
 ⟨some 291, (.convF .f64), [.t 290], some (286, false)⟩,
 ⟨some 292, .mv, [.t 29], some (286, false)⟩,
 ⟨some 293, (.convF .f64), [.t 292], some (286, false)⟩,
 ⟨some 294, (.bin .add), [.t 293, .k (.f .f64 4562254508917369340)], some (286, false)⟩,
 ⟨some 295, (.bin .gtr), [.t 291, .t 294], some (286, false)⟩,
 ⟨some 296, .pick, [.t 286, .k (.b true), .t 295], none⟩,
 ⟨some 297, .mv, [.t 296], none⟩,
 ⟨some 298, .mv, [.t 25], some (297, false)⟩,
 ⟨some 299, .mv, [.t 27], some (297, false)⟩,
 ⟨some 300, .iaddr, [.t 298, .t 299], some (297, false)⟩,
 ⟨some 301, .load, [.t 300], some (297, false)⟩,
 ⟨some 302, .mv, [.t 28], some (297, false)⟩,
 ⟨some 303, (.bin .lss), [.t 301, .t 302], some (297, false)⟩,
 ⟨some 304, .pick, [.t 297, .k (.b true), .t 303], none⟩,
 ⟨some 305, .mv, [.t 304], none⟩,
 ⟨some 306, .mv, [.t 25], some (305, false)⟩,
 ⟨some 307, .mv, [.t 27], some (305, false)⟩,
 ⟨some 308, .iaddr, [.t 306, .t 307], some (305, false)⟩,
 ⟨some 309, .load, [.t 308], some (305, false)⟩,
 ⟨some 310, .mv, [.t 29], some (305, false)⟩,
 ⟨some 311, (.bin .gtr), [.t 309, .t 310], some (305, false)⟩,
 ⟨some 312, .pick, [.t 305, .k (.b true), .t 311], none⟩,
 ⟨some 313, .mv, [.t 312], none⟩,
 ⟨some 314, .mv, [.t 22], some (313, false)⟩,
 ⟨some 315, (.bin .eql), [.t 314, .k (.i .i64 0)], some (313, false)⟩,
 ⟨some 316, .mv, [.t 315], some (313, false)⟩,
 ⟨some 317, .mv, [.t 23], some (316, true)⟩,
 ⟨some 318, .mv, [.t 27], some (316, true)⟩,
 ⟨some 319, .iaddr, [.t 317, .t 318], some (316, true)⟩,
 ⟨some 320, .load, [.t 319], some (316, true)⟩,
 ⟨some 321, .mv, [.t 6], some (316, true)⟩,
 ⟨some 322, .mv, [.t 27], some (316, true)⟩,
 ⟨some 323, .iaddr, [.t 321, .t 322], some (316, true)⟩,
 ⟨some 324, .load, [.t 323], some (316, true)⟩,
 ⟨some 325, (.bin .neq), [.t 320, .t 324], some (316, true)⟩,
 ⟨some 326, .mv, [.t 325], some (316, true)⟩,
 ⟨some 327, .mv, [.t 25], some (326, false)⟩,
 ⟨some 328, .mv, [.t 27], some (326, false)⟩,
 ⟨some 329, .iaddr, [.t 327, .t 328], some (326, false)⟩,
 ⟨some 330, .load, [.t 329], some (326, false)⟩,
 ⟨some 331, .mv, [.t 6], some (326, false)⟩,
 ⟨some 332, .mv, [.t 27], some (326, false)⟩,
 ⟨some 333, .iaddr, [.t 331, .t 332], some (326, false)⟩,
 ⟨some 334, .load, [.t 333], some (326, false)⟩,
 ⟨some 335, (.bin .neq), [.t 330, .t 334], some (326, false)⟩,
 ⟨some 336, .pick, [.t 326, .k (.b true), .t 335], some (316, true)⟩,
 ⟨some 337, .pick, [.t 316, .t 336, .k (.b false)], some (313, false)⟩,
 ⟨some 338, .pick, [.t 313, .k (.b true), .t 337], none⟩])
 (.cond (.t 338)
 (.seq
 (.region false [
 ⟨some 4, .mv, [.k (.b false)], none⟩])
 .ret)
 .skip))))))
 (.region false [
 ⟨some 241, .mv, [.t 27], none⟩,
 ⟨some 242, (.bin .add), [.t 241, .k (.i .i64 1)], none⟩,
 ⟨some 27, .mv, [.t 242], none⟩])))

def b_laws_FnUndone_L6 (gq0 gq1 gq2 gq3 gq4 gq5 gq6 gq7 gq8 gq9 gq10 gq11 : FuncId) : VCode :=
 (.seq
 (.seq
 (.region false [
 ⟨some 343, .mv, [.t 33], none⟩,
 ⟨some 344, .mv, [.t 5], none⟩,
 ⟨some 345, (.bin .lss), [.t 343, .t 344], none⟩])
 (.cond (.t 345)
 .skip
 (.exit 6)))
 (.seq
 (.block 7
 (.region false [
 ⟨some 348, .mv, [.t 31], none⟩,
 ⟨some 349, .mv, [.t 33], none⟩,
 ⟨some 350, .mv, [.t 32], none⟩,
 ⟨some 351, (.bin .eql), [.t 349, .t 350], none⟩,
 ⟨some 352, .mv, [.t 351], none⟩,
 ⟨some 353, .mv, [.t 0], some (352, false)⟩,
 ⟨some 354, .mv, [.t 33], some (352, false)⟩,
 ⟨some 355, (.call gq1), [.t 353, .t 354, .k (.i .i64 3)], some (352, false)⟩,
 ⟨some 356, (.bin .gtr), [.t 355, .k (.i .i64 0)], some (352, false)⟩,
 ⟨some 357, .pick, [.t 352, .k (.b true), .t 356], none⟩,
 ⟨some 358, (.lit true (.b [])), [.t 357], none⟩,
 ⟨some 359, .app, [.t 348, .t 358], none⟩,
 ⟨some 31, .mv, [.t 359], none⟩]))
 (.region false [
 ⟨some 346, .mv, [.t 33], none⟩,
 ⟨some 347, (.bin .add), [.t 346, .k (.i .i64 1)], none⟩,
 ⟨some 33, .mv, [.t 347], none⟩])))

def b_laws_FnUndone_L10 (gq0 gq1 gq2 gq3 gq4 gq5 gq6 gq7 gq8 gq9 gq10 gq11 : FuncId) : VCode :=
 (.seq
 (.seq
 (.region false [
 ⟨some 393, .mv, [.t 37], none⟩,
 ⟨some 394, (.bin .geq), [.t 393, .k (.i .i64 0)], none⟩,
 ⟨some 395, .mv, [.t 394], none⟩,
 ⟨some 396, .mv, [.t 31], some (395, true)⟩,
 ⟨some 397, .mv, [.t 37], some (395, true)⟩,
 ⟨some 398, .iaddr, [.t 396, .t 397], some (395, true)⟩,
 ⟨some 399, .load, [.t 398], some (395, true)⟩,
 ⟨some 400, .not, [.t 399], some (395, true)⟩,
 ⟨some 401, .pick, [.t 395, .t 400, .k (.b false)], none⟩])
 (.cond (.t 401)
 .skip
 (.exit 10)))
 (.block 11
 (.region false [
 ⟨some 402, .mv, [.t 37], none⟩,
 ⟨some 403, (.bin .sub), [.t 402, .k (.i .i64 1)], none⟩,
 ⟨some 37, .mv, [.t 403], none⟩])))

def b_laws_FnUndone_L12 (gq0 gq1 gq2 gq3 gq4 gq5 gq6 gq7 gq8 gq9 gq10 gq11 : FuncId) : VCode :=
 (.seq
 (.seq
 (.region false [
 ⟨some 405, .mv, [.t 38], none⟩,
 ⟨some 406, .mv, [.t 5], none⟩,
 ⟨some 407, (.bin .lss), [.t 405, .t 406], none⟩,
 ⟨some 408, .mv, [.t 407], none⟩,
 ⟨some 409, .mv, [.t 31], some (408, true)⟩,
 ⟨some 410, .mv, [.t 38], some (408, true)⟩,
 ⟨some 411, .iaddr, [.t 409, .t 410], some (408, true)⟩,
 ⟨some 412, .load, [.t 411], some (408, true)⟩,
 ⟨some 413, .not, [.t 412], some (408, true)⟩,
 ⟨some 414, .pick, [.t 408, .t 413, .k (.b false)], none⟩])
 (.cond (.t 414)
 .skip
 (.exit 12)))
 (.block 13
 (.region false [
 ⟨some 415, .mv, [.t 38], none⟩,
 ⟨some 416, (.bin .add), [.t 415, .k (.i .i64 1)], none⟩,
 ⟨some 38, .mv, [.t 416], none⟩])))

def b_laws_FnUndone_L8 (gq0 gq1 gq2 gq3 gq4 gq5 gq6 gq7 gq8 gq9 gq10 gq11 : FuncId) : VCode :=
 (.seq
 (.seq
 (.region false [
 ⟨some 374, .mv, [.t 36], none⟩,
 ⟨some 375, .mv, [.t 5], none⟩,
 ⟨some 376, (.bin .lss), [.t 374, .t 375], none⟩])
 (.cond (.t 376)
 .skip
 (.exit 8)))
 (.seq
 (.block 9
 (.seq
 (.seq
 (.region false [
 ⟨some 379, .mv, [.t 31], none⟩,
 ⟨some 380, .mv, [.t 36], none⟩,
 ⟨some 381, .iaddr, [.t 379, .t 380], none⟩,
 ⟨some 382, .load, [.t 381], none⟩])
 (.cond (.t 382)
 (.seq
 (.seq
 (.region true [
 ⟨some 383, .mv, [.t 34], none⟩,
 ⟨some 384, .mv, [.t 36], none⟩,
 ⟨some 385, .iaddr, [.t 383, .t 384], none⟩,
 ⟨some 386, .load, [.t 385], none⟩,
 ⟨some 387, .mv, [.t 6], none⟩,
 ⟨some 388, .mv, [.t 36], none⟩,
 ⟨some 389, .iaddr, [.t 387, .t 388], none⟩,
 ⟨some 390, .load, [.t 389], none⟩,
 ⟨some 391, (.bin .neq), [.t 386, .t 390], none⟩])
 (.cond (.t 391)
 (.seq
 (.region false [
 ⟨some 4, .mv, [.k (.b false)], none⟩])
 .ret)
 .skip))
 (.exit 9))
 .skip))
 (.seq
 (.region false [
 ⟨some 392, .mv, [.t 36], none⟩,
 ⟨some 37, .mv, [.t 392], none⟩])
 (.seq
 (.block 10 (.loop (b_laws_FnUndone_L10 gq0 gq1 gq2 gq3 gq4 gq5 gq6 gq7 gq8 gq9 gq10 gq11)))
 (.seq
 (.region false [
 ⟨some 404, .mv, [.t 36], none⟩,
 ⟨some 38, .mv, [.t 404], none⟩])
 (.seq
 (.block 12 (.loop (b_laws_FnUndone_L12 gq0 gq1 gq2 gq3 gq4 gq5 gq6 gq7 gq8 gq9 gq10 gq11)))
 (.seq
 (.region false [
 ⟨some 39, .mv, [.k (.f .f32 1232348160)], none⟩])
 (.seq
 (.region false [
 ⟨some 40, .mv, [.k (.f .f32 3379831808)], none⟩])
 (.seq
 (.seq
 (.region false [
 ⟨some 417, .mv, [.t 37], none⟩,
 ⟨some 418, (.bin .geq), [.t 417, .k (.i .i64 0)], none⟩])
 (.cond (.t 418)
 (.seq
 (.region false [
 ⟨some 419, .mv, [.t 39], none⟩,
 ⟨some 420, .mv, [.t 6], none⟩,
 ⟨some 421, .mv, [.t 37], none⟩,
 ⟨some 422, .iaddr, [.t 420, .t 421], none⟩,
 ⟨some 423, .load, [.t 422], none⟩,
 ⟨some 424, .min, [.t 419, .t 423], none⟩,
 ⟨some 39, .mv, [.t 424], none⟩])
 (.region false [
 ⟨some 425, .mv, [.t 40], none⟩,
 ⟨some 426, .mv, [.t 6], none⟩,
 ⟨some 427, .mv, [.t 37], none⟩,
 ⟨some 428, .iaddr, [.t 426, .t 427], none⟩,
 ⟨some 429, .load, [.t 428], none⟩,
 ⟨some 430, .max, [.t 425, .t 429], none⟩,
 ⟨some 40, .mv, [.t 430], none⟩]))
 .skip))
 (.seq
 (.seq
 (.region false [
 ⟨some 431, .mv, [.t 38], none⟩,
 ⟨some 432, .mv, [.t 5], none⟩,
 ⟨some 433, (.bin .lss), [.t 431, .t 432], none⟩])
 (.cond (.t 433)
 (.seq
 (.region false [
 ⟨some 434, .mv, [.t 39], none⟩,
 ⟨some 435, .mv, [.t 6], none⟩,
 ⟨some 436, .mv, [.t 38], none⟩,
 ⟨some 437, .iaddr, [.t 435, .t 436], none⟩,
 ⟨some 438, .load, [.t 437], none⟩,
 ⟨some 439, .min, [.t 434, .t 438], none⟩,
 ⟨some 39, .mv, [.t 439], none⟩])
 (.region false [
 ⟨some 440, .mv, [.t 40], none⟩,
 ⟨some 441, .mv, [.t 6], none⟩,
 ⟨some 442, .mv, [.t 38], none⟩,
 ⟨some 443, .iaddr, [.t 441, .t 442], none⟩,
 ⟨some 444, .load, [.t 443], none⟩,
 ⟨some 445, .max, [.t 440, .t 444], none⟩,
 ⟨some 40, .mv, [.t 445], none⟩]))
 .skip))
 (.seq
 (.region false [
 ⟨some 446, .mv, [.t 34], none⟩,
 ⟨some 447, .mv, [.t 36], none⟩,
 ⟨some 448, .iaddr, [.t 446, .t 447], none⟩,
 ⟨some 449, .load, [.t 448], none⟩,
 ⟨some 450, (.convF .f64), [.t 449], none⟩,
 ⟨some 451, .mv, [.t 39], none⟩,
 ⟨some 452, (.convF .f64), [.t 451], none⟩,
 ⟨some 453, (.bin .sub), [.t 452, .k (.f .f64 4562254508917369340)], none⟩,
 ⟨some 454, (.bin .lss), [.t 450, .t 453], none⟩,
 ⟨some 455, .mv, [.t 454], none⟩,
 ⟨some 456, .mv, [.t 34], some (455, false)⟩,
 ⟨some 457, .mv, [.t 36], some (455, false)⟩,
 ⟨some 458, .iaddr, [.t 456, .t 457], some (455, false)⟩,
 ⟨some 459, .load, [.t 458], some (455, false)⟩,
 ⟨some 460, (.convF .f64), [.t 459], some (455, false)⟩,
 ⟨some 461, .mv, [.t 40], some (455, false)⟩,
 ⟨some 462, (.convF .f64), [.t 461], some (455, false)⟩,
 ⟨some 463, (.bin .add), [.t 462, .k (.f .f64 4562254508917369340)], some (455, false)⟩,
 ⟨some 464, (.bin .gtr), [.t 460, .t 463], some (455, false)⟩,
 ⟨some 465, .pick, [.t 455, .k (.b true), .t 464], none⟩])
 (.cond (.t 465)
 (.seq
 (.region false [
 ⟨some 4, .mv, [.k (.b false)], none⟩])
 .ret)
 .skip))))))))))))
 (.region false [
 ⟨some 377, .mv, [.t 36], none⟩,
 ⟨some 378, (.bin .add), [.t 377, .k (.i .i64 1)], none⟩,
 ⟨some 36, .mv, [.t 378], none⟩])))

def b_laws_FnUndone (gq0 gq1 gq2 gq3 gq4 gq5 gq6 gq7 gq8 gq9 gq10 gq11 : FuncId) : VCode :=
 (.seq
 (.region false [
 ⟨some 4, .mv, [.k (.b false)], none⟩])
 (.seq
 (.seq
 (.region false [
 ⟨some 41, .mv, [.t 0], none⟩,
 ⟨some 42, .mv, [.t 1], none⟩,
 ⟨some 43, (.call gq0), [.t 41, .t 42], none⟩])
 (.cond (.t 43)
 (.seq
 (.region false [
 ⟨some 4, .mv, [.k (.b true)], none⟩])
 .ret)
 .skip))
 (.seq
 (.region false [
 ⟨some 44, .mv, [.t 1], none⟩,
 ⟨some 45, (.call gq1), [.t 44, .k (.i .i64 40), .k (.i .i64 20)], none⟩,
 ⟨some 46, (.bin .add), [.k (.i .i64 2), .t 45], none⟩,
 ⟨some 5, .mv, [.t 46], none⟩])
 (.seq
 (.region false [
 ⟨some 47, .mv, [.t 0], none⟩,
 ⟨some 48, .mv, [.t 5], none⟩,
 ⟨some 49, (.call gq2), [.t 47, .t 48], none⟩,
 ⟨some 6, .mv, [.t 49], none⟩])
 (.seq
 (.region false [
 ⟨some 50, .mv, [.t 1], none⟩,
 ⟨some 51, .mv, [.t 5], none⟩,
 ⟨some 52, (.bin .sub), [.t 51, .k (.i .i64 1)], none⟩,
 ⟨some 53, (.call gq1), [.t 50, .k (.i .i64 41), .t 52], none⟩,
 ⟨some 54, (.bin .add), [.k (.i .i64 1), .t 53], none⟩,
 ⟨some 7, .mv, [.t 54], none⟩])
 (.seq
 (.region false [
 ⟨some 56, .mv, [.t 6], none⟩,
 ⟨some 57, .mv, [.t 7], none⟩,
 ⟨some 58, (.call gq3), [.t 56, .t 57], none⟩,
 ⟨some 55, .mv, [.t 58], none⟩,
 ⟨some 59, (.extract 0), [.t 55], none⟩,
 ⟨some 60, (.extract 1), [.t 55], none⟩,
 ⟨some 8, .mv, [.t 59], none⟩,
 ⟨some 9, .mv, [.t 60], none⟩])
 (.seq
 (.region false [
 ⟨some 62, .mv, [.t 6], none⟩,
 ⟨some 63, .mv, [.t 7], none⟩,
 ⟨some 64, (.slice false true false), [.t 62, .t 63], none⟩,
 ⟨some 65, .mv, [.t 8], none⟩,
 ⟨some 66, (.call gq4), [.t 64, .t 65], none⟩,
 ⟨some 61, .mv, [.t 66], none⟩,
 ⟨some 67, (.extract 0), [.t 61], none⟩,
 ⟨some 68, (.extract 1), [.t 61], none⟩,
 ⟨some 10, .mv, [.t 67], none⟩,
 ⟨some 11, .mv, [.t 68], none⟩])
 (.seq
 (.region false [
 ⟨some 70, .mv, [.t 6], none⟩,
 ⟨some 71, (.call gq5), [.t 70], none⟩,
 ⟨some 69, .mv, [.t 71], none⟩,
 ⟨some 72, (.extract 0), [.t 69], none⟩,
 ⟨some 73, (.extract 1), [.t 69], none⟩,
 ⟨some 12, .mv, [.t 72], none⟩,
 ⟨some 13, .mv, [.t 73], none⟩])
 (.seq
 (.region false [
 ⟨some 75, .mv, [.t 12], none⟩,
 ⟨some 76, (.call gq3), [.t 75, .k (.i .i64 1)], none⟩,
 ⟨some 74, .mv, [.t 76], none⟩,
 ⟨some 77, (.extract 0), [.t 74], none⟩,
 ⟨some 78, (.extract 1), [.t 74], none⟩,
 ⟨some 14, .mv, [.t 77], none⟩,
 ⟨some 15, .mv, [.t 78], none⟩])
 (.seq
 (.seq
 (.region false [
 ⟨some 79, .mv, [.t 9], none⟩,
 ⟨some 80, .not, [.t 79], none⟩,
 ⟨some 81, .mv, [.t 80], none⟩,
 ⟨some 82, .mv, [.t 11], some (81, false)⟩,
 ⟨some 83, .not, [.t 82], some (81, false)⟩,
 ⟨some 84, .pick, [.t 81, .k (.b true), .t 83], none⟩,
 ⟨some 85, .mv, [.t 84], none⟩,
 ⟨some 86, .mv, [.t 13], some (85, false)⟩,
 ⟨some 87, .not, [.t 86], some (85, false)⟩,
 ⟨some 88, .pick, [.t 85, .k (.b true), .t 87], none⟩,
 ⟨some 89, .mv, [.t 88], none⟩,
 ⟨some 90, .mv, [.t 15], some (89, false)⟩,
 ⟨some 91, .not, [.t 90], some (89, false)⟩,
 ⟨some 92, .pick, [.t 89, .k (.b true), .t 91], none⟩,
 ⟨some 93, .mv, [.t 92], none⟩,
 ⟨some 94, .mv, [.t 10], some (93, false)⟩,
 ⟨some 95, .len, [.t 94], some (93, false)⟩,
 ⟨some 96, .mv, [.t 5], some (93, false)⟩,
 ⟨some 97, (.bin .neq), [.t 95, .t 96], some (93, false)⟩,
 ⟨some 98, .pick, [.t 93, .k (.b true), .t 97], none⟩,
 ⟨some 99, .mv, [.t 98], none⟩,
 ⟨some 100, .mv, [.t 12], some (99, false)⟩,
 ⟨some 101, .len, [.t 100], some (99, false)⟩,
 ⟨some 102, .mv, [.t 5], some (99, false)⟩,
 ⟨some 103, (.bin .neq), [.t 101, .t 102], some (99, false)⟩,
 ⟨some 104, .pick, [.t 99, .k (.b true), .t 103], none⟩,
 ⟨some 105, .mv, [.t 104], none⟩,
 ⟨some 106, .mv, [.t 14], some (105, false)⟩,
 ⟨some 107, .len, [.t 106], some (105, false)⟩,
 ⟨some 108, .mv, [.t 5], some (105, false)⟩,
 ⟨some 109, (.bin .sub), [.t 108, .k (.i .i64 1)], some (105, false)⟩,
 ⟨some 110, (.bin .neq), [.t 107, .t 109], some (105, false)⟩,
 ⟨some 111, .pick, [.t 105, .k (.b true), .t 110], none⟩])
 (.cond (.t 111)
 (.seq
 (.region false [
 ⟨some 4, .mv, [.k (.b false)], none⟩])
 .ret)
 .skip))
 (.seq
 (.seq
 (.region false [
 ⟨some 16, .mv, [.k (.i .i64 0)], none⟩])
 (.block 0 (.loop (b_laws_FnUndone_L0 gq0 gq1 gq2 gq3 gq4 gq5 gq6 gq7 gq8 gq9 gq10 gq11))))
 (.seq
 (.region false [
 ⟨some 144, .mv, [.t 1], none⟩,
 ⟨some 145, .mv, [.t 5], none⟩,
 ⟨some 146, (.call gq1), [.t 144, .k (.i .i64 42), .t 145], none⟩,
 ⟨some 147, (.bin .add), [.k (.i .i64 1), .t 146], none⟩,
 ⟨some 17, .mv, [.t 147], none⟩])
 (.seq
 (.region false [
 ⟨some 149, .mv, [.t 6], none⟩,
 ⟨some 150, .mv, [.t 17], none⟩,
 ⟨some 151, (.call gq7), [.t 149, .t 150], none⟩,
 ⟨some 148, .mv, [.t 151], none⟩,
 ⟨some 152, (.extract 0), [.t 148], none⟩,
 ⟨some 153, (.extract 1), [.t 148], none⟩,
 ⟨some 18, .mv, [.t 152], none⟩,
 ⟨some 19, .mv, [.t 153], none⟩])
 (.seq
 (.region false [
 ⟨some 155, .mv, [.t 6], none⟩,
 ⟨some 156, .mv, [.t 17], none⟩,
 ⟨some 157, (.call gq8), [.t 155, .t 156], none⟩,
 ⟨some 154, .mv, [.t 157], none⟩,
 ⟨some 158, (.extract 0), [.t 154], none⟩,
 ⟨some 159, (.extract 1), [.t 154], none⟩,
 ⟨some 20, .mv, [.t 158], none⟩,
 ⟨some 21, .mv, [.t 159], none⟩])
 (.seq
 (.seq
 (.region true [
 ⟨some 160, .mv, [.t 19], none⟩,
 ⟨some 161, .not, [.t 160], none⟩,
 ⟨some 162, .mv, [.t 161], none⟩,
 ⟨some 163, .mv, [.t 21], some (162, false)⟩,
 ⟨some 164, .not, [.t 163], some (162, false)⟩,
 ⟨some 165, .pick, [.t 162, .k (.b true), .t 164], none⟩,
 ⟨some 166, .mv, [.t 165], none⟩,
 ⟨some 167, .mv, [.t 18], some (166, false)⟩,
 ⟨some 168, .len, [.t 167], some (166, false)⟩,
 ⟨some 169, .mv, [.t 5], some (166, false)⟩,
 ⟨some 170, .mv, [.t 17], some (166, false)⟩,
 ⟨some 171, (.bin .quo), [.t 169, .t 170], some (166, false)⟩,
 ⟨some 172, (.bin .neq), [.t 168, .t 171], some (166, false)⟩,
 ⟨some 173, .pick, [.t 166, .k (.b true), .t 172], none⟩,
 ⟨some 174, .mv, [.t 173], none⟩,
 ⟨some 175, .mv, [.t 20], some (174, false)⟩,
 ⟨some 176, .len, [.t 175], some (174, false)⟩,
 ⟨some 177, .mv, [.t 5], some (174, false)⟩,
 ⟨some 178, .mv, [.t 17], some (174, false)⟩,
 ⟨some 179, (.bin .add), [.t 177, .t 178], some (174, false)⟩,
 ⟨some 180, (.bin .sub), [.t 179, .k (.i .i64 1)], some (174, false)⟩,
 ⟨some 181, .mv, [.t 17], some (174, false)⟩,
 ⟨some 182, (.bin .quo), [.t 180, .t 181], some (174, false)⟩,
 ⟨some 183, (.bin .neq), [.t 176, .t 182], some (174, false)⟩,
 ⟨some 184, .pick, [.t 174, .k (.b true), .t 183], none⟩,
 ⟨some 185, .mv, [.t 184], none⟩,
 ⟨some 186, .mv, [.t 20], some (185, false)⟩,
 ⟨some 187, .iaddr, [.t 186, .k (.i .i64 0)], some (185, false)⟩,
 ⟨some 188, .load, [.t 187], some (185, false)⟩,
 ⟨some 189, .mv, [.t 6], some (185, false)⟩,
 ⟨some 190, .iaddr, [.t 189, .k (.i .i64 0)], some (185, false)⟩,
 ⟨some 191, .load, [.t 190], some (185, false)⟩,
 ⟨some 192, (.bin .neq), [.t 188, .t 191], some (185, false)⟩,
 ⟨some 193, .pick, [.t 185, .k (.b true), .t 192], none⟩,
 ⟨some 194, .mv, [.t 193], none⟩,
 ⟨some 195, .mv, [.t 18], some (194, false)⟩,
 ⟨some 196, .iaddr, [.t 195, .k (.i .i64 0)], some (194, false)⟩,
 ⟨some 197, .load, [.t 196], some (194, false)⟩,
 ⟨some 198, .mv, [.t 12], some (194, false)⟩,
 ⟨some 199, .mv, [.t 17], some (194, false)⟩,
 ⟨some 200, (.bin .sub), [.t 199, .k (.i .i64 1)], some (194, false)⟩,
 ⟨some 201, .iaddr, [.t 198, .t 200], some (194, false)⟩,
 ⟨some 202, .load, [.t 201], some (194, false)⟩,
 ⟨some 203, (.call gq6), [.t 197, .t 202], some (194, false)⟩,
 ⟨some 204, (.bin .gtr), [.t 203, .k (.f .f64 4562254508917369340)], some (194, false)⟩,
 ⟨some 205, .pick, [.t 194, .k (.b true), .t 204], none⟩])
 (.cond (.t 205)
 (.seq
 (.region false [
 ⟨some 4, .mv, [.k (.b false)], none⟩])
 .ret)
 .skip))
 (.seq
 (.region false [
 ⟨some 206, .mv, [.t 1], none⟩,
 ⟨some 207, (.call gq1), [.t 206, .k (.i .i64 43), .k (.i .i64 6)], none⟩,
 ⟨some 22, .mv, [.t 207], none⟩])
 (.seq
 (.region false [
 ⟨some 209, .mv, [.t 6], none⟩,
 ⟨some 210, .mv, [.t 22], none⟩,
 ⟨some 211, (.call gq9), [.t 209, .t 210], none⟩,
 ⟨some 208, .mv, [.t 211], none⟩,
 ⟨some 212, (.extract 0), [.t 208], none⟩,
 ⟨some 213, (.extract 1), [.t 208], none⟩,
 ⟨some 23, .mv, [.t 212], none⟩,
 ⟨some 24, .mv, [.t 213], none⟩])
 (.seq
 (.region false [
 ⟨some 215, .mv, [.t 6], none⟩,
 ⟨some 216, .mv, [.t 22], none⟩,
 ⟨some 217, (.call gq10), [.t 215, .t 216], none⟩,
 ⟨some 214, .mv, [.t 217], none⟩,
 ⟨some 218, (.extract 0), [.t 214], none⟩,
 ⟨some 219, (.extract 1), [.t 214], none⟩,
 ⟨some 25, .mv, [.t 218], none⟩,
 ⟨some 26, .mv, [.t 219], none⟩])
 (.seq
 (.seq
 (.region false [
 ⟨some 220, .mv, [.t 24], none⟩,
 ⟨some 221, .not, [.t 220], none⟩,
 ⟨some 222, .mv, [.t 221], none⟩,
 ⟨some 223, .mv, [.t 26], some (222, false)⟩,
 ⟨some 224, .not, [.t 223], some (222, false)⟩,
 ⟨some 225, .pick, [.t 222, .k (.b true), .t 224], none⟩,
 ⟨some 226, .mv, [.t 225], none⟩,
 ⟨some 227, .mv, [.t 23], some (226, false)⟩,
 ⟨some 228, .len, [.t 227], some (226, false)⟩,
 ⟨some 229, .mv, [.t 5], some (226, false)⟩,
 ⟨some 230, (.bin .neq), [.t 228, .t 229], some (226, false)⟩,
 ⟨some 231, .pick, [.t 226, .k (.b true), .t 230], none⟩,
 ⟨some 232, .mv, [.t 231], none⟩,
 ⟨some 233, .mv, [.t 25], some (232, false)⟩,
 ⟨some 234, .len, [.t 233], some (232, false)⟩,
 ⟨some 235, .mv, [.t 5], some (232, false)⟩,
 ⟨some 236, (.bin .neq), [.t 234, .t 235], some (232, false)⟩,
 ⟨some 237, .pick, [.t 232, .k (.b true), .t 236], none⟩])
 (.cond (.t 237)
 (.seq
 (.region false [
 ⟨some 4, .mv, [.k (.b false)], none⟩])
 .ret)
 .skip))
 (.seq
 (.seq
 (.region false [
 ⟨some 27, .mv, [.k (.i .i64 0)], none⟩])
 (.block 2 (.loop (b_laws_FnUndone_L2 gq0 gq1 gq2 gq3 gq4 gq5 gq6 gq7 gq8 gq9 gq10 gq11))))
 (.seq
 (.region false [
 ⟨some 339, (.lit true (.b [])), [], none⟩,
 ⟨some 31, .mv, [.t 339], none⟩])
 (.seq
 (.region false [
 ⟨some 340, .mv, [.t 1], none⟩,
 ⟨some 341, .mv, [.t 5], none⟩,
 ⟨some 342, (.call gq1), [.t 340, .k (.i .i64 44), .t 341], none⟩,
 ⟨some 32, .mv, [.t 342], none⟩])
 (.seq
 (.seq
 (.region false [
 ⟨some 33, .mv, [.k (.i .i64 0)], none⟩])
 (.block 6 (.loop (b_laws_FnUndone_L6 gq0 gq1 gq2 gq3 gq4 gq5 gq6 gq7 gq8 gq9 gq10 gq11))))
 (.seq
 (.region false [
 ⟨some 361, .mv, [.t 6], none⟩,
 ⟨some 362, .mv, [.t 31], none⟩,
 ⟨some 363, (.call gq11), [.t 361, .t 362], none⟩,
 ⟨some 360, .mv, [.t 363], none⟩,
 ⟨some 364, (.extract 0), [.t 360], none⟩,
 ⟨some 365, (.extract 1), [.t 360], none⟩,
 ⟨some 34, .mv, [.t 364], none⟩,
 ⟨some 35, .mv, [.t 365], none⟩])
 (.seq
 (.seq
 (.region false [
 ⟨some 366, .mv, [.t 35], none⟩,
 ⟨some 367, .not, [.t 366], none⟩,
 ⟨some 368, .mv, [.t 367], none⟩,
 ⟨some 369, .mv, [.t 34], some (368, false)⟩,
 ⟨some 370, .len, [.t 369], some (368, false)⟩,
 ⟨some 371, .mv, [.t 5], some (368, false)⟩,
 ⟨some 372, (.bin .neq), [.t 370, .t 371], some (368, false)⟩,
 ⟨some 373, .pick, [.t 368, .k (.b true), .t 372], none⟩])
 (.cond (.t 373)
 (.seq
 (.region false [
 ⟨some 4, .mv, [.k (.b false)], none⟩])
 .ret)
 .skip))
 (.seq
 (.seq
 (.region false [
 ⟨some 36, .mv, [.k (.i .i64 0)], none⟩])
 (.block 8 (.loop (b_laws_FnUndone_L8 gq0 gq1 gq2 gq3 gq4 gq5 gq6 gq7 gq8 gq9 gq10 gq11))))
 (.seq
 (.region false [
 ⟨some 4, .mv, [.k (.b true)], none⟩])
 .ret)))))))))))))))))))))))))))

abbrev Is_laws_FnUndone (P : Program) (g_f : FuncId) (gq0 gq1 gq2 gq3 gq4 gq5 gq6 gq7 gq8 gq9 gq10 gq11 : FuncId) : Prop := FnIs P g_f 466 [.t 4] (b_laws_FnUndone gq0 gq1 gq2 gq3 gq4 gq5 gq6 gq7 gq8 gq9 gq10 gq11)

abbrev C_laws_FnUndone (P : Program) (g_f : FuncId) : Prop := ∀ (cs : List Int) (ms : List Int), VCall P g_f [PU [0] cs, PU [1] ms] (.b true)
def oc_laws_FnUndone (cs : List Int) (ms : List Int) (d : Nat) (as : List AV) : T AV := match d with | 43 => oc1_laws_r8Long as | 45 => oc1_laws_r8At as | 49 => .leaf (OS 0 .f32 (uX cs ms)) | 53 => oc1_laws_r8At as | 58 => .leaf (.tup [OS 0 .f32 (ldM (uX cs ms) (uL ms)), .b true]) | 66 => .leaf (.tup [OS 0 .f32 (udM ((uX cs ms).take (uL ms)) (ldM (uX cs ms) (uL ms)) (uN ms - uL ms)), .b true]) | 71 => .leaf (.tup [OS 0 .f32 (rsM (uX cs ms) (uN ms)), .b true]) | 76 => .leaf (.tup [OS 0 .f32 (ldM (rsM (uX cs ms) (uN ms)) 1), .b true]) | 125 => oc1_laws_r8Gap as | 140 => oc1_laws_r8Gap as | 146 => oc1_laws_r8At as | 151 => .leaf (.tup [OS 0 .f32 (jsM (uX cs ms) (uZ ms) (uN ms / uZ ms)), .b true]) | 157 => .leaf (.tup [OS 0 .f32 (thM (uX cs ms) (uZ ms) ((uN ms + uZ ms - 1) / uZ ms)), .b true]) | 203 => oc1_laws_r8Gap as | 207 => oc1_laws_r8At as | 211 => .leaf (.tup [OS 0 .f32 (movM meanM (uX cs ms) (uS ms)), .b true]) | 217 => .leaf (.tup [OS 0 .f32 (movM medM (uX cs ms) (uS ms)), .b true]) | 342 => oc1_laws_r8At as | 355 => oc1_laws_r8At as | 363 => .leaf (.tup [OS 0 .f32 (gapsM (uX cs ms) (uK cs ms (uN ms))), .b true]) | _ => .fail
def c_laws_FnUndone_1 (cs : List Int) (ms : List Int) : Env := [AV.sl (Tag.par [0]) 0 (Cont.i IntKind.u8 cs), AV.sl (Tag.par [1]) 0 (Cont.i IntKind.u8 ms), .any, .any, AV.b false, AV.i IntKind.i64 (IntKind.wrap IntKind.i64 (2 + atM ms 40 20)), AV.sl (Tag.own 392) 0 (Cont.f FloatKind.f32 (uX cs ms)), AV.i IntKind.i64 (IntKind.wrap IntKind.i64 (1 + atM ms 41 (IntKind.wrap IntKind.i64 (IntKind.wrap IntKind.i64 (2 + atM ms 40 20) - 1)))), AV.sl (Tag.own 464) 0 (Cont.f FloatKind.f32 (ldM (uX cs ms) (uL ms))), AV.b true, AV.sl (Tag.own 528) 0 (Cont.f FloatKind.f32 (udM (List.take (uL ms) (uX cs ms)) (ldM (uX cs ms) (uL ms)) (uN ms - uL ms))), AV.b true, AV.sl (Tag.own 568) 0 (Cont.f FloatKind.f32 (rsM (uX cs ms) (uN ms))), AV.b true, AV.sl (Tag.own 608) 0 (Cont.f FloatKind.f32 (ldM (rsM (uX cs ms) (uN ms)) 1)), AV.b true] ++ anys 450
def ks_laws_FnUndone_1 : List Nat := [0, 1, 4, 5, 6, 7, 8, 9, 10, 11, 12, 13, 14, 15]
def h_laws_FnUndone_L0 (cs : List Int) (ms : List Int) (i : Int) : Env := [AV.sl (Tag.par [0]) 0 (Cont.i IntKind.u8 cs), AV.sl (Tag.par [1]) 0 (Cont.i IntKind.u8 ms), .any, .any, .any, AV.i IntKind.i64 (IntKind.wrap IntKind.i64 (2 + atM ms 40 20)), AV.sl (Tag.own 392) 0 (Cont.f FloatKind.f32 (uX cs ms)), .any, .any, .any, AV.sl (Tag.own 528) 0 (Cont.f FloatKind.f32 (udM (List.take (uL ms) (uX cs ms)) (ldM (uX cs ms) (uL ms)) (uN ms - uL ms))), .any, AV.sl (Tag.own 568) 0 (Cont.f FloatKind.f32 (rsM (uX cs ms) (uN ms))), .any, AV.sl (Tag.own 608) 0 (Cont.f FloatKind.f32 (ldM (rsM (uX cs ms) (uN ms)) 1)), .any, .i IntKind.i64 i] ++ anys 449
def c_laws_FnUndone_2 (cs : List Int) (ms : List Int) : Env := [AV.sl (Tag.par [0]) 0 (Cont.i IntKind.u8 cs), AV.sl (Tag.par [1]) 0 (Cont.i IntKind.u8 ms), .any, .any, .any, AV.i IntKind.i64 (IntKind.wrap IntKind.i64 (2 + atM ms 40 20)), AV.sl (Tag.own 392) 0 (Cont.f FloatKind.f32 (uX cs ms)), .any, .any, .any, AV.sl (Tag.own 528) 0 (Cont.f FloatKind.f32 (udM (List.take (uL ms) (uX cs ms)) (ldM (uX cs ms) (uL ms)) (uN ms - uL ms))), .any, AV.sl (Tag.own 568) 0 (Cont.f FloatKind.f32 (rsM (uX cs ms) (uN ms))), .any, AV.sl (Tag.own 608) 0 (Cont.f FloatKind.f32 (ldM (rsM (uX cs ms) (uN ms)) 1)), .any, AV.i IntKind.i64 (↑(uN ms) : Int)] ++ anys 449
def ks_laws_FnUndone_2 : List Nat := [0, 1, 5, 6, 10, 12, 14, 16]
def c_laws_FnUndone_3 (cs : List Int) (ms : List Int) : Env := [AV.sl (Tag.par [0]) 0 (Cont.i IntKind.u8 cs), AV.sl (Tag.par [1]) 0 (Cont.i IntKind.u8 ms), .any, .any, .any, AV.i IntKind.i64 (IntKind.wrap IntKind.i64 (2 + atM ms 40 20)), AV.sl (Tag.own 392) 0 (Cont.f FloatKind.f32 (uX cs ms)), .any, .any, .any, AV.sl (Tag.own 528) 0 (Cont.f FloatKind.f32 (udM (List.take (uL ms) (uX cs ms)) (ldM (uX cs ms) (uL ms)) (uN ms - uL ms))), .any, AV.sl (Tag.own 568) 0 (Cont.f FloatKind.f32 (rsM (uX cs ms) (uN ms))), .any, AV.sl (Tag.own 608) 0 (Cont.f FloatKind.f32 (ldM (rsM (uX cs ms) (uN ms)) 1)), .any, AV.i IntKind.i64 (↑(uN ms) : Int), AV.i IntKind.i64 (IntKind.wrap IntKind.i64 (1 + atM ms 42 (IntKind.wrap IntKind.i64 (2 + atM ms 40 20)))), AV.sl (Tag.own 1208) 0 (Cont.f FloatKind.f32 (jsM (uX cs ms) (uZ ms) (uN ms / uZ ms))), AV.b true, AV.sl (Tag.own 1256) 0 (Cont.f FloatKind.f32 (thM (uX cs ms) (uZ ms) ((uN ms + uZ ms - 1) / uZ ms))), AV.b true] ++ anys 444
def ks_laws_FnUndone_3 : List Nat := [0, 1, 5, 6, 10, 12, 14, 16, 17, 18, 19, 20, 21]
def c_laws_FnUndone_4 (cs : List Int) (ms : List Int) : Env := [AV.sl (Tag.par [0]) 0 (Cont.i IntKind.u8 cs), AV.sl (Tag.par [1]) 0 (Cont.i IntKind.u8 ms), .any, .any, .any, AV.i IntKind.i64 (IntKind.wrap IntKind.i64 (2 + atM ms 40 20)), AV.sl (Tag.own 392) 0 (Cont.f FloatKind.f32 (uX cs ms)), .any, .any, .any, AV.sl (Tag.own 528) 0 (Cont.f FloatKind.f32 (udM (List.take (uL ms) (uX cs ms)) (ldM (uX cs ms) (uL ms)) (uN ms - uL ms))), .any, AV.sl (Tag.own 568) 0 (Cont.f FloatKind.f32 (rsM (uX cs ms) (uN ms))), .any, AV.sl (Tag.own 608) 0 (Cont.f FloatKind.f32 (ldM (rsM (uX cs ms) (uN ms)) 1)), .any, AV.i IntKind.i64 (↑(uN ms) : Int), AV.i IntKind.i64 (IntKind.wrap IntKind.i64 (1 + atM ms 42 (IntKind.wrap IntKind.i64 (2 + atM ms 40 20)))), AV.sl (Tag.own 1208) 0 (Cont.f FloatKind.f32 (jsM (uX cs ms) (uZ ms) (uN ms / uZ ms))), AV.b true, AV.sl (Tag.own 1256) 0 (Cont.f FloatKind.f32 (thM (uX cs ms) (uZ ms) ((uN ms + uZ ms - 1) / uZ ms))), AV.b true, AV.i IntKind.i64 (atM ms 43 6), AV.sl (Tag.own 1688) 0 (Cont.f FloatKind.f32 (movM meanM (uX cs ms) (uS ms))), AV.b true, AV.sl (Tag.own 1736) 0 (Cont.f FloatKind.f32 (movM medM (uX cs ms) (uS ms))), AV.b true] ++ anys 439
def ks_laws_FnUndone_4 : List Nat := [0, 1, 5, 6, 10, 12, 14, 16, 17, 18, 19, 20, 21, 22, 23, 24, 25, 26]
def h_laws_FnUndone_L2 (cs : List Int) (ms : List Int) (i : Int) : Env := [AV.sl (Tag.par [0]) 0 (Cont.i IntKind.u8 cs), AV.sl (Tag.par [1]) 0 (Cont.i IntKind.u8 ms), .any, .any, .any, AV.i IntKind.i64 (IntKind.wrap IntKind.i64 (2 + atM ms 40 20)), AV.sl (Tag.own 392) 0 (Cont.f FloatKind.f32 (uX cs ms))] ++ anys 15 ++ [AV.i IntKind.i64 (atM ms 43 6), AV.sl (Tag.own 1688) 0 (Cont.f FloatKind.f32 (movM meanM (uX cs ms) (uS ms))), .any, AV.sl (Tag.own 1736) 0 (Cont.f FloatKind.f32 (movM medM (uX cs ms) (uS ms))), .any, .i IntKind.i64 i] ++ anys 438
def h_laws_FnUndone_L4 (cs : List Int) (ms : List Int) (i : Int) (low : Nat) (high : Nat) (k : Int) : Env := [AV.sl (Tag.par [0]) 0 (Cont.i IntKind.u8 cs), AV.sl (Tag.par [1]) 0 (Cont.i IntKind.u8 ms), .any, .any, .any, AV.i IntKind.i64 (IntKind.wrap IntKind.i64 (2 + atM ms 40 20)), AV.sl (Tag.own 392) 0 (Cont.f FloatKind.f32 (uX cs ms))] ++ anys 15 ++ [AV.i IntKind.i64 (atM ms 43 6), AV.sl (Tag.own 1688) 0 (Cont.f FloatKind.f32 (movM meanM (uX cs ms) (uS ms))), .any, AV.sl (Tag.own 1736) 0 (Cont.f FloatKind.f32 (movM medM (uX cs ms) (uS ms))), .any, AV.i IntKind.i64 i, .f FloatKind.f32 low, .f FloatKind.f32 high, .i IntKind.i64 k] ++ anys 435
def c_laws_FnUndone_5 (cs : List Int) (ms : List Int) : Env := [AV.sl (Tag.par [0]) 0 (Cont.i IntKind.u8 cs), AV.sl (Tag.par [1]) 0 (Cont.i IntKind.u8 ms), .any, .any, .any, AV.i IntKind.i64 (IntKind.wrap IntKind.i64 (2 + atM ms 40 20)), AV.sl (Tag.own 392) 0 (Cont.f FloatKind.f32 (uX cs ms))] ++ anys 15 ++ [AV.i IntKind.i64 (atM ms 43 6), AV.sl (Tag.own 1688) 0 (Cont.f FloatKind.f32 (movM meanM (uX cs ms) (uS ms))), .any, AV.sl (Tag.own 1736) 0 (Cont.f FloatKind.f32 (movM medM (uX cs ms) (uS ms))), .any, AV.i IntKind.i64 (↑(uN ms) : Int)] ++ anys 438
def ks_laws_FnUndone_5 : List Nat := [0, 1, 5, 6, 22, 23, 25, 27]
def h_laws_FnUndone_L6 (cs : List Int) (ms : List Int) (list : List Nat) (known : List Bool) (i : Int) : Env := [AV.sl (Tag.par [0]) 0 (Cont.i IntKind.u8 cs)] ++ anys 4 ++ [AV.i IntKind.i64 (IntKind.wrap IntKind.i64 (2 + atM ms 40 20)), .sl (Tag.own 392) 0 (.f FloatKind.f32 list)] ++ anys 24 ++ [.sl (Tag.own 2712) 0 (.b known), AV.i IntKind.i64 (atM ms 44 (IntKind.wrap IntKind.i64 (2 + atM ms 40 20))), .i IntKind.i64 i] ++ anys 432
def c_laws_FnUndone_6 (cs : List Int) (ms : List Int) : Env := [AV.sl (Tag.par [0]) 0 (Cont.i IntKind.u8 cs)] ++ anys 4 ++ [AV.i IntKind.i64 (IntKind.wrap IntKind.i64 (2 + atM ms 40 20)), AV.sl (Tag.own 392) 0 (Cont.f FloatKind.f32 (uX cs ms))] ++ anys 24 ++ [AV.sl (Tag.own 2712) 0 (Cont.b (uK cs ms (uN ms))), AV.i IntKind.i64 (atM ms 44 (IntKind.wrap IntKind.i64 (2 + atM ms 40 20))), AV.i IntKind.i64 (↑(uN ms) : Int), AV.sl (Tag.own 2904) 0 (Cont.f FloatKind.f32 (gapsM (uX cs ms) (uK cs ms (uN ms)))), AV.b true] ++ anys 430
def ks_laws_FnUndone_6 : List Nat := [0, 5, 6, 31, 32, 33, 34, 35]
def h_laws_FnUndone_L8 (cs : List Int) (ms : List Int) (i : Int) : Env := anys 5 ++ [AV.i IntKind.i64 (IntKind.wrap IntKind.i64 (2 + atM ms 40 20)), AV.sl (Tag.own 392) 0 (Cont.f FloatKind.f32 (uX cs ms))] ++ anys 24 ++ [AV.sl (Tag.own 2712) 0 (Cont.b (uK cs ms (uN ms))), .any, .any, AV.sl (Tag.own 2904) 0 (Cont.f FloatKind.f32 (gapsM (uX cs ms) (uK cs ms (uN ms)))), .any, .i IntKind.i64 i] ++ anys 429
def h_laws_FnUndone_L10 (cs : List Int) (ms : List Int) (i : Int) (before : Int) : Env := anys 5 ++ [AV.i IntKind.i64 (IntKind.wrap IntKind.i64 (2 + atM ms 40 20)), AV.sl (Tag.own 392) 0 (Cont.f FloatKind.f32 (uX cs ms))] ++ anys 24 ++ [AV.sl (Tag.own 2712) 0 (Cont.b (uK cs ms (uN ms))), .any, .any, AV.sl (Tag.own 2904) 0 (Cont.f FloatKind.f32 (gapsM (uX cs ms) (uK cs ms (uN ms)))), .any, AV.i IntKind.i64 i, .i IntKind.i64 before] ++ anys 428
def h_laws_FnUndone_L12 (cs : List Int) (ms : List Int) (i : Int) (behind : Int) : Env := anys 5 ++ [AV.i IntKind.i64 (IntKind.wrap IntKind.i64 (2 + atM ms 40 20)), AV.sl (Tag.own 392) 0 (Cont.f FloatKind.f32 (uX cs ms))] ++ anys 24 ++ [AV.sl (Tag.own 2712) 0 (Cont.b (uK cs ms (uN ms))), .any, .any, AV.sl (Tag.own 2904) 0 (Cont.f FloatKind.f32 (gapsM (uX cs ms) (uK cs ms (uN ms)))), .any, AV.i IntKind.i64 i, AV.i IntKind.i64 (dnK (uK cs ms (uN ms)) (Int.toNat i)), .i IntKind.i64 behind] ++ anys 427

theorem q_laws_FnUndone_L0 {VC : FuncId → List AV → AV → Prop} {gq0 gq1 gq2 gq3 gq4 gq5 gq6 gq7 gq8 gq9 gq10 gq11 : FuncId} (cs : List Int) (ms : List Int) (i : Int) {e_ : Ex} {σ_ : Env} (ht : T.ok (fun x_ => x_ = (e_, σ_)) (
 T.ite (decide (i < IntKind.wrap IntKind.i64 (2 + atM ms 40 20)))
 (T.ob (0 ≤ i ∧ i < (↑(List.length (udM (List.take (uL ms) (uX cs ms)) (ldM (uX cs ms) (uL ms)) (uN ms - uL ms))) : Int))
 (T.ob (0 ≤ i ∧ i < (↑(List.length (uX cs ms)) : Int))
 (T.ob
 (VC gq6 [AV.f FloatKind.f32 (List.getD (udM (List.take (uL ms) (uX cs ms)) (ldM (uX cs ms) (uL ms)) (uN ms - uL ms)) (Int.toNat i) 0), AV.f FloatKind.f32 (List.getD (uX cs ms) (Int.toNat i) 0)]
 (AV.f FloatKind.f64 (r8G (List.getD (udM (List.take (uL ms) (uX cs ms)) (ldM (uX cs ms) (uL ms)) (uN ms - uL ms)) (Int.toNat i) 0) (List.getD (uX cs ms) (Int.toNat i) 0))))
 (T.ite (fgt FloatKind.f64 (r8G (List.getD (udM (List.take (uL ms) (uX cs ms)) (ldM (uX cs ms) (uL ms)) (uN ms - uL ms)) (Int.toNat i) 0) (List.getD (uX cs ms) (Int.toNat i) 0)) 4562254508917369340)
 (T.leaf (Ex.ret, anys 4 ++ AV.b false :: anys 461))
 (T.ite (decide (i > 0))
 (T.ob (0 ≤ IntKind.wrap IntKind.i64 (i - 1) ∧ IntKind.wrap IntKind.i64 (i - 1) < (↑(List.length (ldM (rsM (uX cs ms) (uN ms)) 1)) : Int))
 (T.ob (0 ≤ i ∧ i < (↑(List.length (uX cs ms)) : Int))
 (T.ob
 (VC gq6 [AV.f FloatKind.f32 (List.getD (ldM (rsM (uX cs ms) (uN ms)) 1) (Int.toNat (IntKind.wrap IntKind.i64 (i - 1))) 0), AV.f FloatKind.f32 (List.getD (uX cs ms) (Int.toNat i) 0)]
 (AV.f FloatKind.f64 (r8G (List.getD (ldM (rsM (uX cs ms) (uN ms)) 1) (Int.toNat (IntKind.wrap IntKind.i64 (i - 1))) 0) (List.getD (uX cs ms) (Int.toNat i) 0))))
 (T.ite (fgt FloatKind.f64 (r8G (List.getD (ldM (rsM (uX cs ms) (uN ms)) 1) (Int.toNat (IntKind.wrap IntKind.i64 (i - 1))) 0) (List.getD (uX cs ms) (Int.toNat i) 0)) 4562254508917369340)
 (T.leaf (Ex.ret, anys 4 ++ AV.b false :: anys 461)) (T.leaf (Ex.normal, h_laws_FnUndone_L0 cs ms (IntKind.wrap IntKind.i64 (i + 1))))))))
 (T.leaf (Ex.normal, h_laws_FnUndone_L0 cs ms (IntKind.wrap IntKind.i64 (i + 1)))))))))
 (T.leaf (Ex.exit 0, h_laws_FnUndone_L0 cs ms i)))) :
 Exec VC ps_laws_FnUndone (b_laws_FnUndone_L0 gq0 gq1 gq2 gq3 gq4 gq5 gq6 gq7 gq8 gq9 gq10 gq11) (h_laws_FnUndone_L0 cs ms i) e_ σ_ := evL_of (lv := lv_laws_FnUndone_L0) (rs := [4]) (O := ⟨oc_laws_FnUndone cs ms, fun _ _ => none⟩) (by kernel_rfl) ht

theorem q_laws_FnUndone_L2 {VC : FuncId → List AV → AV → Prop} {gq0 gq1 gq2 gq3 gq4 gq5 gq6 gq7 gq8 gq9 gq10 gq11 : FuncId} (cs : List Int) (ms : List Int) (i : Int) {e_ : Ex} {σ_ : Env} (ht : T.ok (fun x_ => x_ = (e_, σ_)) (
 T.ite (decide (i < IntKind.wrap IntKind.i64 (2 + atM ms 40 20)))
 (T.ob (0 ≤ i ∧ i < (↑(List.length (uX cs ms)) : Int))
 (T.ob (0 ≤ i ∧ i < (↑(List.length (uX cs ms)) : Int))
 (T.ob
 (Exec VC ps_laws_FnUndone
 (VCode.block 4
 (VCode.loop
 (b_laws_FnUndone_L4 gq0 gq1 gq2 gq3 gq4 gq5 gq6 gq7 gq8 gq9
 gq10 gq11)))
 (h_laws_FnUndone_L4 cs ms i (List.getD (uX cs ms) (Int.toNat i) 0) (List.getD (uX cs ms) (Int.toNat i) 0)
 (bif decide (IntKind.wrap IntKind.i64 (i - atM ms 43 6) > 0) then IntKind.wrap IntKind.i64 (i - atM ms 43 6) else 0))
 Ex.normal
 (h_laws_FnUndone_L4 cs ms i (uLo (uX cs ms) (uS ms) (Int.toNat i) (uB (uN ms) (uS ms) (Int.toNat i) + 1 - uA (uN ms) (uS ms) (Int.toNat i)))
 (uHi (uX cs ms) (uS ms) (Int.toNat i) (uB (uN ms) (uS ms) (Int.toNat i) + 1 - uA (uN ms) (uS ms) (Int.toNat i))) (↑(uB (uN ms) (uS ms) (Int.toNat i) + 1) : Int)))
 (T.ob (0 ≤ i ∧ i < (↑(List.length (movM meanM (uX cs ms) (uS ms))) : Int))
 (T.ob (fconvOk FloatKind.f32 FloatKind.f64 (List.getD (movM meanM (uX cs ms) (uS ms)) (Int.toNat i) 0) = true)
 (T.ob (fconvOk FloatKind.f32 FloatKind.f64 (uLo (uX cs ms) (uS ms) (Int.toNat i) (uB (uN ms) (uS ms) (Int.toNat i) + 1 - uA (uN ms) (uS ms) (Int.toNat i))) = true)
 (T.ite
 (flt FloatKind.f64 (fconv FloatKind.f32 FloatKind.f64 (List.getD (movM meanM (uX cs ms) (uS ms)) (Int.toNat i) 0))
 (fsub FloatKind.f64 (fconv FloatKind.f32 FloatKind.f64 (uLo (uX cs ms) (uS ms) (Int.toNat i) (uB (uN ms) (uS ms) (Int.toNat i) + 1 - uA (uN ms) (uS ms) (Int.toNat i)))) 4562254508917369340))
 (T.leaf (Ex.ret, anys 4 ++ AV.b false :: anys 461))
 (T.ob (0 ≤ i ∧ i < (↑(List.length (movM meanM (uX cs ms) (uS ms))) : Int))
 (T.ob (fconvOk FloatKind.f32 FloatKind.f64 (List.getD (movM meanM (uX cs ms) (uS ms)) (Int.toNat i) 0) = true)
 (T.ob (fconvOk FloatKind.f32 FloatKind.f64 (uHi (uX cs ms) (uS ms) (Int.toNat i) (uB (uN ms) (uS ms) (Int.toNat i) + 1 - uA (uN ms) (uS ms) (Int.toNat i))) = true)
 (T.ite
 (fgt FloatKind.f64 (fconv FloatKind.f32 FloatKind.f64 (List.getD (movM meanM (uX cs ms) (uS ms)) (Int.toNat i) 0))
 (fadd FloatKind.f64 (fconv FloatKind.f32 FloatKind.f64 (uHi (uX cs ms) (uS ms) (Int.toNat i) (uB (uN ms) (uS ms) (Int.toNat i) + 1 - uA (uN ms) (uS ms) (Int.toNat i)))) 4562254508917369340))
 (T.leaf (Ex.ret, anys 4 ++ AV.b false :: anys 461))
 (T.ob (0 ≤ i ∧ i < (↑(List.length (movM medM (uX cs ms) (uS ms))) : Int))
 (T.ite
 (flt FloatKind.f32 (List.getD (movM medM (uX cs ms) (uS ms)) (Int.toNat i) 0) (uLo (uX cs ms) (uS ms) (Int.toNat i) (uB (uN ms) (uS ms) (Int.toNat i) + 1 - uA (uN ms) (uS ms) (Int.toNat i))))
 (T.leaf (Ex.ret, anys 4 ++ AV.b false :: anys 461))
 (T.ob (0 ≤ i ∧ i < (↑(List.length (movM medM (uX cs ms) (uS ms))) : Int))
 (T.ite
 (fgt FloatKind.f32 (List.getD (movM medM (uX cs ms) (uS ms)) (Int.toNat i) 0)
 (uHi (uX cs ms) (uS ms) (Int.toNat i) (uB (uN ms) (uS ms) (Int.toNat i) + 1 - uA (uN ms) (uS ms) (Int.toNat i))))
 (T.leaf (Ex.ret, anys 4 ++ AV.b false :: anys 461))
 (T.ite (atM ms 43 6 == 0)
 (T.ob (0 ≤ i ∧ i < (↑(List.length (movM meanM (uX cs ms) (uS ms))) : Int))
 (T.ob (0 ≤ i ∧ i < (↑(List.length (uX cs ms)) : Int))
 (T.ite (fne FloatKind.f32 (List.getD (movM meanM (uX cs ms) (uS ms)) (Int.toNat i) 0) (List.getD (uX cs ms) (Int.toNat i) 0)) (T.leaf (Ex.ret, anys 4 ++ AV.b false :: anys 461))
 (T.ob (0 ≤ i ∧ i < (↑(List.length (movM medM (uX cs ms) (uS ms))) : Int))
 (T.ob (0 ≤ i ∧ i < (↑(List.length (uX cs ms)) : Int))
 (T.ite (fne FloatKind.f32 (List.getD (movM medM (uX cs ms) (uS ms)) (Int.toNat i) 0) (List.getD (uX cs ms) (Int.toNat i) 0)) (T.leaf (Ex.ret, anys 4 ++ AV.b false :: anys 461))
 (T.leaf (Ex.normal, h_laws_FnUndone_L2 cs ms (IntKind.wrap IntKind.i64 (i + 1))))))))))
 (T.leaf (Ex.normal, h_laws_FnUndone_L2 cs ms (IntKind.wrap IntKind.i64 (i + 1))))))))))))))))))))
 (T.leaf (Ex.exit 2, h_laws_FnUndone_L2 cs ms i)))) :
 Exec VC ps_laws_FnUndone (b_laws_FnUndone_L2 gq0 gq1 gq2 gq3 gq4 gq5 gq6 gq7 gq8 gq9 gq10 gq11) (h_laws_FnUndone_L2 cs ms i) e_ σ_ := evL_of (lv := lv_laws_FnUndone_L2) (rs := [4]) (O := ⟨oc_laws_FnUndone cs ms, fun id σ => match id with | 4 => some (lv_laws_FnUndone_L4, .leaf (.normal, h_laws_FnUndone_L4 cs ms i (uLo (uX cs ms) (uS ms) i.toNat (uB (uN ms) (uS ms) i.toNat + 1 - uA (uN ms) (uS ms) i.toNat)) (uHi (uX cs ms) (uS ms) i.toNat (uB (uN ms) (uS ms) i.toNat + 1 - uA (uN ms) (uS ms) i.toNat)) (uB (uN ms) (uS ms) i.toNat + 1 : Nat))) | _ => none⟩) (by kernel_rfl) ht

theorem q_laws_FnUndone_L4 {VC : FuncId → List AV → AV → Prop} {gq0 gq1 gq2 gq3 gq4 gq5 gq6 gq7 gq8 gq9 gq10 gq11 : FuncId} (cs : List Int) (ms : List Int) (i : Int) (low : Nat) (high : Nat) (k : Int) {e_ : Ex} {σ_ : Env} (ht : T.ok (fun x_ => x_ = (e_, σ_)) (
 T.ite
 (decide
 (k ≤
 bif decide (IntKind.wrap IntKind.i64 (i + atM ms 43 6) < IntKind.wrap IntKind.i64 (IntKind.wrap IntKind.i64 (2 + atM ms 40 20) - 1)) then IntKind.wrap IntKind.i64 (i + atM ms 43 6)
 else IntKind.wrap IntKind.i64 (IntKind.wrap IntKind.i64 (2 + atM ms 40 20) - 1)))
 (T.ob (0 ≤ k ∧ k < (↑(List.length (uX cs ms)) : Int))
 (T.ob (0 ≤ k ∧ k < (↑(List.length (uX cs ms)) : Int))
 (T.leaf (Ex.normal, h_laws_FnUndone_L4 cs ms i (fmin FloatKind.f32 low (List.getD (uX cs ms) (Int.toNat k) 0)) (fmax FloatKind.f32 high (List.getD (uX cs ms) (Int.toNat k) 0)) (IntKind.wrap IntKind.i64 (k + 1))))))
 (T.leaf (Ex.exit 4, h_laws_FnUndone_L4 cs ms i low high k)))) :
 Exec VC ps_laws_FnUndone (b_laws_FnUndone_L4 gq0 gq1 gq2 gq3 gq4 gq5 gq6 gq7 gq8 gq9 gq10 gq11) (h_laws_FnUndone_L4 cs ms i low high k) e_ σ_ := evL_of (lv := lv_laws_FnUndone_L4) (rs := [4]) (O := ⟨oc_laws_FnUndone cs ms, fun _ _ => none⟩) (by kernel_rfl) ht

theorem q_laws_FnUndone_L6 {VC : FuncId → List AV → AV → Prop} {gq0 gq1 gq2 gq3 gq4 gq5 gq6 gq7 gq8 gq9 gq10 gq11 : FuncId} (cs : List Int) (ms : List Int) (list : List Nat) (known : List Bool) (i : Int) {e_ : Ex} {σ_ : Env} (ht : T.ok (fun x_ => x_ = (e_, σ_)) (
 T.ite (decide (i < IntKind.wrap IntKind.i64 (2 + atM ms 40 20)))
 (T.ite (i == atM ms 44 (IntKind.wrap IntKind.i64 (2 + atM ms 40 20))) (T.ob (List.length known + 1 ≤ 4294967296) (T.leaf (Ex.normal, h_laws_FnUndone_L6 cs ms list (known ++ [true]) (IntKind.wrap IntKind.i64 (i + 1)))))
 (T.ob (VC gq1 [AV.sl (Tag.par [0]) 0 (Cont.i IntKind.u8 cs), AV.i IntKind.i64 i, AV.i IntKind.i64 3] (AV.i IntKind.i64 (atM cs i 3)))
 (T.ob (List.length known + List.length [decide (atM cs i 3 > 0)] ≤ 4294967296) (T.leaf (Ex.normal, h_laws_FnUndone_L6 cs ms list (known ++ [decide (atM cs i 3 > 0)]) (IntKind.wrap IntKind.i64 (i + 1)))))))
 (T.leaf (Ex.exit 6, h_laws_FnUndone_L6 cs ms list known i)))) :
 Exec VC ps_laws_FnUndone (b_laws_FnUndone_L6 gq0 gq1 gq2 gq3 gq4 gq5 gq6 gq7 gq8 gq9 gq10 gq11) (h_laws_FnUndone_L6 cs ms list known i) e_ σ_ := evL_of (lv := lv_laws_FnUndone_L6) (rs := [4]) (O := ⟨oc_laws_FnUndone cs ms, fun _ _ => none⟩) (by kernel_rfl) ht

theorem q_laws_FnUndone_L8 {VC : FuncId → List AV → AV → Prop} {gq0 gq1 gq2 gq3 gq4 gq5 gq6 gq7 gq8 gq9 gq10 gq11 : FuncId} (cs : List Int) (ms : List Int) (i : Int) {e_ : Ex} {σ_ : Env} (ht : T.ok (fun x_ => x_ = (e_, σ_)) (
 T.ite (decide (i < IntKind.wrap IntKind.i64 (2 + atM ms 40 20)))
 (T.ob (0 ≤ i ∧ i < (↑(List.length (uK cs ms (uN ms))) : Int))
 (T.ite (List.getD (uK cs ms (uN ms)) (Int.toNat i) false)
 (T.ob (0 ≤ i ∧ i < (↑(List.length (gapsM (uX cs ms) (uK cs ms (uN ms)))) : Int))
 (T.ob (0 ≤ i ∧ i < (↑(List.length (uX cs ms)) : Int))
 (T.ite (fne FloatKind.f32 (List.getD (gapsM (uX cs ms) (uK cs ms (uN ms))) (Int.toNat i) 0) (List.getD (uX cs ms) (Int.toNat i) 0)) (T.leaf (Ex.ret, anys 4 ++ AV.b false :: anys 461))
 (T.leaf (Ex.normal, h_laws_FnUndone_L8 cs ms (IntKind.wrap IntKind.i64 (i + 1)))))))
 (T.ob
 (Exec VC ps_laws_FnUndone
 (VCode.block 10
 (VCode.loop
 (b_laws_FnUndone_L10 gq0 gq1 gq2 gq3 gq4 gq5 gq6 gq7 gq8 gq9
 gq10 gq11)))
 (h_laws_FnUndone_L10 cs ms i i) Ex.normal (h_laws_FnUndone_L10 cs ms i (dnK (uK cs ms (uN ms)) (Int.toNat i))))
 (T.ob
 (Exec VC ps_laws_FnUndone
 (VCode.block 12
 (VCode.loop
 (b_laws_FnUndone_L12 gq0 gq1 gq2 gq3 gq4 gq5 gq6 gq7 gq8 gq9
 gq10 gq11)))
 (h_laws_FnUndone_L12 cs ms i i) Ex.normal (h_laws_FnUndone_L12 cs ms i (↑(upK (uK cs ms (uN ms)) (Int.toNat i)) : Int)))
 (T.ite (decide (dnK (uK cs ms (uN ms)) (Int.toNat i) ≥ 0))
 (T.ob (0 ≤ dnK (uK cs ms (uN ms)) (Int.toNat i) ∧ dnK (uK cs ms (uN ms)) (Int.toNat i) < (↑(List.length (uX cs ms)) : Int))
 (T.ob (0 ≤ dnK (uK cs ms (uN ms)) (Int.toNat i) ∧ dnK (uK cs ms (uN ms)) (Int.toNat i) < (↑(List.length (uX cs ms)) : Int))
 (T.ite (decide ((↑(upK (uK cs ms (uN ms)) (Int.toNat i)) : Int) < IntKind.wrap IntKind.i64 (2 + atM ms 40 20)))
 (T.ob (0 ≤ (↑(upK (uK cs ms (uN ms)) (Int.toNat i)) : Int) ∧ (↑(upK (uK cs ms (uN ms)) (Int.toNat i)) : Int) < (↑(List.length (uX cs ms)) : Int))
 (T.ob (0 ≤ (↑(upK (uK cs ms (uN ms)) (Int.toNat i)) : Int) ∧ (↑(upK (uK cs ms (uN ms)) (Int.toNat i)) : Int) < (↑(List.length (uX cs ms)) : Int))
 (T.ob (0 ≤ i ∧ i < (↑(List.length (gapsM (uX cs ms) (uK cs ms (uN ms)))) : Int))
 (T.ob (fconvOk FloatKind.f32 FloatKind.f64 (List.getD (gapsM (uX cs ms) (uK cs ms (uN ms))) (Int.toNat i) 0) = true)
 (T.ob
 (fconvOk FloatKind.f32 FloatKind.f64
 (fmin FloatKind.f32 (fmin FloatKind.f32 1232348160 (List.getD (uX cs ms) (Int.toNat (dnK (uK cs ms (uN ms)) (Int.toNat i))) 0))
 (List.getD (uX cs ms) (Int.toNat (↑(upK (uK cs ms (uN ms)) (Int.toNat i)) : Int)) 0)) =
 true)
 (T.ite
 (flt FloatKind.f64 (fconv FloatKind.f32 FloatKind.f64 (List.getD (gapsM (uX cs ms) (uK cs ms (uN ms))) (Int.toNat i) 0))
 (fsub FloatKind.f64
 (fconv FloatKind.f32 FloatKind.f64
 (fmin FloatKind.f32 (fmin FloatKind.f32 1232348160 (List.getD (uX cs ms) (Int.toNat (dnK (uK cs ms (uN ms)) (Int.toNat i))) 0))
 (List.getD (uX cs ms) (Int.toNat (↑(upK (uK cs ms (uN ms)) (Int.toNat i)) : Int)) 0)))
 4562254508917369340))
 (T.leaf (Ex.ret, anys 4 ++ AV.b false :: anys 461))
 (T.ob (0 ≤ i ∧ i < (↑(List.length (gapsM (uX cs ms) (uK cs ms (uN ms)))) : Int))
 (T.ob (fconvOk FloatKind.f32 FloatKind.f64 (List.getD (gapsM (uX cs ms) (uK cs ms (uN ms))) (Int.toNat i) 0) = true)
 (T.ob
 (fconvOk FloatKind.f32 FloatKind.f64
 (fmax FloatKind.f32 (fmax FloatKind.f32 3379831808 (List.getD (uX cs ms) (Int.toNat (dnK (uK cs ms (uN ms)) (Int.toNat i))) 0))
 (List.getD (uX cs ms) (Int.toNat (↑(upK (uK cs ms (uN ms)) (Int.toNat i)) : Int)) 0)) =
 true)
 (T.ite
 (fgt FloatKind.f64 (fconv FloatKind.f32 FloatKind.f64 (List.getD (gapsM (uX cs ms) (uK cs ms (uN ms))) (Int.toNat i) 0))
 (fadd FloatKind.f64
 (fconv FloatKind.f32 FloatKind.f64
 (fmax FloatKind.f32 (fmax FloatKind.f32 3379831808 (List.getD (uX cs ms) (Int.toNat (dnK (uK cs ms (uN ms)) (Int.toNat i))) 0))
 (List.getD (uX cs ms) (Int.toNat (↑(upK (uK cs ms (uN ms)) (Int.toNat i)) : Int)) 0)))
 4562254508917369340))
 (T.leaf (Ex.ret, anys 4 ++ AV.b false :: anys 461)) (T.leaf (Ex.normal, h_laws_FnUndone_L8 cs ms (IntKind.wrap IntKind.i64 (i + 1))))))))))))))
 (T.ob (0 ≤ i ∧ i < (↑(List.length (gapsM (uX cs ms) (uK cs ms (uN ms)))) : Int))
 (T.ob (fconvOk FloatKind.f32 FloatKind.f64 (List.getD (gapsM (uX cs ms) (uK cs ms (uN ms))) (Int.toNat i) 0) = true)
 (T.ob (fconvOk FloatKind.f32 FloatKind.f64 (fmin FloatKind.f32 1232348160 (List.getD (uX cs ms) (Int.toNat (dnK (uK cs ms (uN ms)) (Int.toNat i))) 0)) = true)
 (T.ite
 (flt FloatKind.f64 (fconv FloatKind.f32 FloatKind.f64 (List.getD (gapsM (uX cs ms) (uK cs ms (uN ms))) (Int.toNat i) 0))
 (fsub FloatKind.f64 (fconv FloatKind.f32 FloatKind.f64 (fmin FloatKind.f32 1232348160 (List.getD (uX cs ms) (Int.toNat (dnK (uK cs ms (uN ms)) (Int.toNat i))) 0))) 4562254508917369340))
 (T.leaf (Ex.ret, anys 4 ++ AV.b false :: anys 461))
 (T.ob (0 ≤ i ∧ i < (↑(List.length (gapsM (uX cs ms) (uK cs ms (uN ms)))) : Int))
 (T.ob (fconvOk FloatKind.f32 FloatKind.f64 (List.getD (gapsM (uX cs ms) (uK cs ms (uN ms))) (Int.toNat i) 0) = true)
 (T.ob (fconvOk FloatKind.f32 FloatKind.f64 (fmax FloatKind.f32 3379831808 (List.getD (uX cs ms) (Int.toNat (dnK (uK cs ms (uN ms)) (Int.toNat i))) 0)) = true)
 (T.ite
 (fgt FloatKind.f64 (fconv FloatKind.f32 FloatKind.f64 (List.getD (gapsM (uX cs ms) (uK cs ms (uN ms))) (Int.toNat i) 0))
 (fadd FloatKind.f64 (fconv FloatKind.f32 FloatKind.f64 (fmax FloatKind.f32 3379831808 (List.getD (uX cs ms) (Int.toNat (dnK (uK cs ms (uN ms)) (Int.toNat i))) 0)))
 4562254508917369340))
 (T.leaf (Ex.ret, anys 4 ++ AV.b false :: anys 461)) (T.leaf (Ex.normal, h_laws_FnUndone_L8 cs ms (IntKind.wrap IntKind.i64 (i + 1)))))))))))))))
 (T.ite (decide ((↑(upK (uK cs ms (uN ms)) (Int.toNat i)) : Int) < IntKind.wrap IntKind.i64 (2 + atM ms 40 20)))
 (T.ob (0 ≤ (↑(upK (uK cs ms (uN ms)) (Int.toNat i)) : Int) ∧ (↑(upK (uK cs ms (uN ms)) (Int.toNat i)) : Int) < (↑(List.length (uX cs ms)) : Int))
 (T.ob (0 ≤ (↑(upK (uK cs ms (uN ms)) (Int.toNat i)) : Int) ∧ (↑(upK (uK cs ms (uN ms)) (Int.toNat i)) : Int) < (↑(List.length (uX cs ms)) : Int))
 (T.ob (0 ≤ i ∧ i < (↑(List.length (gapsM (uX cs ms) (uK cs ms (uN ms)))) : Int))
 (T.ob (fconvOk FloatKind.f32 FloatKind.f64 (List.getD (gapsM (uX cs ms) (uK cs ms (uN ms))) (Int.toNat i) 0) = true)
 (T.ob (fconvOk FloatKind.f32 FloatKind.f64 (fmin FloatKind.f32 1232348160 (List.getD (uX cs ms) (Int.toNat (↑(upK (uK cs ms (uN ms)) (Int.toNat i)) : Int)) 0)) = true)
 (T.ite
 (flt FloatKind.f64 (fconv FloatKind.f32 FloatKind.f64 (List.getD (gapsM (uX cs ms) (uK cs ms (uN ms))) (Int.toNat i) 0))
 (fsub FloatKind.f64 (fconv FloatKind.f32 FloatKind.f64 (fmin FloatKind.f32 1232348160 (List.getD (uX cs ms) (Int.toNat (↑(upK (uK cs ms (uN ms)) (Int.toNat i)) : Int)) 0)))
 4562254508917369340))
 (T.leaf (Ex.ret, anys 4 ++ AV.b false :: anys 461))
 (T.ob (0 ≤ i ∧ i < (↑(List.length (gapsM (uX cs ms) (uK cs ms (uN ms)))) : Int))
 (T.ob (fconvOk FloatKind.f32 FloatKind.f64 (List.getD (gapsM (uX cs ms) (uK cs ms (uN ms))) (Int.toNat i) 0) = true)
 (T.ob (fconvOk FloatKind.f32 FloatKind.f64 (fmax FloatKind.f32 3379831808 (List.getD (uX cs ms) (Int.toNat (↑(upK (uK cs ms (uN ms)) (Int.toNat i)) : Int)) 0)) = true)
 (T.ite
 (fgt FloatKind.f64 (fconv FloatKind.f32 FloatKind.f64 (List.getD (gapsM (uX cs ms) (uK cs ms (uN ms))) (Int.toNat i) 0))
 (fadd FloatKind.f64 (fconv FloatKind.f32 FloatKind.f64 (fmax FloatKind.f32 3379831808 (List.getD (uX cs ms) (Int.toNat (↑(upK (uK cs ms (uN ms)) (Int.toNat i)) : Int)) 0)))
 4562254508917369340))
 (T.leaf (Ex.ret, anys 4 ++ AV.b false :: anys 461)) (T.leaf (Ex.normal, h_laws_FnUndone_L8 cs ms (IntKind.wrap IntKind.i64 (i + 1))))))))))))))
 (T.ob (0 ≤ i ∧ i < (↑(List.length (gapsM (uX cs ms) (uK cs ms (uN ms)))) : Int))
 (T.ob (fconvOk FloatKind.f32 FloatKind.f64 (List.getD (gapsM (uX cs ms) (uK cs ms (uN ms))) (Int.toNat i) 0) = true)
 (T.ob (true = true)
 (T.ite (flt FloatKind.f64 (fconv FloatKind.f32 FloatKind.f64 (List.getD (gapsM (uX cs ms) (uK cs ms (uN ms))) (Int.toNat i) 0)) 4696837146676096401) (T.leaf (Ex.ret, anys 4 ++ AV.b false :: anys 461))
 (T.ob (0 ≤ i ∧ i < (↑(List.length (gapsM (uX cs ms) (uK cs ms (uN ms)))) : Int))
 (T.ob (fconvOk FloatKind.f32 FloatKind.f64 (List.getD (gapsM (uX cs ms) (uK cs ms (uN ms))) (Int.toNat i) 0) = true)
 (T.ob (true = true)
 (T.ite (fgt FloatKind.f64 (fconv FloatKind.f32 FloatKind.f64 (List.getD (gapsM (uX cs ms) (uK cs ms (uN ms))) (Int.toNat i) 0)) 13920209183530872209)
 (T.leaf (Ex.ret, anys 4 ++ AV.b false :: anys 461)) (T.leaf (Ex.normal, h_laws_FnUndone_L8 cs ms (IntKind.wrap IntKind.i64 (i + 1))))))))))))))))))
 (T.leaf (Ex.exit 8, h_laws_FnUndone_L8 cs ms i)))) :
 Exec VC ps_laws_FnUndone (b_laws_FnUndone_L8 gq0 gq1 gq2 gq3 gq4 gq5 gq6 gq7 gq8 gq9 gq10 gq11) (h_laws_FnUndone_L8 cs ms i) e_ σ_ := evL_of (lv := lv_laws_FnUndone_L8) (rs := [4]) (O := ⟨oc_laws_FnUndone cs ms, fun id σ => match id with | 10 => some (lv_laws_FnUndone_L10, .leaf (.normal, h_laws_FnUndone_L10 cs ms i (dnK (uK cs ms (uN ms)) i.toNat))) | 12 => some (lv_laws_FnUndone_L12, .leaf (.normal, h_laws_FnUndone_L12 cs ms i (upK (uK cs ms (uN ms)) i.toNat))) | _ => none⟩) (by kernel_rfl) ht

theorem q_laws_FnUndone_L10 {VC : FuncId → List AV → AV → Prop} {gq0 gq1 gq2 gq3 gq4 gq5 gq6 gq7 gq8 gq9 gq10 gq11 : FuncId} (cs : List Int) (ms : List Int) (i : Int) (before : Int) {e_ : Ex} {σ_ : Env} (ht : T.ok (fun x_ => x_ = (e_, σ_)) (
 T.ite (decide (before ≥ 0))
 (T.ob (0 ≤ before ∧ before < (↑(List.length (uK cs ms (uN ms))) : Int))
 (T.ite (!List.getD (uK cs ms (uN ms)) (Int.toNat before) false) (T.leaf (Ex.normal, h_laws_FnUndone_L10 cs ms i (IntKind.wrap IntKind.i64 (before - 1)))) (T.leaf (Ex.exit 10, h_laws_FnUndone_L10 cs ms i before))))
 (T.leaf (Ex.exit 10, h_laws_FnUndone_L10 cs ms i before)))) :
 Exec VC ps_laws_FnUndone (b_laws_FnUndone_L10 gq0 gq1 gq2 gq3 gq4 gq5 gq6 gq7 gq8 gq9 gq10 gq11) (h_laws_FnUndone_L10 cs ms i before) e_ σ_ := evL_of (lv := lv_laws_FnUndone_L10) (rs := [4]) (O := ⟨oc_laws_FnUndone cs ms, fun _ _ => none⟩) (by kernel_rfl) ht

theorem q_laws_FnUndone_L12 {VC : FuncId → List AV → AV → Prop} {gq0 gq1 gq2 gq3 gq4 gq5 gq6 gq7 gq8 gq9 gq10 gq11 : FuncId} (cs : List Int) (ms : List Int) (i : Int) (behind : Int) {e_ : Ex} {σ_ : Env} (ht : T.ok (fun x_ => x_ = (e_, σ_)) (
 T.ite (decide (behind < IntKind.wrap IntKind.i64 (2 + atM ms 40 20)))
 (T.ob (0 ≤ behind ∧ behind < (↑(List.length (uK cs ms (uN ms))) : Int))
 (T.ite (!List.getD (uK cs ms (uN ms)) (Int.toNat behind) false) (T.leaf (Ex.normal, h_laws_FnUndone_L12 cs ms i (IntKind.wrap IntKind.i64 (behind + 1)))) (T.leaf (Ex.exit 12, h_laws_FnUndone_L12 cs ms i behind))))
 (T.leaf (Ex.exit 12, h_laws_FnUndone_L12 cs ms i behind)))) :
 Exec VC ps_laws_FnUndone (b_laws_FnUndone_L12 gq0 gq1 gq2 gq3 gq4 gq5 gq6 gq7 gq8 gq9 gq10 gq11) (h_laws_FnUndone_L12 cs ms i behind) e_ σ_ := evL_of (lv := lv_laws_FnUndone_L12) (rs := [4]) (O := ⟨oc_laws_FnUndone cs ms, fun _ _ => none⟩) (by kernel_rfl) ht

set_option maxHeartbeats 4000000 in
set_option maxRecDepth 100000 in
theorem q_laws_FnUndone_S0 {VC : FuncId → List AV → AV → Prop} {gq0 gq1 gq2 gq3 gq4 gq5 gq6 gq7 gq8 gq9 gq10 gq11 : FuncId} (cs : List Int) (ms : List Int) {Q_ : Option AV × Env → Prop} (ht : T.ok Q_ (
 T.ob (VC gq0 [AV.sl (Tag.par [0]) 0 (Cont.i IntKind.u8 cs), AV.sl (Tag.par [1]) 0 (Cont.i IntKind.u8 ms)] (AV.b (decide ((↑(List.length cs) : Int) > 48) || decide ((↑(List.length ms) : Int) > 48))))
 (T.ite (decide ((↑(List.length cs) : Int) > 48) || decide ((↑(List.length ms) : Int) > 48)) (T.leaf (some (AV.b true), []))
 (T.ob (VC gq1 [AV.sl (Tag.par [0]) 0 (Cont.i IntKind.u8 ms), AV.i IntKind.i64 40, AV.i IntKind.i64 20] (AV.i IntKind.i64 (atM ms 40 20)))
 (T.ob (VC gq2 [AV.sl (Tag.par [0]) 0 (Cont.i IntKind.u8 cs), AV.i IntKind.i64 (IntKind.wrap IntKind.i64 (2 + atM ms 40 20))] (AV.sl (Tag.own 0) 0 (Cont.f FloatKind.f32 (uX cs ms))))
 (T.ob
 (VC gq1 [AV.sl (Tag.par [0]) 0 (Cont.i IntKind.u8 ms), AV.i IntKind.i64 41, AV.i IntKind.i64 (IntKind.wrap IntKind.i64 (IntKind.wrap IntKind.i64 (2 + atM ms 40 20) - 1))]
 (AV.i IntKind.i64 (atM ms 41 (IntKind.wrap IntKind.i64 (IntKind.wrap IntKind.i64 (2 + atM ms 40 20) - 1)))))
 (T.ob
 (VC gq3
 [AV.sl (Tag.par [0]) 0 (Cont.f FloatKind.f32 (uX cs ms)), AV.i IntKind.i64 (IntKind.wrap IntKind.i64 (1 + atM ms 41 (IntKind.wrap IntKind.i64 (IntKind.wrap IntKind.i64 (2 + atM ms 40 20) - 1))))]
 (AV.tup [AV.sl (Tag.own 0) 0 (Cont.f FloatKind.f32 (ldM (uX cs ms) (uL ms))), AV.b true]))
 (T.ob
 (0 ≤ IntKind.wrap IntKind.i64 (1 + atM ms 41 (IntKind.wrap IntKind.i64 (IntKind.wrap IntKind.i64 (2 + atM ms 40 20) - 1))) ∧
 IntKind.wrap IntKind.i64 (1 + atM ms 41 (IntKind.wrap IntKind.i64 (IntKind.wrap IntKind.i64 (2 + atM ms 40 20) - 1))) ≤ (↑(List.length (uX cs ms)) : Int))
 (T.ob
 (VC gq4
 [AV.sl (Tag.par [0]) 0
 (Cont.f FloatKind.f32 (List.take (Int.toNat (IntKind.wrap IntKind.i64 (1 + atM ms 41 (IntKind.wrap IntKind.i64 (IntKind.wrap IntKind.i64 (2 + atM ms 40 20) - 1))))) (List.drop 0 (uX cs ms)))),
 AV.sl (Tag.par [1]) 0 (Cont.f FloatKind.f32 (ldM (uX cs ms) (uL ms)))]
 (AV.tup [AV.sl (Tag.own 0) 0 (Cont.f FloatKind.f32 (udM (List.take (uL ms) (uX cs ms)) (ldM (uX cs ms) (uL ms)) (uN ms - uL ms))), AV.b true]))
 (T.ob (VC gq5 [AV.sl (Tag.par [0]) 0 (Cont.f FloatKind.f32 (uX cs ms))] (AV.tup [AV.sl (Tag.own 0) 0 (Cont.f FloatKind.f32 (rsM (uX cs ms) (uN ms))), AV.b true]))
 (T.ob
 (VC gq3 [AV.sl (Tag.par [0]) 0 (Cont.f FloatKind.f32 (rsM (uX cs ms) (uN ms))), AV.i IntKind.i64 1]
 (AV.tup [AV.sl (Tag.own 0) 0 (Cont.f FloatKind.f32 (ldM (rsM (uX cs ms) (uN ms)) 1)), AV.b true]))
 (T.ite false (T.leaf (some (AV.b false), []))
 (T.ite false (T.leaf (some (AV.b false), []))
 (T.ite false (T.leaf (some (AV.b false), []))
 (T.ite false (T.leaf (some (AV.b false), []))
 (T.ite ((↑(List.length (udM (List.take (uL ms) (uX cs ms)) (ldM (uX cs ms) (uL ms)) (uN ms - uL ms))) : Int) != IntKind.wrap IntKind.i64 (2 + atM ms 40 20)) (T.leaf (some (AV.b false), []))
 (T.ite ((↑(List.length (rsM (uX cs ms) (uN ms))) : Int) != IntKind.wrap IntKind.i64 (2 + atM ms 40 20)) (T.leaf (some (AV.b false), []))
 (T.ite ((↑(List.length (ldM (rsM (uX cs ms) (uN ms)) 1)) : Int) != IntKind.wrap IntKind.i64 (IntKind.wrap IntKind.i64 (2 + atM ms 40 20) - 1)) (T.leaf (some (AV.b false), []))
 (T.leaf (none, c_laws_FnUndone_1 cs ms)))))))))))))))))))) :
 T.ok Q_ (evK VC ps_laws_FnUndone ks_laws_FnUndone_1 [.t 4] (.b true) ⟨oc_laws_FnUndone cs ms, fun id σ => match id with | 0 => some (lv_laws_FnUndone_L0, .leaf (.normal, h_laws_FnUndone_L0 cs ms (uN ms))) | 2 => some (lv_laws_FnUndone_L2, .leaf (.normal, h_laws_FnUndone_L2 cs ms (uN ms))) | 6 => some (lv_laws_FnUndone_L6, .leaf (.normal, h_laws_FnUndone_L6 cs ms (uX cs ms) (uK cs ms (uN ms)) (uN ms))) | 8 => some (lv_laws_FnUndone_L8, .leaf (.normal, h_laws_FnUndone_L8 cs ms (uN ms))) | _ => none⟩ (front 10 (b_laws_FnUndone gq0 gq1 gq2 gq3 gq4 gq5 gq6 gq7 gq8 gq9 gq10 gq11)) (startEnv 466 [PU [0] cs, PU [1] ms])) := evK_of (by kernel_rfl) ht

set_option maxHeartbeats 4000000 in
set_option maxRecDepth 100000 in
theorem q_laws_FnUndone_S1 {VC : FuncId → List AV → AV → Prop} {gq0 gq1 gq2 gq3 gq4 gq5 gq6 gq7 gq8 gq9 gq10 gq11 : FuncId} (cs : List Int) (ms : List Int) {Q_ : Option AV × Env → Prop} (ht : T.ok Q_ (
 T.ob
 (Exec VC ps_laws_FnUndone
 (VCode.block 0
 (VCode.loop
 (b_laws_FnUndone_L0 gq0 gq1 gq2 gq3 gq4 gq5 gq6 gq7 gq8 gq9 gq10
 gq11)))
 (h_laws_FnUndone_L0 cs ms 0) Ex.normal (c_laws_FnUndone_2 cs ms))
 (T.leaf (none, c_laws_FnUndone_2 cs ms)))) :
 T.ok Q_ (evK VC ps_laws_FnUndone ks_laws_FnUndone_2 [.t 4] (.b true) ⟨oc_laws_FnUndone cs ms, fun id σ => match id with | 0 => some (lv_laws_FnUndone_L0, .leaf (.normal, h_laws_FnUndone_L0 cs ms (uN ms))) | 2 => some (lv_laws_FnUndone_L2, .leaf (.normal, h_laws_FnUndone_L2 cs ms (uN ms))) | 6 => some (lv_laws_FnUndone_L6, .leaf (.normal, h_laws_FnUndone_L6 cs ms (uX cs ms) (uK cs ms (uN ms)) (uN ms))) | 8 => some (lv_laws_FnUndone_L8, .leaf (.normal, h_laws_FnUndone_L8 cs ms (uN ms))) | _ => none⟩ (front 1 (rest 10 (b_laws_FnUndone gq0 gq1 gq2 gq3 gq4 gq5 gq6 gq7 gq8 gq9 gq10 gq11))) (c_laws_FnUndone_1 cs ms)) := evK_of (by kernel_rfl) ht

set_option maxHeartbeats 4000000 in
set_option maxRecDepth 100000 in
theorem q_laws_FnUndone_S2 {VC : FuncId → List AV → AV → Prop} {gq0 gq1 gq2 gq3 gq4 gq5 gq6 gq7 gq8 gq9 gq10 gq11 : FuncId} (cs : List Int) (ms : List Int) {Q_ : Option AV × Env → Prop} (ht : T.ok Q_ (
 T.ob
 (VC gq1 [AV.sl (Tag.par [0]) 0 (Cont.i IntKind.u8 ms), AV.i IntKind.i64 42, AV.i IntKind.i64 (IntKind.wrap IntKind.i64 (2 + atM ms 40 20))]
 (AV.i IntKind.i64 (atM ms 42 (IntKind.wrap IntKind.i64 (2 + atM ms 40 20)))))
 (T.ob
 (VC gq7 [AV.sl (Tag.par [0]) 0 (Cont.f FloatKind.f32 (uX cs ms)), AV.i IntKind.i64 (IntKind.wrap IntKind.i64 (1 + atM ms 42 (IntKind.wrap IntKind.i64 (2 + atM ms 40 20))))]
 (AV.tup [AV.sl (Tag.own 0) 0 (Cont.f FloatKind.f32 (jsM (uX cs ms) (uZ ms) (uN ms / uZ ms))), AV.b true]))
 (T.ob
 (VC gq8 [AV.sl (Tag.par [0]) 0 (Cont.f FloatKind.f32 (uX cs ms)), AV.i IntKind.i64 (IntKind.wrap IntKind.i64 (1 + atM ms 42 (IntKind.wrap IntKind.i64 (2 + atM ms 40 20))))]
 (AV.tup [AV.sl (Tag.own 0) 0 (Cont.f FloatKind.f32 (thM (uX cs ms) (uZ ms) ((uN ms + uZ ms - 1) / uZ ms))), AV.b true]))
 (T.ite false (T.leaf (some (AV.b false), []))
 (T.ite false (T.leaf (some (AV.b false), []))
 (T.ob (IntKind.wrap IntKind.i64 (1 + atM ms 42 (IntKind.wrap IntKind.i64 (2 + atM ms 40 20))) ≠ 0)
 (T.ite
 ((↑(List.length (jsM (uX cs ms) (uZ ms) (uN ms / uZ ms))) : Int) !=
 IntKind.wrap IntKind.i64 (Int.tdiv (IntKind.wrap IntKind.i64 (2 + atM ms 40 20)) (IntKind.wrap IntKind.i64 (1 + atM ms 42 (IntKind.wrap IntKind.i64 (2 + atM ms 40 20))))))
 (T.leaf (some (AV.b false), []))
 (T.ob (IntKind.wrap IntKind.i64 (1 + atM ms 42 (IntKind.wrap IntKind.i64 (2 + atM ms 40 20))) ≠ 0)
 (T.ite
 ((↑(List.length (thM (uX cs ms) (uZ ms) ((uN ms + uZ ms - 1) / uZ ms))) : Int) !=
 IntKind.wrap IntKind.i64
 (Int.tdiv
 (IntKind.wrap IntKind.i64 (IntKind.wrap IntKind.i64 (IntKind.wrap IntKind.i64 (2 + atM ms 40 20) + IntKind.wrap IntKind.i64 (1 + atM ms 42 (IntKind.wrap IntKind.i64 (2 + atM ms 40 20)))) - 1))
 (IntKind.wrap IntKind.i64 (1 + atM ms 42 (IntKind.wrap IntKind.i64 (2 + atM ms 40 20))))))
 (T.leaf (some (AV.b false), []))
 (T.ob ((0 : Int) ≤ 0 ∧ 0 < (↑(List.length (thM (uX cs ms) (uZ ms) ((uN ms + uZ ms - 1) / uZ ms))) : Int))
 (T.ob ((0 : Int) ≤ 0 ∧ 0 < (↑(List.length (uX cs ms)) : Int))
 (T.ite (fne FloatKind.f32 (List.getD (thM (uX cs ms) (uZ ms) ((uN ms + uZ ms - 1) / uZ ms)) 0 0) (List.getD (uX cs ms) 0 0)) (T.leaf (some (AV.b false), []))
 (T.ob ((0 : Int) ≤ 0 ∧ 0 < (↑(List.length (jsM (uX cs ms) (uZ ms) (uN ms / uZ ms))) : Int))
 (T.ob
 (0 ≤ IntKind.wrap IntKind.i64 (IntKind.wrap IntKind.i64 (1 + atM ms 42 (IntKind.wrap IntKind.i64 (2 + atM ms 40 20))) - 1) ∧
 IntKind.wrap IntKind.i64 (IntKind.wrap IntKind.i64 (1 + atM ms 42 (IntKind.wrap IntKind.i64 (2 + atM ms 40 20))) - 1) < (↑(List.length (rsM (uX cs ms) (uN ms))) : Int))
 (T.ob
 (VC gq6
 [AV.f FloatKind.f32 (List.getD (jsM (uX cs ms) (uZ ms) (uN ms / uZ ms)) 0 0),
 AV.f FloatKind.f32
 (List.getD (rsM (uX cs ms) (uN ms)) (Int.toNat (IntKind.wrap IntKind.i64 (IntKind.wrap IntKind.i64 (1 + atM ms 42 (IntKind.wrap IntKind.i64 (2 + atM ms 40 20))) - 1))) 0)]
 (AV.f FloatKind.f64
 (r8G (List.getD (jsM (uX cs ms) (uZ ms) (uN ms / uZ ms)) 0 0)
 (List.getD (rsM (uX cs ms) (uN ms)) (Int.toNat (IntKind.wrap IntKind.i64 (IntKind.wrap IntKind.i64 (1 + atM ms 42 (IntKind.wrap IntKind.i64 (2 + atM ms 40 20))) - 1))) 0))))
 (T.ite
 (fgt FloatKind.f64
 (r8G (List.getD (jsM (uX cs ms) (uZ ms) (uN ms / uZ ms)) 0 0)
 (List.getD (rsM (uX cs ms) (uN ms)) (Int.toNat (IntKind.wrap IntKind.i64 (IntKind.wrap IntKind.i64 (1 + atM ms 42 (IntKind.wrap IntKind.i64 (2 + atM ms 40 20))) - 1))) 0))
 4562254508917369340)
 (T.leaf (some (AV.b false), [])) (T.leaf (none, c_laws_FnUndone_3 cs ms))))))))))))))))))) :
 T.ok Q_ (evK VC ps_laws_FnUndone ks_laws_FnUndone_3 [.t 4] (.b true) ⟨oc_laws_FnUndone cs ms, fun id σ => match id with | 0 => some (lv_laws_FnUndone_L0, .leaf (.normal, h_laws_FnUndone_L0 cs ms (uN ms))) | 2 => some (lv_laws_FnUndone_L2, .leaf (.normal, h_laws_FnUndone_L2 cs ms (uN ms))) | 6 => some (lv_laws_FnUndone_L6, .leaf (.normal, h_laws_FnUndone_L6 cs ms (uX cs ms) (uK cs ms (uN ms)) (uN ms))) | 8 => some (lv_laws_FnUndone_L8, .leaf (.normal, h_laws_FnUndone_L8 cs ms (uN ms))) | _ => none⟩ (front 4 (rest 1 (rest 10 (b_laws_FnUndone gq0 gq1 gq2 gq3 gq4 gq5 gq6 gq7 gq8 gq9 gq10 gq11)))) (c_laws_FnUndone_2 cs ms)) := evK_of (by kernel_rfl) ht

set_option maxHeartbeats 4000000 in
set_option maxRecDepth 100000 in
theorem q_laws_FnUndone_S3 {VC : FuncId → List AV → AV → Prop} {gq0 gq1 gq2 gq3 gq4 gq5 gq6 gq7 gq8 gq9 gq10 gq11 : FuncId} (cs : List Int) (ms : List Int) {Q_ : Option AV × Env → Prop} (ht : T.ok Q_ (
 T.ob (VC gq1 [AV.sl (Tag.par [0]) 0 (Cont.i IntKind.u8 ms), AV.i IntKind.i64 43, AV.i IntKind.i64 6] (AV.i IntKind.i64 (atM ms 43 6)))
 (T.ob (VC gq9 [AV.sl (Tag.par [0]) 0 (Cont.f FloatKind.f32 (uX cs ms)), AV.i IntKind.i64 (atM ms 43 6)] (AV.tup [AV.sl (Tag.own 0) 0 (Cont.f FloatKind.f32 (movM meanM (uX cs ms) (uS ms))), AV.b true]))
 (T.ob (VC gq10 [AV.sl (Tag.par [0]) 0 (Cont.f FloatKind.f32 (uX cs ms)), AV.i IntKind.i64 (atM ms 43 6)] (AV.tup [AV.sl (Tag.own 0) 0 (Cont.f FloatKind.f32 (movM medM (uX cs ms) (uS ms))), AV.b true]))
 (T.ite false (T.leaf (some (AV.b false), []))
 (T.ite false (T.leaf (some (AV.b false), []))
 (T.ite ((↑(List.length (movM meanM (uX cs ms) (uS ms))) : Int) != IntKind.wrap IntKind.i64 (2 + atM ms 40 20)) (T.leaf (some (AV.b false), []))
 (T.ite ((↑(List.length (movM medM (uX cs ms) (uS ms))) : Int) != IntKind.wrap IntKind.i64 (2 + atM ms 40 20)) (T.leaf (some (AV.b false), [])) (T.leaf (none, c_laws_FnUndone_4 cs ms)))))))))) :
 T.ok Q_ (evK VC ps_laws_FnUndone ks_laws_FnUndone_4 [.t 4] (.b true) ⟨oc_laws_FnUndone cs ms, fun id σ => match id with | 0 => some (lv_laws_FnUndone_L0, .leaf (.normal, h_laws_FnUndone_L0 cs ms (uN ms))) | 2 => some (lv_laws_FnUndone_L2, .leaf (.normal, h_laws_FnUndone_L2 cs ms (uN ms))) | 6 => some (lv_laws_FnUndone_L6, .leaf (.normal, h_laws_FnUndone_L6 cs ms (uX cs ms) (uK cs ms (uN ms)) (uN ms))) | 8 => some (lv_laws_FnUndone_L8, .leaf (.normal, h_laws_FnUndone_L8 cs ms (uN ms))) | _ => none⟩ (front 4 (rest 4 (rest 1 (rest 10 (b_laws_FnUndone gq0 gq1 gq2 gq3 gq4 gq5 gq6 gq7 gq8 gq9 gq10 gq11))))) (c_laws_FnUndone_3 cs ms)) := evK_of (by kernel_rfl) ht

set_option maxHeartbeats 4000000 in
set_option maxRecDepth 100000 in
theorem q_laws_FnUndone_S4 {VC : FuncId → List AV → AV → Prop} {gq0 gq1 gq2 gq3 gq4 gq5 gq6 gq7 gq8 gq9 gq10 gq11 : FuncId} (cs : List Int) (ms : List Int) {Q_ : Option AV × Env → Prop} (ht : T.ok Q_ (
 T.ob
 (Exec VC ps_laws_FnUndone
 (VCode.block 2
 (VCode.loop
 (b_laws_FnUndone_L2 gq0 gq1 gq2 gq3 gq4 gq5 gq6 gq7 gq8 gq9 gq10
 gq11)))
 (h_laws_FnUndone_L2 cs ms 0) Ex.normal (c_laws_FnUndone_5 cs ms))
 (T.leaf (none, c_laws_FnUndone_5 cs ms)))) :
 T.ok Q_ (evK VC ps_laws_FnUndone ks_laws_FnUndone_5 [.t 4] (.b true) ⟨oc_laws_FnUndone cs ms, fun id σ => match id with | 0 => some (lv_laws_FnUndone_L0, .leaf (.normal, h_laws_FnUndone_L0 cs ms (uN ms))) | 2 => some (lv_laws_FnUndone_L2, .leaf (.normal, h_laws_FnUndone_L2 cs ms (uN ms))) | 6 => some (lv_laws_FnUndone_L6, .leaf (.normal, h_laws_FnUndone_L6 cs ms (uX cs ms) (uK cs ms (uN ms)) (uN ms))) | 8 => some (lv_laws_FnUndone_L8, .leaf (.normal, h_laws_FnUndone_L8 cs ms (uN ms))) | _ => none⟩ (front 1 (rest 4 (rest 4 (rest 1 (rest 10 (b_laws_FnUndone gq0 gq1 gq2 gq3 gq4 gq5 gq6 gq7 gq8 gq9 gq10 gq11)))))) (c_laws_FnUndone_4 cs ms)) := evK_of (by kernel_rfl) ht

set_option maxHeartbeats 4000000 in
set_option maxRecDepth 100000 in
theorem q_laws_FnUndone_S5 {VC : FuncId → List AV → AV → Prop} {gq0 gq1 gq2 gq3 gq4 gq5 gq6 gq7 gq8 gq9 gq10 gq11 : FuncId} (cs : List Int) (ms : List Int) {Q_ : Option AV × Env → Prop} (ht : T.ok Q_ (
 T.ob
 (VC gq1 [AV.sl (Tag.par [0]) 0 (Cont.i IntKind.u8 ms), AV.i IntKind.i64 44, AV.i IntKind.i64 (IntKind.wrap IntKind.i64 (2 + atM ms 40 20))]
 (AV.i IntKind.i64 (atM ms 44 (IntKind.wrap IntKind.i64 (2 + atM ms 40 20)))))
 (T.ob
 (Exec VC ps_laws_FnUndone
 (VCode.block 6
 (VCode.loop
 (b_laws_FnUndone_L6 gq0 gq1 gq2 gq3 gq4 gq5 gq6 gq7 gq8 gq9 gq10
 gq11)))
 (h_laws_FnUndone_L6 cs ms (uX cs ms) [] 0) Ex.normal (h_laws_FnUndone_L6 cs ms (uX cs ms) (uK cs ms (uN ms)) (↑(uN ms) : Int)))
 (T.ob
 (VC gq11 [AV.sl (Tag.par [0]) 0 (Cont.f FloatKind.f32 (uX cs ms)), AV.sl (Tag.par [1]) 0 (Cont.b (uK cs ms (uN ms)))]
 (AV.tup [AV.sl (Tag.own 0) 0 (Cont.f FloatKind.f32 (gapsM (uX cs ms) (uK cs ms (uN ms)))), AV.b true]))
 (T.ite false (T.leaf (some (AV.b false), []))
 (T.ite ((↑(List.length (gapsM (uX cs ms) (uK cs ms (uN ms)))) : Int) != IntKind.wrap IntKind.i64 (2 + atM ms 40 20)) (T.leaf (some (AV.b false), [])) (T.leaf (none, c_laws_FnUndone_6 cs ms)))))))) :
 T.ok Q_ (evK VC ps_laws_FnUndone ks_laws_FnUndone_6 [.t 4] (.b true) ⟨oc_laws_FnUndone cs ms, fun id σ => match id with | 0 => some (lv_laws_FnUndone_L0, .leaf (.normal, h_laws_FnUndone_L0 cs ms (uN ms))) | 2 => some (lv_laws_FnUndone_L2, .leaf (.normal, h_laws_FnUndone_L2 cs ms (uN ms))) | 6 => some (lv_laws_FnUndone_L6, .leaf (.normal, h_laws_FnUndone_L6 cs ms (uX cs ms) (uK cs ms (uN ms)) (uN ms))) | 8 => some (lv_laws_FnUndone_L8, .leaf (.normal, h_laws_FnUndone_L8 cs ms (uN ms))) | _ => none⟩ (front 5 (rest 1 (rest 4 (rest 4 (rest 1 (rest 10 (b_laws_FnUndone gq0 gq1 gq2 gq3 gq4 gq5 gq6 gq7 gq8 gq9 gq10 gq11))))))) (c_laws_FnUndone_5 cs ms)) := evK_of (by kernel_rfl) ht

set_option maxHeartbeats 4000000 in
set_option maxRecDepth 100000 in
theorem q_laws_FnUndone_S6 {VC : FuncId → List AV → AV → Prop} {gq0 gq1 gq2 gq3 gq4 gq5 gq6 gq7 gq8 gq9 gq10 gq11 : FuncId} (cs : List Int) (ms : List Int) {Q_ : Option AV × Env → Prop} (ht : T.ok Q_ (
 T.ob
 (Exec VC ps_laws_FnUndone
 (VCode.block 8
 (VCode.loop
 (b_laws_FnUndone_L8 gq0 gq1 gq2 gq3 gq4 gq5 gq6 gq7 gq8 gq9 gq10
 gq11)))
 (h_laws_FnUndone_L8 cs ms 0) Ex.normal (h_laws_FnUndone_L8 cs ms (↑(uN ms) : Int)))
 (T.leaf (some (AV.b true), [])))) :
 T.ok Q_ (evS VC ps_laws_FnUndone [.t 4] (.b true) ⟨oc_laws_FnUndone cs ms, fun id σ => match id with | 0 => some (lv_laws_FnUndone_L0, .leaf (.normal, h_laws_FnUndone_L0 cs ms (uN ms))) | 2 => some (lv_laws_FnUndone_L2, .leaf (.normal, h_laws_FnUndone_L2 cs ms (uN ms))) | 6 => some (lv_laws_FnUndone_L6, .leaf (.normal, h_laws_FnUndone_L6 cs ms (uX cs ms) (uK cs ms (uN ms)) (uN ms))) | 8 => some (lv_laws_FnUndone_L8, .leaf (.normal, h_laws_FnUndone_L8 cs ms (uN ms))) | _ => none⟩ (rest 5 (rest 1 (rest 4 (rest 4 (rest 1 (rest 10 (b_laws_FnUndone gq0 gq1 gq2 gq3 gq4 gq5 gq6 gq7 gq8 gq9 gq10 gq11))))))) (c_laws_FnUndone_6 cs ms)) := evS_of (by kernel_rfl) ht

-- END laws_FnUndone

/-- what the law draws -/
structure UD (cs ms : List Int) (n : Nat) : Prop where
  hn : 2 ≤ n ∧ n ≤ 21
  eN : uN ms = n
  wN : IntKind.wrap .i64 (2 + atM ms 40 20) = (n : Int)
  w1 : IntKind.wrap .i64 ((n : Int) - 1) = ((n - 1 : Nat) : Int)
  hl : 1 ≤ uL ms ∧ uL ms ≤ n - 1
  wL : IntKind.wrap .i64 (1 + atM ms 41 ((n - 1 : Nat) : Int)) = (uL ms : Int)
  hz : 1 ≤ uZ ms ∧ uZ ms ≤ n
  wZ : IntKind.wrap .i64 (1 + atM ms 42 (n : Int)) = (uZ ms : Int)
  hs : uS ms ≤ 5
  wS : atM ms 43 6 = (uS ms : Int)
  hf : 0 ≤ uF ms ∧ uF ms < n
  lx : (uX cs ms).length = n
  hx : HL 100 (uX cs ms)
theorem ud_of {cs ms : List Int} (hc : Byt cs) (hm : Byt ms) : ∃ n, UD cs ms n := by
  have a0 := at_le hm (i := 40) (n := 20) (by omega)
  have eN : ((uN ms : Nat) : Int) = 2 + atM ms 40 20 := by unfold uN; omega
  refine ⟨uN ms, ?_⟩
  have hn : 2 ≤ uN ms ∧ uN ms ≤ 21 := by omega
  have a1 := at_le hm (i := 41) (n := (uN ms : Int) - 1) (by omega)
  have a2 := at_le hm (i := 42) (n := (uN ms : Int)) (by omega)
  have a3 := at_le hm (i := 43) (n := 6) (by omega)
  have a4 := at_le hm (i := 44) (n := (uN ms : Int)) (by omega)
  have e1 : ((uN ms - 1 : Nat) : Int) = (uN ms : Int) - 1 := by omega
  exact {
    hn := hn
    eN := rfl
    wN := by rw [eN]; exact wrap64_id (by omega) (by omega)
    w1 := by rw [e1]; exact wrap64_id (by omega) (by omega)
    hl := by unfold uL; omega
    wL := by rw [e1, wrap64_id (by omega) (by omega)]; unfold uL; omega
    hz := by unfold uZ; omega
    wZ := by rw [wrap64_id (by omega) (by omega)]; unfold uZ; omega
    hs := by unfold uS; omega
    wS := by unfold uS; omega
    hf := by unfold uF; omega
    lx := s2L_len _ _ _ _
    hx := s2L_HL hc hn.2 }
section
variable {cs ms : List Int} {n : Nat}
theorem UD.series (d : UD cs ms n) : seriesM (uX cs ms) = true := d.hx.series (by have := d.hn; rw [d.lx]; omega)
theorem UD.lag (d : UD cs ms n) : ldOk (uX cs ms) (uL ms : Int) = true ∧ HL 200 (ldM (uX cs ms) (uL ms)) := by
  have := d.hn; have := d.hl
  refine ⟨?_, ldM_HL d.hx (by decide) _⟩
  unfold ldOk
  rw [d.series, inM_of (by rw [d.lx]; omega)]; rfl
theorem UD.undo (d : UD cs ms n) : udOk ((uX cs ms).take (uL ms)) (ldM (uX cs ms) (uL ms)) = true ∧ (ldM (uX cs ms) (uL ms)).length = n - uL ms ∧
    (udM ((uX cs ms).take (uL ms)) (ldM (uX cs ms) (uL ms)) (n - uL ms)).length = n ∧ (∀ i, i < n → sf ((udM ((uX cs ms).take (uL ms)) (ldM (uX cs ms) (uL ms)) (n - uL ms)).getD i 0) ∧ sv ((udM ((uX cs ms).take (uL ms)) (ldM (uX cs ms) (uL ms)) (n - uL ms)).getD i 0) = sv ((uX cs ms).getD i 0)) := by
  have hn := d.hn; have hl := d.hl; have lx := d.lx
  have l1 : (ldM (uX cs ms) (uL ms)).length = n - uL ms := by rw [ldM_len, lx]
  have l2 : ((uX cs ms).take (uL ms)).length = uL ms := by rw [List.length_take, lx]; omega
  refine ⟨?_, l1, by rw [udM_len, l2]; omega, fun i hi => ?_⟩
  · unfold udOk
    rw [(d.hx.take _).series (by omega), d.lag.2.series (by omega), l1, l2]
    simp; omega
  · have := udM_val d.hx (by decide) (l := uL ms) (by omega) (n - uL ms) (by omega) i (by omega)
    exact ⟨this.1.1, this.2⟩
theorem UD.sums (d : UD cs ms n) : HL (100 * n) (rsM (uX cs ms) n) ∧ ldOk (rsM (uX cs ms) n) 1 = true ∧ HL (2 * (100 * n)) (ldM (rsM (uX cs ms) n) 1) ∧ (ldM (rsM (uX cs ms) n) 1).length = n - 1 := by
  have hn := d.hn; have lx := d.lx
  have h1 : HL (100 * n) (rsM (uX cs ms) n) := by
    have := rsM_HL d.hx (by rw [lx]; omega)
    rw [lx] at this; exact this
  have l1 : (rsM (uX cs ms) n).length = n := rsM_len _ _
  refine ⟨h1, ?_, ldM_HL h1 (by omega) 1, by rw [ldM_len, l1]⟩
  unfold ldOk
  rw [h1.series (by omega), inM_of (by omega)]; rfl
theorem UD.back (d : UD cs ms n) {i : Nat} (h0 : 0 < i) (hi : i < n) : sf ((ldM (rsM (uX cs ms) n) 1).getD (i - 1) 0) ∧ sv ((ldM (rsM (uX cs ms) n) 1).getD (i - 1) 0) = sv ((uX cs ms).getD i 0) := by
  have hn := d.hn; have lx := d.lx
  have := back_val d.hx (by rw [lx]; omega) (i := i - 1) (by omega)
  rw [lx, show i - 1 + 1 = i by omega] at this
  exact this
theorem UD.joined (d : UD cs ms n) : perOk (uX cs ms) (uZ ms : Int) = true ∧ finAllM (jsM (uX cs ms) (uZ ms) (n / uZ ms)) = true ∧ 1 ≤ n / uZ ms ∧ (jsM (uX cs ms) (uZ ms) (n / uZ ms)).getD 0 0 = (rsM (uX cs ms) n).getD (uZ ms - 1) 0 ∧
    1 ≤ (n + uZ ms - 1) / uZ ms ∧ (thM (uX cs ms) (uZ ms) ((n + uZ ms - 1) / uZ ms)).getD 0 0 = (uX cs ms).getD 0 0 := by
  have hn := d.hn; have lx := d.lx; have hz := d.hz
  have h1 : 1 ≤ n / uZ ms := (Nat.le_div_iff_mul_le (by omega)).2 (by omega)
  have h2 : 1 ≤ (n + uZ ms - 1) / uZ ms := (Nat.le_div_iff_mul_le (by omega)).2 (by omega)
  refine ⟨?_, ?_, h1, ?_, h2, ?_⟩
  · unfold perOk
    rw [d.series, inM_of (by omega)]; rfl
  · refine finAll_of fun i hi => ?_
    rw [jsM_len] at hi
    have hm := mul_succ_le (n := uZ ms) (by omega) hi
    unfold jsM
    rw [tab_at' _ _ hi]
    have hL : HL 100 (((uX cs ms).drop (uZ ms * i)).take (uZ ms)) := fun j hj => by
      rw [List.length_take, List.length_drop] at hj
      rw [getD_takeN _ _ _ (by omega), getD_dropN]
      exact d.hx _ (by omega)
    have := acc_gr (g := fun i => (((uX cs ms).drop (uZ ms * i)).take (uZ ms)).getD i 0) (j := -1) (b := 100) (by omega) (by omega)
    have l1 : (((uX cs ms).drop (uZ ms * i)).take (uZ ms)).length = uZ ms := by rw [List.length_take, List.length_drop]; omega
    have := rsS_val hL (uZ ms) (by omega) (by omega)
    unfold sumM
    rw [l1]
    exact this.1.1
  · unfold jsM rsM
    rw [tab_at' _ _ (by omega), tab_at' _ _ (by omega), Nat.mul_zero, List.drop_zero, show uZ ms - 1 + 1 = uZ ms by omega]
    exact sum_take _ _ (by omega)
  · unfold thM
    rw [tab_at' _ _ (by omega), Nat.mul_zero]
theorem UD.win (d : UD cs ms n) {i : Nat} (hi : i < n) : (winM (uX cs ms) (uS ms) i).length = uB n (uS ms) i + 1 - uA n (uS ms) i ∧ 1 ≤ (winM (uX cs ms) (uS ms) i).length ∧ (winM (uX cs ms) (uS ms) i).length ≤ 96 := by
  have hn := d.hn; have lx := d.lx; have hs := d.hs
  have := win_lenE (uX cs ms) (uS ms) i (by omega)
  rw [lx] at this
  unfold uA uB
  omega
theorem UD.mean (d : UD cs ms n) {i : Nat} (hi : i < n) {lo hi' : Nat} (elo : uLo (uX cs ms) (uS ms) i (uB n (uS ms) i + 1 - uA n (uS ms) i) = lo) (ehi : uHi (uX cs ms) (uS ms) i (uB n (uS ms) i + 1 - uA n (uS ms) i) = hi') :
    sf lo ∧ sf hi' ∧ (sf (meanM (winM (uX cs ms) (uS ms) i)) ∧ sv lo - 1 / 10000 ≤ sv (meanM (winM (uX cs ms) (uS ms) i)) ∧ sv (meanM (winM (uX cs ms) (uS ms) i)) ≤ sv hi' + 1 / 10000) ∧
    (sf (medM (winM (uX cs ms) (uS ms) i)) ∧ sv lo ≤ sv (medM (winM (uX cs ms) (uS ms) i)) ∧ sv (medM (winM (uX cs ms) (uS ms) i)) ≤ sv hi') ∧
    (-50 ≤ sv lo ∧ sv lo ≤ 50) ∧ (-50 ≤ sv hi' ∧ sv hi' ≤ 50) := by
  have hn := d.hn; have lx := d.lx; have hs := d.hs
  obtain ⟨w1, w2, w3⟩ := d.win hi
  have hA : uA n (uS ms) i + (uB n (uS ms) i + 1 - uA n (uS ms) i) ≤ (uX cs ms).length := by unfold uA uB; omega
  have hi0 := d.hx i (by omega)
  obtain ⟨a1, a2, a3⟩ := lo_le d.hx (uA n (uS ms) i) ((uX cs ms).getD i 0) hi0.1 _ hA
  obtain ⟨b1, b2, b3⟩ := hi_ge d.hx (uA n (uS ms) i) ((uX cs ms).getD i 0) hi0.1 _ hA
  have e1 : accN (fun j a => fmin .f32 a ((uX cs ms).getD (uA n (uS ms) i + j) 0)) (uB n (uS ms) i + 1 - uA n (uS ms) i) ((uX cs ms).getD i 0) = lo := by rw [← elo]; unfold uLo; rw [lx]
  have e2 : accN (fun j a => fmax .f32 a ((uX cs ms).getD (uA n (uS ms) i + j) 0)) (uB n (uS ms) i + 1 - uA n (uS ms) i) ((uX cs ms).getD i 0) = hi' := by rw [← ehi]; unfold uHi; rw [lx]
  rw [e1] at a1 a2 a3
  rw [e2] at b1 b2 b3
  have hw := win_HL d.hx (uS ms) i (by omega)
  have hb : ∀ j, j < (winM (uX cs ms) (uS ms) i).length → sv lo ≤ sv ((winM (uX cs ms) (uS ms) i).getD j 0) ∧ sv ((winM (uX cs ms) (uS ms) i).getD j 0) ≤ sv hi' := fun j hj => by
    rw [win_get _ _ _ hj]
    rw [w1] at hj
    exact ⟨a3 j hj, b3 j hj⟩
  have m1 := mean_val hw ⟨w2, w3⟩ hb
  have m2 := med_val hw w2 (lo := sv lo) (hi := sv hi') (fun x hx => by
    obtain ⟨j, hj, rfl⟩ := List.getElem_of_mem hx
    have := hb j hj
    simpa [List.getD, hj] using this)
  have hbb : ∀ i, i < (uX cs ms).length → -50 ≤ sv ((uX cs ms).getD i 0) ∧ sv ((uX cs ms).getD i 0) ≤ 50 := fun i hi => (d.hx i hi).bound b100
  have c1 := lo_in d.hx (uA n (uS ms) i) ((uX cs ms).getD i 0) hi0.1 (hbb i (by omega)) hbb _ hA
  have c2 := hi_in d.hx (uA n (uS ms) i) ((uX cs ms).getD i 0) hi0.1 (hbb i (by omega)) hbb _ hA
  rw [e1] at c1
  rw [e2] at c2
  exact ⟨a1, b1, m1, m2, c1, c2⟩
end
section
variable {P : Program} {cs ms : List Int} {n : Nat} {g1 g2 g3 g4 g5 g6 g7 g8 g9 g10 g11 g12 : FuncId}
theorem ud_loop0 (d : UD cs ms (uN ms)) (c7 : C_laws_r8Gap P g7) :
    Exec (VCall P) ps_laws_FnUndone (VCode.block 0 (VCode.loop (b_laws_FnUndone_L0 g1 g2 g3 g4 g5 g6 g7 g8 g9 g10 g11 g12))) (h_laws_FnUndone_L0 cs ms 0) Ex.normal (c_laws_FnUndone_2 cs ms) := by
  have hn := d.hn; have lx := d.lx; have hl := d.hl
  obtain ⟨u1, u2, u3, u4⟩ := d.undo
  obtain ⟨s1, s2, s3, s4⟩ := d.sums
  refine for_up (e := .exit 0) (uN ms) (fun i => h_laws_FnUndone_L0 cs ms (i : Nat)) (by first | rfl | simp) (fun i hi => ?_) ?_
  · refine q_laws_FnUndone_L0 _ _ _ ?_
    rw [d.wN]
    simp only [Int.toNat_natCast]
    obtain ⟨v1, v2⟩ := u4 i hi
    rw [r8G_same v1 (d.hx i (by omega)).1 v2, w_succ (by omega)]
    refine T.ok_ite (fun _ => ?_) (fun h => absurd (of_decide_eq_false h) (by omega))
    refine T.ok_ob ⟨by omega, by omega⟩ fun _ => T.ok_ob ⟨by omega, by omega⟩ fun _ => T.ok_ob (c7 _ _) fun _ => T.ok_ifalse (T.ok_ite (fun h => ?_) (fun _ => T.ok_leaf rfl))
    have h0 : 0 < i := by have := of_decide_eq_true h; omega
    obtain ⟨b1, b2⟩ := d.back h0 hi
    rw [w_pred h0 (by omega)]
    simp only [Int.toNat_natCast]
    rw [r8G_same b1 (d.hx i (by omega)).1 b2]
    exact T.ok_ob ⟨by omega, by omega⟩ fun _ => T.ok_ob ⟨by omega, by omega⟩ fun _ => T.ok_ob (c7 _ _) fun _ => T.ok_ifalse (T.ok_leaf rfl)
  · refine q_laws_FnUndone_L0 _ _ _ ?_
    rw [d.wN]
    exact T.ok_ite (fun h => absurd (of_decide_eq_true h) (by omega)) (fun _ => T.ok_leaf rfl)
theorem uLo_succ (xs : List Nat) (s i m : Nat) : uLo xs s i (m + 1) = fmin .f32 (uLo xs s i m) (xs.getD (uA xs.length s i + m) 0) := rfl
theorem uHi_succ (xs : List Nat) (s i m : Nat) : uHi xs s i (m + 1) = fmax .f32 (uHi xs s i m) (xs.getD (uA xs.length s i + m) 0) := rfl
theorem ud_loop4 (d : UD cs ms (uN ms)) {i : Nat} (hi : i < uN ms) {M : Nat} (hM : uB (uN ms) (uS ms) i + 1 - uA (uN ms) (uS ms) i = M) :
    Exec (VCall P) ps_laws_FnUndone (VCode.block 4 (VCode.loop (b_laws_FnUndone_L4 g1 g2 g3 g4 g5 g6 g7 g8 g9 g10 g11 g12))) (h_laws_FnUndone_L4 cs ms i ((uX cs ms).getD i 0) ((uX cs ms).getD i 0) (uA (uN ms) (uS ms) i : Nat)) Ex.normal
      (h_laws_FnUndone_L4 cs ms i (uLo (uX cs ms) (uS ms) i M) (uHi (uX cs ms) (uS ms) i M) (uB (uN ms) (uS ms) i + 1 : Nat)) := by
  have hn := d.hn; have lx := d.lx; have hs := d.hs
  have hA : uA (uN ms) (uS ms) i = i - uS ms := rfl
  have hB : uB (uN ms) (uS ms) i = min (uN ms - 1) (i + uS ms) := rfl
  have wB : (bif decide (IntKind.wrap .i64 ((i : Int) + atM ms 43 6) < IntKind.wrap .i64 ((uN ms : Int) - 1)) then IntKind.wrap .i64 ((i : Int) + atM ms 43 6) else IntKind.wrap .i64 ((uN ms : Int) - 1)) = (uB (uN ms) (uS ms) i : Int) := by
    rw [d.wS, d.w1, wrap64_id (by omega) (by omega)]
    by_cases hh : (i : Int) + (uS ms : Int) < ((uN ms - 1 : Nat) : Int)
    · rw [decide_eq_true hh, cond_true]; omega
    · rw [decide_eq_false hh, cond_false]; omega
  refine for_up (e := .exit 4) M (fun m => h_laws_FnUndone_L4 cs ms i (uLo (uX cs ms) (uS ms) i m) (uHi (uX cs ms) (uS ms) i m) (uA (uN ms) (uS ms) i + m : Nat)) (by first | rfl | simp) (fun m hm => ?_) ?_
  · refine q_laws_FnUndone_L4 _ _ _ _ _ _ ?_
    rw [d.wN, wB, w_succ (by omega)]
    simp only [Int.toNat_natCast]
    refine T.ok_ite (fun _ => ?_) (fun h => absurd (of_decide_eq_false h) (by omega))
    refine T.ok_ob ⟨by omega, by omega⟩ fun _ => T.ok_ob ⟨by omega, by omega⟩ fun _ => T.ok_leaf ?_
    rw [uLo_succ, uHi_succ, lx]; rfl
  · refine q_laws_FnUndone_L4 _ _ _ _ _ _ ?_
    rw [d.wN, wB]
    refine T.ok_ite (fun h => absurd (of_decide_eq_true h) (by omega)) (fun _ => T.ok_leaf ?_)
    rw [show uA (uN ms) (uS ms) i + M = uB (uN ms) (uS ms) i + 1 by omega]
theorem ud_loop2 (d : UD cs ms (uN ms)) :
    Exec (VCall P) ps_laws_FnUndone (VCode.block 2 (VCode.loop (b_laws_FnUndone_L2 g1 g2 g3 g4 g5 g6 g7 g8 g9 g10 g11 g12))) (h_laws_FnUndone_L2 cs ms 0) Ex.normal (c_laws_FnUndone_5 cs ms) := by
  have hn := d.hn; have lx := d.lx; have hs := d.hs
  refine for_up (e := .exit 2) (uN ms) (fun i => h_laws_FnUndone_L2 cs ms (i : Nat)) (by first | rfl | simp) (fun i hi => ?_) ?_
  · refine q_laws_FnUndone_L2 _ _ _ ?_
    rw [d.wN]
    simp only [Int.toNat_natCast]
    have wA : (bif decide (IntKind.wrap .i64 ((i : Int) - atM ms 43 6) > 0) then IntKind.wrap .i64 ((i : Int) - atM ms 43 6) else 0) = (uA (uN ms) (uS ms) i : Int) := by
      have hA : uA (uN ms) (uS ms) i = i - uS ms := rfl
      rw [d.wS, wrap64_id (by omega) (by omega)]
      by_cases hh : (i : Int) - (uS ms : Int) > 0
      · rw [decide_eq_true hh, cond_true]; omega
      · rw [decide_eq_false hh, cond_false]; omega
    have l1 : (movM meanM (uX cs ms) (uS ms)).length = uN ms := by rw [mov_len, lx]
    have l2 : (movM medM (uX cs ms) (uS ms)).length = uN ms := by rw [mov_len, lx]
    rw [wA, w_succ (by omega), mov_at meanM _ _ (by omega), mov_at medM _ _ (by omega)]
    generalize hM : uB (uN ms) (uS ms) i + 1 - uA (uN ms) (uS ms) i = M
    have L4 := ud_loop4 (P := P) (g1 := g1) (g2 := g2) (g3 := g3) (g4 := g4) (g5 := g5) (g6 := g6) (g7 := g7) (g8 := g8) (g9 := g9) (g10 := g10) (g11 := g11) (g12 := g12) d hi hM
    obtain ⟨lo, elo⟩ : ∃ lo, uLo (uX cs ms) (uS ms) i M = lo := ⟨_, rfl⟩
    obtain ⟨up, eup⟩ : ∃ up, uHi (uX cs ms) (uS ms) i M = up := ⟨_, rfl⟩
    obtain ⟨s1, s2, ⟨m0, m1, m2⟩, ⟨e0, e1, e2⟩, b1, b2⟩ := d.mean hi (lo := lo) (hi' := up) (by rw [hM]; exact elo) (by rw [hM]; exact eup)
    rw [elo, eup] at L4 ⊢
    rw [not_below m0 s1 m1 (by grind), not_above m0 s2 m2 (by grind), flt_not e0 s1 e1, fgt_not e0 s2 e2]
    refine T.ok_ite (fun _ => ?_) (fun h => absurd (of_decide_eq_false h) (by omega))
    refine T.ok_ob ⟨by omega, by omega⟩ fun _ => T.ok_ob ⟨by omega, by omega⟩ fun _ => T.ok_ob L4 fun _ => T.ok_ob ⟨by omega, by omega⟩ fun _ => T.ok_ob (fconvOk_32_64 _) fun _ => T.ok_ob (fconvOk_32_64 _) fun _ => T.ok_ifalse ?_
    refine T.ok_ob ⟨by omega, by omega⟩ fun _ => T.ok_ob (fconvOk_32_64 _) fun _ => T.ok_ob (fconvOk_32_64 _) fun _ => T.ok_ifalse (T.ok_ob ⟨by omega, by omega⟩ fun _ => T.ok_ifalse (T.ok_ob ⟨by omega, by omega⟩ fun _ => T.ok_ifalse ?_))
    refine T.ok_ite (fun h => ?_) (fun _ => T.ok_leaf rfl)
    have h0 : uS ms = 0 := by have := d.wS; have : atM ms 43 6 = 0 := by simpa using h
                              omega
    have xi := d.hx i (by omega)
    rw [h0, win_zero (by omega)] 
    obtain ⟨p1, p2⟩ := mean_one xi
    have p3 : medM [(uX cs ms).getD i 0] = (uX cs ms).getD i 0 := by unfold medM; simp [sortM, sortM.insFirst]
    rw [p3, fne_same p1 xi.1 p2, fne_same xi.1 xi.1 rfl]
    exact T.ok_ob ⟨by omega, by rw [h0] at l1; omega⟩ fun _ => T.ok_ob ⟨by omega, by omega⟩ fun _ => T.ok_ifalse (T.ok_ob ⟨by omega, by rw [h0] at l2; omega⟩ fun _ => T.ok_ob ⟨by omega, by omega⟩ fun _ => T.ok_ifalse (T.ok_leaf rfl))
  · refine q_laws_FnUndone_L2 _ _ _ ?_
    rw [d.wN]
    exact T.ok_ite (fun h => absurd (of_decide_eq_true h) (by omega)) (fun _ => T.ok_leaf rfl)
end
section
variable {P : Program} {cs ms : List Int} {n : Nat} {g1 g2 g3 g4 g5 g6 g7 g8 g9 g10 g11 g12 : FuncId}
theorem uK_len (cs ms : List Int) (n : Nat) : (uK cs ms n).length = n := tab_len _ _
theorem uK_succ (cs ms : List Int) (n : Nat) : uK cs ms (n + 1) = uK cs ms n ++ [((n : Int) == uF ms) || decide (atM cs n 3 > 0)] := tab_succ _ _
theorem UD.any (d : UD cs ms (uN ms)) : upK (uK cs ms (uN ms)) 0 < (uK cs ms (uN ms)).length ∧ ((uK cs ms (uN ms)).any fun x => true == x) = true := by
  have hf := d.hf
  have h1 : ((uK cs ms (uN ms)).any fun x => true == x) = true := by
    rw [List.any_eq_true]
    refine ⟨true, ?_, rfl⟩
    unfold uK tab
    rw [List.mem_map]
    refine ⟨(uF ms).toNat, List.mem_range.2 (by omega), ?_⟩
    have : (((uF ms).toNat : Nat) : Int) = uF ms := by omega
    rw [this, beq_self_eq_true]; rfl
  exact ⟨by rw [any_up] at h1; exact of_decide_eq_true h1, h1⟩
theorem ud_loop6 (d : UD cs ms (uN ms)) (hc : Byt cs) (c2 : C_laws_r8At P g2) :
    Exec (VCall P) ps_laws_FnUndone (VCode.block 6 (VCode.loop (b_laws_FnUndone_L6 g1 g2 g3 g4 g5 g6 g7 g8 g9 g10 g11 g12))) (h_laws_FnUndone_L6 cs ms (uX cs ms) [] 0) Ex.normal (h_laws_FnUndone_L6 cs ms (uX cs ms) (uK cs ms (uN ms)) (uN ms : Nat)) := by
  have hn := d.hn; have lx := d.lx
  have eF : atM ms 44 (uN ms : Int) = uF ms := rfl
  refine for_up (e := .exit 6) (uN ms) (fun i => h_laws_FnUndone_L6 cs ms (uX cs ms) (uK cs ms i) (i : Nat)) (by first | rfl | simp) (fun i hi => ?_) ?_
  · refine q_laws_FnUndone_L6 _ _ _ _ _ ?_
    have hl := uK_len cs ms i
    rw [d.wN, eF, w_succ (by omega)]
    refine T.ok_ite (fun _ => ?_) (fun h => absurd (of_decide_eq_false h) (by omega))
    refine T.ok_ite (fun h => ?_) (fun h => ?_)
    · refine T.ok_ob (by omega) fun _ => T.ok_leaf ?_
      rw [uK_succ, h]; rfl
    · refine T.ok_ob (c2 _ _ _ (by omega) hc) fun _ => T.ok_ob (by simp only [List.length_singleton]; omega) fun _ => T.ok_leaf ?_
      rw [uK_succ, h]; rfl
  · refine q_laws_FnUndone_L6 _ _ _ _ _ ?_
    rw [d.wN]
    exact T.ok_ite (fun h => absurd (of_decide_eq_true h) (by omega)) (fun _ => T.ok_leaf rfl)
theorem ud_loop10 (d : UD cs ms (uN ms)) {i : Nat} (hi : i < uN ms) :
    Exec (VCall P) ps_laws_FnUndone (VCode.block 10 (VCode.loop (b_laws_FnUndone_L10 g1 g2 g3 g4 g5 g6 g7 g8 g9 g10 g11 g12))) (h_laws_FnUndone_L10 cs ms i i) Ex.normal (h_laws_FnUndone_L10 cs ms i (dnK (uK cs ms (uN ms)) i)) := by
  have hn := d.hn
  have hl := uK_len cs ms (uN ms)
  generalize hK : uK cs ms (uN ms) = K at *
  have key : ∃ M : Nat, (i : Int) - M = dnK K i ∧ M ≤ i + 1 ∧ (∀ j, j < M → K.getD (i - j) false = false) ∧ (M ≤ i → K.getD (i - M) false = true) := by
    rcases dn_spec K i with ⟨d1, d2⟩ | ⟨m, m1, m2, m3, m4⟩
    · exact ⟨i + 1, by omega, by omega, fun j hj => d2 _ (by omega), fun h => by omega⟩
    · exact ⟨i - m, by omega, by omega, fun j hj => m4 _ (by omega) (by omega), fun _ => by rw [show i - (i - m) = m by omega]; exact m3⟩
  obtain ⟨M, k1, k2, k3, k4⟩ := key
  refine for_up (e := .exit 10) M (fun m => h_laws_FnUndone_L10 cs ms i ((i : Int) - m)) (by show _ = h_laws_FnUndone_L10 cs ms i ((i : Int) - (0 : Nat)); rw [show (i : Int) - (0 : Nat) = i by omega]) (fun m hm => ?_) ?_
  · refine q_laws_FnUndone_L10 _ _ _ _ ?_
    rw [hK, show ((i : Int) - m).toNat = i - m by omega, k3 m hm, wrap64_id (by omega) (by omega), show (i : Int) - m - 1 = (i : Int) - (m + 1 : Nat) by omega]
    exact T.ok_ite (fun _ => T.ok_ob ⟨by omega, by omega⟩ fun _ => T.ok_itrue (T.ok_leaf rfl)) (fun h => absurd (of_decide_eq_false h) (by omega))
  · refine q_laws_FnUndone_L10 _ _ _ _ ?_
    rw [hK, k1]
    refine T.ok_ite (fun h => ?_) (fun _ => T.ok_leaf rfl)
    have h := of_decide_eq_true h
    rw [← k1] at h ⊢
    rw [show ((i : Int) - M).toNat = i - M by omega, k4 (by omega)]
    exact T.ok_ob ⟨by omega, by omega⟩ fun _ => T.ok_ifalse (T.ok_leaf rfl)
theorem ud_loop12 (d : UD cs ms (uN ms)) {i : Nat} (hi : i < uN ms) :
    Exec (VCall P) ps_laws_FnUndone (VCode.block 12 (VCode.loop (b_laws_FnUndone_L12 g1 g2 g3 g4 g5 g6 g7 g8 g9 g10 g11 g12))) (h_laws_FnUndone_L12 cs ms i i) Ex.normal (h_laws_FnUndone_L12 cs ms i (upK (uK cs ms (uN ms)) i : Nat)) := by
  have hn := d.hn
  have hl := uK_len cs ms (uN ms)
  obtain ⟨u1, u2, u3, u4⟩ := up_spec (uK cs ms (uN ms)) i (by omega)
  refine for_up (e := .exit 12) (upK (uK cs ms (uN ms)) i - i) (fun m => h_laws_FnUndone_L12 cs ms i (i + m : Nat)) (by first | rfl | simp) (fun m hm => ?_) ?_
  · refine q_laws_FnUndone_L12 _ _ _ _ ?_
    rw [Int.toNat_natCast, u4 (i + m) (by omega) (by omega), d.wN, w_succ (by omega)]
    exact T.ok_ite (fun _ => T.ok_ob ⟨by omega, by omega⟩ fun _ => T.ok_itrue (T.ok_leaf rfl)) (fun h => absurd (of_decide_eq_false h) (by omega))
  · refine q_laws_FnUndone_L12 _ _ _ _ ?_
    rw [show i + (upK (uK cs ms (uN ms)) i - i) = upK (uK cs ms (uN ms)) i by omega, Int.toNat_natCast, d.wN]
    refine T.ok_ite (fun h => ?_) (fun _ => T.ok_leaf rfl)
    have h := of_decide_eq_true h
    rw [u3 (by omega)]
    exact T.ok_ob ⟨by omega, by omega⟩ fun _ => T.ok_ifalse (T.ok_leaf rfl)
theorem ud_loop8 (d : UD cs ms (uN ms)) :
    Exec (VCall P) ps_laws_FnUndone (VCode.block 8 (VCode.loop (b_laws_FnUndone_L8 g1 g2 g3 g4 g5 g6 g7 g8 g9 g10 g11 g12))) (h_laws_FnUndone_L8 cs ms 0) Ex.normal (h_laws_FnUndone_L8 cs ms (uN ms : Nat)) := by
  have hn := d.hn; have lx := d.lx
  have hl := uK_len cs ms (uN ms)
  have lg : (gapsM (uX cs ms) (uK cs ms (uN ms))).length = uN ms := by rw [gaps_len, lx]
  obtain ⟨⟨m1, m2⟩, m3, m4⟩ := mega_sf
  refine for_up (e := .exit 8) (uN ms) (fun i => h_laws_FnUndone_L8 cs ms (i : Nat)) (by first | rfl | simp) (fun i hi => ?_) ?_
  · refine q_laws_FnUndone_L8 _ _ _ ?_
    have L10 := ud_loop10 (P := P) (g1 := g1) (g2 := g2) (g3 := g3) (g4 := g4) (g5 := g5) (g6 := g6) (g7 := g7) (g8 := g8) (g9 := g9) (g10 := g10) (g11 := g11) (g12 := g12) d hi
    have L12 := ud_loop12 (P := P) (g1 := g1) (g2 := g2) (g3 := g3) (g4 := g4) (g5 := g5) (g6 := g6) (g7 := g7) (g8 := g8) (g9 := g9) (g10 := g10) (g11 := g11) (g12 := g12) d hi
    have hany := d.any.1
    have xi := d.hx i (by omega)
    rw [d.wN]
    simp only [Int.toNat_natCast]
    rw [gaps_at _ _ (by omega), w_succ (by omega)]
    obtain ⟨u1, u2, u3, u4⟩ := up_spec (uK cs ms (uN ms)) i (by omega)
    have dn := dn_spec (uK cs ms (uN ms)) i
    have gv := fun (lo hi' : Rat) => gap_val d.hx (by omega) (by omega) hany (i := i) (by omega) (lo := lo) (hi' := hi')
    have gk : (uK cs ms (uN ms)).getD i false = true → gapM (uX cs ms) (uK cs ms (uN ms)) i = (uX cs ms).getD i 0 := fun h => by unfold gapM; rw [if_pos h]
    have both : (∀ j, j ≤ i → (uK cs ms (uN ms)).getD j false = false) → upK (uK cs ms (uN ms)) i < (uK cs ms (uN ms)).length := fun h => up_lt_of hany (by omega) h
    generalize uK cs ms (uN ms) = K at *
    refine T.ok_ite (fun _ => ?_) (fun h => absurd (of_decide_eq_false h) (by omega))
    refine T.ok_ob ⟨by omega, by omega⟩ fun _ => T.ok_ite (fun hk => ?_) (fun hk => ?_)
    · rw [gk hk, fne_same xi.1 xi.1 rfl]
      exact T.ok_ob ⟨by omega, by omega⟩ fun _ => T.ok_ob ⟨by omega, by omega⟩ fun _ => T.ok_ifalse (T.ok_leaf rfl)
    refine T.ok_ob L10 fun _ => T.ok_ob L12 fun _ => ?_
    have fin : ∀ A B : Nat, sf A → sf B → (-1000000 ≤ sv A ∧ sv A ≤ 1000000) → (-1000000 ≤ sv B ∧ sv B ≤ 1000000) → (sf (gapM (uX cs ms) K i) ∧ sv A - 1 / 10000 ≤ sv (gapM (uX cs ms) K i) ∧ sv (gapM (uX cs ms) K i) ≤ sv B + 1 / 10000) →
        flt .f64 (fconv .f32 .f64 (gapM (uX cs ms) K i)) (fsub .f64 (fconv .f32 .f64 A) 4562254508917369340) = false ∧ fgt .f64 (fconv .f32 .f64 (gapM (uX cs ms) K i)) (fadd .f64 (fconv .f32 .f64 B) 4562254508917369340) = false :=
      fun A B hA hB bA bB h => ⟨not_below h.1 hA h.2.1 bA, not_above h.1 hB h.2.2 bB⟩
    refine T.ok_ite (fun hd => ?_) (fun hd => ?_)
    · have hd := of_decide_eq_true hd
      rcases dn with ⟨d1, _⟩ | ⟨m, e1, e2, e3, e4⟩
      · omega
      have gv1 := gv
      rw [e2] at gv1 ⊢
      simp only [Int.toNat_natCast]
      have xm := d.hx m (by omega)
      obtain ⟨p1, p2, p3, p4⟩ := fmin_val m1 xm.1
      obtain ⟨q1, q2, q3, q4⟩ := fmax_val m3 xm.1
      have bm := xm.bound b100
      refine T.ok_ob ⟨by omega, by omega⟩ fun _ => T.ok_ob ⟨by omega, by omega⟩ fun _ => T.ok_ite (fun hu => ?_) (fun hu => ?_)
      · have hu := of_decide_eq_true hu
        have xu := d.hx (upK K i) (by omega)
        have bu := xu.bound b100
        obtain ⟨v1, v2, v3, v4⟩ := fmin_val p1 xu.1
        obtain ⟨w1, w2, w3, w4⟩ := fmax_val q1 xu.1
        obtain ⟨f1, f2⟩ := fin _ _ v1 w1 (by rw [m2] at p2 p4; constructor <;> grind) (by rw [m4] at q2 q4; constructor <;> grind) (gv1 _ _ (fun m' hm => (show m = m' by omega) ▸ ⟨Rat.le_trans v2 p3, Rat.le_trans q3 w2⟩) (fun _ => ⟨v3, w3⟩) hk)
        rw [f1, f2]
        exact T.ok_ob ⟨by omega, by omega⟩ fun _ => T.ok_ob ⟨by omega, by omega⟩ fun _ => T.ok_ob ⟨by omega, by omega⟩ fun _ => T.ok_ob (fconvOk_32_64 _) fun _ => T.ok_ob (fconvOk_32_64 _) fun _ => T.ok_ifalse
          (T.ok_ob ⟨by omega, by omega⟩ fun _ => T.ok_ob (fconvOk_32_64 _) fun _ => T.ok_ob (fconvOk_32_64 _) fun _ => T.ok_ifalse (T.ok_leaf rfl))
      · have hu := of_decide_eq_false hu
        obtain ⟨f1, f2⟩ := fin _ _ p1 q1 (by rw [m2] at p2 p4; constructor <;> grind) (by rw [m4] at q2 q4; constructor <;> grind) (gv1 _ _ (fun m' hm => (show m = m' by omega) ▸ ⟨p3, q3⟩) (fun h => by omega) hk)
        rw [f1, f2]
        exact T.ok_ob ⟨by omega, by omega⟩ fun _ => T.ok_ob (fconvOk_32_64 _) fun _ => T.ok_ob (fconvOk_32_64 _) fun _ => T.ok_ifalse
          (T.ok_ob ⟨by omega, by omega⟩ fun _ => T.ok_ob (fconvOk_32_64 _) fun _ => T.ok_ob (fconvOk_32_64 _) fun _ => T.ok_ifalse (T.ok_leaf rfl))
    · have hd := of_decide_eq_false hd
      rcases dn with ⟨d1, d2⟩ | ⟨m, e1, e2, e3, e4⟩
      · have hu := both d2
        have xu := d.hx (upK K i) (by omega)
        have bu := xu.bound b100
        obtain ⟨p1, p2, p3, p4⟩ := fmin_val m1 xu.1
        obtain ⟨q1, q2, q3, q4⟩ := fmax_val m3 xu.1
        obtain ⟨f1, f2⟩ := fin _ _ p1 q1 (by rw [m2] at p2 p4; constructor <;> grind) (by rw [m4] at q2 q4; constructor <;> grind) (gv _ _ (fun m' hm => by omega) (fun _ => ⟨p3, q3⟩) hk)
        rw [f1, f2]
        refine T.ok_ite (fun _ => ?_) (fun h => absurd (of_decide_eq_false h) (by omega))
        exact T.ok_ob ⟨by omega, by omega⟩ fun _ => T.ok_ob ⟨by omega, by omega⟩ fun _ => T.ok_ob ⟨by omega, by omega⟩ fun _ => T.ok_ob (fconvOk_32_64 _) fun _ => T.ok_ob (fconvOk_32_64 _) fun _ => T.ok_ifalse
          (T.ok_ob ⟨by omega, by omega⟩ fun _ => T.ok_ob (fconvOk_32_64 _) fun _ => T.ok_ob (fconvOk_32_64 _) fun _ => T.ok_ifalse (T.ok_leaf rfl))
      · omega
  · refine q_laws_FnUndone_L8 _ _ _ ?_
    rw [d.wN]
    exact T.ok_ite (fun h => absurd (of_decide_eq_true h) (by omega)) (fun _ => T.ok_leaf rfl)
theorem UD.movs (d : UD cs ms (uN ms)) : mmOk meanM (uX cs ms) (uS ms : Int) = true ∧ mmOk medM (uX cs ms) (uS ms : Int) = true := by
  have hn := d.hn; have lx := d.lx; have hs := d.hs
  constructor
  · unfold mmOk
    rw [d.series, inM_of (by omega), Int.toNat_natCast, finAll_of fun i hi => ?_]; rfl
    rw [mov_len, lx] at hi
    rw [mov_at _ _ _ (by omega)]
    exact (d.mean hi rfl rfl).2.2.1.1
  · unfold mmOk
    rw [d.series, inM_of (by omega), Int.toNat_natCast, finAll_of fun i hi => ?_]; rfl
    rw [mov_len, lx] at hi
    rw [mov_at _ _ _ (by omega)]
    exact (d.mean hi rfl rfl).2.2.2.1.1
theorem UD.gaps (d : UD cs ms (uN ms)) : fgOk (uX cs ms) (uK cs ms (uN ms)) = true := by
  have hn := d.hn; have lx := d.lx
  have hl := uK_len cs ms (uN ms)
  have ha := d.any
  unfold fgOk
  have h1 : knFin (uX cs ms) (uK cs ms (uN ms)) = true := by
    unfold knFin
    rw [allN_iff]
    intro i hi
    rw [(finM_sf _).2 (d.hx i hi).1]; simp
  rw [h1, ha.2, finAll_of fun i hi => ?_]
  · simp; omega
  · rw [gaps_len, lx] at hi
    rw [gaps_at _ _ (by omega)]
    cases hk : (uK cs ms (uN ms)).getD i false with
    | true =>
      have : gapM (uX cs ms) (uK cs ms (uN ms)) i = (uX cs ms).getD i 0 := by unfold gapM; rw [if_pos hk]
      rw [this]; exact (d.hx i (by omega)).1
    | false =>
      refine (gap_val d.hx (by omega) (by omega) ha.1 (i := i) (by omega) (lo := -50) (hi' := 50) (fun m hm => ?_) (fun h => (d.hx _ h).bound b100) hk).1
      rcases dn_spec (uK cs ms (uN ms)) i with ⟨d1, _⟩ | ⟨m', e1, e2, _⟩
      · omega
      · exact (d.hx m (by omega)).bound b100
end
theorem k_laws_FnUndone {P : Program} {f g1 g2 g3 g4 g5 g6 g7 g8 g9 g10 g11 g12 : FuncId} (h : Is_laws_FnUndone P f g1 g2 g3 g4 g5 g6 g7 g8 g9 g10 g11 g12) (c1 : C_laws_r8Long P g1) (c2 : C_laws_r8At P g2) (c3 : C_spec_R8Series P g3) (c4 : C_impl_LagDifferences P g4) (c5 : C_impl_UndoDifferences P g5) (c6 : C_impl_RunningSums P g6) (c7 : C_laws_r8Gap P g7)
    (c8 : C_impl_JoinSteps P g8) (c9 : C_impl_ThinSteps P g9) (c10 : C_impl_MovingMean P g10) (c11 : C_impl_MovingMedian P g11) (c12 : C_impl_FillGaps P g12) : C_laws_FnUndone P f := by
  intro cs ms
  refine VCall.rng (fun hr => ?_)
  obtain ⟨r1, r2, _⟩ := hr
  obtain ⟨hc, lc⟩ := byt_of (cs := cs) r1
  obtain ⟨hm, lm⟩ := byt_of (cs := ms) r2
  obtain ⟨n, d⟩ := ud_of hc hm
  obtain rfl : uN ms = n := d.eN
  have hn := d.hn; have lx := d.lx; have hl := d.hl; have hz := d.hz; have hs := d.hs
  have mx : maxLen = 9223372036854775807 := rfl
  obtain ⟨u1, u2, u3, u4⟩ := d.undo
  obtain ⟨s1, s2, s3, s4⟩ := d.sums
  obtain ⟨j1, j2, j3, j4, j5, j6⟩ := d.joined
  have lr : (rsM (uX cs ms) (uN ms)).length = uN ms := rsM_len _ _
  have lg : (gapsM (uX cs ms) (uK cs ms (uN ms))).length = uN ms := by rw [gaps_len, lx]
  have lk := uK_len cs ms (uN ms)
  refine h.call_cut (ps := ps_laws_FnUndone) ?_
  refine cut_stepK (H := True) (σ1 := c_laws_FnUndone_1 cs ms) (q_laws_FnUndone_S0 cs ms ?_) (fun _ => ?_)
  · refine T.ok_ob (c1 _ _) fun _ => T.ok_ite (fun _ => T.ok_end rfl) fun _ => ?_
    rw [d.wN, d.w1, d.wL]
    simp only [Int.toNat_natCast, List.drop_zero]
    have a4 := c4 (uX cs ms) (uL ms) (by omega)
    rw [d.lag.1, if_pos rfl, Int.toNat_natCast, ifAll_fin d.lag.2.fin, d.lag.2.fin] at a4
    have a5 := c5 ((uX cs ms).take (uL ms)) (ldM (uX cs ms) (uL ms)) (by rw [List.length_take]; omega) (by omega)
    have f5 : finAllM (udM ((uX cs ms).take (uL ms)) (ldM (uX cs ms) (uL ms)) (uN ms - uL ms)) = true := finAll_of fun i hi => (u4 i (by omega)).1
    rw [u1, u2, if_pos rfl, ifAll_fin f5, f5] at a5
    have a6 := c6 (uX cs ms) (by omega)
    rw [d.series, if_pos rfl, lx, ifAll_fin s1.fin, s1.fin] at a6
    have a4' := c4 (rsM (uX cs ms) (uN ms)) 1 (by omega)
    rw [s2, if_pos rfl, show (1 : Int).toNat = 1 from rfl, ifAll_fin s3.fin, s3.fin] at a4'
    rw [bne_no (by omega), bne_no (by omega), bne_no (by omega)]
    refine T.ok_ob (c2 _ _ _ (by omega) hm) fun _ => T.ok_ob (c3 _ _ (by omega) hc lc) fun _ => T.ok_ob (c2 _ _ _ (by omega) hm) fun _ => T.ok_ob a4 fun _ => T.ok_ob ⟨by omega, by omega⟩ fun _ => T.ok_ob a5 fun _ => T.ok_ob a6 fun _ => T.ok_ob a4' fun _ => ?_
    exact T.ok_ifalse (T.ok_ifalse (T.ok_ifalse (T.ok_ifalse (T.ok_ifalse (T.ok_ifalse (T.ok_ifalse (T.ok_go True.intro)))))))
  refine cut_stepK (H := True) (σ1 := c_laws_FnUndone_2 cs ms) (q_laws_FnUndone_S1 cs ms ?_) (fun _ => ?_)
  · exact T.ok_ob (ud_loop0 d c7) fun _ => T.ok_go True.intro
  refine cut_stepK (H := True) (σ1 := c_laws_FnUndone_3 cs ms) (q_laws_FnUndone_S2 cs ms ?_) (fun _ => ?_)
  · rw [d.wN, d.wZ]
    have a8 := c8 (uX cs ms) (uZ ms) (by omega)
    rw [j1, if_pos rfl, Int.toNat_natCast, lx, ifAll_fin j2, j2] at a8
    have a9 := c9 (uX cs ms) (uZ ms) (by omega)
    rw [j1, if_pos rfl, Int.toNat_natCast, lx] at a9
    have hd1 : uN ms / uZ ms ≤ uN ms := Nat.div_le_self _ _
    have hd2 : (uN ms + uZ ms - 1) / uZ ms ≤ uN ms + uZ ms - 1 := Nat.div_le_self _ _
    have e1 : IntKind.wrap .i64 (Int.tdiv (uN ms : Int) (uZ ms : Int)) = (uN ms / uZ ms : Nat) := by
      rw [Int.tdiv_eq_ediv_of_nonneg (by omega), ← Int.natCast_ediv, wrap64_id (by omega) (by omega)]
    have e2 : IntKind.wrap .i64 (Int.tdiv (IntKind.wrap .i64 (IntKind.wrap .i64 ((uN ms : Int) + (uZ ms : Int)) - 1)) (uZ ms : Int)) = ((uN ms + uZ ms - 1) / uZ ms : Nat) := by
      rw [wrap64_id (n := (uN ms : Int) + uZ ms) (by omega) (by omega), wrap64_id (n := (uN ms : Int) + uZ ms - 1) (by omega) (by omega), show (uN ms : Int) + uZ ms - 1 = ((uN ms + uZ ms - 1 : Nat) : Int) by omega, Int.tdiv_eq_ediv_of_nonneg (by omega), ← Int.natCast_ediv, wrap64_id (by omega) (by omega)]
    have l1 := jsM_len (uX cs ms) (uZ ms) (uN ms / uZ ms)
    have l2 := thM_len (uX cs ms) (uZ ms) ((uN ms + uZ ms - 1) / uZ ms)
    have x0 := d.hx 0 (by omega)
    rw [e1, e2, w_pred (by omega) (by omega), Int.toNat_natCast, bne_no (by omega), bne_no (by omega), j6, fne_same x0.1 x0.1 rfl, j4, r8G_self (s1 _ (by omega)).1]
    refine T.ok_ob (c2 _ _ _ (by omega) hm) fun _ => T.ok_ob a8 fun _ => T.ok_ob a9 fun _ => T.ok_ifalse (T.ok_ifalse (T.ok_ob (by omega) fun _ => T.ok_ifalse (T.ok_ob (by omega) fun _ => T.ok_ifalse (T.ok_ob ⟨by omega, by omega⟩ fun _ => T.ok_ob ⟨by omega, by omega⟩ fun _ => T.ok_ifalse ?_))))
    exact T.ok_ob ⟨by omega, by omega⟩ fun _ => T.ok_ob ⟨by omega, by omega⟩ fun _ => T.ok_ob (c7 _ _) fun _ => T.ok_ifalse (T.ok_go True.intro)
  refine cut_stepK (H := True) (σ1 := c_laws_FnUndone_4 cs ms) (q_laws_FnUndone_S3 cs ms ?_) (fun _ => ?_)
  · obtain ⟨k1, k2⟩ := d.movs
    have a10 := c10 (uX cs ms) (uS ms) (by omega)
    rw [k1, if_pos rfl, Int.toNat_natCast] at a10
    have a11 := c11 (uX cs ms) (uS ms) (by omega)
    rw [k2, if_pos rfl, Int.toNat_natCast] at a11
    have a2 := c2 ms 43 6 (by omega) hm
    rw [d.wS] at a2
    rw [d.wS, d.wN, bne_no (by rw [mov_len]; omega), bne_no (by rw [mov_len]; omega)]
    exact T.ok_ob a2 fun _ => T.ok_ob a10 fun _ => T.ok_ob a11 fun _ => T.ok_ifalse (T.ok_ifalse (T.ok_ifalse (T.ok_ifalse (T.ok_go True.intro))))
  refine cut_stepK (H := True) (σ1 := c_laws_FnUndone_5 cs ms) (q_laws_FnUndone_S4 cs ms ?_) (fun _ => ?_)
  · exact T.ok_ob (ud_loop2 d) fun _ => T.ok_go True.intro
  refine cut_stepK (H := True) (σ1 := c_laws_FnUndone_6 cs ms) (q_laws_FnUndone_S5 cs ms ?_) (fun _ => ?_)
  · have a12 := c12 (uX cs ms) (uK cs ms (uN ms)) (by omega) (by omega)
    rw [d.gaps, if_pos rfl] at a12
    rw [d.wN, bne_no (by omega)]
    exact T.ok_ob (c2 _ _ _ (by omega) hm) fun _ => T.ok_ob (ud_loop6 d hc c2) fun _ => T.ok_ob a12 fun _ => T.ok_ifalse (T.ok_ifalse (T.ok_go True.intro))
  exact cut_last (q_laws_FnUndone_S6 cs ms (T.ok_ob (ud_loop8 d) fun _ => T.ok_endL rfl))

end Go.Proofs.LV
