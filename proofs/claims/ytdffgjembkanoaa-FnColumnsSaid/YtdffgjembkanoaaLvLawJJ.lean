/- The law FnColumns. -/
import Derived.Test.YtdffgjembkanoaaLvLawWX
import Derived.Test.YtdffgjembkanoaaLvFnNNX
import Derived.Test.YtdffgjembkanoaaLvFnFFX
import Derived.Test.YtdffgjembkanoaaLvCol6X
namespace Go.Proofs.LV
open Go Ieee
set_option linter.unusedVariables false
set_option linter.unusedSimpArgs false

open Go.IntKind (wrap)
-- FN laws_b10List
def ps_laws_b10List : List Nat := [0, 1, 4, 5, 10, 12, 13, 14, 25]
def lv_laws_b10List_L0 : List Nat := [0, 1, 12, 13]
def b_laws_b10List_L0 (gq0 : FuncId) : VCode :=
 (.seq
 (.region false [
 ⟨some 14, (.bin .lss), [.t 13, .t 12], none⟩])
 (.seq
 (.cond (.t 14)
 .skip
 (.exit 0))
 (.seq
 (.block 1
 (.seq
 (.region false [
 ⟨some 15, .mv, [.t 13], none⟩,
 ⟨some 5, .mv, [.t 15], none⟩])
 (.seq
 (.region true [
 ⟨some 16, .mv, [.t 0], none⟩,
 ⟨some 17, .mv, [.t 5], none⟩,
 ⟨some 18, .iaddr, [.t 16, .t 17], none⟩,
 ⟨some 19, .load, [.t 18], none⟩,
 ⟨some 20, .mv, [.t 1], none⟩,
 ⟨some 21, .mv, [.t 5], none⟩,
 ⟨some 22, .iaddr, [.t 20, .t 21], none⟩,
 ⟨some 23, .load, [.t 22], none⟩,
 ⟨some 24, (.call gq0), [.t 19, .t 23], none⟩,
 ⟨some 25, .not, [.t 24], none⟩])
 (.cond (.t 25)
 (.seq
 (.region false [
 ⟨some 4, .mv, [.k (.b false)], none⟩])
 .ret)
 .skip))))
 (.region false [
 ⟨some 26, (.bin .add), [.t 13, .k (.i .i64 1)], none⟩,
 ⟨some 13, .mv, [.t 26], none⟩]))))

def b_laws_b10List (gq0 : FuncId) : VCode :=
 (.seq
 (.region false [
 ⟨some 4, .mv, [.k (.b false)], none⟩])
 (.seq
 (.seq
 (.region false [
 ⟨some 6, .mv, [.t 0], none⟩,
 ⟨some 7, .len, [.t 6], none⟩,
 ⟨some 8, .mv, [.t 1], none⟩,
 ⟨some 9, .len, [.t 8], none⟩,
 ⟨some 10, (.bin .neq), [.t 7, .t 9], none⟩])
 (.cond (.t 10)
 (.seq
 (.region false [
 ⟨some 4, .mv, [.k (.b false)], none⟩])
 .ret)
 .skip))
 (.seq
 (.seq
 (.region false [
 ⟨some 11, .mv, [.t 0], none⟩,
 ⟨some 12, .len, [.t 11], none⟩,
 ⟨some 13, .mv, [.k (.i .i64 0)], none⟩])
 (.block 0 (.loop (b_laws_b10List_L0 gq0))))
 (.seq
 (.region false [
 ⟨some 4, .mv, [.k (.b true)], none⟩])
 .ret))))

abbrev Is_laws_b10List (P : Program) (g_f : FuncId) (gq0 : FuncId) : Prop := FnIs P g_f 27 [.t 4] (b_laws_b10List gq0)

abbrev C_laws_b10List (P : Program) (g_f : FuncId) : Prop := ∀ (xs : List Nat) (ys : List Nat) (he : ys = xs) (hx : xs.length ≤ 4294967296), VCall P g_f [PS [0] .f32 xs, PS [1] .f32 ys] (.b true)
def oc1_laws_b10List (as : List AV) : T AV := match as with | [.sl _ _ (.f .f32 xs), .sl _ _ (.f .f32 ys)] => .leaf (.b true) | _ => .fail
def oc_laws_b10List (xs : List Nat) (ys : List Nat) (d : Nat) (as : List AV) : T AV := match d with | 24 => oc1_spec_SameNumber as | _ => .fail
def h_laws_b10List_L0 (xs : List Nat) (ys : List Nat) (v13 : Int) : Env := [AV.sl (Tag.par [0]) 0 (Cont.f .f32 xs), AV.sl (Tag.par [1]) 0 (Cont.f .f32 ys)] ++ anys 10 ++ [AV.i .i64 (↑(List.length xs) : Int), .i .i64 v13] ++ anys 13

theorem q_laws_b10List_L0 {VC : FuncId → List AV → AV → Prop} {gq0 : FuncId} (xs : List Nat) (ys : List Nat) (v13 : Int) {e_ : Ex} {σ_ : Env} (ht : T.ok (fun x_ => x_ = (e_, σ_)) (
 T.ite (decide (v13 < (↑(List.length xs) : Int)))
 (T.ob (0 ≤ v13 ∧ v13 < (↑(List.length xs) : Int))
 (T.ob (0 ≤ v13 ∧ v13 < (↑(List.length ys) : Int))
 (T.ob (VC gq0 [AV.f .f32 (List.getD xs (Int.toNat v13) 0), AV.f .f32 (List.getD ys (Int.toNat v13) 0)] (AV.b (List.getD xs (Int.toNat v13) 0 == List.getD ys (Int.toNat v13) 0)))
 (T.ite (!List.getD xs (Int.toNat v13) 0 == List.getD ys (Int.toNat v13) 0) (T.leaf (Ex.ret, anys 4 ++ AV.b false :: anys 22)) (T.leaf (Ex.normal, h_laws_b10List_L0 xs ys (wrap .i64 (v13 + 1))))))))
 (T.leaf (Ex.exit 0, h_laws_b10List_L0 xs ys v13)))) :
 Exec VC ps_laws_b10List (b_laws_b10List_L0 gq0) (h_laws_b10List_L0 xs ys v13) e_ σ_ := evL_of (lv := lv_laws_b10List_L0) (rs := [4]) (O := ⟨oc_laws_b10List xs ys, fun _ _ => none⟩) (by kernel_rfl) ht

theorem q_laws_b10List {P : Program} {g_f : FuncId} {gq0 : FuncId} (h_ : Is_laws_b10List P g_f gq0) (xs : List Nat) (ys : List Nat) (ht : T.ok (fun x_ => x_ = .b true) (
 T.ite ((↑(List.length xs) : Int) != (↑(List.length ys) : Int)) (T.leaf (AV.b false))
 (T.ob (Exec (VCall P) ps_laws_b10List (VCode.block 0 (VCode.loop (b_laws_b10List_L0 gq0))) (h_laws_b10List_L0 xs ys 0) Ex.normal (h_laws_b10List_L0 xs ys (↑(List.length xs) : Int))) (T.leaf (AV.b true))))) :
 VCall P g_f [PS [0] .f32 xs, PS [1] .f32 ys] (.b true) := h_.call_of ps_laws_b10List ⟨oc_laws_b10List xs ys, fun id σ => match id with | 0 => some (lv_laws_b10List_L0, .leaf (.normal, h_laws_b10List_L0 xs ys xs.length)) | _ => none⟩ (by kernel_rfl) ht

-- END laws_b10List

def kN (ms : List Int) : Nat := (6 + btM ms 0 12).toNat
def kX (cs ms : List Int) : List Nat := s3L cs 0 0 (kN ms)
/-- the columns, of the first m places -/
def kCm (cs ms : List Int) (m : Nat) : LL := [tab m fun _ => 1065353216, tab m fun i => fdiv .f32 (fofi .f32 (i : Int)) 1082130432, kX cs ms]
def kC (cs ms : List Int) : LL := kCm cs ms (kN ms)
def kY (ms : List Int) : List Nat := s3L ms 0 0 (kN ms)
def kOk (cs ms : List Int) : Bool := ftOk (kC cs ms) (kY ms)
def kT (cs ms : List Int) : List Nat := ftOut (kC cs ms) (kY ms)
def kR (cs ms : List Int) : List Nat := if kOk cs ms = true then roR (kC cs ms) (kY ms) else []
def kS (cs ms : List Int) : Nat := if kOk cs ms = true then roS (kC cs ms) (kY ms) else 0
def kF (cs ms : List Int) : List Nat := fitM (kC cs ms) (kT cs ms)
def kSz (cs ms : List Int) (m : Nat) : Nat := accN (fun k s => fadd .f64 s (gapD (fconv .f32 .f64 ((kT cs ms).getD k 0)) 0)) m 4607182418800017408
def kU (cs ms : List Int) (k m : Nat) : Nat := accN (fun i s => fadd .f64 s (fmul .f64 (fconv .f32 .f64 (((kC cs ms).getD k []).getD i 0)) (fconv .f32 .f64 ((kR cs ms).getD i 0)))) m 0
def kL (ms : List Int) : Nat := (1 + btM ms 1 5).toNat
def kLg (ms : List Int) : LL := lagM (kY ms) (kL ms) (kL ms)
def kNow (ms : List Int) : List Nat := (kY ms).drop (kL ms)
def kW1 (ms : List Int) : Nat := fdiv .f32 (fofi .f32 (IntKind.wrap .i64 (btM ms 2 9 - 4))) 1082130432
def kW2 (ms : List Int) : Nat := fdiv .f32 (fofi .f32 (IntKind.wrap .i64 (btM ms 3 9 - 4))) 1082130432
def kW (ms : List Int) : List Nat := [1056964608, kW1 ms, kW2 ms]
def kH (ms : List Int) (i : Nat) : Nat := haV (kW ms) 1086324736 (i : Int)
def kHs (ms : List Int) (m : Nat) : List Nat := tab m (kH ms)
def kO (ms : List Int) : List Nat := ftOut (hfC 12 1086324736 1) (kHs ms 12)

-- FN laws_FnColumns
def ps_laws_FnColumns : List Nat := [0, 1, 4, 5, 6, 7, 8, 9, 10, 11, 12, 13, 14, 15, 16, 17, 18, 19, 20, 21, 22, 23, 24, 25, 26, 27, 28, 29, 30, 31, 32, 33, 34, 35, 36, 37, 38, 41, 53, 102, 103, 133, 135, 136, 137, 149, 150, 151, 154, 155, 156, 186, 189, 190, 191, 212, 240, 243, 254, 256, 257, 258, 261, 291, 306, 316, 332, 334, 335, 336, 349]
def lv_laws_FnColumns_L0 : List Nat := [1, 5, 6, 7]
def lv_laws_FnColumns_L2 : List Nat := [1, 5, 6, 8, 9, 13, 16, 18, 135, 136]
def lv_laws_FnColumns_L4 : List Nat := [1, 5, 6, 8, 13, 16, 18, 149, 150]
def lv_laws_FnColumns_L6 : List Nat := [1, 5, 6, 8, 13, 16, 18, 20, 21, 149, 150, 154, 155]
def lv_laws_FnColumns_L8 : List Nat := [1, 5, 8, 13, 16, 18, 189, 190]
def lv_laws_FnColumns_L10 : List Nat := [1, 5, 8, 24, 25, 26, 28]
def lv_laws_FnColumns_L12 : List Nat := [1, 5, 8, 24, 25, 26, 28, 256, 257]
def lv_laws_FnColumns_L14 : List Nat := [31, 32, 33]
def lv_laws_FnColumns_L16 : List Nat := [31, 36, 334, 335]
def b_laws_FnColumns_L0 (gq0 gq1 gq2 gq3 gq4 gq5 gq6 gq7 gq8 gq9 gq10 gq11 : FuncId) : VCode :=
 (.seq
 (.seq
 (.region false [
 ⟨some 51, .mv, [.t 7], none⟩,
 ⟨some 52, .mv, [.t 5], none⟩,
 ⟨some 53, (.bin .lss), [.t 51, .t 52], none⟩])
 (.cond (.t 53)
 .skip
 (.exit 0)))
 (.seq
 (.block 1
 (.seq
 (.region false [
 ⟨some 56, .mv, [.t 6], none⟩,
 ⟨some 57, .mv, [.t 6], none⟩,
 ⟨some 58, .iaddr, [.t 57, .k (.i .i64 0)], none⟩,
 ⟨some 59, .load, [.t 58], none⟩,
 ⟨some 60, (.lit true (.f .f32 [])), [.k (.f .f32 1065353216)], none⟩,
 ⟨some 61, .app, [.t 59, .t 60], none⟩,
 ⟨some 62, .iaddr, [.t 56, .k (.i .i64 0)], none⟩,
 ⟨none, .store, [.t 62, .t 61], none⟩])
 (.region false [
 ⟨some 63, .mv, [.t 6], none⟩,
 ⟨some 64, .mv, [.t 6], none⟩,
 ⟨some 65, .iaddr, [.t 64, .k (.i .i64 1)], none⟩,
 ⟨some 66, .load, [.t 65], none⟩,
 ⟨some 67, .mv, [.t 7], none⟩,
 ⟨some 68, (.convF .f32), [.t 67], none⟩,
 ⟨some 69, (.bin .quo), [.t 68, .k (.f .f32 1082130432)], none⟩,
 ⟨some 70, (.lit true (.f .f32 [])), [.t 69], none⟩,
 ⟨some 71, .app, [.t 66, .t 70], none⟩,
 ⟨some 72, .iaddr, [.t 63, .k (.i .i64 1)], none⟩,
 ⟨none, .store, [.t 72, .t 71], none⟩])))
 (.region false [
 ⟨some 54, .mv, [.t 7], none⟩,
 ⟨some 55, (.bin .add), [.t 54, .k (.i .i64 1)], none⟩,
 ⟨some 7, .mv, [.t 55], none⟩])))

def b_laws_FnColumns_L2 (gq0 gq1 gq2 gq3 gq4 gq5 gq6 gq7 gq8 gq9 gq10 gq11 : FuncId) : VCode :=
 (.seq
 (.region false [
 ⟨some 137, (.bin .lss), [.t 136, .t 135], none⟩])
 (.seq
 (.cond (.t 137)
 .skip
 (.exit 2))
 (.seq
 (.block 3
 (.seq
 (.region false [
 ⟨some 138, .mv, [.t 136], none⟩,
 ⟨some 19, .mv, [.t 138], none⟩])
 (.region false [
 ⟨some 139, .mv, [.t 18], none⟩,
 ⟨some 140, .mv, [.t 9], none⟩,
 ⟨some 141, .mv, [.t 19], none⟩,
 ⟨some 142, .iaddr, [.t 140, .t 141], none⟩,
 ⟨some 143, .load, [.t 142], none⟩,
 ⟨some 144, (.convF .f64), [.t 143], none⟩,
 ⟨some 145, (.call gq8), [.t 144, .k (.f .f64 0)], none⟩,
 ⟨some 146, (.bin .add), [.t 139, .t 145], none⟩,
 ⟨some 18, .mv, [.t 146], none⟩])))
 (.region false [
 ⟨some 147, (.bin .add), [.t 136, .k (.i .i64 1)], none⟩,
 ⟨some 136, .mv, [.t 147], none⟩]))))

def b_laws_FnColumns_L6 (gq0 gq1 gq2 gq3 gq4 gq5 gq6 gq7 gq8 gq9 gq10 gq11 : FuncId) : VCode :=
 (.seq
 (.region false [
 ⟨some 156, (.bin .lss), [.t 155, .t 154], none⟩])
 (.seq
 (.cond (.t 156)
 .skip
 (.exit 6))
 (.seq
 (.block 7
 (.seq
 (.region false [
 ⟨some 157, .mv, [.t 155], none⟩,
 ⟨some 22, .mv, [.t 157], none⟩])
 (.region true [
 ⟨some 158, .mv, [.t 21], none⟩,
 ⟨some 159, .mv, [.t 6], none⟩,
 ⟨some 160, .mv, [.t 20], none⟩,
 ⟨some 161, .iaddr, [.t 159, .t 160], none⟩,
 ⟨some 162, .load, [.t 161], none⟩,
 ⟨some 163, .mv, [.t 22], none⟩,
 ⟨some 164, .iaddr, [.t 162, .t 163], none⟩,
 ⟨some 165, .load, [.t 164], none⟩,
 ⟨some 166, (.convF .f64), [.t 165], none⟩,
 ⟨some 167, .mv, [.t 13], none⟩,
 ⟨some 168, .mv, [.t 22], none⟩,
 ⟨some 169, .iaddr, [.t 167, .t 168], none⟩,
 ⟨some 170, .load, [.t 169], none⟩,
 ⟨some 171, (.convF .f64), [.t 170], none⟩,
 ⟨some 172, (.bin .mul), [.t 166, .t 171], none⟩,
 ⟨some 173, (.bin .add), [.t 158, .t 172], none⟩,
 ⟨some 21, .mv, [.t 173], none⟩])))
 (.region false [
 ⟨some 174, (.bin .add), [.t 155, .k (.i .i64 1)], none⟩,
 ⟨some 155, .mv, [.t 174], none⟩]))))

def b_laws_FnColumns_L4 (gq0 gq1 gq2 gq3 gq4 gq5 gq6 gq7 gq8 gq9 gq10 gq11 : FuncId) : VCode :=
 (.seq
 (.region false [
 ⟨some 151, (.bin .lss), [.t 150, .t 149], none⟩])
 (.seq
 (.cond (.t 151)
 .skip
 (.exit 4))
 (.seq
 (.block 5
 (.seq
 (.region false [
 ⟨some 152, .mv, [.t 150], none⟩,
 ⟨some 20, .mv, [.t 152], none⟩])
 (.seq
 (.region false [
 ⟨some 21, .mv, [.k (.f .f64 0)], none⟩])
 (.seq
 (.seq
 (.region false [
 ⟨some 153, .mv, [.t 13], none⟩,
 ⟨some 154, .len, [.t 153], none⟩,
 ⟨some 155, .mv, [.k (.i .i64 0)], none⟩])
 (.block 6 (.loop (b_laws_FnColumns_L6 gq0 gq1 gq2 gq3 gq4 gq5 gq6 gq7 gq8 gq9 gq10 gq11))))
 (.seq
 (.region false [
 ⟨some 175, .mv, [.t 18], none⟩,
 ⟨some 176, (.bin .lss), [.t 175, .k (.f .f64 4636737291354636288)], none⟩,
 ⟨some 177, .mv, [.t 176], none⟩,
 ⟨some 178, .mv, [.t 21], some (177, true)⟩,
 ⟨some 179, (.call gq8), [.t 178, .k (.f .f64 0)], some (177, true)⟩,
 ⟨some 180, .mv, [.t 18], some (177, true)⟩,
 ⟨some 181, (.bin .mul), [.k (.f .f64 4576918229304087675), .t 180], some (177, true)⟩,
 ⟨some 182, .mv, [.t 5], some (177, true)⟩,
 ⟨some 183, (.convF .f64), [.t 182], some (177, true)⟩,
 ⟨some 184, (.bin .mul), [.t 181, .t 183], some (177, true)⟩,
 ⟨some 185, (.bin .gtr), [.t 179, .t 184], some (177, true)⟩,
 ⟨some 186, .pick, [.t 177, .t 185, .k (.b false)], none⟩])
 (.cond (.t 186)
 (.seq
 (.region false [
 ⟨some 4, .mv, [.k (.b false)], none⟩])
 .ret)
 .skip))))))
 (.region false [
 ⟨some 187, (.bin .add), [.t 150, .k (.i .i64 1)], none⟩,
 ⟨some 150, .mv, [.t 187], none⟩]))))

def b_laws_FnColumns_L8 (gq0 gq1 gq2 gq3 gq4 gq5 gq6 gq7 gq8 gq9 gq10 gq11 : FuncId) : VCode :=
 (.seq
 (.region false [
 ⟨some 191, (.bin .lss), [.t 190, .t 189], none⟩])
 (.seq
 (.cond (.t 191)
 .skip
 (.exit 8))
 (.seq
 (.block 9
 (.seq
 (.region false [
 ⟨some 192, .mv, [.t 190], none⟩,
 ⟨some 23, .mv, [.t 192], none⟩])
 (.seq
 (.region true [
 ⟨some 193, .mv, [.t 13], none⟩,
 ⟨some 194, .mv, [.t 23], none⟩,
 ⟨some 195, .iaddr, [.t 193, .t 194], none⟩,
 ⟨some 196, .load, [.t 195], none⟩,
 ⟨some 197, (.convF .f64), [.t 196], none⟩,
 ⟨some 198, .mv, [.t 16], none⟩,
 ⟨some 199, .mv, [.t 23], none⟩,
 ⟨some 200, .iaddr, [.t 198, .t 199], none⟩,
 ⟨some 201, .load, [.t 200], none⟩,
 ⟨some 202, (.convF .f64), [.t 201], none⟩,
 ⟨some 203, (.bin .add), [.t 197, .t 202], none⟩,
 ⟨some 204, .mv, [.t 8], none⟩,
 ⟨some 205, .mv, [.t 23], none⟩,
 ⟨some 206, .iaddr, [.t 204, .t 205], none⟩,
 ⟨some 207, .load, [.t 206], none⟩,
 ⟨some 208, (.convF .f64), [.t 207], none⟩,
 ⟨some 209, (.call gq8), [.t 203, .t 208], none⟩,
 ⟨some 210, .mv, [.t 18], none⟩,
 ⟨some 211, (.bin .mul), [.k (.f .f64 4562254508917369340), .t 210], none⟩,
 ⟨some 212, (.bin .gtr), [.t 209, .t 211], none⟩])
 (.cond (.t 212)
 (.seq
 (.region false [
 ⟨some 4, .mv, [.k (.b false)], none⟩])
 .ret)
 .skip))))
 (.region false [
 ⟨some 213, (.bin .add), [.t 190, .k (.i .i64 1)], none⟩,
 ⟨some 190, .mv, [.t 213], none⟩]))))

def b_laws_FnColumns_L12 (gq0 gq1 gq2 gq3 gq4 gq5 gq6 gq7 gq8 gq9 gq10 gq11 : FuncId) : VCode :=
 (.seq
 (.region false [
 ⟨some 258, (.bin .lss), [.t 257, .t 256], none⟩])
 (.seq
 (.cond (.t 258)
 .skip
 (.exit 12))
 (.seq
 (.block 13
 (.seq
 (.region false [
 ⟨some 259, .mv, [.t 257], none⟩,
 ⟨some 29, .mv, [.t 259], none⟩])
 (.seq
 (.region false [
 ⟨some 30, .mv, [.k (.f .f32 1065353216)], none⟩])
 (.seq
 (.seq
 (.region false [
 ⟨some 260, .mv, [.t 28], none⟩,
 ⟨some 261, (.bin .gtr), [.t 260, .k (.i .i64 0)], none⟩])
 (.cond (.t 261)
 (.region false [
 ⟨some 262, .mv, [.t 8], none⟩,
 ⟨some 263, .mv, [.t 29], none⟩,
 ⟨some 264, .mv, [.t 24], none⟩,
 ⟨some 265, (.bin .add), [.t 263, .t 264], none⟩,
 ⟨some 266, .mv, [.t 28], none⟩,
 ⟨some 267, (.bin .sub), [.t 265, .t 266], none⟩,
 ⟨some 268, .iaddr, [.t 262, .t 267], none⟩,
 ⟨some 269, .load, [.t 268], none⟩,
 ⟨some 30, .mv, [.t 269], none⟩])
 .skip))
 (.seq
 (.region true [
 ⟨some 270, .mv, [.t 26], none⟩,
 ⟨some 271, .mv, [.t 29], none⟩,
 ⟨some 272, .iaddr, [.t 270, .t 271], none⟩,
 ⟨some 273, .load, [.t 272], none⟩,
 ⟨some 274, .mv, [.t 8], none⟩,
 ⟨some 275, .mv, [.t 29], none⟩,
 ⟨some 276, .mv, [.t 24], none⟩,
 ⟨some 277, (.bin .add), [.t 275, .t 276], none⟩,
 ⟨some 278, .iaddr, [.t 274, .t 277], none⟩,
 ⟨some 279, .load, [.t 278], none⟩,
 ⟨some 280, (.bin .neq), [.t 273, .t 279], none⟩,
 ⟨some 281, .mv, [.t 280], none⟩,
 ⟨some 282, .mv, [.t 25], some (281, false)⟩,
 ⟨some 283, .mv, [.t 28], some (281, false)⟩,
 ⟨some 284, .iaddr, [.t 282, .t 283], some (281, false)⟩,
 ⟨some 285, .load, [.t 284], some (281, false)⟩,
 ⟨some 286, .mv, [.t 29], some (281, false)⟩,
 ⟨some 287, .iaddr, [.t 285, .t 286], some (281, false)⟩,
 ⟨some 288, .load, [.t 287], some (281, false)⟩,
 ⟨some 289, .mv, [.t 30], some (281, false)⟩,
 ⟨some 290, (.bin .neq), [.t 288, .t 289], some (281, false)⟩,
 ⟨some 291, .pick, [.t 281, .k (.b true), .t 290], none⟩])
 (.cond (.t 291)
 (.seq
 (.region false [
 ⟨some 4, .mv, [.k (.b false)], none⟩])
 .ret)
 .skip))))))
 (.region false [
 ⟨some 292, (.bin .add), [.t 257, .k (.i .i64 1)], none⟩,
 ⟨some 257, .mv, [.t 292], none⟩]))))

def b_laws_FnColumns_L10 (gq0 gq1 gq2 gq3 gq4 gq5 gq6 gq7 gq8 gq9 gq10 gq11 : FuncId) : VCode :=
 (.seq
 (.seq
 (.region false [
 ⟨some 241, .mv, [.t 28], none⟩,
 ⟨some 242, .mv, [.t 24], none⟩,
 ⟨some 243, (.bin .leq), [.t 241, .t 242], none⟩])
 (.cond (.t 243)
 .skip
 (.exit 10)))
 (.seq
 (.block 11
 (.seq
 (.seq
 (.region false [
 ⟨some 246, .mv, [.t 25], none⟩,
 ⟨some 247, .mv, [.t 28], none⟩,
 ⟨some 248, .iaddr, [.t 246, .t 247], none⟩,
 ⟨some 249, .load, [.t 248], none⟩,
 ⟨some 250, .len, [.t 249], none⟩,
 ⟨some 251, .mv, [.t 5], none⟩,
 ⟨some 252, .mv, [.t 24], none⟩,
 ⟨some 253, (.bin .sub), [.t 251, .t 252], none⟩,
 ⟨some 254, (.bin .neq), [.t 250, .t 253], none⟩])
 (.cond (.t 254)
 (.seq
 (.region false [
 ⟨some 4, .mv, [.k (.b false)], none⟩])
 .ret)
 .skip))
 (.seq
 (.region false [
 ⟨some 255, .mv, [.t 26], none⟩,
 ⟨some 256, .len, [.t 255], none⟩,
 ⟨some 257, .mv, [.k (.i .i64 0)], none⟩])
 (.block 12 (.loop (b_laws_FnColumns_L12 gq0 gq1 gq2 gq3 gq4 gq5 gq6 gq7 gq8 gq9 gq10 gq11))))))
 (.region false [
 ⟨some 244, .mv, [.t 28], none⟩,
 ⟨some 245, (.bin .add), [.t 244, .k (.i .i64 1)], none⟩,
 ⟨some 28, .mv, [.t 245], none⟩])))

def b_laws_FnColumns_L14 (gq0 gq1 gq2 gq3 gq4 gq5 gq6 gq7 gq8 gq9 gq10 gq11 : FuncId) : VCode :=
 (.seq
 (.seq
 (.region false [
 ⟨some 305, .mv, [.t 33], none⟩,
 ⟨some 306, (.bin .lss), [.t 305, .k (.i .i64 12)], none⟩])
 (.cond (.t 306)
 .skip
 (.exit 14)))
 (.seq
 (.block 15
 (.seq
 (.region false [
 ⟨some 310, .mv, [.t 31], none⟩,
 ⟨some 311, .mv, [.t 33], none⟩,
 ⟨some 312, (.call gq10), [.t 310, .k (.f .f32 1086324736), .t 311], none⟩,
 ⟨some 309, .mv, [.t 312], none⟩,
 ⟨some 313, (.extract 0), [.t 309], none⟩,
 ⟨some 314, (.extract 1), [.t 309], none⟩,
 ⟨some 34, .mv, [.t 313], none⟩,
 ⟨some 35, .mv, [.t 314], none⟩])
 (.seq
 (.seq
 (.region false [
 ⟨some 315, .mv, [.t 35], none⟩,
 ⟨some 316, .not, [.t 315], none⟩])
 (.cond (.t 316)
 (.seq
 (.region false [
 ⟨some 4, .mv, [.k (.b false)], none⟩])
 .ret)
 .skip))
 (.region false [
 ⟨some 317, .mv, [.t 32], none⟩,
 ⟨some 318, .mv, [.t 34], none⟩,
 ⟨some 319, (.lit true (.f .f32 [])), [.t 318], none⟩,
 ⟨some 320, .app, [.t 317, .t 319], none⟩,
 ⟨some 32, .mv, [.t 320], none⟩]))))
 (.region false [
 ⟨some 307, .mv, [.t 33], none⟩,
 ⟨some 308, (.bin .add), [.t 307, .k (.i .i64 1)], none⟩,
 ⟨some 33, .mv, [.t 308], none⟩])))

def b_laws_FnColumns_L16 (gq0 gq1 gq2 gq3 gq4 gq5 gq6 gq7 gq8 gq9 gq10 gq11 : FuncId) : VCode :=
 (.seq
 (.region false [
 ⟨some 336, (.bin .lss), [.t 335, .t 334], none⟩])
 (.seq
 (.cond (.t 336)
 .skip
 (.exit 16))
 (.seq
 (.block 17
 (.seq
 (.region false [
 ⟨some 337, .mv, [.t 335], none⟩,
 ⟨some 38, .mv, [.t 337], none⟩])
 (.seq
 (.region true [
 ⟨some 338, .mv, [.t 36], none⟩,
 ⟨some 339, .mv, [.t 38], none⟩,
 ⟨some 340, .iaddr, [.t 338, .t 339], none⟩,
 ⟨some 341, .load, [.t 340], none⟩,
 ⟨some 342, (.convF .f64), [.t 341], none⟩,
 ⟨some 343, .mv, [.t 31], none⟩,
 ⟨some 344, .mv, [.t 38], none⟩,
 ⟨some 345, .iaddr, [.t 343, .t 344], none⟩,
 ⟨some 346, .load, [.t 345], none⟩,
 ⟨some 347, (.convF .f64), [.t 346], none⟩,
 ⟨some 348, (.call gq8), [.t 342, .t 347], none⟩,
 ⟨some 349, (.bin .gtr), [.t 348, .k (.f .f64 4562254508917369340)], none⟩])
 (.cond (.t 349)
 (.seq
 (.region false [
 ⟨some 4, .mv, [.k (.b false)], none⟩])
 .ret)
 .skip))))
 (.region false [
 ⟨some 350, (.bin .add), [.t 335, .k (.i .i64 1)], none⟩,
 ⟨some 335, .mv, [.t 350], none⟩]))))

def b_laws_FnColumns (gq0 gq1 gq2 gq3 gq4 gq5 gq6 gq7 gq8 gq9 gq10 gq11 : FuncId) : VCode :=
 (.seq
 (.region false [
 ⟨some 4, .mv, [.k (.b false)], none⟩])
 (.seq
 (.seq
 (.region false [
 ⟨some 39, .mv, [.t 0], none⟩,
 ⟨some 40, .mv, [.t 1], none⟩,
 ⟨some 41, (.call gq0), [.t 39, .t 40], none⟩])
 (.cond (.t 41)
 (.seq
 (.region false [
 ⟨some 4, .mv, [.k (.b true)], none⟩])
 .ret)
 .skip))
 (.seq
 (.region false [
 ⟨some 42, .mv, [.t 1], none⟩,
 ⟨some 43, (.call gq1), [.t 42, .k (.i .i64 0), .k (.i .i64 12)], none⟩,
 ⟨some 44, (.bin .add), [.k (.i .i64 6), .t 43], none⟩,
 ⟨some 5, .mv, [.t 44], none⟩])
 (.seq
 (.region false [
 ⟨some 45, (.lit true (.f .f32 [])), [], none⟩,
 ⟨some 46, (.lit true (.f .f32 [])), [], none⟩,
 ⟨some 47, .mv, [.t 0], none⟩,
 ⟨some 48, .mv, [.t 5], none⟩,
 ⟨some 49, (.call gq2), [.t 47, .t 48], none⟩,
 ⟨some 50, (.lit true (.ff .f32 [])), [.t 45, .t 46, .t 49], none⟩,
 ⟨some 6, .mv, [.t 50], none⟩])
 (.seq
 (.seq
 (.region false [
 ⟨some 7, .mv, [.k (.i .i64 0)], none⟩])
 (.block 0 (.loop (b_laws_FnColumns_L0 gq0 gq1 gq2 gq3 gq4 gq5 gq6 gq7 gq8 gq9 gq10 gq11))))
 (.seq
 (.region false [
 ⟨some 73, .mv, [.t 1], none⟩,
 ⟨some 74, .mv, [.t 5], none⟩,
 ⟨some 75, (.call gq2), [.t 73, .t 74], none⟩,
 ⟨some 8, .mv, [.t 75], none⟩])
 (.seq
 (.region false [
 ⟨some 77, .mv, [.t 6], none⟩,
 ⟨some 78, .mv, [.t 8], none⟩,
 ⟨some 79, (.call gq3), [.t 77, .t 78], none⟩,
 ⟨some 76, .mv, [.t 79], none⟩,
 ⟨some 80, (.extract 0), [.t 76], none⟩,
 ⟨some 81, (.extract 1), [.t 76], none⟩,
 ⟨some 9, .mv, [.t 80], none⟩,
 ⟨some 10, .mv, [.t 81], none⟩])
 (.seq
 (.region false [
 ⟨some 83, .mv, [.t 6], none⟩,
 ⟨some 84, .mv, [.t 8], none⟩,
 ⟨some 85, (.call gq4), [.t 83, .t 84], none⟩,
 ⟨some 82, .mv, [.t 85], none⟩,
 ⟨some 86, (.extract 0), [.t 82], none⟩,
 ⟨some 87, (.extract 1), [.t 82], none⟩,
 ⟨some 11, .mv, [.t 86], none⟩,
 ⟨some 12, .mv, [.t 87], none⟩])
 (.seq
 (.region false [
 ⟨some 89, .mv, [.t 6], none⟩,
 ⟨some 90, .mv, [.t 8], none⟩,
 ⟨some 91, (.call gq5), [.t 89, .t 90], none⟩,
 ⟨some 88, .mv, [.t 91], none⟩,
 ⟨some 92, (.extract 0), [.t 88], none⟩,
 ⟨some 93, (.extract 1), [.t 88], none⟩,
 ⟨some 94, (.extract 2), [.t 88], none⟩,
 ⟨some 13, .mv, [.t 92], none⟩,
 ⟨some 14, .mv, [.t 93], none⟩,
 ⟨some 15, .mv, [.t 94], none⟩])
 (.seq
 (.seq
 (.region false [
 ⟨some 95, .mv, [.t 10], none⟩,
 ⟨some 96, .mv, [.t 12], none⟩,
 ⟨some 97, (.binb .neq), [.t 95, .t 96], none⟩,
 ⟨some 98, .mv, [.t 97], none⟩,
 ⟨some 99, .mv, [.t 15], some (98, false)⟩,
 ⟨some 100, .mv, [.t 12], some (98, false)⟩,
 ⟨some 101, (.binb .neq), [.t 99, .t 100], some (98, false)⟩,
 ⟨some 102, .pick, [.t 98, .k (.b true), .t 101], none⟩])
 (.cond (.t 102)
 (.seq
 (.region false [
 ⟨some 4, .mv, [.k (.b false)], none⟩])
 .ret)
 .skip))
 (.seq
 (.seq
 (.region false [
 ⟨some 103, .mv, [.t 10], none⟩])
 (.cond (.t 103)
 (.seq
 (.region false [
 ⟨some 105, .mv, [.t 6], none⟩,
 ⟨some 106, .mv, [.t 9], none⟩,
 ⟨some 107, (.call gq6), [.t 105, .t 106], none⟩,
 ⟨some 104, .mv, [.t 107], none⟩,
 ⟨some 108, (.extract 0), [.t 104], none⟩,
 ⟨some 109, (.extract 1), [.t 104], none⟩,
 ⟨some 16, .mv, [.t 108], none⟩,
 ⟨some 17, .mv, [.t 109], none⟩])
 (.seq
 (.seq
 (.region false [
 ⟨some 110, .mv, [.t 17], none⟩,
 ⟨some 111, .not, [.t 110], none⟩,
 ⟨some 112, .mv, [.t 111], none⟩,
 ⟨some 113, .mv, [.t 9], some (112, false)⟩,
 ⟨some 114, .mv, [.t 11], some (112, false)⟩,
 ⟨some 115, (.call gq7), [.t 113, .t 114], some (112, false)⟩,
 ⟨some 116, .not, [.t 115], some (112, false)⟩,
 ⟨some 117, .pick, [.t 112, .k (.b true), .t 116], none⟩,
 ⟨some 118, .mv, [.t 117], none⟩,
 ⟨some 119, .mv, [.t 13], some (118, false)⟩,
 ⟨some 120, .len, [.t 119], some (118, false)⟩,
 ⟨some 121, .mv, [.t 5], some (118, false)⟩,
 ⟨some 122, (.bin .neq), [.t 120, .t 121], some (118, false)⟩,
 ⟨some 123, .pick, [.t 118, .k (.b true), .t 122], none⟩,
 ⟨some 124, .mv, [.t 123], none⟩,
 ⟨some 125, .mv, [.t 16], some (124, false)⟩,
 ⟨some 126, .len, [.t 125], some (124, false)⟩,
 ⟨some 127, .mv, [.t 5], some (124, false)⟩,
 ⟨some 128, (.bin .neq), [.t 126, .t 127], some (124, false)⟩,
 ⟨some 129, .pick, [.t 124, .k (.b true), .t 128], none⟩,
 ⟨some 130, .mv, [.t 129], none⟩,
 ⟨some 131, .mv, [.t 14], some (130, false)⟩,
 ⟨some 132, (.bin .lss), [.t 131, .k (.f .f32 0)], some (130, false)⟩,
 ⟨some 133, .pick, [.t 130, .k (.b true), .t 132], none⟩])
 (.cond (.t 133)
 (.seq
 (.region false [
 ⟨some 4, .mv, [.k (.b false)], none⟩])
 .ret)
 .skip))
 (.seq
 (.region false [
 ⟨some 18, .mv, [.k (.f .f64 4607182418800017408)], none⟩])
 (.seq
 (.seq
 (.region false [
 ⟨some 134, .mv, [.t 9], none⟩,
 ⟨some 135, .len, [.t 134], none⟩,
 ⟨some 136, .mv, [.k (.i .i64 0)], none⟩])
 (.block 2 (.loop (b_laws_FnColumns_L2 gq0 gq1 gq2 gq3 gq4 gq5 gq6 gq7 gq8 gq9 gq10 gq11))))
 (.seq
 (.seq
 (.region false [
 ⟨some 148, .mv, [.t 6], none⟩,
 ⟨some 149, .len, [.t 148], none⟩,
 ⟨some 150, .mv, [.k (.i .i64 0)], none⟩])
 (.block 4 (.loop (b_laws_FnColumns_L4 gq0 gq1 gq2 gq3 gq4 gq5 gq6 gq7 gq8 gq9 gq10 gq11))))
 (.seq
 (.region false [
 ⟨some 188, .mv, [.t 13], none⟩,
 ⟨some 189, .len, [.t 188], none⟩,
 ⟨some 190, .mv, [.k (.i .i64 0)], none⟩])
 (.block 8 (.loop (b_laws_FnColumns_L8 gq0 gq1 gq2 gq3 gq4 gq5 gq6 gq7 gq8 gq9 gq10 gq11)))))))))
 .skip))
 (.seq
 (.region false [
 ⟨some 214, .mv, [.t 1], none⟩,
 ⟨some 215, (.call gq1), [.t 214, .k (.i .i64 1), .k (.i .i64 5)], none⟩,
 ⟨some 216, (.bin .add), [.k (.i .i64 1), .t 215], none⟩,
 ⟨some 24, .mv, [.t 216], none⟩])
 (.seq
 (.region false [
 ⟨some 218, .mv, [.t 8], none⟩,
 ⟨some 219, .mv, [.t 24], none⟩,
 ⟨some 220, (.call gq9), [.t 218, .t 219], none⟩,
 ⟨some 217, .mv, [.t 220], none⟩,
 ⟨some 221, (.extract 0), [.t 217], none⟩,
 ⟨some 222, (.extract 1), [.t 217], none⟩,
 ⟨some 223, (.extract 2), [.t 217], none⟩,
 ⟨some 25, .mv, [.t 221], none⟩,
 ⟨some 26, .mv, [.t 222], none⟩,
 ⟨some 27, .mv, [.t 223], none⟩])
 (.seq
 (.seq
 (.region false [
 ⟨some 224, .mv, [.t 27], none⟩,
 ⟨some 225, .not, [.t 224], none⟩,
 ⟨some 226, .mv, [.t 225], none⟩,
 ⟨some 227, .mv, [.t 25], some (226, false)⟩,
 ⟨some 228, .len, [.t 227], some (226, false)⟩,
 ⟨some 229, .mv, [.t 24], some (226, false)⟩,
 ⟨some 230, (.bin .add), [.t 229, .k (.i .i64 1)], some (226, false)⟩,
 ⟨some 231, (.bin .neq), [.t 228, .t 230], some (226, false)⟩,
 ⟨some 232, .pick, [.t 226, .k (.b true), .t 231], none⟩,
 ⟨some 233, .mv, [.t 232], none⟩,
 ⟨some 234, .mv, [.t 26], some (233, false)⟩,
 ⟨some 235, .len, [.t 234], some (233, false)⟩,
 ⟨some 236, .mv, [.t 5], some (233, false)⟩,
 ⟨some 237, .mv, [.t 24], some (233, false)⟩,
 ⟨some 238, (.bin .sub), [.t 236, .t 237], some (233, false)⟩,
 ⟨some 239, (.bin .neq), [.t 235, .t 238], some (233, false)⟩,
 ⟨some 240, .pick, [.t 233, .k (.b true), .t 239], none⟩])
 (.cond (.t 240)
 (.seq
 (.region false [
 ⟨some 4, .mv, [.k (.b false)], none⟩])
 .ret)
 .skip))
 (.seq
 (.seq
 (.region false [
 ⟨some 28, .mv, [.k (.i .i64 0)], none⟩])
 (.block 10 (.loop (b_laws_FnColumns_L10 gq0 gq1 gq2 gq3 gq4 gq5 gq6 gq7 gq8 gq9 gq10 gq11))))
 (.seq
 (.region false [
 ⟨some 293, .mv, [.t 1], none⟩,
 ⟨some 294, (.call gq1), [.t 293, .k (.i .i64 2), .k (.i .i64 9)], none⟩,
 ⟨some 295, (.bin .sub), [.t 294, .k (.i .i64 4)], none⟩,
 ⟨some 296, (.convF .f32), [.t 295], none⟩,
 ⟨some 297, (.bin .quo), [.t 296, .k (.f .f32 1082130432)], none⟩,
 ⟨some 298, .mv, [.t 1], none⟩,
 ⟨some 299, (.call gq1), [.t 298, .k (.i .i64 3), .k (.i .i64 9)], none⟩,
 ⟨some 300, (.bin .sub), [.t 299, .k (.i .i64 4)], none⟩,
 ⟨some 301, (.convF .f32), [.t 300], none⟩,
 ⟨some 302, (.bin .quo), [.t 301, .k (.f .f32 1082130432)], none⟩,
 ⟨some 303, (.lit true (.f .f32 [])), [.k (.f .f32 1056964608), .t 297, .t 302], none⟩,
 ⟨some 31, .mv, [.t 303], none⟩])
 (.seq
 (.region false [
 ⟨some 304, (.lit true (.f .f32 [])), [], none⟩,
 ⟨some 32, .mv, [.t 304], none⟩])
 (.seq
 (.seq
 (.region false [
 ⟨some 33, .mv, [.k (.i .i64 0)], none⟩])
 (.block 14 (.loop (b_laws_FnColumns_L14 gq0 gq1 gq2 gq3 gq4 gq5 gq6 gq7 gq8 gq9 gq10 gq11))))
 (.seq
 (.region false [
 ⟨some 322, .mv, [.t 32], none⟩,
 ⟨some 323, (.call gq11), [.t 322, .k (.f .f32 1086324736), .k (.i .i64 1)], none⟩,
 ⟨some 321, .mv, [.t 323], none⟩,
 ⟨some 324, (.extract 0), [.t 321], none⟩,
 ⟨some 325, (.extract 1), [.t 321], none⟩,
 ⟨some 36, .mv, [.t 324], none⟩,
 ⟨some 37, .mv, [.t 325], none⟩])
 (.seq
 (.seq
 (.region false [
 ⟨some 326, .mv, [.t 37], none⟩,
 ⟨some 327, .not, [.t 326], none⟩,
 ⟨some 328, .mv, [.t 327], none⟩,
 ⟨some 329, .mv, [.t 36], some (328, false)⟩,
 ⟨some 330, .len, [.t 329], some (328, false)⟩,
 ⟨some 331, (.bin .neq), [.t 330, .k (.i .i64 3)], some (328, false)⟩,
 ⟨some 332, .pick, [.t 328, .k (.b true), .t 331], none⟩])
 (.cond (.t 332)
 (.seq
 (.region false [
 ⟨some 4, .mv, [.k (.b false)], none⟩])
 .ret)
 .skip))
 (.seq
 (.seq
 (.region false [
 ⟨some 333, .mv, [.t 36], none⟩,
 ⟨some 334, .len, [.t 333], none⟩,
 ⟨some 335, .mv, [.k (.i .i64 0)], none⟩])
 (.block 16 (.loop (b_laws_FnColumns_L16 gq0 gq1 gq2 gq3 gq4 gq5 gq6 gq7 gq8 gq9 gq10 gq11))))
 (.seq
 (.region false [
 ⟨some 4, .mv, [.k (.b true)], none⟩])
 .ret))))))))))))))))))))))

abbrev Is_laws_FnColumns (P : Program) (g_f : FuncId) (gq0 gq1 gq2 gq3 gq4 gq5 gq6 gq7 gq8 gq9 gq10 gq11 : FuncId) : Prop := FnIs P g_f 351 [.t 4] (b_laws_FnColumns gq0 gq1 gq2 gq3 gq4 gq5 gq6 gq7 gq8 gq9 gq10 gq11)

abbrev C_laws_FnColumns (P : Program) (g_f : FuncId) : Prop := ∀ (cs : List Int) (ms : List Int), VCall P g_f [PU [0] cs, PU [1] ms] (.b true)
def oc_laws_FnColumns (cs : List Int) (ms : List Int) (d : Nat) (as : List AV) : T AV := match d with | 41 => oc1_laws_b10Long as | 43 => oc1_laws_b10At as | 49 => .leaf (OS 0 .f32 (kX cs ms)) | 75 => .leaf (OS 0 .f32 (kY ms)) | 79 => .leaf (.tup [OS 0 .f32 (kT cs ms), .b (kOk cs ms)]) | 85 => .leaf (.tup [OS 0 .f32 (kT cs ms), .b (kOk cs ms)]) | 91 => .leaf (.tup [OS 0 .f32 (kR cs ms), .f .f32 (kS cs ms), .b (kOk cs ms)]) | 107 => .leaf (.tup [OS 0 .f32 (kF cs ms), .b true]) | 115 => oc1_laws_b10List as | 145 => oc1_laws_b10Gap as | 179 => oc1_laws_b10Gap as | 209 => oc1_laws_b10Gap as | 215 => oc1_laws_b10At as | 220 => .leaf (.tup [NW 0 (kLg ms), OS 1 .f32 (kNow ms), .b true]) | 294 => oc1_laws_b10At as | 299 => oc1_laws_b10At as | 312 => (match as with | [_, _, .i _ v] => .leaf (.tup [.f .f32 (kH ms v.toNat), .b true]) | _ => .fail) | 323 => .leaf (.tup [OS 0 .f32 (kO ms), .b true]) | 348 => oc1_laws_b10Gap as | _ => .fail
def c_laws_FnColumns_1 (cs : List Int) (ms : List Int) : Env := [AV.sl (Tag.par [0]) 0 (Cont.i .u8 cs), AV.sl (Tag.par [1]) 0 (Cont.i .u8 ms), .any, .any, AV.b false, AV.i .i64 (wrap .i64 (6 + btM ms 0 12)), AV.nw 400 0 .f32 [[], [], kX cs ms] none] ++ anys 344
def ks_laws_FnColumns_1 : List Nat := [0, 1, 4, 5, 6]
def h_laws_FnColumns_L0 (cs : List Int) (ms : List Int) (columns : LL) (i : Int) : Env := [.any, AV.sl (Tag.par [1]) 0 (Cont.i .u8 ms), .any, .any, .any, AV.i .i64 (wrap .i64 (6 + btM ms 0 12)), .nw 400 0 .f32 columns none, .i .i64 i] ++ anys 343
def c_laws_FnColumns_2 (cs : List Int) (ms : List Int) : Env := [.any, AV.sl (Tag.par [1]) 0 (Cont.i .u8 ms), .any, .any, .any, AV.i .i64 (wrap .i64 (6 + btM ms 0 12)), AV.nw 400 0 .f32 (kC cs ms) none, AV.i .i64 (↑(kN ms) : Int)] ++ anys 343
def ks_laws_FnColumns_2 : List Nat := [1, 5, 6, 7]
def c_laws_FnColumns_3 (cs : List Int) (ms : List Int) : Env := [.any, AV.sl (Tag.par [1]) 0 (Cont.i .u8 ms), .any, .any, .any, AV.i .i64 (wrap .i64 (6 + btM ms 0 12)), AV.nw 400 0 .f32 (kC cs ms) none, AV.i .i64 (↑(kN ms) : Int), AV.sl (Tag.own 600) 0 (Cont.f .f32 (kY ms)), AV.sl (Tag.own 632) 0 (Cont.f .f32 (kT cs ms)), AV.b (kOk cs ms), AV.sl (Tag.own 680) 0 (Cont.f .f32 (kT cs ms)), AV.b (kOk cs ms), AV.sl (Tag.own 728) 0 (Cont.f .f32 (kR cs ms)), AV.f .f32 (kS cs ms), AV.b (kOk cs ms)] ++ anys 335
def ks_laws_FnColumns_3 : List Nat := [1, 5, 6, 7, 8, 9, 10, 11, 12, 13, 14, 15]
def c_laws_FnColumns_4 (cs : List Int) (ms : List Int) : Env := [.any, AV.sl (Tag.par [1]) 0 (Cont.i .u8 ms), .any, .any, .any, AV.i .i64 (wrap .i64 (6 + btM ms 0 12)), AV.nw 400 0 .f32 (kC cs ms) none, AV.i .i64 (↑(kN ms) : Int), AV.sl (Tag.own 600) 0 (Cont.f .f32 (kY ms)), AV.sl (Tag.own 632) 0 (Cont.f .f32 (kT cs ms)), AV.b (kOk cs ms), AV.sl (Tag.own 680) 0 (Cont.f .f32 (kT cs ms)), AV.b (kOk cs ms), AV.sl (Tag.own 728) 0 (Cont.f .f32 (kR cs ms)), AV.f .f32 (kS cs ms), AV.b (kOk cs ms)] ++ anys 335
def ks_laws_FnColumns_4 : List Nat := [1, 5, 6, 7, 8, 9, 10, 11, 12, 13, 14, 15]
def h_laws_FnColumns_L2 (cs : List Int) (ms : List Int) (size : Nat) (v136 : Int) : Env := [.any, AV.sl (Tag.par [1]) 0 (Cont.i .u8 ms), .any, .any, .any, AV.i .i64 (wrap .i64 (6 + btM ms 0 12)), AV.nw 400 0 .f32 (kC cs ms) none, .any, AV.sl (Tag.own 600) 0 (Cont.f .f32 (kY ms)), AV.sl (Tag.own 632) 0 (Cont.f .f32 (kT cs ms)), .any, .any, .any, AV.sl (Tag.own 728) 0 (Cont.f .f32 (kR cs ms)), .any, .any, AV.sl (Tag.own 856) 0 (Cont.f .f32 (kF cs ms)), .any, .f .f64 size] ++ anys 116 ++ [AV.i .i64 (↑(List.length (kT cs ms)) : Int), .i .i64 v136] ++ anys 214
def h_laws_FnColumns_L4 (cs : List Int) (ms : List Int) (v150 : Int) : Env := [.any, AV.sl (Tag.par [1]) 0 (Cont.i .u8 ms), .any, .any, .any, AV.i .i64 (wrap .i64 (6 + btM ms 0 12)), AV.nw 400 0 .f32 (kC cs ms) none, .any, AV.sl (Tag.own 600) 0 (Cont.f .f32 (kY ms))] ++ anys 4 ++ [AV.sl (Tag.own 728) 0 (Cont.f .f32 (kR cs ms)), .any, .any, AV.sl (Tag.own 856) 0 (Cont.f .f32 (kF cs ms)), .any, AV.f .f64 (kSz cs ms (List.length (kT cs ms)))] ++ anys 130 ++ [AV.i .i64 (↑(List.length (kC cs ms)) : Int), .i .i64 v150] ++ anys 200
def h_laws_FnColumns_L6 (cs : List Int) (ms : List Int) (v150 : Int) (sum : Nat) (v155 : Int) : Env := [.any, AV.sl (Tag.par [1]) 0 (Cont.i .u8 ms), .any, .any, .any, AV.i .i64 (wrap .i64 (6 + btM ms 0 12)), AV.nw 400 0 .f32 (kC cs ms) none, .any, AV.sl (Tag.own 600) 0 (Cont.f .f32 (kY ms))] ++ anys 4 ++ [AV.sl (Tag.own 728) 0 (Cont.f .f32 (kR cs ms)), .any, .any, AV.sl (Tag.own 856) 0 (Cont.f .f32 (kF cs ms)), .any, AV.f .f64 (kSz cs ms (List.length (kT cs ms))), .any, AV.i .i64 v150, .f .f64 sum] ++ anys 127 ++ [AV.i .i64 (↑(List.length (kC cs ms)) : Int), AV.i .i64 v150, .any, .any, .any, AV.i .i64 (↑(List.length (kR cs ms)) : Int), .i .i64 v155] ++ anys 195
def h_laws_FnColumns_L8 (cs : List Int) (ms : List Int) (v190 : Int) : Env := [.any, AV.sl (Tag.par [1]) 0 (Cont.i .u8 ms), .any, .any, .any, AV.i .i64 (wrap .i64 (6 + btM ms 0 12)), .any, .any, AV.sl (Tag.own 600) 0 (Cont.f .f32 (kY ms))] ++ anys 4 ++ [AV.sl (Tag.own 728) 0 (Cont.f .f32 (kR cs ms)), .any, .any, AV.sl (Tag.own 856) 0 (Cont.f .f32 (kF cs ms)), .any, AV.f .f64 (kSz cs ms (List.length (kT cs ms)))] ++ anys 170 ++ [AV.i .i64 (↑(List.length (kR cs ms)) : Int), .i .i64 v190] ++ anys 160
def c_laws_FnColumns_5 (cs : List Int) (ms : List Int) : Env := [.any, AV.sl (Tag.par [1]) 0 (Cont.i .u8 ms), .any, .any, .any, AV.i .i64 (wrap .i64 (6 + btM ms 0 12)), .any, .any, AV.sl (Tag.own 600) 0 (Cont.f .f32 (kY ms))] ++ anys 4 ++ [AV.sl (Tag.own 728) 0 (Cont.f .f32 (kR cs ms))] ++ anys 337
def ks_laws_FnColumns_5 : List Nat := [1, 5, 8, 13]
def c_laws_FnColumns_6 (cs : List Int) (ms : List Int) : Env := [.any, AV.sl (Tag.par [1]) 0 (Cont.i .u8 ms), .any, .any, .any, AV.i .i64 (wrap .i64 (6 + btM ms 0 12)), .any, .any, AV.sl (Tag.own 600) 0 (Cont.f .f32 (kY ms))] ++ anys 4 ++ [AV.sl (Tag.own 728) 0 (Cont.f .f32 (kR cs ms))] ++ anys 10 ++ [AV.i .i64 (wrap .i64 (1 + btM ms 1 5)), AV.nw 1760 0 .f32 (kLg ms) none, AV.sl (Tag.own 1761) 0 (Cont.f .f32 (kNow ms)), AV.b true] ++ anys 323
def ks_laws_FnColumns_6 : List Nat := [1, 5, 8, 13, 24, 25, 26, 27]
def c_laws_FnColumns_7 (cs : List Int) (ms : List Int) : Env := [.any, AV.sl (Tag.par [1]) 0 (Cont.i .u8 ms), .any, .any, .any, AV.i .i64 (wrap .i64 (6 + btM ms 0 12)), .any, .any, AV.sl (Tag.own 600) 0 (Cont.f .f32 (kY ms))] ++ anys 4 ++ [AV.sl (Tag.own 728) 0 (Cont.f .f32 (kR cs ms))] ++ anys 10 ++ [AV.i .i64 (wrap .i64 (1 + btM ms 1 5)), AV.nw 1760 0 .f32 (kLg ms) none, AV.sl (Tag.own 1761) 0 (Cont.f .f32 (kNow ms)), AV.b true] ++ anys 323
def ks_laws_FnColumns_7 : List Nat := [1, 5, 8, 13, 24, 25, 26, 27]
def h_laws_FnColumns_L10 (cs : List Int) (ms : List Int) (l : Int) : Env := [.any, AV.sl (Tag.par [1]) 0 (Cont.i .u8 ms), .any, .any, .any, AV.i .i64 (wrap .i64 (6 + btM ms 0 12)), .any, .any, AV.sl (Tag.own 600) 0 (Cont.f .f32 (kY ms))] ++ anys 15 ++ [AV.i .i64 (wrap .i64 (1 + btM ms 1 5)), AV.nw 1760 0 .f32 (kLg ms) none, AV.sl (Tag.own 1761) 0 (Cont.f .f32 (kNow ms)), .any, .i .i64 l] ++ anys 322
def h_laws_FnColumns_L12 (cs : List Int) (ms : List Int) (l : Int) (v257 : Int) : Env := [.any, AV.sl (Tag.par [1]) 0 (Cont.i .u8 ms), .any, .any, .any, AV.i .i64 (wrap .i64 (6 + btM ms 0 12)), .any, .any, AV.sl (Tag.own 600) 0 (Cont.f .f32 (kY ms))] ++ anys 15 ++ [AV.i .i64 (wrap .i64 (1 + btM ms 1 5)), AV.nw 1760 0 .f32 (kLg ms) none, AV.sl (Tag.own 1761) 0 (Cont.f .f32 (kNow ms)), .any, AV.i .i64 l] ++ anys 227 ++ [AV.i .i64 (↑(List.length (kNow ms)) : Int), .i .i64 v257] ++ anys 93
def c_laws_FnColumns_8 (cs : List Int) (ms : List Int) : Env := [.any, AV.sl (Tag.par [1]) 0 (Cont.i .u8 ms), .any, .any, .any, AV.i .i64 (wrap .i64 (6 + btM ms 0 12)), .any, .any, AV.sl (Tag.own 600) 0 (Cont.f .f32 (kY ms))] ++ anys 15 ++ [AV.i .i64 (wrap .i64 (1 + btM ms 1 5)), AV.nw 1760 0 .f32 (kLg ms) none, AV.sl (Tag.own 1761) 0 (Cont.f .f32 (kNow ms)), .any, AV.i .i64 ((↑(kL ms) : Int) + 1)] ++ anys 322
def ks_laws_FnColumns_8 : List Nat := [1, 5, 8, 24, 25, 26, 28]
def h_laws_FnColumns_L14 (cs : List Int) (ms : List Int) (waves : List Nat) (list : List Nat) (i : Int) : Env := anys 31 ++ [.sl (Tag.own 2424) 0 (.f .f32 waves), .sl (Tag.own 2432) 0 (.f .f32 list), .i .i64 i] ++ anys 317
def c_laws_FnColumns_9 (cs : List Int) (ms : List Int) : Env := anys 31 ++ [AV.sl (Tag.own 2424) 0 (Cont.f .f32 (kW ms)), AV.sl (Tag.own 2432) 0 (Cont.f .f32 (kHs ms 12)), AV.i .i64 12] ++ anys 317
def ks_laws_FnColumns_9 : List Nat := [31, 32, 33]
def c_laws_FnColumns_10 (cs : List Int) (ms : List Int) : Env := anys 31 ++ [AV.sl (Tag.own 2424) 0 (Cont.f .f32 (kW ms)), AV.sl (Tag.own 2432) 0 (Cont.f .f32 (kHs ms 12)), AV.i .i64 12, .any, .any, AV.sl (Tag.own 2584) 0 (Cont.f .f32 (kO ms)), AV.b true] ++ anys 313
def ks_laws_FnColumns_10 : List Nat := [31, 32, 33, 36, 37]
def h_laws_FnColumns_L16 (cs : List Int) (ms : List Int) (v335 : Int) : Env := anys 31 ++ [AV.sl (Tag.own 2424) 0 (Cont.f .f32 (kW ms))] ++ anys 4 ++ [AV.sl (Tag.own 2584) 0 (Cont.f .f32 (kO ms))] ++ anys 297 ++ [AV.i .i64 (↑(List.length (kO ms)) : Int), .i .i64 v335] ++ anys 15
def c_laws_FnColumns_11 (cs : List Int) (ms : List Int) : Env := anys 31 ++ [AV.sl (Tag.own 2424) 0 (Cont.f .f32 (kW ms))] ++ anys 4 ++ [AV.sl (Tag.own 2584) 0 (Cont.f .f32 (kO ms))] ++ anys 297 ++ [AV.i .i64 (↑(List.length (kO ms)) : Int), AV.i .i64 3] ++ anys 15
def ks_laws_FnColumns_11 : List Nat := [31, 36, 334, 335]

theorem q_laws_FnColumns_L0 {VC : FuncId → List AV → AV → Prop} {gq0 gq1 gq2 gq3 gq4 gq5 gq6 gq7 gq8 gq9 gq10 gq11 : FuncId} (cs : List Int) (ms : List Int) (columns : LL) (i : Int) {e_ : Ex} {σ_ : Env} (ht : T.ok (fun x_ => x_ = (e_, σ_)) (
 T.ite (decide (i < wrap .i64 (6 + btM ms 0 12)))
 (T.ob ((0 : Int) ≤ 0 ∧ 0 < (↑(List.length columns) : Int))
 (T.ob (List.length (List.getD columns 0 []) + 1 ≤ 4294967296)
 (T.ob ((0 : Int) ≤ 0 ∧ 0 < (↑(List.length columns) : Int))
 (T.ob (0 = 0)
 (T.ob ((0 : Int) ≤ 1 ∧ 1 < (↑(List.length (List.set columns 0 (List.getD columns 0 [] ++ [1065353216]))) : Int))
 (T.ob True
 (T.ob True
 (T.ob (List.length (List.getD (List.set columns 0 (List.getD columns 0 [] ++ [1065353216])) 1 []) + List.length [fdiv .f32 (fofi .f32 i) 1082130432] ≤ 4294967296)
 (T.ob ((0 : Int) ≤ 1 ∧ 1 < (↑(List.length (List.set columns 0 (List.getD columns 0 [] ++ [1065353216]))) : Int))
 (T.ob (1 = 1)
 (T.leaf
 (Ex.normal,
 h_laws_FnColumns_L0 cs ms
 (List.set (List.set columns 0 (List.getD columns 0 [] ++ [1065353216])) 1
 (List.getD (List.set columns 0 (List.getD columns 0 [] ++ [1065353216])) 1 [] ++ [fdiv .f32 (fofi .f32 i) 1082130432]))
 (wrap .i64 (i + 1))))))))))))))
 (T.leaf (Ex.exit 0, h_laws_FnColumns_L0 cs ms columns i)))) :
 Exec VC ps_laws_FnColumns (b_laws_FnColumns_L0 gq0 gq1 gq2 gq3 gq4 gq5 gq6 gq7 gq8 gq9 gq10 gq11) (h_laws_FnColumns_L0 cs ms columns i) e_ σ_ := evL_of (lv := lv_laws_FnColumns_L0) (rs := [4]) (O := ⟨oc_laws_FnColumns cs ms, fun _ _ => none⟩) (by kernel_rfl) ht

theorem q_laws_FnColumns_L2 {VC : FuncId → List AV → AV → Prop} {gq0 gq1 gq2 gq3 gq4 gq5 gq6 gq7 gq8 gq9 gq10 gq11 : FuncId} (cs : List Int) (ms : List Int) (size : Nat) (v136 : Int) {e_ : Ex} {σ_ : Env} (ht : T.ok (fun x_ => x_ = (e_, σ_)) (
 T.ite (decide (v136 < (↑(List.length (kT cs ms)) : Int)))
 (T.ob (0 ≤ v136 ∧ v136 < (↑(List.length (kT cs ms)) : Int))
 (T.ob (fconvOk .f32 .f64 (List.getD (kT cs ms) (Int.toNat v136) 0) = true)
 (T.ob
 (VC gq8 [AV.f .f64 (fconv .f32 .f64 (List.getD (kT cs ms) (Int.toNat v136) 0)), AV.f .f64 0]
 (AV.f .f64 (gapD (fconv .f32 .f64 (List.getD (kT cs ms) (Int.toNat v136) 0)) 0)))
 (T.leaf (Ex.normal, h_laws_FnColumns_L2 cs ms (fadd .f64 size (gapD (fconv .f32 .f64 (List.getD (kT cs ms) (Int.toNat v136) 0)) 0)) (wrap .i64 (v136 + 1)))))))
 (T.leaf (Ex.exit 2, h_laws_FnColumns_L2 cs ms size v136)))) :
 Exec VC ps_laws_FnColumns (b_laws_FnColumns_L2 gq0 gq1 gq2 gq3 gq4 gq5 gq6 gq7 gq8 gq9 gq10 gq11) (h_laws_FnColumns_L2 cs ms size v136) e_ σ_ := evL_of (lv := lv_laws_FnColumns_L2) (rs := [4]) (O := ⟨oc_laws_FnColumns cs ms, fun _ _ => none⟩) (by kernel_rfl) ht

theorem q_laws_FnColumns_L4 {VC : FuncId → List AV → AV → Prop} {gq0 gq1 gq2 gq3 gq4 gq5 gq6 gq7 gq8 gq9 gq10 gq11 : FuncId} (cs : List Int) (ms : List Int) (v150 : Int) {e_ : Ex} {σ_ : Env} (ht : T.ok (fun x_ => x_ = (e_, σ_)) (
 T.ite (decide (v150 < (↑(List.length (kC cs ms)) : Int)))
 (T.ob
 (Exec VC ps_laws_FnColumns
 (VCode.block 6
 (VCode.loop
 (b_laws_FnColumns_L6 gq0 gq1 gq2 gq3 gq4 gq5 gq6 gq7 gq8 gq9 gq10
 gq11)))
 (h_laws_FnColumns_L6 cs ms v150 0 0) Ex.normal (h_laws_FnColumns_L6 cs ms v150 (kU cs ms (Int.toNat v150) (List.length (kR cs ms))) (↑(List.length (kR cs ms)) : Int)))
 (T.ite (flt .f64 (kSz cs ms (List.length (kT cs ms))) 4636737291354636288)
 (T.ob (VC gq8 [AV.f .f64 (kU cs ms (Int.toNat v150) (List.length (kR cs ms))), AV.f .f64 0] (AV.f .f64 (gapD (kU cs ms (Int.toNat v150) (List.length (kR cs ms))) 0)))
 (T.ob True
 (T.ite
 (fgt .f64 (gapD (kU cs ms (Int.toNat v150) (List.length (kR cs ms))) 0)
 (fmul .f64 (fmul .f64 4576918229304087675 (kSz cs ms (List.length (kT cs ms)))) (fofi .f64 (wrap .i64 (6 + btM ms 0 12)))))
 (T.leaf (Ex.ret, anys 4 ++ AV.b false :: anys 346)) (T.leaf (Ex.normal, h_laws_FnColumns_L4 cs ms (wrap .i64 (v150 + 1)))))))
 (T.leaf (Ex.normal, h_laws_FnColumns_L4 cs ms (wrap .i64 (v150 + 1))))))
 (T.leaf (Ex.exit 4, h_laws_FnColumns_L4 cs ms v150)))) :
 Exec VC ps_laws_FnColumns (b_laws_FnColumns_L4 gq0 gq1 gq2 gq3 gq4 gq5 gq6 gq7 gq8 gq9 gq10 gq11) (h_laws_FnColumns_L4 cs ms v150) e_ σ_ := evL_of (lv := lv_laws_FnColumns_L4) (rs := [4]) (O := ⟨oc_laws_FnColumns cs ms, fun id σ => match id with | 6 => some (lv_laws_FnColumns_L6, .leaf (.normal, h_laws_FnColumns_L6 cs ms v150 (kU cs ms v150.toNat (kR cs ms).length) (kR cs ms).length)) | _ => none⟩) (by kernel_rfl) ht

theorem q_laws_FnColumns_L6 {VC : FuncId → List AV → AV → Prop} {gq0 gq1 gq2 gq3 gq4 gq5 gq6 gq7 gq8 gq9 gq10 gq11 : FuncId} (cs : List Int) (ms : List Int) (v150 : Int) (sum : Nat) (v155 : Int) {e_ : Ex} {σ_ : Env} (ht : T.ok (fun x_ => x_ = (e_, σ_)) (
 T.ite (decide (v155 < (↑(List.length (kR cs ms)) : Int)))
 (T.ob (0 ≤ v150 ∧ v150 < (↑(List.length (kC cs ms)) : Int))
 (T.ob (0 ≤ v155 ∧ v155 < (↑(List.length (List.getD (kC cs ms) (Int.toNat v150) [])) : Int))
 (T.ob (fconvOk .f32 .f64 (List.getD (List.getD (kC cs ms) (Int.toNat v150) []) (Int.toNat v155) 0) = true)
 (T.ob (0 ≤ v155 ∧ v155 < (↑(List.length (kR cs ms)) : Int))
 (T.ob (fconvOk .f32 .f64 (List.getD (kR cs ms) (Int.toNat v155) 0) = true)
 (T.leaf
 (Ex.normal,
 h_laws_FnColumns_L6 cs ms v150
 (fadd .f64 sum
 (fmul .f64 (fconv .f32 .f64 (List.getD (List.getD (kC cs ms) (Int.toNat v150) []) (Int.toNat v155) 0))
 (fconv .f32 .f64 (List.getD (kR cs ms) (Int.toNat v155) 0))))
 (wrap .i64 (v155 + 1)))))))))
 (T.leaf (Ex.exit 6, h_laws_FnColumns_L6 cs ms v150 sum v155)))) :
 Exec VC ps_laws_FnColumns (b_laws_FnColumns_L6 gq0 gq1 gq2 gq3 gq4 gq5 gq6 gq7 gq8 gq9 gq10 gq11) (h_laws_FnColumns_L6 cs ms v150 sum v155) e_ σ_ := evL_of (lv := lv_laws_FnColumns_L6) (rs := [4]) (O := ⟨oc_laws_FnColumns cs ms, fun _ _ => none⟩) (by kernel_rfl) ht

theorem q_laws_FnColumns_L8 {VC : FuncId → List AV → AV → Prop} {gq0 gq1 gq2 gq3 gq4 gq5 gq6 gq7 gq8 gq9 gq10 gq11 : FuncId} (cs : List Int) (ms : List Int) (v190 : Int) {e_ : Ex} {σ_ : Env} (ht : T.ok (fun x_ => x_ = (e_, σ_)) (
 T.ite (decide (v190 < (↑(List.length (kR cs ms)) : Int)))
 (T.ob (0 ≤ v190 ∧ v190 < (↑(List.length (kR cs ms)) : Int))
 (T.ob (fconvOk .f32 .f64 (List.getD (kR cs ms) (Int.toNat v190) 0) = true)
 (T.ob (0 ≤ v190 ∧ v190 < (↑(List.length (kF cs ms)) : Int))
 (T.ob (fconvOk .f32 .f64 (List.getD (kF cs ms) (Int.toNat v190) 0) = true)
 (T.ob (0 ≤ v190 ∧ v190 < (↑(List.length (kY ms)) : Int))
 (T.ob (fconvOk .f32 .f64 (List.getD (kY ms) (Int.toNat v190) 0) = true)
 (T.ob
 (VC gq8
 [AV.f .f64 (fadd .f64 (fconv .f32 .f64 (List.getD (kR cs ms) (Int.toNat v190) 0)) (fconv .f32 .f64 (List.getD (kF cs ms) (Int.toNat v190) 0))),
 AV.f .f64 (fconv .f32 .f64 (List.getD (kY ms) (Int.toNat v190) 0))]
 (AV.f .f64
 (gapD (fadd .f64 (fconv .f32 .f64 (List.getD (kR cs ms) (Int.toNat v190) 0)) (fconv .f32 .f64 (List.getD (kF cs ms) (Int.toNat v190) 0)))
 (fconv .f32 .f64 (List.getD (kY ms) (Int.toNat v190) 0)))))
 (T.ite
 (fgt .f64
 (gapD (fadd .f64 (fconv .f32 .f64 (List.getD (kR cs ms) (Int.toNat v190) 0)) (fconv .f32 .f64 (List.getD (kF cs ms) (Int.toNat v190) 0)))
 (fconv .f32 .f64 (List.getD (kY ms) (Int.toNat v190) 0)))
 (fmul .f64 4562254508917369340 (kSz cs ms (List.length (kT cs ms)))))
 (T.leaf (Ex.ret, anys 4 ++ AV.b false :: anys 346)) (T.leaf (Ex.normal, h_laws_FnColumns_L8 cs ms (wrap .i64 (v190 + 1))))))))))))
 (T.leaf (Ex.exit 8, h_laws_FnColumns_L8 cs ms v190)))) :
 Exec VC ps_laws_FnColumns (b_laws_FnColumns_L8 gq0 gq1 gq2 gq3 gq4 gq5 gq6 gq7 gq8 gq9 gq10 gq11) (h_laws_FnColumns_L8 cs ms v190) e_ σ_ := evL_of (lv := lv_laws_FnColumns_L8) (rs := [4]) (O := ⟨oc_laws_FnColumns cs ms, fun _ _ => none⟩) (by kernel_rfl) ht

theorem q_laws_FnColumns_L10 {VC : FuncId → List AV → AV → Prop} {gq0 gq1 gq2 gq3 gq4 gq5 gq6 gq7 gq8 gq9 gq10 gq11 : FuncId} (cs : List Int) (ms : List Int) (l : Int) {e_ : Ex} {σ_ : Env} (ht : T.ok (fun x_ => x_ = (e_, σ_)) (
 T.ite (decide (l ≤ wrap .i64 (1 + btM ms 1 5)))
 (T.ob (0 ≤ l ∧ l < (↑(List.length (kLg ms)) : Int))
 (T.ite ((↑(List.length (List.getD (kLg ms) (Int.toNat l) [])) : Int) != wrap .i64 (wrap .i64 (6 + btM ms 0 12) - wrap .i64 (1 + btM ms 1 5)))
 (T.leaf (Ex.ret, anys 4 ++ AV.b false :: anys 346))
 (T.ob
 (Exec VC ps_laws_FnColumns
 (VCode.block 12
 (VCode.loop
 (b_laws_FnColumns_L12 gq0 gq1 gq2 gq3 gq4 gq5 gq6 gq7 gq8 gq9 gq10
 gq11)))
 (h_laws_FnColumns_L12 cs ms l 0) Ex.normal (h_laws_FnColumns_L12 cs ms l (↑(List.length (kNow ms)) : Int)))
 (T.leaf (Ex.normal, h_laws_FnColumns_L10 cs ms (wrap .i64 (l + 1)))))))
 (T.leaf (Ex.exit 10, h_laws_FnColumns_L10 cs ms l)))) :
 Exec VC ps_laws_FnColumns (b_laws_FnColumns_L10 gq0 gq1 gq2 gq3 gq4 gq5 gq6 gq7 gq8 gq9 gq10 gq11) (h_laws_FnColumns_L10 cs ms l) e_ σ_ := evL_of (lv := lv_laws_FnColumns_L10) (rs := [4]) (O := ⟨oc_laws_FnColumns cs ms, fun id σ => match id with | 12 => some (lv_laws_FnColumns_L12, .leaf (.normal, h_laws_FnColumns_L12 cs ms l (kNow ms).length)) | _ => none⟩) (by kernel_rfl) ht

theorem q_laws_FnColumns_L12 {VC : FuncId → List AV → AV → Prop} {gq0 gq1 gq2 gq3 gq4 gq5 gq6 gq7 gq8 gq9 gq10 gq11 : FuncId} (cs : List Int) (ms : List Int) (l : Int) (v257 : Int) {e_ : Ex} {σ_ : Env} (ht : T.ok (fun x_ => x_ = (e_, σ_)) (
 T.ite (decide (v257 < (↑(List.length (kNow ms)) : Int)))
 (T.ite (decide (l > 0))
 (T.ob
 (0 ≤ wrap .i64 (wrap .i64 (v257 + wrap .i64 (1 + btM ms 1 5)) - l) ∧
 wrap .i64 (wrap .i64 (v257 + wrap .i64 (1 + btM ms 1 5)) - l) < (↑(List.length (kY ms)) : Int))
 (T.ob (0 ≤ v257 ∧ v257 < (↑(List.length (kNow ms)) : Int))
 (T.ob (0 ≤ wrap .i64 (v257 + wrap .i64 (1 + btM ms 1 5)) ∧ wrap .i64 (v257 + wrap .i64 (1 + btM ms 1 5)) < (↑(List.length (kY ms)) : Int))
 (T.ite (fne .f32 (List.getD (kNow ms) (Int.toNat v257) 0) (List.getD (kY ms) (Int.toNat (wrap .i64 (v257 + wrap .i64 (1 + btM ms 1 5)))) 0))
 (T.leaf (Ex.ret, anys 4 ++ AV.b false :: anys 346))
 (T.ob (0 ≤ l ∧ l < (↑(List.length (kLg ms)) : Int))
 (T.ob (0 ≤ v257 ∧ v257 < (↑(List.length (List.getD (kLg ms) (Int.toNat l) [])) : Int))
 (T.ite
 (fne .f32 (List.getD (List.getD (kLg ms) (Int.toNat l) []) (Int.toNat v257) 0)
 (List.getD (kY ms) (Int.toNat (wrap .i64 (wrap .i64 (v257 + wrap .i64 (1 + btM ms 1 5)) - l))) 0))
 (T.leaf (Ex.ret, anys 4 ++ AV.b false :: anys 346)) (T.leaf (Ex.normal, h_laws_FnColumns_L12 cs ms l (wrap .i64 (v257 + 1)))))))))))
 (T.ob (0 ≤ v257 ∧ v257 < (↑(List.length (kNow ms)) : Int))
 (T.ob (0 ≤ wrap .i64 (v257 + wrap .i64 (1 + btM ms 1 5)) ∧ wrap .i64 (v257 + wrap .i64 (1 + btM ms 1 5)) < (↑(List.length (kY ms)) : Int))
 (T.ite (fne .f32 (List.getD (kNow ms) (Int.toNat v257) 0) (List.getD (kY ms) (Int.toNat (wrap .i64 (v257 + wrap .i64 (1 + btM ms 1 5)))) 0))
 (T.leaf (Ex.ret, anys 4 ++ AV.b false :: anys 346))
 (T.ob (0 ≤ l ∧ l < (↑(List.length (kLg ms)) : Int))
 (T.ob (0 ≤ v257 ∧ v257 < (↑(List.length (List.getD (kLg ms) (Int.toNat l) [])) : Int))
 (T.ite (fne .f32 (List.getD (List.getD (kLg ms) (Int.toNat l) []) (Int.toNat v257) 0) 1065353216) (T.leaf (Ex.ret, anys 4 ++ AV.b false :: anys 346))
 (T.leaf (Ex.normal, h_laws_FnColumns_L12 cs ms l (wrap .i64 (v257 + 1)))))))))))
 (T.leaf (Ex.exit 12, h_laws_FnColumns_L12 cs ms l v257)))) :
 Exec VC ps_laws_FnColumns (b_laws_FnColumns_L12 gq0 gq1 gq2 gq3 gq4 gq5 gq6 gq7 gq8 gq9 gq10 gq11) (h_laws_FnColumns_L12 cs ms l v257) e_ σ_ := evL_of (lv := lv_laws_FnColumns_L12) (rs := [4]) (O := ⟨oc_laws_FnColumns cs ms, fun _ _ => none⟩) (by kernel_rfl) ht

theorem q_laws_FnColumns_L14 {VC : FuncId → List AV → AV → Prop} {gq0 gq1 gq2 gq3 gq4 gq5 gq6 gq7 gq8 gq9 gq10 gq11 : FuncId} (cs : List Int) (ms : List Int) (waves : List Nat) (list : List Nat) (i : Int) {e_ : Ex} {σ_ : Env} (ht : T.ok (fun x_ => x_ = (e_, σ_)) (
 T.ite (decide (i < 12))
 (T.ob (VC gq10 [AV.sl (Tag.par [0]) 0 (Cont.f .f32 waves), AV.f .f32 1086324736, AV.i .i64 i] (AV.tup [AV.f .f32 (kH ms (Int.toNat i)), AV.b true]))
 (T.ite false (T.leaf (Ex.ret, anys 4 ++ AV.b false :: anys 346))
 (T.ob (List.length list + List.length [kH ms (Int.toNat i)] ≤ 4294967296) (T.leaf (Ex.normal, h_laws_FnColumns_L14 cs ms waves (list ++ [kH ms (Int.toNat i)]) (wrap .i64 (i + 1)))))))
 (T.leaf (Ex.exit 14, h_laws_FnColumns_L14 cs ms waves list i)))) :
 Exec VC ps_laws_FnColumns (b_laws_FnColumns_L14 gq0 gq1 gq2 gq3 gq4 gq5 gq6 gq7 gq8 gq9 gq10 gq11) (h_laws_FnColumns_L14 cs ms waves list i) e_ σ_ := evL_of (lv := lv_laws_FnColumns_L14) (rs := [4]) (O := ⟨oc_laws_FnColumns cs ms, fun _ _ => none⟩) (by kernel_rfl) ht

theorem q_laws_FnColumns_L16 {VC : FuncId → List AV → AV → Prop} {gq0 gq1 gq2 gq3 gq4 gq5 gq6 gq7 gq8 gq9 gq10 gq11 : FuncId} (cs : List Int) (ms : List Int) (v335 : Int) {e_ : Ex} {σ_ : Env} (ht : T.ok (fun x_ => x_ = (e_, σ_)) (
 T.ite (decide (v335 < (↑(List.length (kO ms)) : Int)))
 (T.ob (0 ≤ v335 ∧ v335 < (↑(List.length (kO ms)) : Int))
 (T.ob (fconvOk .f32 .f64 (List.getD (kO ms) (Int.toNat v335) 0) = true)
 (T.ob (0 ≤ v335 ∧ v335 < (↑(List.length (kW ms)) : Int))
 (T.ob (fconvOk .f32 .f64 (List.getD (kW ms) (Int.toNat v335) 0) = true)
 (T.ob
 (VC gq8 [AV.f .f64 (fconv .f32 .f64 (List.getD (kO ms) (Int.toNat v335) 0)), AV.f .f64 (fconv .f32 .f64 (List.getD (kW ms) (Int.toNat v335) 0))]
 (AV.f .f64 (gapD (fconv .f32 .f64 (List.getD (kO ms) (Int.toNat v335) 0)) (fconv .f32 .f64 (List.getD (kW ms) (Int.toNat v335) 0)))))
 (T.ite (fgt .f64 (gapD (fconv .f32 .f64 (List.getD (kO ms) (Int.toNat v335) 0)) (fconv .f32 .f64 (List.getD (kW ms) (Int.toNat v335) 0))) 4562254508917369340)
 (T.leaf (Ex.ret, anys 4 ++ AV.b false :: anys 346)) (T.leaf (Ex.normal, h_laws_FnColumns_L16 cs ms (wrap .i64 (v335 + 1))))))))))
 (T.leaf (Ex.exit 16, h_laws_FnColumns_L16 cs ms v335)))) :
 Exec VC ps_laws_FnColumns (b_laws_FnColumns_L16 gq0 gq1 gq2 gq3 gq4 gq5 gq6 gq7 gq8 gq9 gq10 gq11) (h_laws_FnColumns_L16 cs ms v335) e_ σ_ := evL_of (lv := lv_laws_FnColumns_L16) (rs := [4]) (O := ⟨oc_laws_FnColumns cs ms, fun _ _ => none⟩) (by kernel_rfl) ht

set_option maxHeartbeats 4000000 in
set_option maxRecDepth 100000 in
theorem q_laws_FnColumns_S0 {VC : FuncId → List AV → AV → Prop} {gq0 gq1 gq2 gq3 gq4 gq5 gq6 gq7 gq8 gq9 gq10 gq11 : FuncId} (cs : List Int) (ms : List Int) {Q_ : Option AV × Env → Prop} (ht : T.ok Q_ (
 T.ob (VC gq0 [AV.sl (Tag.par [0]) 0 (Cont.i .u8 cs), AV.sl (Tag.par [1]) 0 (Cont.i .u8 ms)] (AV.b (decide ((↑(List.length cs) : Int) > 1048576) || decide ((↑(List.length ms) : Int) > 1048576))))
 (T.ite (decide ((↑(List.length cs) : Int) > 1048576) || decide ((↑(List.length ms) : Int) > 1048576)) (T.leaf (some (AV.b true), []))
 (T.ob (VC gq1 [AV.sl (Tag.par [0]) 0 (Cont.i .u8 ms), AV.i .i64 0, AV.i .i64 12] (AV.i .i64 (btM ms 0 12)))
 (T.ob (VC gq2 [AV.sl (Tag.par [0]) 0 (Cont.i .u8 cs), AV.i .i64 (wrap .i64 (6 + btM ms 0 12))] (AV.sl (Tag.own 0) 0 (Cont.f .f32 (kX cs ms))))
 (T.leaf (none, c_laws_FnColumns_1 cs ms))))))) :
 T.ok Q_ (evK VC ps_laws_FnColumns ks_laws_FnColumns_1 [.t 4] (.b true) ⟨oc_laws_FnColumns cs ms, fun id σ => match id with | 0 => some (lv_laws_FnColumns_L0, .leaf (.normal, h_laws_FnColumns_L0 cs ms (kC cs ms) (kN ms))) | 2 => some (lv_laws_FnColumns_L2, .leaf (.normal, h_laws_FnColumns_L2 cs ms (kSz cs ms (kT cs ms).length) (kT cs ms).length)) | 4 => some (lv_laws_FnColumns_L4, .leaf (.normal, h_laws_FnColumns_L4 cs ms 3)) | 8 => some (lv_laws_FnColumns_L8, .leaf (.normal, h_laws_FnColumns_L8 cs ms (kR cs ms).length)) | 10 => some (lv_laws_FnColumns_L10, .leaf (.normal, h_laws_FnColumns_L10 cs ms (kL ms + 1))) | 14 => some (lv_laws_FnColumns_L14, .leaf (.normal, h_laws_FnColumns_L14 cs ms (kW ms) (kHs ms 12) 12)) | 16 => some (lv_laws_FnColumns_L16, .leaf (.normal, h_laws_FnColumns_L16 cs ms 3)) | _ => none⟩ (front 4 (b_laws_FnColumns gq0 gq1 gq2 gq3 gq4 gq5 gq6 gq7 gq8 gq9 gq10 gq11)) (startEnv 351 [PU [0] cs, PU [1] ms])) := evK_of (by kernel_rfl) ht

set_option maxHeartbeats 4000000 in
set_option maxRecDepth 100000 in
theorem q_laws_FnColumns_S1 {VC : FuncId → List AV → AV → Prop} {gq0 gq1 gq2 gq3 gq4 gq5 gq6 gq7 gq8 gq9 gq10 gq11 : FuncId} (cs : List Int) (ms : List Int) {Q_ : Option AV × Env → Prop} (ht : T.ok Q_ (
 T.ob
 (Exec VC ps_laws_FnColumns
 (VCode.block 0
 (VCode.loop
 (b_laws_FnColumns_L0 gq0 gq1 gq2 gq3 gq4 gq5 gq6 gq7 gq8 gq9 gq10
 gq11)))
 (h_laws_FnColumns_L0 cs ms [[], [], kX cs ms] 0) Ex.normal (c_laws_FnColumns_2 cs ms))
 (T.leaf (none, c_laws_FnColumns_2 cs ms)))) :
 T.ok Q_ (evK VC ps_laws_FnColumns ks_laws_FnColumns_2 [.t 4] (.b true) ⟨oc_laws_FnColumns cs ms, fun id σ => match id with | 0 => some (lv_laws_FnColumns_L0, .leaf (.normal, h_laws_FnColumns_L0 cs ms (kC cs ms) (kN ms))) | 2 => some (lv_laws_FnColumns_L2, .leaf (.normal, h_laws_FnColumns_L2 cs ms (kSz cs ms (kT cs ms).length) (kT cs ms).length)) | 4 => some (lv_laws_FnColumns_L4, .leaf (.normal, h_laws_FnColumns_L4 cs ms 3)) | 8 => some (lv_laws_FnColumns_L8, .leaf (.normal, h_laws_FnColumns_L8 cs ms (kR cs ms).length)) | 10 => some (lv_laws_FnColumns_L10, .leaf (.normal, h_laws_FnColumns_L10 cs ms (kL ms + 1))) | 14 => some (lv_laws_FnColumns_L14, .leaf (.normal, h_laws_FnColumns_L14 cs ms (kW ms) (kHs ms 12) 12)) | 16 => some (lv_laws_FnColumns_L16, .leaf (.normal, h_laws_FnColumns_L16 cs ms 3)) | _ => none⟩ (front 1 (rest 4 (b_laws_FnColumns gq0 gq1 gq2 gq3 gq4 gq5 gq6 gq7 gq8 gq9 gq10 gq11))) (c_laws_FnColumns_1 cs ms)) := evK_of (by kernel_rfl) ht

set_option maxHeartbeats 4000000 in
set_option maxRecDepth 100000 in
theorem q_laws_FnColumns_S2 {VC : FuncId → List AV → AV → Prop} {gq0 gq1 gq2 gq3 gq4 gq5 gq6 gq7 gq8 gq9 gq10 gq11 : FuncId} (cs : List Int) (ms : List Int) {Q_ : Option AV × Env → Prop} (ht : T.ok Q_ (
 T.ob (VC gq2 [AV.sl (Tag.par [0]) 0 (Cont.i .u8 ms), AV.i .i64 (wrap .i64 (6 + btM ms 0 12))] (AV.sl (Tag.own 0) 0 (Cont.f .f32 (kY ms))))
 (T.ob
 (VC gq3 [AV.sl (Tag.par [0]) 0 (Cont.ff .f32 (kC cs ms)), AV.sl (Tag.par [1]) 0 (Cont.f .f32 (kY ms))]
 (AV.tup [AV.sl (Tag.own 0) 0 (Cont.f .f32 (kT cs ms)), AV.b (kOk cs ms)]))
 (T.ob
 (VC gq4 [AV.sl (Tag.par [0]) 0 (Cont.ff .f32 (kC cs ms)), AV.sl (Tag.par [1]) 0 (Cont.f .f32 (kY ms))]
 (AV.tup [AV.sl (Tag.own 0) 0 (Cont.f .f32 (kT cs ms)), AV.b (kOk cs ms)]))
 (T.ob
 (VC gq5 [AV.sl (Tag.par [0]) 0 (Cont.ff .f32 (kC cs ms)), AV.sl (Tag.par [1]) 0 (Cont.f .f32 (kY ms))]
 (AV.tup [AV.sl (Tag.own 0) 0 (Cont.f .f32 (kR cs ms)), AV.f .f32 (kS cs ms), AV.b (kOk cs ms)]))
 (T.leaf (none, c_laws_FnColumns_3 cs ms))))))) :
 T.ok Q_ (evK VC ps_laws_FnColumns ks_laws_FnColumns_3 [.t 4] (.b true) ⟨oc_laws_FnColumns cs ms, fun id σ => match id with | 0 => some (lv_laws_FnColumns_L0, .leaf (.normal, h_laws_FnColumns_L0 cs ms (kC cs ms) (kN ms))) | 2 => some (lv_laws_FnColumns_L2, .leaf (.normal, h_laws_FnColumns_L2 cs ms (kSz cs ms (kT cs ms).length) (kT cs ms).length)) | 4 => some (lv_laws_FnColumns_L4, .leaf (.normal, h_laws_FnColumns_L4 cs ms 3)) | 8 => some (lv_laws_FnColumns_L8, .leaf (.normal, h_laws_FnColumns_L8 cs ms (kR cs ms).length)) | 10 => some (lv_laws_FnColumns_L10, .leaf (.normal, h_laws_FnColumns_L10 cs ms (kL ms + 1))) | 14 => some (lv_laws_FnColumns_L14, .leaf (.normal, h_laws_FnColumns_L14 cs ms (kW ms) (kHs ms 12) 12)) | 16 => some (lv_laws_FnColumns_L16, .leaf (.normal, h_laws_FnColumns_L16 cs ms 3)) | _ => none⟩ (front 4 (rest 1 (rest 4 (b_laws_FnColumns gq0 gq1 gq2 gq3 gq4 gq5 gq6 gq7 gq8 gq9 gq10 gq11)))) (c_laws_FnColumns_2 cs ms)) := evK_of (by kernel_rfl) ht

set_option maxHeartbeats 4000000 in
set_option maxRecDepth 100000 in
theorem q_laws_FnColumns_S3 {VC : FuncId → List AV → AV → Prop} {gq0 gq1 gq2 gq3 gq4 gq5 gq6 gq7 gq8 gq9 gq10 gq11 : FuncId} (cs : List Int) (ms : List Int) {Q_ : Option AV × Env → Prop} (ht : T.ok Q_ (
 T.ite (!kOk cs ms == kOk cs ms) (T.leaf (some (AV.b false), [])) (T.ite (!kOk cs ms == kOk cs ms) (T.leaf (some (AV.b false), [])) (T.leaf (none, c_laws_FnColumns_3 cs ms))))) :
 T.ok Q_ (evK VC ps_laws_FnColumns ks_laws_FnColumns_4 [.t 4] (.b true) ⟨oc_laws_FnColumns cs ms, fun id σ => match id with | 0 => some (lv_laws_FnColumns_L0, .leaf (.normal, h_laws_FnColumns_L0 cs ms (kC cs ms) (kN ms))) | 2 => some (lv_laws_FnColumns_L2, .leaf (.normal, h_laws_FnColumns_L2 cs ms (kSz cs ms (kT cs ms).length) (kT cs ms).length)) | 4 => some (lv_laws_FnColumns_L4, .leaf (.normal, h_laws_FnColumns_L4 cs ms 3)) | 8 => some (lv_laws_FnColumns_L8, .leaf (.normal, h_laws_FnColumns_L8 cs ms (kR cs ms).length)) | 10 => some (lv_laws_FnColumns_L10, .leaf (.normal, h_laws_FnColumns_L10 cs ms (kL ms + 1))) | 14 => some (lv_laws_FnColumns_L14, .leaf (.normal, h_laws_FnColumns_L14 cs ms (kW ms) (kHs ms 12) 12)) | 16 => some (lv_laws_FnColumns_L16, .leaf (.normal, h_laws_FnColumns_L16 cs ms 3)) | _ => none⟩ (front 1 (rest 4 (rest 1 (rest 4 (b_laws_FnColumns gq0 gq1 gq2 gq3 gq4 gq5 gq6 gq7 gq8 gq9 gq10 gq11))))) (c_laws_FnColumns_3 cs ms)) := evK_of (by kernel_rfl) ht

set_option maxHeartbeats 4000000 in
set_option maxRecDepth 100000 in
theorem q_laws_FnColumns_S4 {VC : FuncId → List AV → AV → Prop} {gq0 gq1 gq2 gq3 gq4 gq5 gq6 gq7 gq8 gq9 gq10 gq11 : FuncId} (cs : List Int) (ms : List Int) {Q_ : Option AV × Env → Prop} (ht : T.ok Q_ (
 T.ite (kOk cs ms)
 (T.ob (VC gq6 [AV.sl (Tag.par [0]) 0 (Cont.ff .f32 (kC cs ms)), AV.sl (Tag.par [1]) 0 (Cont.f .f32 (kT cs ms))] (AV.tup [AV.sl (Tag.own 0) 0 (Cont.f .f32 (kF cs ms)), AV.b true]))
 (T.ite false (T.leaf (some (AV.b false), []))
 (T.ob (VC gq7 [AV.sl (Tag.par [0]) 0 (Cont.f .f32 (kT cs ms)), AV.sl (Tag.par [1]) 0 (Cont.f .f32 (kT cs ms))] (AV.b true))
 (T.ite false (T.leaf (some (AV.b false), []))
 (T.ite ((↑(List.length (kR cs ms)) : Int) != wrap .i64 (6 + btM ms 0 12)) (T.leaf (some (AV.b false), []))
 (T.ite ((↑(List.length (kF cs ms)) : Int) != wrap .i64 (6 + btM ms 0 12)) (T.leaf (some (AV.b false), []))
 (T.ite (flt .f32 (kS cs ms) 0) (T.leaf (some (AV.b false), []))
 (T.ob
 (Exec VC ps_laws_FnColumns
 (VCode.block 2
 (VCode.loop
 (b_laws_FnColumns_L2 gq0 gq1 gq2 gq3 gq4 gq5 gq6 gq7 gq8 gq9 gq10
 gq11)))
 (h_laws_FnColumns_L2 cs ms 4607182418800017408 0) Ex.normal (h_laws_FnColumns_L2 cs ms (kSz cs ms (List.length (kT cs ms))) (↑(List.length (kT cs ms)) : Int)))
 (T.ob
 (Exec VC ps_laws_FnColumns
 (VCode.block 4
 (VCode.loop
 (b_laws_FnColumns_L4 gq0 gq1 gq2 gq3 gq4 gq5 gq6 gq7 gq8 gq9
 gq10 gq11)))
 (h_laws_FnColumns_L4 cs ms 0) Ex.normal (h_laws_FnColumns_L4 cs ms 3))
 (T.ob
 (Exec VC ps_laws_FnColumns
 (VCode.block 8
 (VCode.loop
 (b_laws_FnColumns_L8 gq0 gq1 gq2 gq3 gq4 gq5 gq6 gq7 gq8 gq9
 gq10 gq11)))
 (h_laws_FnColumns_L8 cs ms 0) Ex.normal (h_laws_FnColumns_L8 cs ms (↑(List.length (kR cs ms)) : Int)))
 (T.leaf (none, c_laws_FnColumns_5 cs ms))))))))))))
 (T.leaf (none, c_laws_FnColumns_5 cs ms)))) :
 T.ok Q_ (evK VC ps_laws_FnColumns ks_laws_FnColumns_5 [.t 4] (.b true) ⟨oc_laws_FnColumns cs ms, fun id σ => match id with | 0 => some (lv_laws_FnColumns_L0, .leaf (.normal, h_laws_FnColumns_L0 cs ms (kC cs ms) (kN ms))) | 2 => some (lv_laws_FnColumns_L2, .leaf (.normal, h_laws_FnColumns_L2 cs ms (kSz cs ms (kT cs ms).length) (kT cs ms).length)) | 4 => some (lv_laws_FnColumns_L4, .leaf (.normal, h_laws_FnColumns_L4 cs ms 3)) | 8 => some (lv_laws_FnColumns_L8, .leaf (.normal, h_laws_FnColumns_L8 cs ms (kR cs ms).length)) | 10 => some (lv_laws_FnColumns_L10, .leaf (.normal, h_laws_FnColumns_L10 cs ms (kL ms + 1))) | 14 => some (lv_laws_FnColumns_L14, .leaf (.normal, h_laws_FnColumns_L14 cs ms (kW ms) (kHs ms 12) 12)) | 16 => some (lv_laws_FnColumns_L16, .leaf (.normal, h_laws_FnColumns_L16 cs ms 3)) | _ => none⟩ (front 1 (rest 1 (rest 4 (rest 1 (rest 4 (b_laws_FnColumns gq0 gq1 gq2 gq3 gq4 gq5 gq6 gq7 gq8 gq9 gq10 gq11)))))) (c_laws_FnColumns_4 cs ms)) := evK_of (by kernel_rfl) ht

set_option maxHeartbeats 4000000 in
set_option maxRecDepth 100000 in
theorem q_laws_FnColumns_S5 {VC : FuncId → List AV → AV → Prop} {gq0 gq1 gq2 gq3 gq4 gq5 gq6 gq7 gq8 gq9 gq10 gq11 : FuncId} (cs : List Int) (ms : List Int) {Q_ : Option AV × Env → Prop} (ht : T.ok Q_ (
 T.ob (VC gq1 [AV.sl (Tag.par [0]) 0 (Cont.i .u8 ms), AV.i .i64 1, AV.i .i64 5] (AV.i .i64 (btM ms 1 5)))
 (T.ob
 (VC gq9 [AV.sl (Tag.par [0]) 0 (Cont.f .f32 (kY ms)), AV.i .i64 (wrap .i64 (1 + btM ms 1 5))]
 (AV.tup [AV.nw 0 0 .f32 (kLg ms) none, AV.sl (Tag.own 1) 0 (Cont.f .f32 (kNow ms)), AV.b true]))
 (T.leaf (none, c_laws_FnColumns_6 cs ms))))) :
 T.ok Q_ (evK VC ps_laws_FnColumns ks_laws_FnColumns_6 [.t 4] (.b true) ⟨oc_laws_FnColumns cs ms, fun id σ => match id with | 0 => some (lv_laws_FnColumns_L0, .leaf (.normal, h_laws_FnColumns_L0 cs ms (kC cs ms) (kN ms))) | 2 => some (lv_laws_FnColumns_L2, .leaf (.normal, h_laws_FnColumns_L2 cs ms (kSz cs ms (kT cs ms).length) (kT cs ms).length)) | 4 => some (lv_laws_FnColumns_L4, .leaf (.normal, h_laws_FnColumns_L4 cs ms 3)) | 8 => some (lv_laws_FnColumns_L8, .leaf (.normal, h_laws_FnColumns_L8 cs ms (kR cs ms).length)) | 10 => some (lv_laws_FnColumns_L10, .leaf (.normal, h_laws_FnColumns_L10 cs ms (kL ms + 1))) | 14 => some (lv_laws_FnColumns_L14, .leaf (.normal, h_laws_FnColumns_L14 cs ms (kW ms) (kHs ms 12) 12)) | 16 => some (lv_laws_FnColumns_L16, .leaf (.normal, h_laws_FnColumns_L16 cs ms 3)) | _ => none⟩ (front 2 (rest 1 (rest 1 (rest 4 (rest 1 (rest 4 (b_laws_FnColumns gq0 gq1 gq2 gq3 gq4 gq5 gq6 gq7 gq8 gq9 gq10 gq11))))))) (c_laws_FnColumns_5 cs ms)) := evK_of (by kernel_rfl) ht

set_option maxHeartbeats 4000000 in
set_option maxRecDepth 100000 in
theorem q_laws_FnColumns_S6 {VC : FuncId → List AV → AV → Prop} {gq0 gq1 gq2 gq3 gq4 gq5 gq6 gq7 gq8 gq9 gq10 gq11 : FuncId} (cs : List Int) (ms : List Int) {Q_ : Option AV × Env → Prop} (ht : T.ok Q_ (
 T.ite false (T.leaf (some (AV.b false), []))
 (T.ite ((↑(List.length (kLg ms)) : Int) != wrap .i64 (wrap .i64 (1 + btM ms 1 5) + 1)) (T.leaf (some (AV.b false), []))
 (T.ite ((↑(List.length (kNow ms)) : Int) != wrap .i64 (wrap .i64 (6 + btM ms 0 12) - wrap .i64 (1 + btM ms 1 5))) (T.leaf (some (AV.b false), []))
 (T.leaf (none, c_laws_FnColumns_6 cs ms)))))) :
 T.ok Q_ (evK VC ps_laws_FnColumns ks_laws_FnColumns_7 [.t 4] (.b true) ⟨oc_laws_FnColumns cs ms, fun id σ => match id with | 0 => some (lv_laws_FnColumns_L0, .leaf (.normal, h_laws_FnColumns_L0 cs ms (kC cs ms) (kN ms))) | 2 => some (lv_laws_FnColumns_L2, .leaf (.normal, h_laws_FnColumns_L2 cs ms (kSz cs ms (kT cs ms).length) (kT cs ms).length)) | 4 => some (lv_laws_FnColumns_L4, .leaf (.normal, h_laws_FnColumns_L4 cs ms 3)) | 8 => some (lv_laws_FnColumns_L8, .leaf (.normal, h_laws_FnColumns_L8 cs ms (kR cs ms).length)) | 10 => some (lv_laws_FnColumns_L10, .leaf (.normal, h_laws_FnColumns_L10 cs ms (kL ms + 1))) | 14 => some (lv_laws_FnColumns_L14, .leaf (.normal, h_laws_FnColumns_L14 cs ms (kW ms) (kHs ms 12) 12)) | 16 => some (lv_laws_FnColumns_L16, .leaf (.normal, h_laws_FnColumns_L16 cs ms 3)) | _ => none⟩ (front 1 (rest 2 (rest 1 (rest 1 (rest 4 (rest 1 (rest 4 (b_laws_FnColumns gq0 gq1 gq2 gq3 gq4 gq5 gq6 gq7 gq8 gq9 gq10 gq11)))))))) (c_laws_FnColumns_6 cs ms)) := evK_of (by kernel_rfl) ht

set_option maxHeartbeats 4000000 in
set_option maxRecDepth 100000 in
theorem q_laws_FnColumns_S7 {VC : FuncId → List AV → AV → Prop} {gq0 gq1 gq2 gq3 gq4 gq5 gq6 gq7 gq8 gq9 gq10 gq11 : FuncId} (cs : List Int) (ms : List Int) {Q_ : Option AV × Env → Prop} (ht : T.ok Q_ (
 T.ob
 (Exec VC ps_laws_FnColumns
 (VCode.block 10
 (VCode.loop
 (b_laws_FnColumns_L10 gq0 gq1 gq2 gq3 gq4 gq5 gq6 gq7 gq8 gq9 gq10
 gq11)))
 (h_laws_FnColumns_L10 cs ms 0) Ex.normal (c_laws_FnColumns_8 cs ms))
 (T.leaf (none, c_laws_FnColumns_8 cs ms)))) :
 T.ok Q_ (evK VC ps_laws_FnColumns ks_laws_FnColumns_8 [.t 4] (.b true) ⟨oc_laws_FnColumns cs ms, fun id σ => match id with | 0 => some (lv_laws_FnColumns_L0, .leaf (.normal, h_laws_FnColumns_L0 cs ms (kC cs ms) (kN ms))) | 2 => some (lv_laws_FnColumns_L2, .leaf (.normal, h_laws_FnColumns_L2 cs ms (kSz cs ms (kT cs ms).length) (kT cs ms).length)) | 4 => some (lv_laws_FnColumns_L4, .leaf (.normal, h_laws_FnColumns_L4 cs ms 3)) | 8 => some (lv_laws_FnColumns_L8, .leaf (.normal, h_laws_FnColumns_L8 cs ms (kR cs ms).length)) | 10 => some (lv_laws_FnColumns_L10, .leaf (.normal, h_laws_FnColumns_L10 cs ms (kL ms + 1))) | 14 => some (lv_laws_FnColumns_L14, .leaf (.normal, h_laws_FnColumns_L14 cs ms (kW ms) (kHs ms 12) 12)) | 16 => some (lv_laws_FnColumns_L16, .leaf (.normal, h_laws_FnColumns_L16 cs ms 3)) | _ => none⟩ (front 1 (rest 1 (rest 2 (rest 1 (rest 1 (rest 4 (rest 1 (rest 4 (b_laws_FnColumns gq0 gq1 gq2 gq3 gq4 gq5 gq6 gq7 gq8 gq9 gq10 gq11))))))))) (c_laws_FnColumns_7 cs ms)) := evK_of (by kernel_rfl) ht

set_option maxHeartbeats 4000000 in
set_option maxRecDepth 100000 in
theorem q_laws_FnColumns_S8 {VC : FuncId → List AV → AV → Prop} {gq0 gq1 gq2 gq3 gq4 gq5 gq6 gq7 gq8 gq9 gq10 gq11 : FuncId} (cs : List Int) (ms : List Int) {Q_ : Option AV × Env → Prop} (ht : T.ok Q_ (
 T.ob (VC gq1 [AV.sl (Tag.par [0]) 0 (Cont.i .u8 ms), AV.i .i64 2, AV.i .i64 9] (AV.i .i64 (btM ms 2 9)))
 (T.ob True
 (T.ob True
 (T.ob (VC gq1 [AV.sl (Tag.par [0]) 0 (Cont.i .u8 ms), AV.i .i64 3, AV.i .i64 9] (AV.i .i64 (btM ms 3 9)))
 (T.ob True
 (T.ob True
 (T.ob
 (Exec VC ps_laws_FnColumns
 (VCode.block 14
 (VCode.loop
 (b_laws_FnColumns_L14 gq0 gq1 gq2 gq3 gq4 gq5 gq6 gq7 gq8 gq9 gq10
 gq11)))
 (h_laws_FnColumns_L14 cs ms
 [1056964608, fdiv .f32 (fofi .f32 (wrap .i64 (btM ms 2 9 - 4))) 1082130432,
 fdiv .f32 (fofi .f32 (wrap .i64 (btM ms 3 9 - 4))) 1082130432]
 [] 0)
 Ex.normal (c_laws_FnColumns_9 cs ms))
 (T.leaf (none, c_laws_FnColumns_9 cs ms)))))))))) :
 T.ok Q_ (evK VC ps_laws_FnColumns ks_laws_FnColumns_9 [.t 4] (.b true) ⟨oc_laws_FnColumns cs ms, fun id σ => match id with | 0 => some (lv_laws_FnColumns_L0, .leaf (.normal, h_laws_FnColumns_L0 cs ms (kC cs ms) (kN ms))) | 2 => some (lv_laws_FnColumns_L2, .leaf (.normal, h_laws_FnColumns_L2 cs ms (kSz cs ms (kT cs ms).length) (kT cs ms).length)) | 4 => some (lv_laws_FnColumns_L4, .leaf (.normal, h_laws_FnColumns_L4 cs ms 3)) | 8 => some (lv_laws_FnColumns_L8, .leaf (.normal, h_laws_FnColumns_L8 cs ms (kR cs ms).length)) | 10 => some (lv_laws_FnColumns_L10, .leaf (.normal, h_laws_FnColumns_L10 cs ms (kL ms + 1))) | 14 => some (lv_laws_FnColumns_L14, .leaf (.normal, h_laws_FnColumns_L14 cs ms (kW ms) (kHs ms 12) 12)) | 16 => some (lv_laws_FnColumns_L16, .leaf (.normal, h_laws_FnColumns_L16 cs ms 3)) | _ => none⟩ (front 3 (rest 1 (rest 1 (rest 2 (rest 1 (rest 1 (rest 4 (rest 1 (rest 4 (b_laws_FnColumns gq0 gq1 gq2 gq3 gq4 gq5 gq6 gq7 gq8 gq9 gq10 gq11)))))))))) (c_laws_FnColumns_8 cs ms)) := evK_of (by kernel_rfl) ht

set_option maxHeartbeats 4000000 in
set_option maxRecDepth 100000 in
theorem q_laws_FnColumns_S9 {VC : FuncId → List AV → AV → Prop} {gq0 gq1 gq2 gq3 gq4 gq5 gq6 gq7 gq8 gq9 gq10 gq11 : FuncId} (cs : List Int) (ms : List Int) {Q_ : Option AV × Env → Prop} (ht : T.ok Q_ (
 T.ob (VC gq11 [AV.sl (Tag.par [0]) 0 (Cont.f .f32 (kHs ms 12)), AV.f .f32 1086324736, AV.i .i64 1] (AV.tup [AV.sl (Tag.own 0) 0 (Cont.f .f32 (kO ms)), AV.b true]))
 (T.leaf (none, c_laws_FnColumns_10 cs ms)))) :
 T.ok Q_ (evK VC ps_laws_FnColumns ks_laws_FnColumns_10 [.t 4] (.b true) ⟨oc_laws_FnColumns cs ms, fun id σ => match id with | 0 => some (lv_laws_FnColumns_L0, .leaf (.normal, h_laws_FnColumns_L0 cs ms (kC cs ms) (kN ms))) | 2 => some (lv_laws_FnColumns_L2, .leaf (.normal, h_laws_FnColumns_L2 cs ms (kSz cs ms (kT cs ms).length) (kT cs ms).length)) | 4 => some (lv_laws_FnColumns_L4, .leaf (.normal, h_laws_FnColumns_L4 cs ms 3)) | 8 => some (lv_laws_FnColumns_L8, .leaf (.normal, h_laws_FnColumns_L8 cs ms (kR cs ms).length)) | 10 => some (lv_laws_FnColumns_L10, .leaf (.normal, h_laws_FnColumns_L10 cs ms (kL ms + 1))) | 14 => some (lv_laws_FnColumns_L14, .leaf (.normal, h_laws_FnColumns_L14 cs ms (kW ms) (kHs ms 12) 12)) | 16 => some (lv_laws_FnColumns_L16, .leaf (.normal, h_laws_FnColumns_L16 cs ms 3)) | _ => none⟩ (front 1 (rest 3 (rest 1 (rest 1 (rest 2 (rest 1 (rest 1 (rest 4 (rest 1 (rest 4 (b_laws_FnColumns gq0 gq1 gq2 gq3 gq4 gq5 gq6 gq7 gq8 gq9 gq10 gq11))))))))))) (c_laws_FnColumns_9 cs ms)) := evK_of (by kernel_rfl) ht

set_option maxHeartbeats 4000000 in
set_option maxRecDepth 100000 in
theorem q_laws_FnColumns_S10 {VC : FuncId → List AV → AV → Prop} {gq0 gq1 gq2 gq3 gq4 gq5 gq6 gq7 gq8 gq9 gq10 gq11 : FuncId} (cs : List Int) (ms : List Int) {Q_ : Option AV × Env → Prop} (ht : T.ok Q_ (
 T.ite false (T.leaf (some (AV.b false), []))
 (T.ite ((↑(List.length (kO ms)) : Int) != 3) (T.leaf (some (AV.b false), []))
 (T.ob
 (Exec VC ps_laws_FnColumns
 (VCode.block 16
 (VCode.loop
 (b_laws_FnColumns_L16 gq0 gq1 gq2 gq3 gq4 gq5 gq6 gq7 gq8 gq9 gq10
 gq11)))
 (h_laws_FnColumns_L16 cs ms 0) Ex.normal (c_laws_FnColumns_11 cs ms))
 (T.leaf (none, c_laws_FnColumns_11 cs ms)))))) :
 T.ok Q_ (evK VC ps_laws_FnColumns ks_laws_FnColumns_11 [.t 4] (.b true) ⟨oc_laws_FnColumns cs ms, fun id σ => match id with | 0 => some (lv_laws_FnColumns_L0, .leaf (.normal, h_laws_FnColumns_L0 cs ms (kC cs ms) (kN ms))) | 2 => some (lv_laws_FnColumns_L2, .leaf (.normal, h_laws_FnColumns_L2 cs ms (kSz cs ms (kT cs ms).length) (kT cs ms).length)) | 4 => some (lv_laws_FnColumns_L4, .leaf (.normal, h_laws_FnColumns_L4 cs ms 3)) | 8 => some (lv_laws_FnColumns_L8, .leaf (.normal, h_laws_FnColumns_L8 cs ms (kR cs ms).length)) | 10 => some (lv_laws_FnColumns_L10, .leaf (.normal, h_laws_FnColumns_L10 cs ms (kL ms + 1))) | 14 => some (lv_laws_FnColumns_L14, .leaf (.normal, h_laws_FnColumns_L14 cs ms (kW ms) (kHs ms 12) 12)) | 16 => some (lv_laws_FnColumns_L16, .leaf (.normal, h_laws_FnColumns_L16 cs ms 3)) | _ => none⟩ (front 2 (rest 1 (rest 3 (rest 1 (rest 1 (rest 2 (rest 1 (rest 1 (rest 4 (rest 1 (rest 4 (b_laws_FnColumns gq0 gq1 gq2 gq3 gq4 gq5 gq6 gq7 gq8 gq9 gq10 gq11)))))))))))) (c_laws_FnColumns_10 cs ms)) := evK_of (by kernel_rfl) ht

set_option maxHeartbeats 4000000 in
set_option maxRecDepth 100000 in
theorem q_laws_FnColumns_S11 {VC : FuncId → List AV → AV → Prop} {gq0 gq1 gq2 gq3 gq4 gq5 gq6 gq7 gq8 gq9 gq10 gq11 : FuncId} (cs : List Int) (ms : List Int) {Q_ : Option AV × Env → Prop} (ht : T.ok Q_ (
 T.leaf (some (AV.b true), []))) :
 T.ok Q_ (evS VC ps_laws_FnColumns [.t 4] (.b true) ⟨oc_laws_FnColumns cs ms, fun id σ => match id with | 0 => some (lv_laws_FnColumns_L0, .leaf (.normal, h_laws_FnColumns_L0 cs ms (kC cs ms) (kN ms))) | 2 => some (lv_laws_FnColumns_L2, .leaf (.normal, h_laws_FnColumns_L2 cs ms (kSz cs ms (kT cs ms).length) (kT cs ms).length)) | 4 => some (lv_laws_FnColumns_L4, .leaf (.normal, h_laws_FnColumns_L4 cs ms 3)) | 8 => some (lv_laws_FnColumns_L8, .leaf (.normal, h_laws_FnColumns_L8 cs ms (kR cs ms).length)) | 10 => some (lv_laws_FnColumns_L10, .leaf (.normal, h_laws_FnColumns_L10 cs ms (kL ms + 1))) | 14 => some (lv_laws_FnColumns_L14, .leaf (.normal, h_laws_FnColumns_L14 cs ms (kW ms) (kHs ms 12) 12)) | 16 => some (lv_laws_FnColumns_L16, .leaf (.normal, h_laws_FnColumns_L16 cs ms 3)) | _ => none⟩ (rest 2 (rest 1 (rest 3 (rest 1 (rest 1 (rest 2 (rest 1 (rest 1 (rest 4 (rest 1 (rest 4 (b_laws_FnColumns gq0 gq1 gq2 gq3 gq4 gq5 gq6 gq7 gq8 gq9 gq10 gq11)))))))))))) (c_laws_FnColumns_11 cs ms)) := evS_of (by kernel_rfl) ht

-- END laws_FnColumns

/-! ### the law's helper -/
theorem k_laws_b10List {P : Program} {f g1 : FuncId} (h : Is_laws_b10List P f g1) (c1 : C_spec_SameNumber P g1) : C_laws_b10List P f := by
  intro xs ys he hx
  subst he
  refine q_laws_b10List h ys ys ?_
  have e : ((ys.length : Int) != (ys.length : Int)) = false := by simp
  rw [e]
  refine T.ok_ifalse (T.ok_ob ?_ fun _ => T.ok_leaf rfl)
  refine for_up (e := .exit 0) ys.length (fun i => h_laws_b10List_L0 ys ys (i : Nat)) (by first | rfl | simp) (fun i hi => ?_) ?_
  · refine q_laws_b10List_L0 _ _ _ ?_
    have es : (!(ys.getD (Int.toNat (i : Int)) 0 == ys.getD (Int.toNat (i : Int)) 0)) = false := by simp
    rw [wrap64_id (n := (i : Int) + 1) (by omega) (by omega), es]
    exact T.ok_ite (fun _ => T.ok_ob ⟨by omega, by omega⟩ fun _ => T.ok_ob ⟨by omega, by omega⟩ fun _ => T.ok_ob (c1 _ _) fun _ => T.ok_ifalse (T.ok_leaf rfl)) (fun h => absurd (of_decide_eq_false h) (by omega))
  · refine q_laws_b10List_L0 _ _ _ ?_
    exact T.ok_ite (fun h => absurd (of_decide_eq_true h) (by omega)) (fun _ => T.ok_leaf rfl)

/-! ### what the law draws -/
theorem kw_succ {i : Nat} (h : i ≤ 1000) : IntKind.wrap .i64 ((i : Int) + 1) = ((i + 1 : Nat) : Int) := by rw [wrap64_id (by omega) (by omega)]; omega
theorem kbne {a b : Int} (h : a = b) : (a != b) = false := by rw [h]; simp
theorem quart {i : Nat} (h : i ≤ 16) : Qx (fdiv .f32 (fofi .f32 (i : Int)) 1082130432) ∧ sv (fdiv .f32 (fofi .f32 (i : Int)) 1082130432) = (i : Rat) / 4 := by
  obtain ⟨f1, f2⟩ := fofi_rv .f32 (n := (i : Int)) (by show (i : Int).natAbs < 2 ^ 24; omega)
  have h4 := four_rv
  have hg : Gr (-2) 16 (((i : Int) : Rat) / 4) := ⟨(i : Int), by rw [quarter]; grind, by omega⟩
  obtain ⟨a, b⟩ := div_gr .f32 (q := ((i : Int) : Rat) / 4) f1 h4.1 (by show rv single 1082130432 ≠ 0; rw [show rv single 1082130432 = 4 from h4.2]; decide)
    (by show _ * rv single 1082130432 = _; rw [show rv single 1082130432 = 4 from h4.2, f2]; grind) hg (by decide) (by decide) (by decide)
  have b : sv (fdiv .f32 (fofi .f32 (i : Int)) 1082130432) = ((i : Int) : Rat) / 4 := b
  exact ⟨⟨a, by rw [b]; exact hg⟩, b⟩
theorem one_q : Qx 1065353216 ∧ sv 1065353216 = 1 := by
  have h : sf 1065353216 := by unfold sf fnt; decide
  have e : sv 1065353216 = 1 := lit_neg h (m := 2 ^ 23) (n := 23) (by decide +kernel) (by decide +kernel)
  exact ⟨⟨h, 4, by rw [e, quarter]; decide +kernel, by decide⟩, e⟩
theorem wW_fin : (allN 9 fun a => finM (wW a)) = true := by decide +kernel
structure KD (cs ms : List Int) : Prop where
  hn : 6 ≤ kN ms ∧ kN ms ≤ 17
  wN : IntKind.wrap .i64 (6 + btM ms 0 12) = (kN ms : Int)
  cols : Cols (kC cs ms) (kY ms) (kN ms)
  hL : 1 ≤ kL ms ∧ kL ms ≤ 5
  wL : IntKind.wrap .i64 (1 + btM ms 1 5) = (kL ms : Int)
  ha : (btM ms 2 9).toNat < 9
  hb : (btM ms 3 9).toNat < 9
  ea : kW1 ms = wW (btM ms 2 9).toNat
  eb : kW2 ms = wW (btM ms 3 9).toNat
theorem kd_of {cs ms : List Int} (hc : Byt cs) (hm : Byt ms) : KD cs ms := by
  have a0 := bt_le hm (i := 0) (n := 12) (by omega) (by omega)
  have a1 := bt_le hm (i := 1) (n := 5) (by omega) (by omega)
  have a2 := bt_le hm (i := 2) (n := 9) (by omega) (by omega)
  have a3 := bt_le hm (i := 3) (n := 9) (by omega) (by omega)
  have eN : ((kN ms : Nat) : Int) = 6 + btM ms 0 12 := by unfold kN; omega
  have eL : ((kL ms : Nat) : Int) = 1 + btM ms 1 5 := by unfold kL; omega
  have hn : 6 ≤ kN ms ∧ kN ms ≤ 17 := by omega
  have w : ∀ x : Int, 0 ≤ x → x < 9 → fdiv .f32 (fofi .f32 (IntKind.wrap .i64 (x - 4))) 1082130432 = wW x.toNat := fun x h1 h2 => by
    unfold wW
    rw [wrap64_id (n := x - 4) (by omega) (by omega), show ((x.toNat : Nat) : Int) = x by omega]
  have lx : (kX cs ms).length = kN ms := by unfold kX; rw [s3L_len]; omega
  have ly : (kY ms).length = kN ms := by unfold kY; rw [s3L_len]; omega
  have c0 : (kC cs ms).getD 0 [] = tab (kN ms) fun _ => 1065353216 := rfl
  have c1 : (kC cs ms).getD 1 [] = tab (kN ms) fun i => fdiv .f32 (fofi .f32 (i : Int)) 1082130432 := rfl
  have c2 : (kC cs ms).getD 2 [] = kX cs ms := rfl
  have v0 : ∀ i, i < kN ms → ce (kC cs ms) 0 i = 1065353216 := fun i hi => by unfold ce; rw [c0]; exact tab_get _ _ _ _ hi
  have v1 : ∀ i, i < kN ms → ce (kC cs ms) 1 i = fdiv .f32 (fofi .f32 (i : Int)) 1082130432 := fun i hi => by unfold ce; rw [c1]; exact tab_get _ _ _ _ hi
  exact {
    hn := hn
    wN := by rw [eN]; exact wrap64_id (by omega) (by omega)
    hL := by omega
    wL := by rw [eL]; exact wrap64_id (by omega) (by omega)
    ha := by omega
    hb := by omega
    ea := w _ a2.1 a2.2
    eb := w _ a3.1 a3.2
    cols := {
      hn := hn
      lC := rfl
      len := fun k hk => by
        rcases (show k = 0 ∨ k = 1 ∨ k = 2 by omega) with e | e | e <;> subst e
        · rw [c0, tab_len]
        · rw [c1, tab_len]
        · rw [c2, lx]
      q := fun k i hk hi => by
        rcases (show k = 0 ∨ k = 1 ∨ k = 2 by omega) with e | e | e <;> subst e
        · rw [v0 i hi]; exact one_q.1
        · rw [v1 i hi]; exact (quart (by omega)).1
        · exact s3L_q hc 0 0 (kN ms) i (by omega)
      v0 := fun i hi => by rw [v0 i hi]; exact one_q.2
      v1 := fun i hi => by rw [v1 i hi]; exact (quart (by omega)).2
      ly := ly
      qy := fun i hi => s3L_q hm 0 0 (kN ms) i (by omega) } }
section
variable {P : Program} {cs ms : List Int} {g1 g2 g3 g4 g5 g6 g7 g8 g9 g10 g11 g12 : FuncId}
theorem KD.lC (d : KD cs ms) : (kC cs ms).length = 3 := rfl
theorem KD.ly (d : KD cs ms) : (kY ms).length = kN ms := d.cols.ly
theorem KD.row (d : KD cs ms) : ∀ r ∈ kC cs ms, r.length ≤ maxLen := by
  intro r hr
  obtain ⟨k, hk, e⟩ := getD_mem_ll hr
  have hn := d.hn
  rw [← e, d.cols.len k hk, maxLen_eq]; omega
/-- the fit holds: what is told of it -/
structure KF (cs ms : List Int) (t0 t1 t2 : Nat) : Prop where
  ft : ftT (kC cs ms) (kY ms) = [t0, t1, t2]
  eT : kT cs ms = [t0, t1, t2]
  eR : kR cs ms = roR (kC cs ms) (kY ms)
  eS : kS cs ms = roS (kC cs ms) (kY ms)
  eF : kF cs ms = fitM (kC cs ms) (ftT (kC cs ms) (kY ms))
  t : Trm (kC cs ms) (kY ms) (kN ms) t0 t1 t2
theorem kf_of (d : KD cs ms) (ho : kOk cs ms = true) : ∃ t0 t1 t2, KF cs ms t0 t1 t2 := by
  obtain ⟨t0, t1, t2, h1, h2⟩ := d.cols.terms ho
  have ho' : ftOk (kC cs ms) (kY ms) = true := ho
  have eT : kT cs ms = ftT (kC cs ms) (kY ms) := by unfold kT ftOut; rw [if_pos ho']
  exact ⟨t0, t1, t2, h1, eT.trans h1, by unfold kR; rw [if_pos ho], by unfold kS; rw [if_pos ho], by unfold kF; rw [eT], h2⟩
theorem ro_ok (d : KD cs ms) : roOk (kC cs ms) (kY ms) = kOk cs ms := by
  unfold roOk
  show (kOk cs ms && _) = _
  cases ho : kOk cs ms with
  | false => rfl
  | true =>
    obtain ⟨t0, t1, t2, k⟩ := kf_of d ho
    obtain ⟨r1, r2, r3⟩ := roS_ok d.cols k.t k.ft
    rw [r1, (finM_sf _).2 r2]; rfl
theorem kSz_succ (cs ms : List Int) (i : Nat) : kSz cs ms (i + 1) = fadd .f64 (kSz cs ms i) (gapD (fconv .f32 .f64 ((kT cs ms).getD i 0)) 0) := rfl
theorem kU_succ (cs ms : List Int) (k i : Nat) : kU cs ms k (i + 1) = fadd .f64 (kU cs ms k i) (fmul .f64 (fconv .f32 .f64 (((kC cs ms).getD k []).getD i 0)) (fconv .f32 .f64 ((kR cs ms).getD i 0))) := rfl
theorem k_loop0 (d : KD cs ms) :
    Exec (VCall P) ps_laws_FnColumns (VCode.block 0 (VCode.loop (b_laws_FnColumns_L0 g1 g2 g3 g4 g5 g6 g7 g8 g9 g10 g11 g12))) (h_laws_FnColumns_L0 cs ms [[], [], kX cs ms] 0) Ex.normal (c_laws_FnColumns_2 cs ms) := by
  have hn := d.hn
  refine for_up (e := .exit 0) (kN ms) (fun i => h_laws_FnColumns_L0 cs ms (kCm cs ms i) (i : Nat)) (by first | rfl | simp) (fun i hi => ?_) ?_
  · refine q_laws_FnColumns_L0 _ _ _ _ ?_
    have e0 : (kCm cs ms i).getD 0 [] = tab i fun _ => 1065353216 := rfl
    have e1 : (List.set (kCm cs ms i) 0 ((kCm cs ms i).getD 0 [] ++ [1065353216])).getD 1 [] = tab i fun i => fdiv .f32 (fofi .f32 (i : Int)) 1082130432 := rfl
    have e2 : (List.set (List.set (kCm cs ms i) 0 ((kCm cs ms i).getD 0 [] ++ [1065353216])) 1 ((List.set (kCm cs ms i) 0 ((kCm cs ms i).getD 0 [] ++ [1065353216])).getD 1 [] ++ [fdiv .f32 (fofi .f32 (i : Int)) 1082130432])) = kCm cs ms (i + 1) := by
      rw [e1, e0]
      unfold kCm
      rw [tab_succ, tab_succ]; rfl
    rw [e2, kw_succ (by omega), d.wN, e1, e0]
    have l2 : (List.set (kCm cs ms i) 0 ((tab i fun _ => 1065353216) ++ [1065353216])).length = 3 := rfl
    have l3 : (kCm cs ms i).length = 3 := rfl
    rw [l2, l3, tab_len, tab_len]
    exact T.ok_ite (fun _ => T.ok_ob ⟨by omega, by omega⟩ fun _ => T.ok_ob (by omega) fun _ => T.ok_ob ⟨by omega, by omega⟩ fun _ => T.ok_ob rfl fun _ => T.ok_ob ⟨by omega, by omega⟩ fun _ => T.ok_ob True.intro fun _ => T.ok_ob True.intro fun _ => T.ok_ob (by simp; omega) fun _ => T.ok_ob ⟨by omega, by omega⟩ fun _ => T.ok_ob rfl fun _ => T.ok_leaf rfl) (fun h => absurd (of_decide_eq_false h) (by omega))
  · refine q_laws_FnColumns_L0 _ _ _ _ ?_
    rw [d.wN]
    exact T.ok_ite (fun h => absurd (of_decide_eq_true h) (by omega)) (fun _ => T.ok_leaf rfl)
theorem k_loop2 (d : KD cs ms) {t0 t1 t2 : Nat} (k : KF cs ms t0 t1 t2) (c9 : C_laws_b10Gap P g9) :
    Exec (VCall P) ps_laws_FnColumns (VCode.block 2 (VCode.loop (b_laws_FnColumns_L2 g1 g2 g3 g4 g5 g6 g7 g8 g9 g10 g11 g12))) (h_laws_FnColumns_L2 cs ms 4607182418800017408 0) Ex.normal (h_laws_FnColumns_L2 cs ms (kSz cs ms (kT cs ms).length) ((kT cs ms).length : Nat)) := by
  have lT : (kT cs ms).length = 3 := by rw [k.eT]; rfl
  refine for_up (e := .exit 2) (kT cs ms).length (fun i => h_laws_FnColumns_L2 cs ms (kSz cs ms i) (i : Nat)) (by first | rfl | simp) (fun i hi => ?_) ?_
  · refine q_laws_FnColumns_L2 _ _ _ _ ?_
    rw [kw_succ (by omega), kSz_succ, Int.toNat_natCast]
    exact T.ok_ite (fun _ => T.ok_ob ⟨by omega, by omega⟩ fun _ => T.ok_ob (fconvOk_32_64 _) fun _ => T.ok_ob (c9 _ _) fun _ => T.ok_leaf rfl) (fun h => absurd (of_decide_eq_false h) (by omega))
  · refine q_laws_FnColumns_L2 _ _ _ _ ?_
    exact T.ok_ite (fun h => absurd (of_decide_eq_true h) (by omega)) (fun _ => T.ok_leaf rfl)
theorem k_loop6 (d : KD cs ms) {t0 t1 t2 : Nat} (kf : KF cs ms t0 t1 t2) {k : Nat} (hk : k < 3) :
    Exec (VCall P) ps_laws_FnColumns (VCode.block 6 (VCode.loop (b_laws_FnColumns_L6 g1 g2 g3 g4 g5 g6 g7 g8 g9 g10 g11 g12))) (h_laws_FnColumns_L6 cs ms (k : Nat) 0 0) Ex.normal (h_laws_FnColumns_L6 cs ms (k : Nat) (kU cs ms k (kR cs ms).length) ((kR cs ms).length : Nat)) := by
  have hn := d.hn
  have lR : (kR cs ms).length = kN ms := by rw [kf.eR, roR_len, d.ly]
  have lc := d.cols.len k hk
  have l3 : (kC cs ms).length = 3 := rfl
  refine for_up (e := .exit 6) (kR cs ms).length (fun i => h_laws_FnColumns_L6 cs ms (k : Nat) (kU cs ms k i) (i : Nat)) (by first | rfl | simp) (fun i hi => ?_) ?_
  · refine q_laws_FnColumns_L6 _ _ _ _ _ ?_
    rw [kw_succ (by omega), kU_succ, Int.toNat_natCast, Int.toNat_natCast, lc, l3]
    exact T.ok_ite (fun _ => T.ok_ob ⟨by omega, by omega⟩ fun _ => T.ok_ob ⟨by omega, by omega⟩ fun _ => T.ok_ob (fconvOk_32_64 _) fun _ => T.ok_ob ⟨by omega, by omega⟩ fun _ => T.ok_ob (fconvOk_32_64 _) fun _ => T.ok_leaf rfl) (fun h => absurd (of_decide_eq_false h) (by omega))
  · refine q_laws_FnColumns_L6 _ _ _ _ _ ?_
    exact T.ok_ite (fun h => absurd (of_decide_eq_true h) (by omega)) (fun _ => T.ok_leaf rfl)
theorem kSz_eq {t0 t1 t2 : Nat} (k : KF cs ms t0 t1 t2) : kSz cs ms (kT cs ms).length = szW t0 t1 t2 := by
  rw [k.eT]
  unfold kSz
  rw [k.eT]; rfl
theorem k_loop4 (d : KD cs ms) {t0 t1 t2 : Nat} (k : KF cs ms t0 t1 t2) (c9 : C_laws_b10Gap P g9) :
    Exec (VCall P) ps_laws_FnColumns (VCode.block 4 (VCode.loop (b_laws_FnColumns_L4 g1 g2 g3 g4 g5 g6 g7 g8 g9 g10 g11 g12))) (h_laws_FnColumns_L4 cs ms 0) Ex.normal (h_laws_FnColumns_L4 cs ms 3) := by
  have hn := d.hn
  have lR : (kR cs ms).length = kN ms := by rw [k.eR, roR_len, d.ly]
  have l3 : (kC cs ms).length = 3 := rfl
  have hz := kSz_eq k
  refine for_up (e := .exit 4) 3 (fun i => h_laws_FnColumns_L4 cs ms (i : Nat)) (by first | rfl | simp) (fun i hi => ?_) ?_
  · refine q_laws_FnColumns_L4 _ _ _ ?_
    have e6 := k_loop6 (P := P) (g1 := g1) (g2 := g2) (g3 := g3) (g4 := g4) (g5 := g5) (g6 := g6) (g7 := g7) (g8 := g8) (g9 := g9) (g10 := g10) (g11 := g11) (g12 := g12) d k hi
    rw [kw_succ (by omega), Int.toNat_natCast, d.wN, l3]
    refine T.ok_ite (fun _ => T.ok_ob e6 fun _ => T.ok_ite (fun hs => ?_) (fun _ => T.ok_leaf rfl)) (fun h => absurd (of_decide_eq_false h) (by omega))
    have eU : kU cs ms i (kR cs ms).length = upW (kC cs ms) (roR (kC cs ms) (kY ms)) i (kN ms) := by rw [lR]; unfold kU; rw [k.eR]; rfl
    rw [hz] at hs
    have hu := upright_held d.cols k.t k.ft hi hs
    rw [hz, eU, hu]
    exact T.ok_ob (c9 _ _) fun _ => T.ok_ob True.intro fun _ => T.ok_ifalse (T.ok_leaf rfl)
  · refine q_laws_FnColumns_L4 _ _ _ ?_
    rw [l3]
    exact T.ok_ite (fun h => absurd (of_decide_eq_true h) (by omega)) (fun _ => T.ok_leaf rfl)
theorem k_loop8 (d : KD cs ms) {t0 t1 t2 : Nat} (k : KF cs ms t0 t1 t2) (c9 : C_laws_b10Gap P g9) :
    Exec (VCall P) ps_laws_FnColumns (VCode.block 8 (VCode.loop (b_laws_FnColumns_L8 g1 g2 g3 g4 g5 g6 g7 g8 g9 g10 g11 g12))) (h_laws_FnColumns_L8 cs ms 0) Ex.normal (h_laws_FnColumns_L8 cs ms ((kR cs ms).length : Nat)) := by
  have hn := d.hn
  have lR : (kR cs ms).length = kN ms := by rw [k.eR, roR_len, d.ly]
  have lF : (kF cs ms).length = kN ms := by rw [k.eF, fit_len, d.cols.len 0 (by omega)]
  have ly := d.ly
  have hz := kSz_eq k
  refine for_up (e := .exit 8) (kR cs ms).length (fun i => h_laws_FnColumns_L8 cs ms (i : Nat)) (by first | rfl | simp) (fun i hi => ?_) ?_
  · refine q_laws_FnColumns_L8 _ _ _ ?_
    have hc := close_held d.cols k.t k.ft (i := i) (by omega)
    rw [← k.eR, ← k.eF, ← hz] at hc
    rw [kw_succ (by omega), Int.toNat_natCast, hc]
    exact T.ok_ite (fun _ => T.ok_ob ⟨by omega, by omega⟩ fun _ => T.ok_ob (fconvOk_32_64 _) fun _ => T.ok_ob ⟨by omega, by omega⟩ fun _ => T.ok_ob (fconvOk_32_64 _) fun _ => T.ok_ob ⟨by omega, by omega⟩ fun _ => T.ok_ob (fconvOk_32_64 _) fun _ => T.ok_ob (c9 _ _) fun _ => T.ok_ifalse (T.ok_leaf rfl)) (fun h => absurd (of_decide_eq_false h) (by omega))
  · refine q_laws_FnColumns_L8 _ _ _ ?_
    exact T.ok_ite (fun h => absurd (of_decide_eq_true h) (by omega)) (fun _ => T.ok_leaf rfl)
/-! ### lags -/
theorem KD.lNow (d : KD cs ms) : (kNow ms).length = kN ms - kL ms := by unfold kNow; rw [List.length_drop, d.ly]
theorem KD.lLg (d : KD cs ms) : (kLg ms).length = kL ms + 1 := by unfold kLg lagM; rw [List.length_cons, tab_len]
theorem lg_zero (ms : List Int) : (kLg ms).getD 0 [] = List.replicate ((kY ms).length - kL ms) one32 := rfl
theorem lg_succ (ms : List Int) {l : Nat} (h : l < kL ms) : (kLg ms).getD (l + 1) [] = lagRow (kY ms) (kL ms) (l + 1) := by
  have e : (kLg ms).getD (l + 1) [] = (tab (kL ms) fun i => lagRow (kY ms) (kL ms) (i + 1)).getD l [] := by unfold kLg lagM; rfl
  rw [e]; exact tab_get _ _ _ _ h
theorem KD.lRow (d : KD cs ms) {l : Nat} (h : l ≤ kL ms) : ((kLg ms).getD l []).length = kN ms - kL ms := by
  have hn := d.hn; have hL := d.hL; have ly := d.ly
  cases l with
  | zero => rw [lg_zero, List.length_replicate, ly]
  | succ l =>
    rw [lg_succ ms (by omega)]
    unfold lagRow
    rw [List.length_take, List.length_drop, ly]; omega
theorem KD.lag (d : KD cs ms) {l i : Nat} (h : l + 1 ≤ kL ms) (hi : i < kN ms - kL ms) : ((kLg ms).getD (l + 1) []).getD i 0 = (kY ms).getD (i + kL ms - (l + 1)) 0 := by
  have hn := d.hn; have hL := d.hL; have ly := d.ly
  rw [lg_succ ms (by omega)]
  unfold lagRow
  simp only [List.getD_eq_getElem?_getD]
  rw [List.getElem?_take_of_lt (by rw [ly]; omega), List.getElem?_drop, show kL ms - (l + 1) + i = i + kL ms - (l + 1) by omega]
theorem KD.now (d : KD cs ms) (i : Nat) : (kNow ms).getD i 0 = (kY ms).getD (i + kL ms) 0 := by
  unfold kNow
  simp only [List.getD_eq_getElem?_getD]
  rw [List.getElem?_drop, Nat.add_comm]
theorem KD.ne (d : KD cs ms) {j : Nat} (h : j < kN ms) : fne .f32 ((kY ms).getD j 0) ((kY ms).getD j 0) = false := fne_of (d.cols.qy j h).1 (d.cols.qy j h).1 rfl
theorem k_loop12 (d : KD cs ms) {l : Nat} (hl : l ≤ kL ms) :
    Exec (VCall P) ps_laws_FnColumns (VCode.block 12 (VCode.loop (b_laws_FnColumns_L12 g1 g2 g3 g4 g5 g6 g7 g8 g9 g10 g11 g12))) (h_laws_FnColumns_L12 cs ms (l : Nat) 0) Ex.normal (h_laws_FnColumns_L12 cs ms (l : Nat) ((kNow ms).length : Nat)) := by
  have hn := d.hn; have hL := d.hL; have ly := d.ly; have lN := d.lNow; have lG := d.lLg
  have lR := d.lRow hl
  refine for_up (e := .exit 12) (kNow ms).length (fun i => h_laws_FnColumns_L12 cs ms (l : Nat) (i : Nat)) (by first | rfl | simp) (fun i hi => ?_) ?_
  · refine q_laws_FnColumns_L12 _ _ _ _ ?_
    have w1 : IntKind.wrap .i64 ((i : Int) + (kL ms : Int)) = ((i + kL ms : Nat) : Int) := by rw [wrap64_id (by omega) (by omega)]; omega
    have w2 : IntKind.wrap .i64 (((i + kL ms : Nat) : Int) - (l : Int)) = ((i + kL ms - l : Nat) : Int) := by rw [wrap64_id (by omega) (by omega)]; omega
    rw [kw_succ (by omega), d.wL, w1, w2]
    simp only [Int.toNat_natCast]
    rw [lR, lG, d.now i, d.ne (by omega), ly, lN]
    refine T.ok_ite (fun _ => T.ok_ite (fun h0 => ?_) (fun h0 => ?_)) (fun h => absurd (of_decide_eq_false h) (by omega))
    · have h0 := of_decide_eq_true h0
      obtain ⟨l', rfl⟩ : ∃ l', l = l' + 1 := ⟨l - 1, by omega⟩
      rw [d.lag hl (by omega), d.ne (by omega)]
      exact T.ok_ob ⟨by omega, by omega⟩ fun _ => T.ok_ob ⟨by omega, by omega⟩ fun _ => T.ok_ob ⟨by omega, by omega⟩ fun _ => T.ok_ifalse (T.ok_ob ⟨by omega, by omega⟩ fun _ => T.ok_ob ⟨by omega, by omega⟩ fun _ => T.ok_ifalse (T.ok_leaf rfl))
    · have h0 := of_decide_eq_false h0
      have e : l = 0 := by omega
      subst e
      have e1 : fne .f32 (((kLg ms).getD 0 []).getD i 0) 1065353216 = false := by
        rw [lg_zero, ly]
        have : (List.replicate (kN ms - kL ms) one32).getD i 0 = one32 := by
          simp only [List.getD_eq_getElem?_getD]
          rw [List.getElem?_replicate, if_pos (by omega)]; rfl
        rw [this]
        exact fne_of one_q.1.1 one_q.1.1 rfl
      rw [e1]
      exact T.ok_ob ⟨by omega, by omega⟩ fun _ => T.ok_ob ⟨by omega, by omega⟩ fun _ => T.ok_ifalse (T.ok_ob ⟨by omega, by omega⟩ fun _ => T.ok_ob ⟨by omega, by omega⟩ fun _ => T.ok_ifalse (T.ok_leaf rfl))
  · refine q_laws_FnColumns_L12 _ _ _ _ ?_
    exact T.ok_ite (fun h => absurd (of_decide_eq_true h) (by omega)) (fun _ => T.ok_leaf rfl)
theorem KD.wD (d : KD cs ms) : IntKind.wrap .i64 ((kN ms : Int) - (kL ms : Int)) = ((kN ms - kL ms : Nat) : Int) := by
  have hn := d.hn; have hL := d.hL
  rw [wrap64_id (by omega) (by omega)]; omega
theorem k_loop10 (d : KD cs ms) :
    Exec (VCall P) ps_laws_FnColumns (VCode.block 10 (VCode.loop (b_laws_FnColumns_L10 g1 g2 g3 g4 g5 g6 g7 g8 g9 g10 g11 g12))) (h_laws_FnColumns_L10 cs ms 0) Ex.normal (c_laws_FnColumns_8 cs ms) := by
  have hn := d.hn; have hL := d.hL; have lG := d.lLg
  refine for_up (e := .exit 10) (kL ms + 1) (fun i => h_laws_FnColumns_L10 cs ms (i : Nat)) (by first | rfl | simp) (fun l hl => ?_) ?_
  · refine q_laws_FnColumns_L10 _ _ _ ?_
    have lR := d.lRow (l := l) (by omega)
    have e12 := k_loop12 (P := P) (g1 := g1) (g2 := g2) (g3 := g3) (g4 := g4) (g5 := g5) (g6 := g6) (g7 := g7) (g8 := g8) (g9 := g9) (g10 := g10) (g11 := g11) (g12 := g12) d (l := l) (by omega)
    rw [kw_succ (by omega), d.wL, d.wN, d.wD, Int.toNat_natCast, lR, lG, kbne rfl]
    exact T.ok_ite (fun _ => T.ok_ob ⟨by omega, by omega⟩ fun _ => T.ok_ifalse (T.ok_ob e12 fun _ => T.ok_leaf rfl)) (fun h => absurd (of_decide_eq_false h) (by omega))
  · refine q_laws_FnColumns_L10 _ _ _ ?_
    rw [d.wL]
    exact T.ok_ite (fun h => absurd (of_decide_eq_true h) (by omega)) (fun _ => T.ok_leaf rfl)

/-! ### waves -/
theorem KD.w6 (d : KD cs ms) : W6 (kW1 ms) (kW2 ms) := by rw [d.ea, d.eb]; exact w6_every d.ha d.hb
theorem kHs_eq (ms : List Int) : kHs ms 12 = w6Y (kW1 ms) (kW2 ms) := rfl
theorem KD.haOk (d : KD cs ms) {i : Nat} (hi : i < 12) : haOk (kW ms) 1086324736 (i : Int) = true := by
  have hf := d.w6.y
  have h1 : finM (haV (kW ms) 1086324736 (i : Int)) = true := by
    unfold finAllM at hf
    rw [← allN_all _ 0, allN_iff] at hf
    have := hf i (by unfold w6Y; rw [tab_len]; exact hi)
    unfold w6Y at this
    rw [tab_get _ _ _ _ hi] at this
    exact this
  have f1 : finM (kW1 ms) = true := by rw [d.ea]; exact allN_iff.1 wW_fin _ d.ha
  have f2 : finM (kW2 ms) = true := by rw [d.eb]; exact allN_iff.1 wW_fin _ d.hb
  have f3 : finAllM (kW ms) = true := by
    show ([1056964608, kW1 ms, kW2 ms] : List Nat).all finM = true
    simp only [List.all_cons, List.all_nil, f1, f2, Bool.and_true]
    decide
  unfold Go.Proofs.LV.haOk haOk0
  rw [h1, f3]
  have l3 : (kW ms).length = 3 := rfl
  have h4 : inM (i : Int) (-1000) 1000 = true := by unfold inM; simp; omega
  rw [h4, l3]
  decide +kernel
theorem k_loop14 (d : KD cs ms) (c11 : C_impl_HarmonicAt P g11) :
    Exec (VCall P) ps_laws_FnColumns (VCode.block 14 (VCode.loop (b_laws_FnColumns_L14 g1 g2 g3 g4 g5 g6 g7 g8 g9 g10 g11 g12))) (h_laws_FnColumns_L14 cs ms (kW ms) [] 0) Ex.normal (c_laws_FnColumns_9 cs ms) := by
  refine for_up (e := .exit 14) 12 (fun i => h_laws_FnColumns_L14 cs ms (kW ms) (kHs ms i) (i : Nat)) (by first | rfl | simp) (fun i hi => ?_) ?_
  · refine q_laws_FnColumns_L14 _ _ _ _ _ ?_
    have a := c11 (kW ms) 1086324736 (i : Int) (by show 3 ≤ _; rw [maxLen_eq]; omega)
    rw [d.haOk hi, if_pos rfl] at a
    have e : kHs ms i ++ [kH ms i] = kHs ms (i + 1) := by unfold kHs; rw [tab_succ]
    have l : (kHs ms i).length = i := tab_len _ _
    rw [kw_succ (by omega), Int.toNat_natCast, e]
    exact T.ok_ite (fun _ => T.ok_ob a fun _ => T.ok_ifalse (T.ok_ob (by rw [l]; simp; omega) fun _ => T.ok_leaf rfl)) (fun h => absurd (of_decide_eq_false h) (by omega))
  · refine q_laws_FnColumns_L14 _ _ _ _ _ ?_
    exact T.ok_ite (fun h => absurd (of_decide_eq_true h) (by omega)) (fun _ => T.ok_leaf rfl)
theorem k_loop16 (d : KD cs ms) (c9 : C_laws_b10Gap P g9) :
    Exec (VCall P) ps_laws_FnColumns (VCode.block 16 (VCode.loop (b_laws_FnColumns_L16 g1 g2 g3 g4 g5 g6 g7 g8 g9 g10 g11 g12))) (h_laws_FnColumns_L16 cs ms 0) Ex.normal (c_laws_FnColumns_11 cs ms) := by
  have w := d.w6
  have lO : (kO ms).length = 3 := w.len
  have lW : (kW ms).length = 3 := rfl
  have hg : ∀ i, i < 3 → fgt .f64 (gapD (fconv .f32 .f64 ((kO ms).getD i 0)) (fconv .f32 .f64 ((kW ms).getD i 0))) 4562254508917369340 = false := by
    intro i hi
    have h0 := w.g0; have h1 := w.g1; have h2 := w.g2
    unfold wGap at h0 h1 h2
    simp only [Bool.and_eq_true, Bool.not_eq_true'] at h0 h1 h2
    rcases (show i = 0 ∨ i = 1 ∨ i = 2 by omega) with e | e | e <;> subst e
    · exact h0.2
    · exact h1.2
    · exact h2.2
  refine for_up (e := .exit 16) 3 (fun i => h_laws_FnColumns_L16 cs ms (i : Nat)) (by first | rfl | simp) (fun i hi => ?_) ?_
  · refine q_laws_FnColumns_L16 _ _ _ ?_
    rw [kw_succ (by omega), Int.toNat_natCast, hg i hi, lO, lW]
    exact T.ok_ite (fun _ => T.ok_ob ⟨by omega, by omega⟩ fun _ => T.ok_ob (fconvOk_32_64 _) fun _ => T.ok_ob ⟨by omega, by omega⟩ fun _ => T.ok_ob (fconvOk_32_64 _) fun _ => T.ok_ob (c9 _ _) fun _ => T.ok_ifalse (T.ok_leaf rfl)) (fun h => absurd (of_decide_eq_false h) (by omega))
  · refine q_laws_FnColumns_L16 _ _ _ ?_
    rw [lO]
    exact T.ok_ite (fun h => absurd (of_decide_eq_true h) (by omega)) (fun _ => T.ok_leaf rfl)
end

set_option maxRecDepth 100000 in
theorem k_laws_FnColumns {P : Program} {f g1 g2 g3 g4 g5 g6 g7 g8 g9 g10 g11 g12 : FuncId} (h : Is_laws_FnColumns P f g1 g2 g3 g4 g5 g6 g7 g8 g9 g10 g11 g12) (c1 : C_laws_b10Long P g1) (c2 : C_laws_b10At P g2) (c3 : C_spec_B10List P g3) (c4 : C_impl_ColumnFit P g4) (c5 : C_spec_ColumnFit P g5) (c6 : C_impl_RestOfFit P g6) (c7 : C_impl_FittedOf P g7) (c8 : C_laws_b10List P g8) (c9 : C_laws_b10Gap P g9) (c10 : C_impl_LagColumns P g10) (c11 : C_impl_HarmonicAt P g11) (c12 : C_impl_HarmonicFit P g12) : C_laws_FnColumns P f := by
  intro cs ms
  refine VCall.rng (fun hr => ?_)
  obtain ⟨r1, r2, _⟩ := hr
  obtain ⟨hc, lc⟩ := byt_of (cs := cs) r1
  obtain ⟨hm, lm⟩ := byt_of (cs := ms) r2
  have d := kd_of hc hm
  have hn := d.hn; have hL := d.hL; have ly := d.ly; have lN := d.lNow; have lG := d.lLg
  have mx : maxLen = 9223372036854775807 := rfl
  have l3 : (kC cs ms).length = 3 := rfl
  refine h.call_cut (ps := ps_laws_FnColumns) ?_
  refine cut_stepK (H := True) (σ1 := c_laws_FnColumns_1 cs ms) (q_laws_FnColumns_S0 cs ms ?_) (fun _ => ?_)
  · have a3 := c3 cs (kN ms) (by omega) hc lc
    rw [d.wN]
    exact T.ok_ob (c1 _ _) fun _ => T.ok_ite (fun _ => T.ok_end rfl) fun _ => T.ok_ob (c2 _ _ _ (by omega) hm) fun _ => T.ok_ob a3 fun _ => T.ok_go True.intro
  refine cut_stepK (H := True) (σ1 := c_laws_FnColumns_2 cs ms) (q_laws_FnColumns_S1 cs ms ?_) (fun _ => ?_)
  · exact T.ok_ob (k_loop0 d) fun _ => T.ok_go True.intro
  refine cut_stepK (H := True) (σ1 := c_laws_FnColumns_3 cs ms) (q_laws_FnColumns_S2 cs ms ?_) (fun _ => ?_)
  · have a3 := c3 ms (kN ms) (by omega) hm lm
    have a4 := c4 (kC cs ms) (kY ms) (by omega) d.row (by omega)
    have a5 := c5 (kC cs ms) (kY ms) (by omega) d.row (by omega)
    have a6 := c6 (kC cs ms) (kY ms) (by omega) d.row (by omega)
    rw [ro_ok d] at a6
    rw [d.wN]
    exact T.ok_ob a3 fun _ => T.ok_ob a4 fun _ => T.ok_ob a5 fun _ => T.ok_ob a6 fun _ => T.ok_go True.intro
  refine cut_stepK (H := True) (σ1 := c_laws_FnColumns_4 cs ms) (q_laws_FnColumns_S3 cs ms ?_) (fun _ => ?_)
  · have e : (!(kOk cs ms == kOk cs ms)) = false := by simp
    rw [e]
    exact T.ok_ifalse (T.ok_ifalse (T.ok_go True.intro))
  refine cut_stepK (H := True) (σ1 := c_laws_FnColumns_5 cs ms) (q_laws_FnColumns_S4 cs ms ?_) (fun _ => ?_)
  · refine T.ok_ite (fun ho => ?_) (fun _ => T.ok_go True.intro)
    obtain ⟨t0, t1, t2, k⟩ := kf_of d ho
    have lT : (kT cs ms).length = 3 := by rw [k.eT]; rfl
    have lR : (kR cs ms).length = kN ms := by rw [k.eR, roR_len, d.ly]
    have lF : (kF cs ms).length = kN ms := by rw [k.eF, fit_len, d.cols.len 0 (by omega)]
    have a7 := c7 (kC cs ms) (kT cs ms) (by omega) d.row (by omega)
    have fo : fitOk (kC cs ms) (kT cs ms) = true := by
      unfold fitOk
      have h1 : ((kC cs ms).getD 0 []).length = (kY ms).length := by rw [d.cols.len 0 (by omega), ly]
      have h2 : finAllM (kT cs ms) = true := by
        rw [k.eT]
        show ([t0, t1, t2] : List Nat).all finM = true
        simp only [List.all_cons, List.all_nil, (finM_sf _).2 k.t.f0, (finM_sf _).2 k.t.f1, (finM_sf _).2 k.t.f2, Bool.and_true]
      rw [h1, d.cols.cols, lT, l3, h2]; rfl
    have ff : finAllM (fitM (kC cs ms) (kT cs ms)) = true := by
      have := fit_ok d.cols k.t k.ft
      rw [← k.eF] at this; exact this
    unfold ifAllM at a7
    rw [fo, ff, if_pos rfl, if_pos rfl] at a7
    have a8 := c8 (kT cs ms) (kT cs ms) rfl (by omega)
    have hs : flt .f32 (kS cs ms) 0 = false := by
      obtain ⟨r1, r2, r3⟩ := roS_ok d.cols k.t k.ft
      rw [k.eS, flt_rv (k := .f32) r2 zero_sf]
      refine decide_eq_false fun hlt => ?_
      have hlt : sv (roS (kC cs ms) (kY ms)) < sv 0 := hlt
      rw [show sv 0 = 0 from zero_rv _] at hlt
      grind
    rw [d.wN, kbne (show ((kR cs ms).length : Int) = (kN ms : Int) by omega), kbne (show ((kF cs ms).length : Int) = (kN ms : Int) by omega), hs]
    exact T.ok_ob a7 fun _ => T.ok_ifalse (T.ok_ob a8 fun _ => T.ok_ifalse (T.ok_ifalse (T.ok_ifalse (T.ok_ifalse (T.ok_ob (k_loop2 d k c9) fun _ => T.ok_ob (k_loop4 d k c9) fun _ => T.ok_ob (k_loop8 d k c9) fun _ => T.ok_go True.intro)))))
  refine cut_stepK (H := True) (σ1 := c_laws_FnColumns_6 cs ms) (q_laws_FnColumns_S5 cs ms ?_) (fun _ => ?_)
  · have a10 := c10 (kY ms) (kL ms : Int) (by omega)
    have lo : lagOk (kY ms) (kL ms : Int) = true := by
      unfold lagOk
      have h1 : inM (kL ms : Int) 1 5 = true := by unfold inM; simp; omega
      have h2 : decide ((kL ms : Int) < ((kY ms).length : Int)) = true := decide_eq_true (by omega)
      rw [d.cols.ser, h1, h2]; rfl
    rw [lo, if_pos rfl, if_pos rfl, Int.toNat_natCast] at a10
    rw [d.wL]
    exact T.ok_ob (c2 _ _ _ (by omega) hm) fun _ => T.ok_ob a10 fun _ => T.ok_go True.intro
  refine cut_stepK (H := True) (σ1 := c_laws_FnColumns_7 cs ms) (q_laws_FnColumns_S6 cs ms ?_) (fun _ => ?_)
  · rw [d.wL, d.wN, d.wD, kw_succ (by omega), kbne (show ((kLg ms).length : Int) = ((kL ms + 1 : Nat) : Int) by omega), kbne (show ((kNow ms).length : Int) = ((kN ms - kL ms : Nat) : Int) by omega)]
    exact T.ok_ifalse (T.ok_ifalse (T.ok_ifalse (T.ok_go True.intro)))
  refine cut_stepK (H := True) (σ1 := c_laws_FnColumns_8 cs ms) (q_laws_FnColumns_S7 cs ms ?_) (fun _ => ?_)
  · exact T.ok_ob (k_loop10 d) fun _ => T.ok_go True.intro
  refine cut_stepK (H := True) (σ1 := c_laws_FnColumns_9 cs ms) (q_laws_FnColumns_S8 cs ms ?_) (fun _ => ?_)
  · exact T.ok_ob (c2 _ _ _ (by omega) hm) fun _ => T.ok_ob True.intro fun _ => T.ok_ob True.intro fun _ => T.ok_ob (c2 _ _ _ (by omega) hm) fun _ => T.ok_ob True.intro fun _ => T.ok_ob True.intro fun _ => T.ok_ob (k_loop14 d c11) fun _ => T.ok_go True.intro
  refine cut_stepK (H := True) (σ1 := c_laws_FnColumns_10 cs ms) (q_laws_FnColumns_S9 cs ms ?_) (fun _ => ?_)
  · have lH : (kHs ms 12).length = 12 := tab_len _ _
    have a12 := c12 (kHs ms 12) 1086324736 1 (by omega)
    have w := d.w6
    have hs : seriesM (kHs ms 12) = true := by
      unfold seriesM
      have := w.y
      rw [← kHs_eq] at this
      rw [this, lH]; rfl
    have hG : hfG (kHs ms 12) 1086324736 1 = true := by unfold hfG; rw [hs]; decide +kernel
    have hK : hfOk (kHs ms 12) 1086324736 1 = true := by
      unfold hfOk
      have := w.ok
      rw [← kHs_eq] at this
      rw [hG, lH]; exact this
    have hO : hfOut (kHs ms 12) 1086324736 1 = kO ms := by unfold hfOut; rw [hG, lH]; rfl
    rw [hK, hO] at a12
    exact T.ok_ob a12 fun _ => T.ok_go True.intro
  refine cut_stepK (H := True) (σ1 := c_laws_FnColumns_11 cs ms) (q_laws_FnColumns_S10 cs ms ?_) (fun _ => ?_)
  · have lO : (kO ms).length = 3 := d.w6.len
    rw [kbne (show ((kO ms).length : Int) = 3 by omega)]
    exact T.ok_ifalse (T.ok_ifalse (T.ok_ob (k_loop16 d c9) fun _ => T.ok_go True.intro))
  exact cut_last (q_laws_FnColumns_S11 cs ms (T.ok_leaf rfl))

end Go.Proofs.LV
