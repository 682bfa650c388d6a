/- Ranks, and numbers that are far away. -/
import Derived.Test.YtjfgmnfkkehgfaaLvFnMX
import Derived.Test.YtjfgmnfkkehgfaaLvFnRX
import Derived.Test.YtjfgmnfkkehgfaaLvFnCX
import Derived.Test.YtjfgmnfkkehgfaaLvAbsX
namespace Go.Proofs.LV
open Go
set_option linter.unusedVariables false
set_option linter.unusedSimpArgs false

def rkV (xs : List Nat) (x : Nat) : Nat := fadd .f32 (fadd .f32 (fofi .f32 (belowM xs x)) (fdiv .f32 (fofi .f32 (equalM xs x)) 1073741824)) 1056964608
def rkM (xs : List Nat) : List Nat := tab xs.length fun i => rkV xs (xs.getD i 0)
open Go.IntKind (wrap)
-- FN impl_RanksOf
def ps_impl_RanksOf : List Nat := [0, 2, 3, 4, 6, 7, 8, 11, 13, 14, 15, 16]
def lv_impl_RanksOf_L0 : List Nat := [0, 4, 13, 14, 15]
def b_impl_RanksOf_L0 (gq0 gq1 : FuncId) : VCode :=
 (.seq
 (.region false [
 ⟨some 16, (.bin .lss), [.t 15, .t 14], none⟩])
 (.seq
 (.cond (.t 16)
 .skip
 (.exit 0))
 (.seq
 (.block 1
 (.seq
 (.region false [
 ⟨some 17, .iaddr, [.t 13, .t 15], none⟩,
 ⟨some 18, .load, [.t 17], none⟩,
 ⟨some 6, .mv, [.t 18], none⟩])
 (.seq
 (.region false [
 ⟨some 20, .mv, [.t 0], none⟩,
 ⟨some 21, .mv, [.t 6], none⟩,
 ⟨some 22, (.call gq1), [.t 20, .t 21], none⟩,
 ⟨some 19, .mv, [.t 22], none⟩,
 ⟨some 23, (.extract 0), [.t 19], none⟩,
 ⟨some 24, (.extract 1), [.t 19], none⟩,
 ⟨some 7, .mv, [.t 23], none⟩,
 ⟨some 8, .mv, [.t 24], none⟩])
 (.region false [
 ⟨some 25, .mv, [.t 4], none⟩,
 ⟨some 26, .mv, [.t 7], none⟩,
 ⟨some 27, .mv, [.t 8], none⟩,
 ⟨some 28, (.bin .quo), [.t 27, .k (.f .f32 1073741824)], none⟩,
 ⟨some 29, (.bin .add), [.t 26, .t 28], none⟩,
 ⟨some 30, (.bin .add), [.t 29, .k (.f .f32 1056964608)], none⟩,
 ⟨some 31, (.lit true (.f .f32 [])), [.t 30], none⟩,
 ⟨some 32, .app, [.t 25, .t 31], none⟩,
 ⟨some 4, .mv, [.t 32], none⟩]))))
 (.region false [
 ⟨some 33, (.bin .add), [.t 15, .k (.i .i64 1)], none⟩,
 ⟨some 15, .mv, [.t 33], none⟩]))))

def b_impl_RanksOf (gq0 gq1 : FuncId) : VCode :=
 (.seq
 (.region false [
 ⟨some 2, (.nilsl (.f .f32 [])), [], none⟩,
 ⟨some 3, .mv, [.k (.b false)], none⟩])
 (.seq
 (.seq
 (.region false [
 ⟨some 9, .mv, [.t 0], none⟩,
 ⟨some 10, (.call gq0), [.t 9], none⟩,
 ⟨some 11, .not, [.t 10], none⟩])
 (.cond (.t 11)
 (.seq
 (.region false [
 ⟨some 2, (.nilsl (.f .f32 [])), [], none⟩,
 ⟨some 3, .mv, [.k (.b false)], none⟩])
 .ret)
 .skip))
 (.seq
 (.region false [
 ⟨some 12, (.lit true (.f .f32 [])), [], none⟩,
 ⟨some 4, .mv, [.t 12], none⟩])
 (.seq
 (.seq
 (.region false [
 ⟨some 13, .mv, [.t 0], none⟩,
 ⟨some 14, .len, [.t 13], none⟩,
 ⟨some 15, .mv, [.k (.i .i64 0)], none⟩])
 (.block 0 (.loop (b_impl_RanksOf_L0 gq0 gq1))))
 (.seq
 (.region false [
 ⟨some 34, .mv, [.t 4], none⟩,
 ⟨some 2, .mv, [.t 34], none⟩,
 ⟨some 3, .mv, [.k (.b true)], none⟩])
 .ret)))))

abbrev Is_impl_RanksOf (P : Program) (g_f : FuncId) (gq0 gq1 : FuncId) : Prop := FnIs P g_f 35 [.t 2, .t 3] (b_impl_RanksOf gq0 gq1)

abbrev C_impl_RanksOf (P : Program) (g_f : FuncId) : Prop := ∀ (xs : List Nat) (hx : xs.length ≤ maxLen), VCall P g_f [PS [0] .f32 xs] (.tup [OS 0 .f32 (if seriesM xs = true then rkM xs else []), .b (seriesM xs)])
def oc_impl_RanksOf (xs : List Nat) (d : Nat) (as : List AV) : T AV := match d with | 10 => oc1_impl_IsSeries as | 22 => oc1_impl_around as | _ => .fail
def h_impl_RanksOf_L0 (xs : List Nat) (out : List Nat) (v15 : Int) : Env := [AV.sl (Tag.par [0]) 0 (Cont.f .f32 xs), .any, .any, .any, .sl (Tag.own 96) 0 (.f .f32 out)] ++ anys 8 ++ [AV.sl (Tag.par [0]) 0 (Cont.f .f32 xs), AV.i .i64 (↑(List.length xs) : Int), .i .i64 v15] ++ anys 19

theorem q_impl_RanksOf_L0 {VC : FuncId → List AV → AV → Prop} {gq0 gq1 : FuncId} (xs : List Nat) (out : List Nat) (v15 : Int) {e_ : Ex} {σ_ : Env} (ht : T.ok (fun x_ => x_ = (e_, σ_)) (
 T.ite (decide (v15 < (↑(List.length xs) : Int)))
 (T.ob (0 ≤ v15 ∧ v15 < (↑(List.length xs) : Int))
 (T.ob
 (VC gq1 [AV.sl (Tag.par [0]) 0 (Cont.f .f32 xs), AV.f .f32 (List.getD xs (Int.toNat v15) 0)]
 (AV.tup [AV.f .f32 (fofi .f32 (belowM xs (List.getD xs (Int.toNat v15) 0))), AV.f .f32 (fofi .f32 (equalM xs (List.getD xs (Int.toNat v15) 0)))]))
 (T.ob True
 (T.ob
 (List.length out +
 List.length
 [fadd .f32 (fadd .f32 (fofi .f32 (belowM xs (List.getD xs (Int.toNat v15) 0))) (fdiv .f32 (fofi .f32 (equalM xs (List.getD xs (Int.toNat v15) 0))) 1073741824))
 1056964608] ≤
 4294967296)
 (T.leaf
 (Ex.normal,
 h_impl_RanksOf_L0 xs
 (out ++
 [fadd .f32
 (fadd .f32 (fofi .f32 (belowM xs (List.getD xs (Int.toNat v15) 0))) (fdiv .f32 (fofi .f32 (equalM xs (List.getD xs (Int.toNat v15) 0))) 1073741824)) 1056964608])
 (wrap .i64 (v15 + 1))))))))
 (T.leaf (Ex.exit 0, h_impl_RanksOf_L0 xs out v15)))) :
 Exec VC ps_impl_RanksOf (b_impl_RanksOf_L0 gq0 gq1) (h_impl_RanksOf_L0 xs out v15) e_ σ_ := evL_of (lv := lv_impl_RanksOf_L0) (rs := [2, 3]) (O := ⟨oc_impl_RanksOf xs, fun _ _ => none⟩) (by kernel_rfl) ht

theorem q_impl_RanksOf {P : Program} {g_f : FuncId} {gq0 gq1 : FuncId} (h_ : Is_impl_RanksOf P g_f gq0 gq1) (xs : List Nat) (ht : T.ok (fun x_ => x_ = .tup [OS 0 .f32 (if seriesM xs = true then rkM xs else []), .b (seriesM xs)]) (
 T.ob ((VCall P) gq0 [AV.sl (Tag.par [0]) 0 (Cont.f .f32 xs)] (AV.b (seriesM xs)))
 (T.ite (!seriesM xs) (T.leaf (AV.tup [AV.sl (Tag.own 0) 0 (Cont.f .f32 []), AV.b false]))
 (T.ob (Exec (VCall P) ps_impl_RanksOf (VCode.block 0 (VCode.loop (b_impl_RanksOf_L0 gq0 gq1))) (h_impl_RanksOf_L0 xs [] 0) Ex.normal (h_impl_RanksOf_L0 xs (rkM xs) (↑(List.length xs) : Int)))
 (T.leaf (AV.tup [AV.sl (Tag.own 0) 0 (Cont.f .f32 (rkM xs)), AV.b true])))))) :
 VCall P g_f [PS [0] .f32 xs] (.tup [OS 0 .f32 (if seriesM xs = true then rkM xs else []), .b (seriesM xs)]) := h_.call_of ps_impl_RanksOf ⟨oc_impl_RanksOf xs, fun id σ => match id with | 0 => some (lv_impl_RanksOf_L0, .leaf (.normal, h_impl_RanksOf_L0 xs (rkM xs) xs.length)) | _ => none⟩ (by kernel_rfl) ht

-- END impl_RanksOf

def farV (xs : List Nat) : List Nat := tab xs.length fun i => absF (fsub .f32 (xs.getD i 0) (medM xs))
def farW (xs : List Nat) (w : Nat) : Nat := fmul .f32 w (medM (farV xs))
-- FN impl_far
def ps_impl_far : List Nat := [0, 1, 4, 5, 6, 7, 9, 13, 14, 15, 16]
def lv_impl_far_L0 : List Nat := [1, 6, 7, 13, 14, 15]
def b_impl_far_L0 (gq0 gq1 : FuncId) : VCode :=
 (.seq
 (.region false [
 ⟨some 16, (.bin .lss), [.t 15, .t 14], none⟩])
 (.seq
 (.cond (.t 16)
 .skip
 (.exit 0))
 (.seq
 (.block 1
 (.seq
 (.region false [
 ⟨some 17, .iaddr, [.t 13, .t 15], none⟩,
 ⟨some 18, .load, [.t 17], none⟩,
 ⟨some 9, .mv, [.t 18], none⟩])
 (.region false [
 ⟨some 19, .mv, [.t 7], none⟩,
 ⟨some 20, .mv, [.t 9], none⟩,
 ⟨some 21, .mv, [.t 6], none⟩,
 ⟨some 22, (.bin .sub), [.t 20, .t 21], none⟩,
 ⟨some 23, (.call gq1), [.t 22], none⟩,
 ⟨some 24, (.lit true (.f .f32 [])), [.t 23], none⟩,
 ⟨some 25, .app, [.t 19, .t 24], none⟩,
 ⟨some 7, .mv, [.t 25], none⟩])))
 (.region false [
 ⟨some 26, (.bin .add), [.t 15, .k (.i .i64 1)], none⟩,
 ⟨some 15, .mv, [.t 26], none⟩]))))

def b_impl_far (gq0 gq1 : FuncId) : VCode :=
 (.seq
 (.region false [
 ⟨some 4, .mv, [.k (.f .f32 0)], none⟩,
 ⟨some 5, .mv, [.k (.f .f32 0)], none⟩])
 (.seq
 (.region false [
 ⟨some 10, .mv, [.t 0], none⟩,
 ⟨some 11, (.call gq0), [.t 10], none⟩,
 ⟨some 6, .mv, [.t 11], none⟩])
 (.seq
 (.region false [
 ⟨some 12, (.lit true (.f .f32 [])), [], none⟩,
 ⟨some 7, .mv, [.t 12], none⟩])
 (.seq
 (.seq
 (.region false [
 ⟨some 13, .mv, [.t 0], none⟩,
 ⟨some 14, .len, [.t 13], none⟩,
 ⟨some 15, .mv, [.k (.i .i64 0)], none⟩])
 (.block 0 (.loop (b_impl_far_L0 gq0 gq1))))
 (.seq
 (.region false [
 ⟨some 27, .mv, [.t 6], none⟩,
 ⟨some 28, .mv, [.t 1], none⟩,
 ⟨some 29, .mv, [.t 7], none⟩,
 ⟨some 30, (.call gq0), [.t 29], none⟩,
 ⟨some 31, (.bin .mul), [.t 28, .t 30], none⟩,
 ⟨some 4, .mv, [.t 27], none⟩,
 ⟨some 5, .mv, [.t 31], none⟩])
 .ret)))))

abbrev Is_impl_far (P : Program) (g_f : FuncId) (gq0 gq1 : FuncId) : Prop := FnIs P g_f 32 [.t 4, .t 5] (b_impl_far gq0 gq1)

abbrev C_impl_far (P : Program) (g_f : FuncId) : Prop := ∀ (xs : List Nat) (w : Nat) (hs : seriesM xs = true) (hv : okM (farV xs)), VCall P g_f [PS [0] .f32 xs, .f .f32 w] (.tup [.f .f32 (medM xs), .f .f32 (farW xs w)])
def oc_impl_far (xs : List Nat) (w : Nat) (d : Nat) (as : List AV) : T AV := match d with | 11 => oc1_impl_median as | 23 => oc1_impl_absolute as | 30 => oc1_impl_median as | _ => .fail
def h_impl_far_L0 (xs : List Nat) (w : Nat) (values : List Nat) (v15 : Int) : Env := [.any, AV.f .f32 w] ++ anys 4 ++ [AV.f .f32 (medM xs), .sl (Tag.own 96) 0 (.f .f32 values)] ++ anys 5 ++ [AV.sl (Tag.par [0]) 0 (Cont.f .f32 xs), AV.i .i64 (↑(List.length xs) : Int), .i .i64 v15] ++ anys 16

theorem q_impl_far_L0 {VC : FuncId → List AV → AV → Prop} {gq0 gq1 : FuncId} (xs : List Nat) (w : Nat) (values : List Nat) (v15 : Int) {e_ : Ex} {σ_ : Env} (ht : T.ok (fun x_ => x_ = (e_, σ_)) (
 T.ite (decide (v15 < (↑(List.length xs) : Int)))
 (T.ob (0 ≤ v15 ∧ v15 < (↑(List.length xs) : Int))
 (T.ob (VC gq1 [AV.f .f32 (fsub .f32 (List.getD xs (Int.toNat v15) 0) (medM xs))] (AV.f .f32 (absF (fsub .f32 (List.getD xs (Int.toNat v15) 0) (medM xs)))))
 (T.ob (List.length values + List.length [absF (fsub .f32 (List.getD xs (Int.toNat v15) 0) (medM xs))] ≤ 4294967296)
 (T.leaf (Ex.normal, h_impl_far_L0 xs w (values ++ [absF (fsub .f32 (List.getD xs (Int.toNat v15) 0) (medM xs))]) (wrap .i64 (v15 + 1)))))))
 (T.leaf (Ex.exit 0, h_impl_far_L0 xs w values v15)))) :
 Exec VC ps_impl_far (b_impl_far_L0 gq0 gq1) (h_impl_far_L0 xs w values v15) e_ σ_ := evL_of (lv := lv_impl_far_L0) (rs := [4, 5]) (O := ⟨oc_impl_far xs w, fun _ _ => none⟩) (by kernel_rfl) ht

theorem q_impl_far {P : Program} {g_f : FuncId} {gq0 gq1 : FuncId} (h_ : Is_impl_far P g_f gq0 gq1) (xs : List Nat) (w : Nat) (ht : T.ok (fun x_ => x_ = .tup [.f .f32 (medM xs), .f .f32 (farW xs w)]) (
 T.ob ((VCall P) gq0 [AV.sl (Tag.par [0]) 0 (Cont.f .f32 xs)] (AV.f .f32 (medM xs)))
 (T.ob (Exec (VCall P) ps_impl_far (VCode.block 0 (VCode.loop (b_impl_far_L0 gq0 gq1))) (h_impl_far_L0 xs w [] 0) Ex.normal (h_impl_far_L0 xs w (farV xs) (↑(List.length xs) : Int)))
 (T.ob ((VCall P) gq0 [AV.sl (Tag.par [0]) 0 (Cont.f .f32 (farV xs))] (AV.f .f32 (medM (farV xs))))
 (T.leaf (AV.tup [AV.f .f32 (medM xs), AV.f .f32 (fmul .f32 w (medM (farV xs)))])))))) :
 VCall P g_f [PS [0] .f32 xs, .f .f32 w] (.tup [.f .f32 (medM xs), .f .f32 (farW xs w)]) := h_.call_of ps_impl_far ⟨oc_impl_far xs w, fun id σ => match id with | 0 => some (lv_impl_far_L0, .leaf (.normal, h_impl_far_L0 xs w (farV xs) xs.length)) | _ => none⟩ (by kernel_rfl) ht

-- END impl_far

def foB (xs : List Nat) (m wd : Nat) (i : Nat) : Bool := fgt .f32 (absF (fsub .f32 (xs.getD i 0) m)) wd
def foN (xs : List Nat) (m wd : Nat) : Nat → List Int
  | 0 => []
  | n + 1 => if foB xs m wd n = true then foN xs m wd n ++ [(n : Int)] else foN xs m wd n
def foM (xs : List Nat) (m wd : Nat) : List Int := foN xs m wd xs.length
-- FN impl_FarOnes
def ps_impl_FarOnes : List Nat := [0, 1, 4, 5, 6, 7, 8, 9, 10, 19, 30, 32, 33, 34, 35, 44]
def lv_impl_FarOnes_L0 : List Nat := [6, 7, 8, 32, 33, 34]
def b_impl_FarOnes_L0 (gq0 gq1 gq2 gq3 gq4 : FuncId) : VCode :=
 (.seq
 (.region false [
 ⟨some 35, (.bin .lss), [.t 34, .t 33], none⟩])
 (.seq
 (.cond (.t 35)
 .skip
 (.exit 0))
 (.seq
 (.block 1
 (.seq
 (.region false [
 ⟨some 36, .mv, [.t 34], none⟩,
 ⟨some 37, .iaddr, [.t 32, .t 34], none⟩,
 ⟨some 38, .load, [.t 37], none⟩,
 ⟨some 9, .mv, [.t 36], none⟩,
 ⟨some 10, .mv, [.t 38], none⟩])
 (.seq
 (.region false [
 ⟨some 39, .mv, [.t 10], none⟩,
 ⟨some 40, .mv, [.t 6], none⟩,
 ⟨some 41, (.bin .sub), [.t 39, .t 40], none⟩,
 ⟨some 42, (.call gq4), [.t 41], none⟩,
 ⟨some 43, .mv, [.t 7], none⟩,
 ⟨some 44, (.bin .gtr), [.t 42, .t 43], none⟩])
 (.cond (.t 44)
 (.region false [
 ⟨some 45, .mv, [.t 8], none⟩,
 ⟨some 46, .mv, [.t 9], none⟩,
 ⟨some 47, (.lit true (.i .i64 [])), [.t 46], none⟩,
 ⟨some 48, .app, [.t 45, .t 47], none⟩,
 ⟨some 8, .mv, [.t 48], none⟩])
 .skip))))
 (.region false [
 ⟨some 49, (.bin .add), [.t 34, .k (.i .i64 1)], none⟩,
 ⟨some 34, .mv, [.t 49], none⟩]))))

def b_impl_FarOnes (gq0 gq1 gq2 gq3 gq4 : FuncId) : VCode :=
 (.seq
 (.region false [
 ⟨some 4, (.nilsl (.i .i64 [])), [], none⟩,
 ⟨some 5, .mv, [.k (.b false)], none⟩])
 (.seq
 (.seq
 (.region false [
 ⟨some 11, .mv, [.t 0], none⟩,
 ⟨some 12, (.call gq0), [.t 11], none⟩,
 ⟨some 13, .not, [.t 12], none⟩,
 ⟨some 14, .mv, [.t 13], none⟩,
 ⟨some 15, .mv, [.t 1], some (14, false)⟩,
 ⟨some 16, (.lit true (.f .f32 [])), [.t 15], some (14, false)⟩,
 ⟨some 17, (.call gq1), [.t 16], some (14, false)⟩,
 ⟨some 18, .not, [.t 17], some (14, false)⟩,
 ⟨some 19, .pick, [.t 14, .k (.b true), .t 18], none⟩])
 (.cond (.t 19)
 (.seq
 (.region false [
 ⟨some 4, (.nilsl (.i .i64 [])), [], none⟩,
 ⟨some 5, .mv, [.k (.b false)], none⟩])
 .ret)
 .skip))
 (.seq
 (.region false [
 ⟨some 21, .mv, [.t 0], none⟩,
 ⟨some 22, .mv, [.t 1], none⟩,
 ⟨some 23, (.call gq2), [.t 21, .t 22], none⟩,
 ⟨some 20, .mv, [.t 23], none⟩,
 ⟨some 24, (.extract 0), [.t 20], none⟩,
 ⟨some 25, (.extract 1), [.t 20], none⟩,
 ⟨some 6, .mv, [.t 24], none⟩,
 ⟨some 7, .mv, [.t 25], none⟩])
 (.seq
 (.seq
 (.region false [
 ⟨some 26, .mv, [.t 6], none⟩,
 ⟨some 27, .mv, [.t 7], none⟩,
 ⟨some 28, (.lit true (.f .f32 [])), [.t 26, .t 27], none⟩,
 ⟨some 29, (.call gq3), [.t 28], none⟩,
 ⟨some 30, .not, [.t 29], none⟩])
 (.cond (.t 30)
 (.seq
 (.region false [
 ⟨some 4, (.nilsl (.i .i64 [])), [], none⟩,
 ⟨some 5, .mv, [.k (.b false)], none⟩])
 .ret)
 .skip))
 (.seq
 (.region false [
 ⟨some 31, (.lit true (.i .i64 [])), [], none⟩,
 ⟨some 8, .mv, [.t 31], none⟩])
 (.seq
 (.seq
 (.region false [
 ⟨some 32, .mv, [.t 0], none⟩,
 ⟨some 33, .len, [.t 32], none⟩,
 ⟨some 34, .mv, [.k (.i .i64 0)], none⟩])
 (.block 0 (.loop (b_impl_FarOnes_L0 gq0 gq1 gq2 gq3 gq4))))
 (.seq
 (.region false [
 ⟨some 50, .mv, [.t 8], none⟩,
 ⟨some 4, .mv, [.t 50], none⟩,
 ⟨some 5, .mv, [.k (.b true)], none⟩])
 .ret)))))))

abbrev Is_impl_FarOnes (P : Program) (g_f : FuncId) (gq0 gq1 gq2 gq3 gq4 : FuncId) : Prop := FnIs P g_f 51 [.t 4, .t 5] (b_impl_FarOnes gq0 gq1 gq2 gq3 gq4)

abbrev C_impl_FarOnes (P : Program) (g_f : FuncId) : Prop := ∀ (xs : List Nat) (w : Nat) (m : Nat) (wd : Nat) (hm : medM xs = m) (hW : farW xs w = wd) (hs : seriesM xs = true) (hv : okM (farV xs)) (hw : notLessM [w] = true) (hf : finAllM [m, wd] = true), VCall P g_f [PS [0] .f32 xs, .f .f32 w] (.tup [OI 0 (foM xs m wd), .b true])
def oc_impl_FarOnes (xs : List Nat) (w : Nat) (m : Nat) (wd : Nat) (d : Nat) (as : List AV) : T AV := match d with | 12 => oc1_impl_IsSeries as | 17 => .leaf (.b true) | 23 => .leaf (.tup [.f .f32 m, .f .f32 wd]) | 29 => .leaf (.b true) | 42 => oc1_impl_absolute as | _ => .fail
def h_impl_FarOnes_L0 (xs : List Nat) (w : Nat) (m : Nat) (wd : Nat) (out : List Int) (v34 : Int) : Env := anys 6 ++ [AV.f .f32 m, AV.f .f32 wd, .sl (Tag.own 248) 0 (.i .i64 out)] ++ anys 23 ++ [AV.sl (Tag.par [0]) 0 (Cont.f .f32 xs), AV.i .i64 (↑(List.length xs) : Int), .i .i64 v34] ++ anys 16

theorem q_impl_FarOnes_L0 {VC : FuncId → List AV → AV → Prop} {gq0 gq1 gq2 gq3 gq4 : FuncId} (xs : List Nat) (w : Nat) (m : Nat) (wd : Nat) (out : List Int) (v34 : Int) {e_ : Ex} {σ_ : Env} (ht : T.ok (fun x_ => x_ = (e_, σ_)) (
 T.ite (decide (v34 < (↑(List.length xs) : Int)))
 (T.ob (0 ≤ v34 ∧ v34 < (↑(List.length xs) : Int))
 (T.ob (VC gq4 [AV.f .f32 (fsub .f32 (List.getD xs (Int.toNat v34) 0) m)] (AV.f .f32 (absF (fsub .f32 (List.getD xs (Int.toNat v34) 0) m))))
 (T.ite (fgt .f32 (absF (fsub .f32 (List.getD xs (Int.toNat v34) 0) m)) wd)
 (T.ob (List.length out + List.length [v34] ≤ 4294967296) (T.leaf (Ex.normal, h_impl_FarOnes_L0 xs w m wd (out ++ [v34]) (wrap .i64 (v34 + 1)))))
 (T.leaf (Ex.normal, h_impl_FarOnes_L0 xs w m wd out (wrap .i64 (v34 + 1)))))))
 (T.leaf (Ex.exit 0, h_impl_FarOnes_L0 xs w m wd out v34)))) :
 Exec VC ps_impl_FarOnes (b_impl_FarOnes_L0 gq0 gq1 gq2 gq3 gq4) (h_impl_FarOnes_L0 xs w m wd out v34) e_ σ_ := evL_of (lv := lv_impl_FarOnes_L0) (rs := [4, 5]) (O := ⟨oc_impl_FarOnes xs w m wd, fun _ _ => none⟩) (by kernel_rfl) ht

theorem q_impl_FarOnes {P : Program} {g_f : FuncId} {gq0 gq1 gq2 gq3 gq4 : FuncId} (h_ : Is_impl_FarOnes P g_f gq0 gq1 gq2 gq3 gq4) (xs : List Nat) (w : Nat) (m : Nat) (wd : Nat) (ht : T.ok (fun x_ => x_ = .tup [OI 0 (foM xs m wd), .b true]) (
 T.ob ((VCall P) gq0 [AV.sl (Tag.par [0]) 0 (Cont.f .f32 xs)] (AV.b (seriesM xs)))
 (T.ite (!seriesM xs) (T.leaf (AV.tup [AV.sl (Tag.own 0) 0 (Cont.i .i64 (List.take 0 (List.drop 0 []))), AV.b false]))
 (T.ob ((VCall P) gq1 [AV.sl (Tag.par [0]) 0 (Cont.f .f32 [w])] (AV.b true))
 (T.ite false (T.leaf (AV.tup [AV.sl (Tag.own 0) 0 (Cont.i .i64 (List.take 0 (List.drop 0 []))), AV.b false]))
 (T.ob ((VCall P) gq2 [AV.sl (Tag.par [0]) 0 (Cont.f .f32 xs), AV.f .f32 w] (AV.tup [AV.f .f32 m, AV.f .f32 wd]))
 (T.ob ((VCall P) gq3 [AV.sl (Tag.par [0]) 0 (Cont.f .f32 [m, wd])] (AV.b true))
 (T.ite false (T.leaf (AV.tup [AV.sl (Tag.own 0) 0 (Cont.i .i64 (List.take 0 (List.drop 0 []))), AV.b false]))
 (T.ob
 (Exec (VCall P) ps_impl_FarOnes (VCode.block 0 (VCode.loop (b_impl_FarOnes_L0 gq0 gq1 gq2 gq3 gq4))) (h_impl_FarOnes_L0 xs w m wd [] 0) Ex.normal
 (h_impl_FarOnes_L0 xs w m wd (foM xs m wd) (↑(List.length xs) : Int)))
 (T.leaf (AV.tup [AV.sl (Tag.own 0) 0 (Cont.i .i64 (foM xs m wd)), AV.b true]))))))))))) :
 VCall P g_f [PS [0] .f32 xs, .f .f32 w] (.tup [OI 0 (foM xs m wd), .b true]) := h_.call_of ps_impl_FarOnes ⟨oc_impl_FarOnes xs w m wd, fun id σ => match id with | 0 => some (lv_impl_FarOnes_L0, .leaf (.normal, h_impl_FarOnes_L0 xs w m wd (foM xs m wd) xs.length)) | _ => none⟩ (by kernel_rfl) ht

-- END impl_FarOnes

def tmV (m wd : Nat) (x : Nat) : Nat := if fgt .f32 x m = true then fadd .f32 m wd else fsub .f32 m wd
def tmN (xs : List Nat) (ks : List Int) (m wd : Nat) : Nat → List Nat
  | 0 => xs
  | n + 1 => (tmN xs ks m wd n).set (ks.getD n 0).toNat (tmV m wd ((tmN xs ks m wd n).getD (ks.getD n 0).toNat 0))
def tmM (xs : List Nat) (m wd : Nat) : List Nat := tmN xs (foM xs m wd) m wd (foM xs m wd).length
-- FN impl_TameOnes
def ps_impl_TameOnes : List Nat := [0, 1, 4, 5, 6, 7, 8, 9, 10, 12, 20, 29, 30, 31, 32, 40]
def lv_impl_TameOnes_L0 : List Nat := [8, 9, 10, 29, 30, 31]
def b_impl_TameOnes_L0 (gq0 gq1 gq2 gq3 : FuncId) : VCode :=
 (.seq
 (.region false [
 ⟨some 32, (.bin .lss), [.t 31, .t 30], none⟩])
 (.seq
 (.cond (.t 32)
 .skip
 (.exit 0))
 (.seq
 (.block 1
 (.seq
 (.region false [
 ⟨some 33, .iaddr, [.t 29, .t 31], none⟩,
 ⟨some 34, .load, [.t 33], none⟩,
 ⟨some 12, .mv, [.t 34], none⟩])
 (.seq
 (.region false [
 ⟨some 35, .mv, [.t 10], none⟩,
 ⟨some 36, .mv, [.t 12], none⟩,
 ⟨some 37, .iaddr, [.t 35, .t 36], none⟩,
 ⟨some 38, .load, [.t 37], none⟩,
 ⟨some 39, .mv, [.t 8], none⟩,
 ⟨some 40, (.bin .gtr), [.t 38, .t 39], none⟩])
 (.cond (.t 40)
 (.region false [
 ⟨some 41, .mv, [.t 10], none⟩,
 ⟨some 42, .mv, [.t 12], none⟩,
 ⟨some 43, .mv, [.t 8], none⟩,
 ⟨some 44, .mv, [.t 9], none⟩,
 ⟨some 45, (.bin .add), [.t 43, .t 44], none⟩,
 ⟨some 46, .iaddr, [.t 41, .t 42], none⟩,
 ⟨none, .store, [.t 46, .t 45], none⟩])
 (.region false [
 ⟨some 47, .mv, [.t 10], none⟩,
 ⟨some 48, .mv, [.t 12], none⟩,
 ⟨some 49, .mv, [.t 8], none⟩,
 ⟨some 50, .mv, [.t 9], none⟩,
 ⟨some 51, (.bin .sub), [.t 49, .t 50], none⟩,
 ⟨some 52, .iaddr, [.t 47, .t 48], none⟩,
 ⟨none, .store, [.t 52, .t 51], none⟩])))))
 (.region false [
 ⟨some 53, (.bin .add), [.t 31, .k (.i .i64 1)], none⟩,
 ⟨some 31, .mv, [.t 53], none⟩]))))

def b_impl_TameOnes (gq0 gq1 gq2 gq3 : FuncId) : VCode :=
 (.seq
 (.region false [
 ⟨some 4, (.nilsl (.f .f32 [])), [], none⟩,
 ⟨some 5, .mv, [.k (.b false)], none⟩])
 (.seq
 (.region false [
 ⟨some 14, .mv, [.t 0], none⟩,
 ⟨some 15, .mv, [.t 1], none⟩,
 ⟨some 16, (.call gq0), [.t 14, .t 15], none⟩,
 ⟨some 13, .mv, [.t 16], none⟩,
 ⟨some 17, (.extract 0), [.t 13], none⟩,
 ⟨some 18, (.extract 1), [.t 13], none⟩,
 ⟨some 6, .mv, [.t 17], none⟩,
 ⟨some 7, .mv, [.t 18], none⟩])
 (.seq
 (.seq
 (.region false [
 ⟨some 19, .mv, [.t 7], none⟩,
 ⟨some 20, .not, [.t 19], none⟩])
 (.cond (.t 20)
 (.seq
 (.region false [
 ⟨some 4, (.nilsl (.f .f32 [])), [], none⟩,
 ⟨some 5, .mv, [.k (.b false)], none⟩])
 .ret)
 .skip))
 (.seq
 (.region false [
 ⟨some 22, .mv, [.t 0], none⟩,
 ⟨some 23, .mv, [.t 1], none⟩,
 ⟨some 24, (.call gq1), [.t 22, .t 23], none⟩,
 ⟨some 21, .mv, [.t 24], none⟩,
 ⟨some 25, (.extract 0), [.t 21], none⟩,
 ⟨some 26, (.extract 1), [.t 21], none⟩,
 ⟨some 8, .mv, [.t 25], none⟩,
 ⟨some 9, .mv, [.t 26], none⟩])
 (.seq
 (.region false [
 ⟨some 27, .mv, [.t 0], none⟩,
 ⟨some 28, (.call gq2), [.t 27], none⟩,
 ⟨some 10, .mv, [.t 28], none⟩])
 (.seq
 (.seq
 (.region false [
 ⟨some 29, .mv, [.t 6], none⟩,
 ⟨some 30, .len, [.t 29], none⟩,
 ⟨some 31, .mv, [.k (.i .i64 0)], none⟩])
 (.block 0 (.loop (b_impl_TameOnes_L0 gq0 gq1 gq2 gq3))))
 (.seq
 (.region false [
 ⟨some 54, .mv, [.t 10], none⟩,
 ⟨some 55, (.call gq3), [.t 54], none⟩,
 ⟨some 56, (.extract 0), [.t 55], none⟩,
 ⟨some 57, (.extract 1), [.t 55], none⟩,
 ⟨some 4, .mv, [.t 56], none⟩,
 ⟨some 5, .mv, [.t 57], none⟩])
 .ret)))))))

abbrev Is_impl_TameOnes (P : Program) (g_f : FuncId) (gq0 gq1 gq2 gq3 : FuncId) : Prop := FnIs P g_f 58 [.t 4, .t 5] (b_impl_TameOnes gq0 gq1 gq2 gq3)

abbrev C_impl_TameOnes (P : Program) (g_f : FuncId) : Prop := ∀ (xs : List Nat) (w : Nat) (m : Nat) (wd : Nat) (hm : medM xs = m) (hW : farW xs w = wd) (hs : seriesM xs = true) (hv : okM (farV xs)) (hw : notLessM [w] = true) (hf : finAllM [m, wd] = true), VCall P g_f [PS [0] .f32 xs, .f .f32 w] (.tup [OS 0 .f32 (ifAllM (tmM xs m wd)), .b (finAllM (tmM xs m wd))])
def oc_impl_TameOnes (xs : List Nat) (w : Nat) (m : Nat) (wd : Nat) (d : Nat) (as : List AV) : T AV := match d with | 16 => .leaf (.tup [OI 0 (foM xs m wd), .b true]) | 24 => .leaf (.tup [.f .f32 m, .f .f32 wd]) | 28 => oc1_slices_Clone___float32_float32_ as | 55 => oc1_impl_ifAll as | _ => .fail
def h_impl_TameOnes_L0 (xs : List Nat) (w : Nat) (m : Nat) (wd : Nat) (out : List Nat) (v29 : List Int) (v31 : Int) : Env := anys 8 ++ [AV.f .f32 m, AV.f .f32 wd, .sl (Tag.own 224) 0 (.f .f32 out)] ++ anys 18 ++ [.sl (Tag.own 128) 0 (.i .i64 v29), AV.i .i64 (↑(List.length (foM xs m wd)) : Int), .i .i64 v31] ++ anys 26

theorem q_impl_TameOnes_L0 {VC : FuncId → List AV → AV → Prop} {gq0 gq1 gq2 gq3 : FuncId} (xs : List Nat) (w : Nat) (m : Nat) (wd : Nat) (out : List Nat) (v29 : List Int) (v31 : Int) {e_ : Ex} {σ_ : Env} (ht : T.ok (fun x_ => x_ = (e_, σ_)) (
 T.ite (decide (v31 < (↑(List.length (foM xs m wd)) : Int)))
 (T.ob (0 ≤ v31 ∧ v31 < (↑(List.length v29) : Int))
 (T.ob (0 ≤ List.getD v29 (Int.toNat v31) 0 ∧ List.getD v29 (Int.toNat v31) 0 < (↑(List.length out) : Int))
 (T.ite (fgt .f32 (List.getD out (Int.toNat (List.getD v29 (Int.toNat v31) 0)) 0) m)
 (T.ob (0 ≤ List.getD v29 (Int.toNat v31) 0 ∧ List.getD v29 (Int.toNat v31) 0 < (↑(List.length out) : Int))
 (T.ob (false = false) (T.leaf (Ex.normal, h_impl_TameOnes_L0 xs w m wd (List.set out (0 + Int.toNat (List.getD v29 (Int.toNat v31) 0) - 0) (fadd .f32 m wd)) v29 (wrap .i64 (v31 + 1))))))
 (T.ob (0 ≤ List.getD v29 (Int.toNat v31) 0 ∧ List.getD v29 (Int.toNat v31) 0 < (↑(List.length out) : Int))
 (T.ob (false = false)
 (T.leaf (Ex.normal, h_impl_TameOnes_L0 xs w m wd (List.set out (0 + Int.toNat (List.getD v29 (Int.toNat v31) 0) - 0) (fsub .f32 m wd)) v29 (wrap .i64 (v31 + 1)))))))))
 (T.leaf (Ex.exit 0, h_impl_TameOnes_L0 xs w m wd out v29 v31)))) :
 Exec VC ps_impl_TameOnes (b_impl_TameOnes_L0 gq0 gq1 gq2 gq3) (h_impl_TameOnes_L0 xs w m wd out v29 v31) e_ σ_ := evL_of (lv := lv_impl_TameOnes_L0) (rs := [4, 5]) (O := ⟨oc_impl_TameOnes xs w m wd, fun _ _ => none⟩) (by kernel_rfl) ht

theorem q_impl_TameOnes {P : Program} {g_f : FuncId} {gq0 gq1 gq2 gq3 : FuncId} (h_ : Is_impl_TameOnes P g_f gq0 gq1 gq2 gq3) (xs : List Nat) (w : Nat) (m : Nat) (wd : Nat) (ht : T.ok (fun x_ => x_ = .tup [OS 0 .f32 (ifAllM (tmM xs m wd)), .b (finAllM (tmM xs m wd))]) (
 T.ob ((VCall P) gq0 [AV.sl (Tag.par [0]) 0 (Cont.f .f32 xs), AV.f .f32 w] (AV.tup [AV.sl (Tag.own 0) 0 (Cont.i .i64 (foM xs m wd)), AV.b true]))
 (T.ite false (T.leaf (AV.tup [AV.sl (Tag.own 0) 0 (Cont.f .f32 []), AV.b false]))
 (T.ob ((VCall P) gq1 [AV.sl (Tag.par [0]) 0 (Cont.f .f32 xs), AV.f .f32 w] (AV.tup [AV.f .f32 m, AV.f .f32 wd]))
 (T.ob ((VCall P) gq2 [AV.sl (Tag.par [0]) 0 (Cont.f .f32 xs)] (AV.sl (Tag.own 0) 0 (Cont.f .f32 xs)))
 (T.ob
 (Exec (VCall P) ps_impl_TameOnes (VCode.block 0 (VCode.loop (b_impl_TameOnes_L0 gq0 gq1 gq2 gq3))) (h_impl_TameOnes_L0 xs w m wd xs (foM xs m wd) 0) Ex.normal
 (h_impl_TameOnes_L0 xs w m wd (tmM xs m wd) (foM xs m wd) (↑(List.length (foM xs m wd)) : Int)))
 (T.ob ((VCall P) gq3 [AV.sl (Tag.par [0]) 0 (Cont.f .f32 (tmM xs m wd))] (AV.tup [AV.sl (Tag.par [0]) 0 (Cont.f .f32 (ifAllM (tmM xs m wd))), AV.b (finAllM (tmM xs m wd))]))
 (T.leaf (AV.tup [AV.sl (Tag.own 0) 0 (Cont.f .f32 (ifAllM (tmM xs m wd))), AV.b (finAllM (tmM xs m wd))]))))))))) :
 VCall P g_f [PS [0] .f32 xs, .f .f32 w] (.tup [OS 0 .f32 (ifAllM (tmM xs m wd)), .b (finAllM (tmM xs m wd))]) := h_.call_of ps_impl_TameOnes ⟨oc_impl_TameOnes xs w m wd, fun id σ => match id with | 0 => some (lv_impl_TameOnes_L0, .leaf (.normal, h_impl_TameOnes_L0 xs w m wd (tmM xs m wd) (foM xs m wd) (foM xs m wd).length)) | _ => none⟩ (by kernel_rfl) ht

-- END impl_TameOnes

theorem rk_len (xs : List Nat) : (rkM xs).length = xs.length := tab_len _ _
theorem k_impl_RanksOf {P : Program} {f g1 g2 : FuncId} (h : Is_impl_RanksOf P f g1 g2) (c1 : C_impl_IsSeries P g1) (c2 : C_impl_around P g2) : C_impl_RanksOf P f := by
  intro xs hx
  refine q_impl_RanksOf h xs (T.ok_ob (c1 _ hx) fun _ => T.ok_ite (fun h0 => ?_) (fun h0 => ?_))
  · have h0 : seriesM xs = false := by simpa using h0
    rw [h0]; exact T.ok_leaf rfl
  · have h0 : seriesM xs = true := by simpa using h0
    have hl := series_len h0
    rw [h0]
    refine T.ok_ob ?_ fun _ => T.ok_leaf rfl
    refine for_up (e := .exit 0) xs.length (fun i => h_impl_RanksOf_L0 xs (tab i fun i => rkV xs (xs.getD i 0)) (i : Nat)) (by first | rfl | simp) (fun i hi => ?_) ?_
    · refine q_impl_RanksOf_L0 _ _ _ (T.ok_ite (fun _ => ?_) (fun h => absurd (of_decide_eq_false h) (by omega)))
      have hj : (tab i fun i => rkV xs (xs.getD i 0)).length = i := tab_len _ _
      simp only [Int.toNat_natCast]
      refine T.ok_ob ⟨by omega, by omega⟩ fun _ => T.ok_ob (c2 _ _ hl.2) fun _ => T.ok_ob True.intro fun _ => T.ok_ob (by simp only [List.length_singleton]; omega) fun _ => T.ok_leaf ?_
      rw [tab_succ, wrap64_id (by omega) (by omega)]; rfl
    · exact q_impl_RanksOf_L0 _ _ _ (T.ok_ite (fun h => absurd (of_decide_eq_true h) (by omega)) (fun _ => T.ok_leaf rfl))
theorem farV_len (xs : List Nat) : (farV xs).length = xs.length := tab_len _ _
theorem k_impl_far {P : Program} {f g1 g2 : FuncId} (h : Is_impl_far P f g1 g2) (c1 : C_impl_median P g1) (c2 : C_impl_absolute P g2) : C_impl_far P f := by
  intro xs w hs hv
  have hl := series_len hs
  have hj := farV_len xs
  refine q_impl_far h xs w (T.ok_ob (c1 _ hl.1 (series_ok hs) (by omega)) fun _ => T.ok_ob ?_ fun _ => T.ok_ob (c1 _ (by omega) hv (by omega)) fun _ => T.ok_leaf rfl)
  refine for_up (e := .exit 0) xs.length (fun i => h_impl_far_L0 xs w (tab i fun i => absF (fsub .f32 (xs.getD i 0) (medM xs))) (i : Nat)) (by first | rfl | simp) (fun i hi => ?_) ?_
  · refine q_impl_far_L0 _ _ _ _ (T.ok_ite (fun _ => ?_) (fun h => absurd (of_decide_eq_false h) (by omega)))
    have hj : (tab i fun i => absF (fsub .f32 (xs.getD i 0) (medM xs))).length = i := tab_len _ _
    simp only [Int.toNat_natCast]
    refine T.ok_ob ⟨by omega, by omega⟩ fun _ => T.ok_ob (c2 _) fun _ => T.ok_ob (by simp only [List.length_singleton]; omega) fun _ => T.ok_leaf ?_
    rw [tab_succ, wrap64_id (by omega) (by omega)]; rfl
  · exact q_impl_far_L0 _ _ _ _ (T.ok_ite (fun h => absurd (of_decide_eq_true h) (by omega)) (fun _ => T.ok_leaf rfl))
theorem fo_len (xs : List Nat) (m wd : Nat) : ∀ n, (foN xs m wd n).length ≤ n
  | 0 => Nat.le_refl _
  | n + 1 => by
    have := fo_len xs m wd n
    unfold foN
    split
    · simp; omega
    · omega
theorem fo_le (xs : List Nat) (m wd : Nat) : ∀ n k, k < (foN xs m wd n).length → 0 ≤ (foN xs m wd n).getD k 0 ∧ (foN xs m wd n).getD k 0 < n
  | 0, k, h => absurd h (by simp [foN])
  | n + 1, k, h => by
    have ih := fo_le xs m wd n
    unfold foN at h ⊢
    split at h
    · rename_i hb
      rw [if_pos hb]
      rw [List.length_append, List.length_singleton] at h
      by_cases hk : k < (foN xs m wd n).length
      · have := ih k hk
        simp only [List.getD, List.getElem?_append_left hk] at this ⊢
        omega
      · have : k = (foN xs m wd n).length := by omega
        subst this
        simp [List.getD]; omega
    · rename_i hb
      rw [if_neg hb]
      have := ih k h
      omega
theorem k_impl_FarOnes {P : Program} {f g1 g2 g3 g4 g5 : FuncId} (h : Is_impl_FarOnes P f g1 g2 g3 g4 g5) (c1 : C_impl_IsSeries P g1) (c2 : C_impl_areNotLess P g2) (c3 : C_impl_far P g3) (c4 : C_impl_areFinite P g4) (c5 : C_impl_absolute P g5) : C_impl_FarOnes P f := by
  intro xs w m wd hm hW hs hv hw hf
  have hl := series_len hs
  have a1 := c1 xs (by rw [maxLen_eq]; omega)
  rw [hs] at a1
  have a2 := c2 [w] (by rw [maxLen_eq]; simp)
  rw [hw] at a2
  have a3 := c3 xs w hs hv
  rw [hm, hW] at a3
  have a4 := c4 [m, wd] (by rw [maxLen_eq]; simp)
  rw [hf] at a4
  refine q_impl_FarOnes h xs w m wd ?_
  rw [hs]
  refine T.ok_ob a1 fun _ => T.ok_ifalse (T.ok_ob a2 fun _ => T.ok_ifalse (T.ok_ob a3 fun _ => T.ok_ob a4 fun _ => T.ok_ifalse (T.ok_ob ?_ fun _ => T.ok_leaf rfl)))
  refine for_up (e := .exit 0) xs.length (fun i => h_impl_FarOnes_L0 xs w m wd (foN xs m wd i) (i : Nat)) (by first | rfl | simp) (fun i hi => ?_) ?_
  · refine q_impl_FarOnes_L0 _ _ _ _ _ _ (T.ok_ite (fun _ => ?_) (fun h => absurd (of_decide_eq_false h) (by omega)))
    have hj := fo_len xs m wd i
    simp only [Int.toNat_natCast]
    have es : foN xs m wd (i + 1) = if fgt .f32 (absF (fsub .f32 (xs.getD i 0) m)) wd = true then foN xs m wd i ++ [(i : Int)] else foN xs m wd i := rfl
    refine T.ok_ob ⟨by omega, by omega⟩ fun _ => T.ok_ob (c5 _) fun _ => T.ok_ite (fun hb => T.ok_ob (by simp only [List.length_singleton]; omega) fun _ => T.ok_leaf ?_) (fun hb => T.ok_leaf ?_)
    · rw [es, if_pos hb, wrap64_id (by omega) (by omega)]; rfl
    · rw [es, if_neg (by rw [hb]; decide), wrap64_id (by omega) (by omega)]; rfl
  · exact q_impl_FarOnes_L0 _ _ _ _ _ _ (T.ok_ite (fun h => absurd (of_decide_eq_true h) (by omega)) (fun _ => T.ok_leaf rfl))
theorem tmN_len (xs : List Nat) (ks : List Int) (m wd : Nat) : ∀ n, (tmN xs ks m wd n).length = xs.length
  | 0 => rfl
  | n + 1 => by simp [tmN, tmN_len xs ks m wd n]
theorem k_impl_TameOnes {P : Program} {f g1 g2 g3 g4 : FuncId} (h : Is_impl_TameOnes P f g1 g2 g3 g4) (c1 : C_impl_FarOnes P g1) (c2 : C_impl_far P g2) (c3 : C_slices_Clone___float32_float32_ P g3) (c4 : C_impl_ifAll P g4) : C_impl_TameOnes P f := by
  intro xs w m wd hm hW hs hv hw hf
  have hl := series_len hs
  have a1 := c1 xs w m wd hm hW hs hv hw hf
  have a2 := c2 xs w hs hv
  rw [hm, hW] at a2
  have lt : (tmM xs m wd).length = xs.length := tmN_len _ _ _ _ _
  have lf : (foM xs m wd).length ≤ xs.length := fo_len _ _ _ _
  refine q_impl_TameOnes h xs w m wd (T.ok_ob a1 fun _ => T.ok_ifalse (T.ok_ob a2 fun _ => T.ok_ob (c3 _ hl.1 (by omega)) fun _ => T.ok_ob ?_ fun _ => T.ok_ob (c4 _ (by rw [lt, maxLen_eq]; omega)) fun _ => T.ok_leaf rfl))
  refine for_up (e := .exit 0) (foM xs m wd).length (fun i => h_impl_TameOnes_L0 xs w m wd (tmN xs (foM xs m wd) m wd i) (foM xs m wd) (i : Nat)) (by first | rfl | simp) (fun i hi => ?_) ?_
  · refine q_impl_TameOnes_L0 _ _ _ _ _ _ _ (T.ok_ite (fun _ => ?_) (fun h => absurd (of_decide_eq_false h) (by omega)))
    have hj := tmN_len xs (foM xs m wd) m wd i
    have hb : 0 ≤ (foM xs m wd).getD i 0 ∧ (foM xs m wd).getD i 0 < xs.length := fo_le xs m wd xs.length i hi
    simp only [Int.toNat_natCast, Nat.zero_add, Nat.sub_zero]
    have es : tmN xs (foM xs m wd) m wd (i + 1) = (tmN xs (foM xs m wd) m wd i).set ((foM xs m wd).getD i 0).toNat (if fgt .f32 ((tmN xs (foM xs m wd) m wd i).getD ((foM xs m wd).getD i 0).toNat 0) m = true then fadd .f32 m wd else fsub .f32 m wd) := rfl
    refine T.ok_ob ⟨by omega, by omega⟩ fun _ => T.ok_ob ⟨by omega, by omega⟩ fun _ => T.ok_ite (fun hc => T.ok_ob ⟨by omega, by omega⟩ fun _ => T.ok_ob (by trivial) fun _ => T.ok_leaf ?_) (fun hc => T.ok_ob ⟨by omega, by omega⟩ fun _ => T.ok_ob (by trivial) fun _ => T.ok_leaf ?_)
    · rw [es, if_pos hc, wrap64_id (by omega) (by omega)]; rfl
    · rw [es, if_neg (by rw [hc]; decide), wrap64_id (by omega) (by omega)]; rfl
  · exact q_impl_TameOnes_L0 _ _ _ _ _ _ _ (T.ok_ite (fun h => absurd (of_decide_eq_true h) (by omega)) (fun _ => T.ok_leaf rfl))

end Go.Proofs.LV
