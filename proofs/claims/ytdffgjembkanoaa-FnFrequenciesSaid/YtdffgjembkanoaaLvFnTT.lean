/- The angle of a positive number. -/
import Derived.Test.YtdffgjembkanoaaLvCutX
import Derived.Test.YtdffgjembkanoaaLvRatX
import Derived.Test.YtdffgjembkanoaaLvFnDX
namespace Go.Proofs.LV
open Go Ieee
set_option linter.unusedVariables false
set_option linter.unusedSimpArgs false

open Go.IntKind (wrap)
-- FN impl_AngleTurns
def ps_impl_AngleTurns : List Nat := [0, 1, 4, 5, 6, 7, 8, 9, 10, 11, 19, 27, 39, 43, 44, 58, 74, 78, 82]
def lv_impl_AngleTurns_L0 : List Nat := [0, 1, 5, 6, 7, 43]
def lv_impl_AngleTurns_L2 : List Nat := [0, 1, 5, 6, 7, 8, 9, 10]
def b_impl_AngleTurns_L0 (gq0 gq1 gq2 gq3 : FuncId) : VCode :=
 (.seq
 (.region false [
 ⟨some 44, (.bin .lss), [.t 43, .k (.i .i64 3)], none⟩])
 (.seq
 (.cond (.t 44)
 .skip
 (.exit 0))
 (.seq
 (.block 1
 (.region false [
 ⟨some 45, .mv, [.t 7], none⟩,
 ⟨some 46, .mv, [.t 7], none⟩,
 ⟨some 47, .mv, [.t 7], none⟩,
 ⟨some 48, (.bin .mul), [.t 46, .t 47], none⟩,
 ⟨some 49, (.bin .add), [.k (.f .f64 4607182418800017408), .t 48], none⟩,
 ⟨some 50, (.call gq3), [.t 49], none⟩,
 ⟨some 51, (.bin .add), [.k (.f .f64 4607182418800017408), .t 50], none⟩,
 ⟨some 52, (.bin .quo), [.t 45, .t 51], none⟩,
 ⟨some 7, .mv, [.t 52], none⟩]))
 (.region false [
 ⟨some 53, (.bin .add), [.t 43, .k (.i .i64 1)], none⟩,
 ⟨some 43, .mv, [.t 53], none⟩]))))

def b_impl_AngleTurns_L2 (gq0 gq1 gq2 gq3 : FuncId) : VCode :=
 (.seq
 (.seq
 (.region false [
 ⟨some 57, .mv, [.t 10], none⟩,
 ⟨some 58, (.bin .geq), [.t 57, .k (.f .f64 4607182418800017408)], none⟩])
 (.cond (.t 58)
 .skip
 (.exit 2)))
 (.seq
 (.block 3
 (.region false [
 ⟨some 61, .mv, [.t 10], none⟩,
 ⟨some 62, (.bin .quo), [.k (.f .f64 4607182418800017408), .t 61], none⟩,
 ⟨some 63, .mv, [.t 8], none⟩,
 ⟨some 64, .mv, [.t 9], none⟩,
 ⟨some 65, (.bin .mul), [.t 63, .t 64], none⟩,
 ⟨some 66, (.bin .sub), [.t 62, .t 65], none⟩,
 ⟨some 9, .mv, [.t 66], none⟩]))
 (.region false [
 ⟨some 59, .mv, [.t 10], none⟩,
 ⟨some 60, (.bin .sub), [.t 59, .k (.f .f64 4611686018427387904)], none⟩,
 ⟨some 10, .mv, [.t 60], none⟩])))

def b_impl_AngleTurns (gq0 gq1 gq2 gq3 : FuncId) : VCode :=
 (.seq
 (.region false [
 ⟨some 4, .mv, [.k (.f .f32 0)], none⟩])
 (.seq
 (.seq
 (.region false [
 ⟨some 12, .mv, [.t 1], none⟩,
 ⟨some 13, (.call gq0), [.t 12], none⟩,
 ⟨some 14, .not, [.t 13], none⟩,
 ⟨some 15, .mv, [.t 14], none⟩,
 ⟨some 16, .mv, [.t 0], some (15, false)⟩,
 ⟨some 17, (.call gq0), [.t 16], some (15, false)⟩,
 ⟨some 18, .not, [.t 17], some (15, false)⟩,
 ⟨some 19, .pick, [.t 15, .k (.b true), .t 18], none⟩])
 (.cond (.t 19)
 (.seq
 (.region false [
 ⟨some 20, (.call gq1), [], none⟩,
 ⟨some 21, (.convF .f32), [.t 20], none⟩,
 ⟨some 4, .mv, [.t 21], none⟩])
 .ret)
 .skip))
 (.seq
 (.seq
 (.region false [
 ⟨some 22, .mv, [.t 1], none⟩,
 ⟨some 23, (.bin .eql), [.t 22, .k (.f .f32 0)], none⟩,
 ⟨some 24, .mv, [.t 23], none⟩,
 ⟨some 25, .mv, [.t 0], some (24, true)⟩,
 ⟨some 26, (.bin .eql), [.t 25, .k (.f .f32 0)], some (24, true)⟩,
 ⟨some 27, .pick, [.t 24, .t 26, .k (.b false)], none⟩])
 (.cond (.t 27)
 (.seq
 (.region false [
 ⟨some 4, .mv, [.k (.f .f32 0)], none⟩])
 .ret)
 .skip))
 (.seq
 (.region false [
 ⟨some 28, .mv, [.t 0], none⟩,
 ⟨some 29, (.convF .f64), [.t 28], none⟩,
 ⟨some 30, (.call gq2), [.t 29], none⟩,
 ⟨some 31, .mv, [.t 1], none⟩,
 ⟨some 32, (.convF .f64), [.t 31], none⟩,
 ⟨some 33, (.call gq2), [.t 32], none⟩,
 ⟨some 5, .mv, [.t 30], none⟩,
 ⟨some 6, .mv, [.t 33], none⟩])
 (.seq
 (.region false [
 ⟨some 34, .mv, [.t 5], none⟩,
 ⟨some 35, .mv, [.t 6], none⟩,
 ⟨some 36, (.bin .quo), [.t 34, .t 35], none⟩,
 ⟨some 7, .mv, [.t 36], none⟩])
 (.seq
 (.seq
 (.region false [
 ⟨some 37, .mv, [.t 5], none⟩,
 ⟨some 38, .mv, [.t 6], none⟩,
 ⟨some 39, (.bin .gtr), [.t 37, .t 38], none⟩])
 (.cond (.t 39)
 (.region false [
 ⟨some 40, .mv, [.t 6], none⟩,
 ⟨some 41, .mv, [.t 5], none⟩,
 ⟨some 42, (.bin .quo), [.t 40, .t 41], none⟩,
 ⟨some 7, .mv, [.t 42], none⟩])
 .skip))
 (.seq
 (.seq
 (.region false [
 ⟨some 43, .mv, [.k (.i .i64 0)], none⟩])
 (.block 0 (.loop (b_impl_AngleTurns_L0 gq0 gq1 gq2 gq3))))
 (.seq
 (.region false [
 ⟨some 54, .mv, [.t 7], none⟩,
 ⟨some 55, .mv, [.t 7], none⟩,
 ⟨some 56, (.bin .mul), [.t 54, .t 55], none⟩,
 ⟨some 8, .mv, [.t 56], none⟩])
 (.seq
 (.region false [
 ⟨some 9, .mv, [.k (.f .f64 0)], none⟩])
 (.seq
 (.seq
 (.region false [
 ⟨some 10, .mv, [.k (.f .f64 4624633867356078080)], none⟩])
 (.block 2 (.loop (b_impl_AngleTurns_L2 gq0 gq1 gq2 gq3))))
 (.seq
 (.region false [
 ⟨some 67, .mv, [.t 7], none⟩,
 ⟨some 68, .mv, [.t 9], none⟩,
 ⟨some 69, (.bin .mul), [.t 67, .t 68], none⟩,
 ⟨some 70, (.bin .mul), [.k (.f .f64 4620693217682128896), .t 69], none⟩,
 ⟨some 71, (.bin .quo), [.t 70, .k (.f .f64 4618760256179416344)], none⟩,
 ⟨some 11, .mv, [.t 71], none⟩])
 (.seq
 (.seq
 (.region false [
 ⟨some 72, .mv, [.t 5], none⟩,
 ⟨some 73, .mv, [.t 6], none⟩,
 ⟨some 74, (.bin .gtr), [.t 72, .t 73], none⟩])
 (.cond (.t 74)
 (.region false [
 ⟨some 75, .mv, [.t 11], none⟩,
 ⟨some 76, (.bin .sub), [.k (.f .f64 4598175219545276416), .t 75], none⟩,
 ⟨some 11, .mv, [.t 76], none⟩])
 .skip))
 (.seq
 (.seq
 (.region false [
 ⟨some 77, .mv, [.t 1], none⟩,
 ⟨some 78, (.bin .lss), [.t 77, .k (.f .f32 0)], none⟩])
 (.cond (.t 78)
 (.region false [
 ⟨some 79, .mv, [.t 11], none⟩,
 ⟨some 80, (.bin .sub), [.k (.f .f64 4602678819172646912), .t 79], none⟩,
 ⟨some 11, .mv, [.t 80], none⟩])
 .skip))
 (.seq
 (.seq
 (.region false [
 ⟨some 81, .mv, [.t 0], none⟩,
 ⟨some 82, (.bin .lss), [.t 81, .k (.f .f32 0)], none⟩])
 (.cond (.t 82)
 (.region false [
 ⟨some 83, .mv, [.t 11], none⟩,
 ⟨some 84, .neg, [.t 83], none⟩,
 ⟨some 11, .mv, [.t 84], none⟩])
 .skip))
 (.seq
 (.region false [
 ⟨some 85, .mv, [.t 11], none⟩,
 ⟨some 86, (.convF .f32), [.t 85], none⟩,
 ⟨some 4, .mv, [.t 86], none⟩])
 .ret)))))))))))))))

abbrev Is_impl_AngleTurns (P : Program) (g_f : FuncId) (gq0 gq1 gq2 gq3 : FuncId) : Prop := FnIs P g_f 87 [.t 4] (b_impl_AngleTurns gq0 gq1 gq2 gq3)

abbrev C_impl_AngleTurns (P : Program) (g_f : FuncId) : Prop := ∀ (y : Nat) (x : Nat) (b : Nat) (hy : y = 0 ∨ y = 2147483648) (hx : sf x ∧ 0 < sv x) (hb : absM (up x) = b), VCall P g_f [.f .f32 y, .f .f32 x] (.f .f32 0)
def oc_impl_AngleTurns (y : Nat) (x : Nat) (b : Nat) (d : Nat) (as : List AV) : T AV := match d with | 13 => oc1_impl_IsFinite as | 17 => oc1_impl_IsFinite as | 20 => oc1_math_NaN as | 30 => .leaf (.f .f64 0) | 33 => .leaf (.f .f64 b) | 50 => oc1_math_Sqrt as | _ => .fail
def h_impl_AngleTurns_L0 (y : Nat) (x : Nat) (b : Nat) (t : Nat) (v43 : Int) : Env := [AV.f .f32 y, AV.f .f32 x, .any, .any, .any, AV.f .f64 0, AV.f .f64 b, .f .f64 t] ++ anys 35 ++ [.i .i64 v43] ++ anys 43
def h_impl_AngleTurns_L2 (y : Nat) (x : Nat) (b : Nat) (p : Nat) (k : Nat) : Env := [AV.f .f32 y, AV.f .f32 x, .any, .any, .any, AV.f .f64 0, AV.f .f64 b, AV.f .f64 0, AV.f .f64 0, .f .f64 p, .f .f64 k] ++ anys 76

theorem q_impl_AngleTurns_L0 {VC : FuncId → List AV → AV → Prop} {gq0 gq1 gq2 gq3 : FuncId} (y : Nat) (x : Nat) (b : Nat) (t : Nat) (v43 : Int) {e_ : Ex} {σ_ : Env} (ht : T.ok (fun x_ => x_ = (e_, σ_)) (
 T.ite (decide (v43 < 3))
 (T.ob (VC gq3 [AV.f .f64 (fadd .f64 4607182418800017408 (fmul .f64 t t))] (AV.f .f64 (fsqrt (fadd .f64 4607182418800017408 (fmul .f64 t t)))))
 (T.ob True
 (T.leaf
 (Ex.normal,
 h_impl_AngleTurns_L0 y x b (fdiv .f64 t (fadd .f64 4607182418800017408 (fsqrt (fadd .f64 4607182418800017408 (fmul .f64 t t))))) (wrap .i64 (v43 + 1))))))
 (T.leaf (Ex.exit 0, h_impl_AngleTurns_L0 y x b t v43)))) :
 Exec VC ps_impl_AngleTurns (b_impl_AngleTurns_L0 gq0 gq1 gq2 gq3) (h_impl_AngleTurns_L0 y x b t v43) e_ σ_ := evL_of (lv := lv_impl_AngleTurns_L0) (rs := [4]) (O := ⟨oc_impl_AngleTurns y x b, fun _ _ => none⟩) (by kernel_rfl) ht

theorem q_impl_AngleTurns_L2 {VC : FuncId → List AV → AV → Prop} {gq0 gq1 gq2 gq3 : FuncId} (y : Nat) (x : Nat) (b : Nat) (p : Nat) (k : Nat) {e_ : Ex} {σ_ : Env} (ht : T.ok (fun x_ => x_ = (e_, σ_)) (
 T.ite (fge .f64 k 4607182418800017408)
 (T.ob True (T.leaf (Ex.normal, h_impl_AngleTurns_L2 y x b (fsub .f64 (fdiv .f64 4607182418800017408 k) (fmul .f64 0 p)) (fsub .f64 k 4611686018427387904))))
 (T.leaf (Ex.exit 2, h_impl_AngleTurns_L2 y x b p k)))) :
 Exec VC ps_impl_AngleTurns (b_impl_AngleTurns_L2 gq0 gq1 gq2 gq3) (h_impl_AngleTurns_L2 y x b p k) e_ σ_ := evL_of (lv := lv_impl_AngleTurns_L2) (rs := [4]) (O := ⟨oc_impl_AngleTurns y x b, fun _ _ => none⟩) (by kernel_rfl) ht

theorem q_impl_AngleTurns {P : Program} {g_f : FuncId} {gq0 gq1 gq2 gq3 : FuncId} (h_ : Is_impl_AngleTurns P g_f gq0 gq1 gq2 gq3) (y : Nat) (x : Nat) (b : Nat) (ht : T.ok (fun x_ => x_ = .f .f32 0) (
 T.ob ((VCall P) gq0 [AV.f .f32 x] (AV.b (finM x)))
 (T.ite (!finM x) (T.ob ((VCall P) gq1 [] (AV.f .f64 9221120237041090560)) (T.ob (true = true) (T.leaf (AV.f .f32 2143289344))))
 (T.ob ((VCall P) gq0 [AV.f .f32 y] (AV.b (finM y)))
 (T.ite (!finM y) (T.ob ((VCall P) gq1 [] (AV.f .f64 9221120237041090560)) (T.ob (true = true) (T.leaf (AV.f .f32 2143289344))))
 (T.ite (feq .f32 x 0)
 (T.ite (feq .f32 y 0) (T.leaf (AV.f .f32 0))
 (T.ob (fconvOk .f32 .f64 y = true)
 (T.ob ((VCall P) gq2 [AV.f .f64 (fconv .f32 .f64 y)] (AV.f .f64 0))
 (T.ob (fconvOk .f32 .f64 x = true)
 (T.ob ((VCall P) gq2 [AV.f .f64 (fconv .f32 .f64 x)] (AV.f .f64 b))
 (T.ob True
 (T.ite (fgt .f64 0 b)
 (T.ob True
 (T.ob
 (Exec (VCall P) ps_impl_AngleTurns (VCode.block 0 (VCode.loop (b_impl_AngleTurns_L0 gq0 gq1 gq2 gq3))) (h_impl_AngleTurns_L0 y x b (fdiv .f64 b 0) 0)
 Ex.normal (h_impl_AngleTurns_L0 y x b 0 3))
 (T.ob
 (Exec (VCall P) ps_impl_AngleTurns (VCode.block 2 (VCode.loop (b_impl_AngleTurns_L2 gq0 gq1 gq2 gq3))) (h_impl_AngleTurns_L2 y x b 0 4624633867356078080) Ex.normal
 (h_impl_AngleTurns_L2 y x b 4607182418800017408 13830554455654793216))
 (T.ob True
 (T.ite (fgt .f64 0 b)
 (T.ite (flt .f32 x 0) (T.ite (flt .f32 y 0) (T.ob (true = true) (T.leaf (AV.f .f32 3196059648))) (T.ob (true = true) (T.leaf (AV.f .f32 1048576000))))
 (T.ite (flt .f32 y 0) (T.ob (true = true) (T.leaf (AV.f .f32 3196059648))) (T.ob (true = true) (T.leaf (AV.f .f32 1048576000)))))
 (T.ite (flt .f32 x 0) (T.ite (flt .f32 y 0) (T.ob (true = true) (T.leaf (AV.f .f32 3204448256))) (T.ob (true = true) (T.leaf (AV.f .f32 1056964608))))
 (T.ite (flt .f32 y 0) (T.ob (true = true) (T.leaf (AV.f .f32 2147483648))) (T.ob (true = true) (T.leaf (AV.f .f32 0))))))))))
 (T.ob
 (Exec (VCall P) ps_impl_AngleTurns (VCode.block 0 (VCode.loop (b_impl_AngleTurns_L0 gq0 gq1 gq2 gq3))) (h_impl_AngleTurns_L0 y x b (fdiv .f64 0 b) 0)
 Ex.normal (h_impl_AngleTurns_L0 y x b 0 3))
 (T.ob
 (Exec (VCall P) ps_impl_AngleTurns (VCode.block 2 (VCode.loop (b_impl_AngleTurns_L2 gq0 gq1 gq2 gq3))) (h_impl_AngleTurns_L2 y x b 0 4624633867356078080) Ex.normal
 (h_impl_AngleTurns_L2 y x b 4607182418800017408 13830554455654793216))
 (T.ob True
 (T.ite (fgt .f64 0 b)
 (T.ite (flt .f32 x 0) (T.ite (flt .f32 y 0) (T.ob (true = true) (T.leaf (AV.f .f32 3196059648))) (T.ob (true = true) (T.leaf (AV.f .f32 1048576000))))
 (T.ite (flt .f32 y 0) (T.ob (true = true) (T.leaf (AV.f .f32 3196059648))) (T.ob (true = true) (T.leaf (AV.f .f32 1048576000)))))
 (T.ite (flt .f32 x 0) (T.ite (flt .f32 y 0) (T.ob (true = true) (T.leaf (AV.f .f32 3204448256))) (T.ob (true = true) (T.leaf (AV.f .f32 1056964608))))
 (T.ite (flt .f32 y 0) (T.ob (true = true) (T.leaf (AV.f .f32 2147483648))) (T.ob (true = true) (T.leaf (AV.f .f32 0))))))))))))))))
 (T.ob (fconvOk .f32 .f64 y = true)
 (T.ob ((VCall P) gq2 [AV.f .f64 (fconv .f32 .f64 y)] (AV.f .f64 0))
 (T.ob (fconvOk .f32 .f64 x = true)
 (T.ob ((VCall P) gq2 [AV.f .f64 (fconv .f32 .f64 x)] (AV.f .f64 b))
 (T.ob True
 (T.ite (fgt .f64 0 b)
 (T.ob True
 (T.ob
 (Exec (VCall P) ps_impl_AngleTurns (VCode.block 0 (VCode.loop (b_impl_AngleTurns_L0 gq0 gq1 gq2 gq3))) (h_impl_AngleTurns_L0 y x b (fdiv .f64 b 0) 0)
 Ex.normal (h_impl_AngleTurns_L0 y x b 0 3))
 (T.ob
 (Exec (VCall P) ps_impl_AngleTurns (VCode.block 2 (VCode.loop (b_impl_AngleTurns_L2 gq0 gq1 gq2 gq3))) (h_impl_AngleTurns_L2 y x b 0 4624633867356078080) Ex.normal
 (h_impl_AngleTurns_L2 y x b 4607182418800017408 13830554455654793216))
 (T.ob True
 (T.ite (fgt .f64 0 b)
 (T.ite (flt .f32 x 0) (T.ite (flt .f32 y 0) (T.ob (true = true) (T.leaf (AV.f .f32 3196059648))) (T.ob (true = true) (T.leaf (AV.f .f32 1048576000))))
 (T.ite (flt .f32 y 0) (T.ob (true = true) (T.leaf (AV.f .f32 3196059648))) (T.ob (true = true) (T.leaf (AV.f .f32 1048576000)))))
 (T.ite (flt .f32 x 0) (T.ite (flt .f32 y 0) (T.ob (true = true) (T.leaf (AV.f .f32 3204448256))) (T.ob (true = true) (T.leaf (AV.f .f32 1056964608))))
 (T.ite (flt .f32 y 0) (T.ob (true = true) (T.leaf (AV.f .f32 2147483648))) (T.ob (true = true) (T.leaf (AV.f .f32 0))))))))))
 (T.ob
 (Exec (VCall P) ps_impl_AngleTurns (VCode.block 0 (VCode.loop (b_impl_AngleTurns_L0 gq0 gq1 gq2 gq3))) (h_impl_AngleTurns_L0 y x b (fdiv .f64 0 b) 0) Ex.normal
 (h_impl_AngleTurns_L0 y x b 0 3))
 (T.ob
 (Exec (VCall P) ps_impl_AngleTurns (VCode.block 2 (VCode.loop (b_impl_AngleTurns_L2 gq0 gq1 gq2 gq3))) (h_impl_AngleTurns_L2 y x b 0 4624633867356078080) Ex.normal
 (h_impl_AngleTurns_L2 y x b 4607182418800017408 13830554455654793216))
 (T.ob True
 (T.ite (fgt .f64 0 b)
 (T.ite (flt .f32 x 0) (T.ite (flt .f32 y 0) (T.ob (true = true) (T.leaf (AV.f .f32 3196059648))) (T.ob (true = true) (T.leaf (AV.f .f32 1048576000))))
 (T.ite (flt .f32 y 0) (T.ob (true = true) (T.leaf (AV.f .f32 3196059648))) (T.ob (true = true) (T.leaf (AV.f .f32 1048576000)))))
 (T.ite (flt .f32 x 0) (T.ite (flt .f32 y 0) (T.ob (true = true) (T.leaf (AV.f .f32 3204448256))) (T.ob (true = true) (T.leaf (AV.f .f32 1056964608))))
 (T.ite (flt .f32 y 0) (T.ob (true = true) (T.leaf (AV.f .f32 2147483648))) (T.ob (true = true) (T.leaf (AV.f .f32 0))))))))))))))))))))) :
 VCall P g_f [.f .f32 y, .f .f32 x] (.f .f32 0) := h_.call_of ps_impl_AngleTurns ⟨oc_impl_AngleTurns y x b, fun id σ => match id with | 0 => some (lv_impl_AngleTurns_L0, .leaf (.normal, h_impl_AngleTurns_L0 y x b 0 3)) | 2 => some (lv_impl_AngleTurns_L2, .leaf (.normal, h_impl_AngleTurns_L2 y x b 4607182418800017408 13830554455654793216)) | _ => none⟩ (by kernel_rfl) ht

-- END impl_AngleTurns
-- FN spec_l01AngleWide
def ps_spec_l01AngleWide : List Nat := [0, 1, 4, 5, 6, 7, 8, 9, 10, 11, 12, 13, 23, 30, 38, 46, 61, 76, 80, 84]
def lv_spec_l01AngleWide_L0 : List Nat := [0, 1, 7, 8, 9]
def lv_spec_l01AngleWide_L2 : List Nat := [0, 1, 7, 8, 10, 11, 12]
def b_spec_l01AngleWide_L0 (gq0 gq1 gq2 : FuncId) : VCode :=
 (.seq
 (.seq
 (.region false [
 ⟨some 45, .mv, [.t 9], none⟩,
 ⟨some 46, (.bin .lss), [.t 45, .k (.i .i64 3)], none⟩])
 (.cond (.t 46)
 .skip
 (.exit 0)))
 (.seq
 (.block 1
 (.region false [
 ⟨some 49, .mv, [.t 8], none⟩,
 ⟨some 50, .mv, [.t 8], none⟩,
 ⟨some 51, .mv, [.t 8], none⟩,
 ⟨some 52, (.bin .mul), [.t 50, .t 51], none⟩,
 ⟨some 53, (.bin .add), [.k (.f .f64 4607182418800017408), .t 52], none⟩,
 ⟨some 54, (.call gq2), [.t 53], none⟩,
 ⟨some 55, (.bin .add), [.k (.f .f64 4607182418800017408), .t 54], none⟩,
 ⟨some 56, (.bin .quo), [.t 49, .t 55], none⟩,
 ⟨some 8, .mv, [.t 56], none⟩]))
 (.region false [
 ⟨some 47, .mv, [.t 9], none⟩,
 ⟨some 48, (.bin .add), [.t 47, .k (.i .i64 1)], none⟩,
 ⟨some 9, .mv, [.t 48], none⟩])))

def b_spec_l01AngleWide_L2 (gq0 gq1 gq2 : FuncId) : VCode :=
 (.seq
 (.seq
 (.region false [
 ⟨some 60, .mv, [.t 12], none⟩,
 ⟨some 61, (.bin .geq), [.t 60, .k (.i .i64 1)], none⟩])
 (.cond (.t 61)
 .skip
 (.exit 2)))
 (.seq
 (.block 3
 (.region false [
 ⟨some 64, .mv, [.t 12], none⟩,
 ⟨some 65, (.convF .f64), [.t 64], none⟩,
 ⟨some 66, (.bin .quo), [.k (.f .f64 4607182418800017408), .t 65], none⟩,
 ⟨some 67, .mv, [.t 10], none⟩,
 ⟨some 68, .mv, [.t 11], none⟩,
 ⟨some 69, (.bin .mul), [.t 67, .t 68], none⟩,
 ⟨some 70, (.bin .sub), [.t 66, .t 69], none⟩,
 ⟨some 11, .mv, [.t 70], none⟩]))
 (.region false [
 ⟨some 62, .mv, [.t 12], none⟩,
 ⟨some 63, (.bin .sub), [.t 62, .k (.i .i64 2)], none⟩,
 ⟨some 12, .mv, [.t 63], none⟩])))

def b_spec_l01AngleWide (gq0 gq1 gq2 : FuncId) : VCode :=
 (.seq
 (.region false [
 ⟨some 4, .mv, [.k (.f .f64 0)], none⟩])
 (.seq
 (.seq
 (.region false [
 ⟨some 14, .mv, [.t 0], none⟩,
 ⟨some 15, .mv, [.t 0], none⟩,
 ⟨some 16, (.bin .sub), [.t 14, .t 15], none⟩,
 ⟨some 17, (.bin .neq), [.t 16, .k (.f .f64 0)], none⟩,
 ⟨some 18, .mv, [.t 17], none⟩,
 ⟨some 19, .mv, [.t 1], some (18, false)⟩,
 ⟨some 20, .mv, [.t 1], some (18, false)⟩,
 ⟨some 21, (.bin .sub), [.t 19, .t 20], some (18, false)⟩,
 ⟨some 22, (.bin .neq), [.t 21, .k (.f .f64 0)], some (18, false)⟩,
 ⟨some 23, .pick, [.t 18, .k (.b true), .t 22], none⟩])
 (.cond (.t 23)
 (.seq
 (.region false [
 ⟨some 24, (.call gq0), [], none⟩,
 ⟨some 4, .mv, [.t 24], none⟩])
 .ret)
 .skip))
 (.seq
 (.seq
 (.region false [
 ⟨some 25, .mv, [.t 1], none⟩,
 ⟨some 26, (.bin .eql), [.t 25, .k (.f .f64 0)], none⟩,
 ⟨some 27, .mv, [.t 26], none⟩,
 ⟨some 28, .mv, [.t 0], some (27, true)⟩,
 ⟨some 29, (.bin .eql), [.t 28, .k (.f .f64 0)], some (27, true)⟩,
 ⟨some 30, .pick, [.t 27, .t 29, .k (.b false)], none⟩])
 (.cond (.t 30)
 (.seq
 (.region false [
 ⟨some 4, .mv, [.k (.f .f64 0)], none⟩])
 .ret)
 .skip))
 (.seq
 (.region false [
 ⟨some 31, .mv, [.t 0], none⟩,
 ⟨some 32, (.call gq1), [.t 31], none⟩,
 ⟨some 5, .mv, [.t 32], none⟩])
 (.seq
 (.region false [
 ⟨some 33, .mv, [.t 1], none⟩,
 ⟨some 34, (.call gq1), [.t 33], none⟩,
 ⟨some 6, .mv, [.t 34], none⟩])
 (.seq
 (.region false [
 ⟨some 35, .mv, [.t 5], none⟩,
 ⟨some 36, .mv, [.t 6], none⟩,
 ⟨some 37, (.bin .gtr), [.t 35, .t 36], none⟩,
 ⟨some 7, .mv, [.t 37], none⟩])
 (.seq
 (.region false [
 ⟨some 8, .mv, [.k (.f .f64 0)], none⟩])
 (.seq
 (.seq
 (.region false [
 ⟨some 38, .mv, [.t 7], none⟩])
 (.cond (.t 38)
 (.region false [
 ⟨some 39, .mv, [.t 6], none⟩,
 ⟨some 40, .mv, [.t 5], none⟩,
 ⟨some 41, (.bin .quo), [.t 39, .t 40], none⟩,
 ⟨some 8, .mv, [.t 41], none⟩])
 (.region false [
 ⟨some 42, .mv, [.t 5], none⟩,
 ⟨some 43, .mv, [.t 6], none⟩,
 ⟨some 44, (.bin .quo), [.t 42, .t 43], none⟩,
 ⟨some 8, .mv, [.t 44], none⟩])))
 (.seq
 (.seq
 (.region false [
 ⟨some 9, .mv, [.k (.i .i64 0)], none⟩])
 (.block 0 (.loop (b_spec_l01AngleWide_L0 gq0 gq1 gq2))))
 (.seq
 (.region false [
 ⟨some 57, .mv, [.t 8], none⟩,
 ⟨some 58, .mv, [.t 8], none⟩,
 ⟨some 59, (.bin .mul), [.t 57, .t 58], none⟩,
 ⟨some 10, .mv, [.t 59], none⟩])
 (.seq
 (.region false [
 ⟨some 11, .mv, [.k (.f .f64 0)], none⟩])
 (.seq
 (.seq
 (.region false [
 ⟨some 12, .mv, [.k (.i .i64 15)], none⟩])
 (.block 2 (.loop (b_spec_l01AngleWide_L2 gq0 gq1 gq2))))
 (.seq
 (.region false [
 ⟨some 71, .mv, [.t 8], none⟩,
 ⟨some 72, .mv, [.t 11], none⟩,
 ⟨some 73, (.bin .mul), [.t 71, .t 72], none⟩,
 ⟨some 74, (.bin .mul), [.k (.f .f64 4620693217682128896), .t 73], none⟩,
 ⟨some 75, (.bin .quo), [.t 74, .k (.f .f64 4618760256179416344)], none⟩,
 ⟨some 13, .mv, [.t 75], none⟩])
 (.seq
 (.seq
 (.region false [
 ⟨some 76, .mv, [.t 7], none⟩])
 (.cond (.t 76)
 (.region false [
 ⟨some 77, .mv, [.t 13], none⟩,
 ⟨some 78, (.bin .sub), [.k (.f .f64 4598175219545276416), .t 77], none⟩,
 ⟨some 13, .mv, [.t 78], none⟩])
 .skip))
 (.seq
 (.seq
 (.region false [
 ⟨some 79, .mv, [.t 1], none⟩,
 ⟨some 80, (.bin .lss), [.t 79, .k (.f .f64 0)], none⟩])
 (.cond (.t 80)
 (.region false [
 ⟨some 81, .mv, [.t 13], none⟩,
 ⟨some 82, (.bin .sub), [.k (.f .f64 4602678819172646912), .t 81], none⟩,
 ⟨some 13, .mv, [.t 82], none⟩])
 .skip))
 (.seq
 (.seq
 (.region false [
 ⟨some 83, .mv, [.t 0], none⟩,
 ⟨some 84, (.bin .lss), [.t 83, .k (.f .f64 0)], none⟩])
 (.cond (.t 84)
 (.seq
 (.region false [
 ⟨some 85, .mv, [.t 13], none⟩,
 ⟨some 86, .neg, [.t 85], none⟩,
 ⟨some 4, .mv, [.t 86], none⟩])
 .ret)
 .skip))
 (.seq
 (.region false [
 ⟨some 87, .mv, [.t 13], none⟩,
 ⟨some 4, .mv, [.t 87], none⟩])
 .ret)))))))))))))))))

abbrev Is_spec_l01AngleWide (P : Program) (g_f : FuncId) (gq0 gq1 gq2 : FuncId) : Prop := FnIs P g_f 88 [.t 4] (b_spec_l01AngleWide gq0 gq1 gq2)

abbrev C_spec_l01AngleWide (P : Program) (g_f : FuncId) : Prop := ∀ (y : Nat) (x : Nat) (b : Nat) (hy : y = 0 ∨ y = 9223372036854775808) (hx : df x ∧ 0 < dv x) (hb : absM x = b), VCall P g_f [.f .f64 y, .f .f64 x] (.f .f64 0)
def oc_spec_l01AngleWide (y : Nat) (x : Nat) (b : Nat) (d : Nat) (as : List AV) : T AV := match d with | 24 => oc1_math_NaN as | 32 => .leaf (.f .f64 0) | 34 => .leaf (.f .f64 b) | 54 => oc1_math_Sqrt as | _ => .fail
def h_spec_l01AngleWide_L0 (y : Nat) (x : Nat) (b : Nat) (t : Nat) (k : Int) : Env := [AV.f .f64 y, AV.f .f64 x] ++ anys 5 ++ [AV.b (fgt .f64 0 b), .f .f64 t, .i .i64 k] ++ anys 78
def h_spec_l01AngleWide_L2 (y : Nat) (x : Nat) (b : Nat) (p : Nat) (k : Int) : Env := [AV.f .f64 y, AV.f .f64 x] ++ anys 5 ++ [AV.b (fgt .f64 0 b), AV.f .f64 0, .any, AV.f .f64 0, .f .f64 p, .i .i64 k] ++ anys 75

theorem q_spec_l01AngleWide_L0 {VC : FuncId → List AV → AV → Prop} {gq0 gq1 gq2 : FuncId} (y : Nat) (x : Nat) (b : Nat) (t : Nat) (k : Int) {e_ : Ex} {σ_ : Env} (ht : T.ok (fun x_ => x_ = (e_, σ_)) (
 T.ite (decide (k < 3))
 (T.ob (VC gq2 [AV.f .f64 (fadd .f64 4607182418800017408 (fmul .f64 t t))] (AV.f .f64 (fsqrt (fadd .f64 4607182418800017408 (fmul .f64 t t)))))
 (T.ob True
 (T.leaf
 (Ex.normal,
 h_spec_l01AngleWide_L0 y x b (fdiv .f64 t (fadd .f64 4607182418800017408 (fsqrt (fadd .f64 4607182418800017408 (fmul .f64 t t))))) (wrap .i64 (k + 1))))))
 (T.leaf (Ex.exit 0, h_spec_l01AngleWide_L0 y x b t k)))) :
 Exec VC ps_spec_l01AngleWide (b_spec_l01AngleWide_L0 gq0 gq1 gq2) (h_spec_l01AngleWide_L0 y x b t k) e_ σ_ := evL_of (lv := lv_spec_l01AngleWide_L0) (rs := [4]) (O := ⟨oc_spec_l01AngleWide y x b, fun _ _ => none⟩) (by kernel_rfl) ht

theorem q_spec_l01AngleWide_L2 {VC : FuncId → List AV → AV → Prop} {gq0 gq1 gq2 : FuncId} (y : Nat) (x : Nat) (b : Nat) (p : Nat) (k : Int) {e_ : Ex} {σ_ : Env} (ht : T.ok (fun x_ => x_ = (e_, σ_)) (
 T.ite (decide (k ≥ 1))
 (T.ob True
 (T.ob True (T.leaf (Ex.normal, h_spec_l01AngleWide_L2 y x b (fsub .f64 (fdiv .f64 4607182418800017408 (fofi .f64 k)) (fmul .f64 0 p)) (wrap .i64 (k - 2))))))
 (T.leaf (Ex.exit 2, h_spec_l01AngleWide_L2 y x b p k)))) :
 Exec VC ps_spec_l01AngleWide (b_spec_l01AngleWide_L2 gq0 gq1 gq2) (h_spec_l01AngleWide_L2 y x b p k) e_ σ_ := evL_of (lv := lv_spec_l01AngleWide_L2) (rs := [4]) (O := ⟨oc_spec_l01AngleWide y x b, fun _ _ => none⟩) (by kernel_rfl) ht

theorem q_spec_l01AngleWide {P : Program} {g_f : FuncId} {gq0 gq1 gq2 : FuncId} (h_ : Is_spec_l01AngleWide P g_f gq0 gq1 gq2) (y : Nat) (x : Nat) (b : Nat) (ht : T.ok (fun x_ => x_ = .f .f64 0) (
 T.ite (fne .f64 (fsub .f64 y y) 0) (T.ob ((VCall P) gq0 [] (AV.f .f64 9221120237041090560)) (T.leaf (AV.f .f64 9221120237041090560)))
 (T.ite (fne .f64 (fsub .f64 x x) 0) (T.ob ((VCall P) gq0 [] (AV.f .f64 9221120237041090560)) (T.leaf (AV.f .f64 9221120237041090560)))
 (T.ite (feq .f64 x 0)
 (T.ite (feq .f64 y 0) (T.leaf (AV.f .f64 0))
 (T.ob ((VCall P) gq1 [AV.f .f64 y] (AV.f .f64 0))
 (T.ob ((VCall P) gq1 [AV.f .f64 x] (AV.f .f64 b))
 (T.ite (fgt .f64 0 b)
 (T.ob True
 (T.ob
 (Exec (VCall P) ps_spec_l01AngleWide (VCode.block 0 (VCode.loop (b_spec_l01AngleWide_L0 gq0 gq1 gq2))) (h_spec_l01AngleWide_L0 y x b (fdiv .f64 b 0) 0) Ex.normal
 (h_spec_l01AngleWide_L0 y x b 0 3))
 (T.ob
 (Exec (VCall P) ps_spec_l01AngleWide (VCode.block 2 (VCode.loop (b_spec_l01AngleWide_L2 gq0 gq1 gq2))) (h_spec_l01AngleWide_L2 y x b 0 15) Ex.normal
 (h_spec_l01AngleWide_L2 y x b 4607182418800017408 (-1)))
 (T.ob True
 (T.ite (fgt .f64 0 b)
 (T.ite (flt .f64 x 0) (T.ite (flt .f64 y 0) (T.leaf (AV.f .f64 13821547256400052224)) (T.leaf (AV.f .f64 4598175219545276416)))
 (T.ite (flt .f64 y 0) (T.leaf (AV.f .f64 13821547256400052224)) (T.leaf (AV.f .f64 4598175219545276416))))
 (T.ite (flt .f64 x 0) (T.ite (flt .f64 y 0) (T.leaf (AV.f .f64 13826050856027422720)) (T.leaf (AV.f .f64 4602678819172646912)))
 (T.ite (flt .f64 y 0) (T.leaf (AV.f .f64 9223372036854775808)) (T.leaf (AV.f .f64 0)))))))))
 (T.ob True
 (T.ob
 (Exec (VCall P) ps_spec_l01AngleWide (VCode.block 0 (VCode.loop (b_spec_l01AngleWide_L0 gq0 gq1 gq2))) (h_spec_l01AngleWide_L0 y x b (fdiv .f64 0 b) 0) Ex.normal
 (h_spec_l01AngleWide_L0 y x b 0 3))
 (T.ob
 (Exec (VCall P) ps_spec_l01AngleWide (VCode.block 2 (VCode.loop (b_spec_l01AngleWide_L2 gq0 gq1 gq2))) (h_spec_l01AngleWide_L2 y x b 0 15) Ex.normal
 (h_spec_l01AngleWide_L2 y x b 4607182418800017408 (-1)))
 (T.ob True
 (T.ite (fgt .f64 0 b)
 (T.ite (flt .f64 x 0) (T.ite (flt .f64 y 0) (T.leaf (AV.f .f64 13821547256400052224)) (T.leaf (AV.f .f64 4598175219545276416)))
 (T.ite (flt .f64 y 0) (T.leaf (AV.f .f64 13821547256400052224)) (T.leaf (AV.f .f64 4598175219545276416))))
 (T.ite (flt .f64 x 0) (T.ite (flt .f64 y 0) (T.leaf (AV.f .f64 13826050856027422720)) (T.leaf (AV.f .f64 4602678819172646912)))
 (T.ite (flt .f64 y 0) (T.leaf (AV.f .f64 9223372036854775808)) (T.leaf (AV.f .f64 0)))))))))))))
 (T.ob ((VCall P) gq1 [AV.f .f64 y] (AV.f .f64 0))
 (T.ob ((VCall P) gq1 [AV.f .f64 x] (AV.f .f64 b))
 (T.ite (fgt .f64 0 b)
 (T.ob True
 (T.ob
 (Exec (VCall P) ps_spec_l01AngleWide (VCode.block 0 (VCode.loop (b_spec_l01AngleWide_L0 gq0 gq1 gq2))) (h_spec_l01AngleWide_L0 y x b (fdiv .f64 b 0) 0) Ex.normal
 (h_spec_l01AngleWide_L0 y x b 0 3))
 (T.ob
 (Exec (VCall P) ps_spec_l01AngleWide (VCode.block 2 (VCode.loop (b_spec_l01AngleWide_L2 gq0 gq1 gq2))) (h_spec_l01AngleWide_L2 y x b 0 15) Ex.normal
 (h_spec_l01AngleWide_L2 y x b 4607182418800017408 (-1)))
 (T.ob True
 (T.ite (fgt .f64 0 b)
 (T.ite (flt .f64 x 0) (T.ite (flt .f64 y 0) (T.leaf (AV.f .f64 13821547256400052224)) (T.leaf (AV.f .f64 4598175219545276416)))
 (T.ite (flt .f64 y 0) (T.leaf (AV.f .f64 13821547256400052224)) (T.leaf (AV.f .f64 4598175219545276416))))
 (T.ite (flt .f64 x 0) (T.ite (flt .f64 y 0) (T.leaf (AV.f .f64 13826050856027422720)) (T.leaf (AV.f .f64 4602678819172646912)))
 (T.ite (flt .f64 y 0) (T.leaf (AV.f .f64 9223372036854775808)) (T.leaf (AV.f .f64 0)))))))))
 (T.ob True
 (T.ob
 (Exec (VCall P) ps_spec_l01AngleWide (VCode.block 0 (VCode.loop (b_spec_l01AngleWide_L0 gq0 gq1 gq2))) (h_spec_l01AngleWide_L0 y x b (fdiv .f64 0 b) 0) Ex.normal
 (h_spec_l01AngleWide_L0 y x b 0 3))
 (T.ob
 (Exec (VCall P) ps_spec_l01AngleWide (VCode.block 2 (VCode.loop (b_spec_l01AngleWide_L2 gq0 gq1 gq2))) (h_spec_l01AngleWide_L2 y x b 0 15) Ex.normal
 (h_spec_l01AngleWide_L2 y x b 4607182418800017408 (-1)))
 (T.ob True
 (T.ite (fgt .f64 0 b)
 (T.ite (flt .f64 x 0) (T.ite (flt .f64 y 0) (T.leaf (AV.f .f64 13821547256400052224)) (T.leaf (AV.f .f64 4598175219545276416)))
 (T.ite (flt .f64 y 0) (T.leaf (AV.f .f64 13821547256400052224)) (T.leaf (AV.f .f64 4598175219545276416))))
 (T.ite (flt .f64 x 0) (T.ite (flt .f64 y 0) (T.leaf (AV.f .f64 13826050856027422720)) (T.leaf (AV.f .f64 4602678819172646912)))
 (T.ite (flt .f64 y 0) (T.leaf (AV.f .f64 9223372036854775808)) (T.leaf (AV.f .f64 0)))))))))))))))) :
 VCall P g_f [.f .f64 y, .f .f64 x] (.f .f64 0) := h_.call_of ps_spec_l01AngleWide ⟨oc_spec_l01AngleWide y x b, fun id σ => match id with | 0 => some (lv_spec_l01AngleWide_L0, .leaf (.normal, h_spec_l01AngleWide_L0 y x b 0 3)) | 2 => some (lv_spec_l01AngleWide_L2, .leaf (.normal, h_spec_l01AngleWide_L2 y x b 4607182418800017408 (-1))) | _ => none⟩ (by kernel_rfl) ht

-- END spec_l01AngleWide

theorem canon_fin {x : Nat} (h : df x) : canon .f64 x = x := by
  unfold canon
  have := fnt_nan (k := .f64) h
  unfold nanB at this
  rw [if_neg (by rw [this]; decide)]
theorem pos_sign {x : Nat} (h : 0 < dv x) : sign double x = false ∧ rung double x ≠ 0 := by
  have e : dv x = sgR (sign double x) ((units double.binade (rung double x) : Nat) * (2 : Rat) ^ double.leastPlace) := rfl
  rw [e] at h
  have hp := zp_two' (units double.binade (rung double x)) double.leastPlace
  refine ⟨?_, fun h0 => ?_⟩
  · cases hs : sign double x with
    | false => rfl
    | true =>
      rw [hs] at h
      have : sgR true ((units double.binade (rung double x) : Nat) * (2 : Rat) ^ double.leastPlace) = -((units double.binade (rung double x) : Nat) * (2 : Rat) ^ double.leastPlace) := rfl
      rw [this] at h
      grind
  · rw [h0, units_zero (fB double)] at h
    have : ((0 : Nat) : Rat) * (2 : Rat) ^ double.leastPlace = 0 := by simp
    rw [this, sgR_zero] at h
    exact absurd h (by decide)
/-- the absolute value of a positive number -/
theorem absM_pos {x : Nat} (hx : df x) (h : 0 < dv x) : df (absM x) ∧ dv (absM x) = dv x := by
  obtain ⟨s1, _⟩ := pos_sign h
  have hS : double.signWeight = 2 ^ 63 := by decide
  have hr : rung double (x % 2 ^ 63) = rung double x := by unfold rung; rw [hS, Nat.mod_mod]
  have hs : sign double (x % 2 ^ 63) = false := by
    unfold sign
    rw [hS, Nat.div_eq_of_lt (Nat.mod_lt _ (by decide))]; rfl
  have hf : df (x % 2 ^ 63) := by
    have hx : rung double x < double.infRung := hx
    show rung double (x % 2 ^ 63) < double.infRung
    rw [hr]; exact hx
  have e : absM x = x % 2 ^ 63 := canon_fin hf
  rw [e]
  refine ⟨hf, ?_⟩
  show sgR (sign double (x % 2 ^ 63)) ((units double.binade (rung double (x % 2 ^ 63)) : Nat) * (2 : Rat) ^ double.leastPlace) = sgR (sign double x) ((units double.binade (rung double x) : Nat) * (2 : Rat) ^ double.leastPlace)
  rw [hr, hs, s1]
theorem zero_div {b : Nat} (hb : df b) (h : 0 < dv b) : fdiv .f64 0 b = 0 := by
  obtain ⟨t, n, w, e2, v2, _⟩ := read_rv hb
  have v2 : dv b = sgR t ((n : Rat) * 2 ^ w) := v2
  have hp := zp_two' n w
  have hn0 : n ≠ 0 := by
    rintro rfl
    rw [v2] at h
    have : ((0 : Nat) : Rat) * 2 ^ w = 0 := by simp
    rw [this, sgR_zero] at h
    exact absurd h (by decide)
  have ht : t = false := by
    cases t with
    | false => rfl
    | true =>
      rw [v2] at h
      have : sgR true ((n : Rat) * 2 ^ w) = -((n : Rat) * 2 ^ w) := rfl
      rw [this] at h
      grind
  subst ht
  have e1 : double.read 0 = .number false 0 (-1074) := by decide +kernel
  have e2 : double.read b = .number false n w := e2
  unfold fdiv Format.div
  show ((Datum.quotient (double.fractionBits + 2) (double.read 0) (double.read b)).map double.write).getD _ = 0
  rw [e1, e2]
  simp only [Datum.quotient, if_neg hn0, Option.map_some, Option.getD_some, Format.write, Nat.zero_shiftLeft, Nat.zero_div, Nat.zero_mod, Nat.mul_zero, bne_self_eq_false, Bool.toNat_false, Nat.add_zero]
  unfold Format.nearest
  rw [if_pos rfl]
  decide
def atK : Nat → Nat
  | 0 => 4624633867356078080
  | n + 1 => fsub .f64 (atK n) 4611686018427387904
def atP : Nat → Nat
  | 0 => 0
  | n + 1 => fsub .f64 (fdiv .f64 4607182418800017408 (atK n)) (fmul .f64 0 (atP n))
theorem at_end : atP 8 = 4607182418800017408 ∧ atK 8 = 13830554455654793216 ∧ (∀ i, i < 8 → fge .f64 (atK i) 4607182418800017408 = true) ∧ fge .f64 (atK 8) 4607182418800017408 = false ∧
    fdiv .f64 0 (fadd .f64 4607182418800017408 (fsqrt (fadd .f64 4607182418800017408 (fmul .f64 0 0)))) = 0 := by decide +kernel
theorem k_impl_AngleTurns {P : Program} {f g1 g2 g3 g4 : FuncId} (h : Is_impl_AngleTurns P f g1 g2 g3 g4) (c1 : C_impl_IsFinite P g1) (c2 : C_math_NaN P g2) (c3 : C_math_Abs P g3) (c4 : C_math_Sqrt P g4) : C_impl_AngleTurns P f := by
  intro y x b hy hx hb
  obtain ⟨u1, u2⟩ := conv_up hx.1
  have u3 : 0 < dv (up x) := by show 0 < dv (fconv .f32 .f64 x); rw [u2]; exact hx.2
  obtain ⟨b1, b2⟩ := absM_pos u1 u3
  rw [show absM (fconv .f32 .f64 x) = b from hb] at b1 b2
  have b0 : 0 < dv b := by rw [b2]; exact u3
  obtain ⟨p1, p2, p3, p4, p5⟩ := at_end
  have z0 : sv 0 = 0 := zero_rv _
  have d0 : dv 0 = 0 := zero_rv _
  have hf : finM x = true := (finM_sf _).2 hx.1
  have hq : feq .f32 x 0 = false := by
    rw [feq_rv (k := .f32) hx.1 zero_sf]
    exact decide_eq_false (by show ¬ sv x = sv 0; rw [z0]; exact fun e => by rw [e] at hx; exact absurd hx.2 (by decide))
  have hl : flt .f32 x 0 = false := by
    rw [flt_rv (k := .f32) hx.1 zero_sf]
    exact decide_eq_false (by show ¬ sv x < sv 0; rw [z0]; have := hx.2; grind)
  have hg : fgt .f64 0 b = false := by
    rw [fgt_rv (k := .f64) zero_df b1]
    exact decide_eq_false (by show ¬ dv b < dv 0; rw [d0]; grind)
  have yf : finM y = true ∧ flt .f32 y 0 = false ∧ absM (up y) = 0 ∧ up y ≠ fnan .f64 ∧ up y < 2 ^ 64 := by
    rcases hy with e | e <;> subst e <;> decide +kernel
  have xn : up x ≠ fnan .f64 ∧ up x < 2 ^ 64 := by
    have hn := fnt_nan (k := .f32) hx.1
    obtain ⟨r, r1, r2⟩ := fconv_word hn
    refine ⟨(sign_conv hn).2, ?_⟩
    have hi : double.infRung = 9218868437227405312 := by decide
    have hs : double.signWeight = 9223372036854775808 := by decide
    rw [show up x = _ from r2]
    unfold Format.word
    rw [hs]
    split <;> omega
  have a1 := c3 (up y) yf.2.2.2.1 yf.2.2.2.2
  rw [yf.2.2.1] at a1
  have a2 := c3 (up x) xn.1 xn.2
  rw [hb] at a2
  have a3 := c1 x
  rw [hf] at a3
  have a4 := c1 y
  rw [yf.1] at a4
  refine q_impl_AngleTurns h y x b ?_
  rw [hf, yf.1, hq, hg, hl, yf.2.1, zero_div b1 b0]
  refine T.ok_ob a3 fun _ => T.ok_ifalse (T.ok_ob a4 fun _ => T.ok_ifalse (T.ok_ifalse (T.ok_ob (fconvOk_32_64 _) fun _ => T.ok_ob a1 fun _ => T.ok_ob (fconvOk_32_64 _) fun _ => T.ok_ob a2 fun _ => T.ok_ob True.intro fun _ => T.ok_ifalse (T.ok_ob ?_ fun _ => T.ok_ob ?_ fun _ => T.ok_ob True.intro fun _ => T.ok_ifalse (T.ok_ifalse (T.ok_ifalse (T.ok_ob rfl fun _ => T.ok_leaf rfl)))))))
  · refine for_up (e := .exit 0) 3 (fun i => h_impl_AngleTurns_L0 y x b 0 (i : Nat)) (by first | rfl | simp) (fun i hi => ?_) ?_
    · refine q_impl_AngleTurns_L0 _ _ _ _ _ ?_
      rw [p5, wrap64_id (by omega) (by omega)]
      exact T.ok_ite (fun _ => T.ok_ob (c4 _) fun _ => T.ok_ob True.intro fun _ => T.ok_leaf rfl) (fun h => absurd (of_decide_eq_false h) (by omega))
    · exact q_impl_AngleTurns_L0 _ _ _ _ _ (T.ok_ite (fun h => absurd (of_decide_eq_true h) (by omega)) (fun _ => T.ok_leaf rfl))
  · refine for_up (e := .exit 2) 8 (fun i => h_impl_AngleTurns_L2 y x b (atP i) (atK i)) rfl (fun i hi => ?_) ?_
    · refine q_impl_AngleTurns_L2 _ _ _ _ _ ?_
      rw [p3 i hi]
      exact T.ok_itrue (T.ok_ob True.intro fun _ => T.ok_leaf rfl)
    · refine q_impl_AngleTurns_L2 _ _ _ _ _ ?_
      rw [p4, p1, p2]
      exact T.ok_ifalse (T.ok_leaf rfl)
def awP : Nat → Nat
  | 0 => 0
  | n + 1 => fsub .f64 (fdiv .f64 4607182418800017408 (fofi .f64 (15 - 2 * (n : Int)))) (fmul .f64 0 (awP n))
theorem aw_end : awP 8 = 4607182418800017408 := by decide +kernel
theorem k_spec_l01AngleWide {P : Program} {f g1 g2 g3 : FuncId} (h : Is_spec_l01AngleWide P f g1 g2 g3) (c2 : C_math_NaN P g1) (c3 : C_math_Abs P g2) (c4 : C_math_Sqrt P g3) : C_spec_l01AngleWide P f := by
  intro y x b hy hx hb
  refine VCall.rng fun hr => ?_
  obtain ⟨_, hr, _⟩ := hr
  obtain ⟨b1, b2⟩ := absM_pos hx.1 hx.2
  rw [hb] at b1 b2
  have b0 : 0 < dv b := by rw [b2]; exact hx.2
  obtain ⟨p1, p2, p3, p4, p5⟩ := at_end
  have d0 : dv 0 = 0 := zero_rv _
  have hq : feq .f64 x 0 = false := by
    rw [feq_rv (k := .f64) hx.1 zero_df]
    exact decide_eq_false (by show ¬ dv x = dv 0; rw [d0]; exact fun e => by rw [e] at hx; exact absurd hx.2 (by decide))
  have hl : flt .f64 x 0 = false := by
    rw [flt_rv (k := .f64) hx.1 zero_df]
    exact decide_eq_false (by show ¬ dv x < dv 0; rw [d0]; have := hx.2; grind)
  have hg : fgt .f64 0 b = false := by
    rw [fgt_rv (k := .f64) zero_df b1]
    exact decide_eq_false (by show ¬ dv b < dv 0; rw [d0]; grind)
  have yf : fne .f64 (fsub .f64 y y) 0 = false ∧ flt .f64 y 0 = false ∧ absM y = 0 ∧ y ≠ fnan .f64 ∧ y < 2 ^ 64 := by
    rcases hy with e | e <;> subst e <;> decide +kernel
  have xs : fne .f64 (fsub .f64 x x) 0 = false := by
    have hd := fsub_rd .f64 hx.1 hx.1 (by rw [Rat.sub_self]; exact Rat.le_of_lt (zp_pos _))
    rw [Rat.sub_self] at hd
    rw [fne_eq, feq_rv (k := .f64) hd.fin zero_df]
    have e := hd.exact 0 0 (by rw [show ((0 : Nat) : Rat) = 0 from rfl, Rat.zero_mul]; decide +kernel) (by decide) (by decide)
    rw [decide_eq_true]; rfl
    rw [e]; exact (zero_rv _).symm
  have xn : x ≠ fnan .f64 ∧ x < 2 ^ 64 := by
    refine ⟨fun e => ?_, hr.lt⟩
    have := fnt_nan (k := .f64) hx.1
    rw [e] at this
    exact absurd this (by decide)
  have a1 := c3 y yf.2.2.2.1 yf.2.2.2.2
  rw [yf.2.2.1] at a1
  have a2 := c3 x xn.1 xn.2
  rw [hb] at a2
  refine q_spec_l01AngleWide h y x b ?_
  rw [yf.1, xs, hq, hg, hl, yf.2.1, zero_div b1 b0]
  refine T.ok_ifalse (T.ok_ifalse (T.ok_ifalse (T.ok_ob a1 fun _ => T.ok_ob a2 fun _ => T.ok_ifalse (T.ok_ob True.intro fun _ => T.ok_ob ?_ fun _ => T.ok_ob ?_ fun _ => T.ok_ob True.intro fun _ => T.ok_ifalse (T.ok_ifalse (T.ok_ifalse (T.ok_leaf rfl)))))))
  · refine for_up (e := .exit 0) 3 (fun i => h_spec_l01AngleWide_L0 y x b 0 (i : Nat)) (by first | rfl | simp) (fun i hi => ?_) ?_
    · refine q_spec_l01AngleWide_L0 _ _ _ _ _ ?_
      rw [p5, wrap64_id (by omega) (by omega)]
      exact T.ok_ite (fun _ => T.ok_ob (c4 _) fun _ => T.ok_ob True.intro fun _ => T.ok_leaf rfl) (fun h => absurd (of_decide_eq_false h) (by omega))
    · exact q_spec_l01AngleWide_L0 _ _ _ _ _ (T.ok_ite (fun h => absurd (of_decide_eq_true h) (by omega)) (fun _ => T.ok_leaf rfl))
  · refine for_up (e := .exit 2) 8 (fun i => h_spec_l01AngleWide_L2 y x b (awP i) (15 - 2 * (i : Int))) (by show _ = h_spec_l01AngleWide_L2 y x b (awP 0) (15 - 2 * ((0 : Nat) : Int)); rfl) (fun i hi => ?_) ?_
    · refine q_spec_l01AngleWide_L2 _ _ _ _ _ ?_
      rw [wrap64_id (by omega) (by omega), show 15 - 2 * (i : Int) - 2 = 15 - 2 * ((i + 1 : Nat) : Int) by omega]
      exact T.ok_ite (fun _ => T.ok_ob True.intro fun _ => T.ok_ob True.intro fun _ => T.ok_leaf rfl) (fun h => absurd (of_decide_eq_false h) (by omega))
    · refine q_spec_l01AngleWide_L2 _ _ _ _ _ ?_
      rw [aw_end]
      exact T.ok_ite (fun h => absurd (of_decide_eq_true h) (by omega)) (fun _ => T.ok_leaf rfl)

end Go.Proofs.LV
