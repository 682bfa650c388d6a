/- Sines and phasors. -/
import Derived.Test.YtdffgjembkanoaaLvAbsX
import Derived.Test.YtdffgjembkanoaaLvValX
namespace Go.Proofs.LV
open Go
set_option linter.unusedVariables false
set_option linter.unusedSimpArgs false

def AV.fl : AV → Nat | .f _ x => x | _ => 0
abbrev C_math_Float64frombits (P : Program) (f : FuncId) : Prop := ∀ n : Int, VCall P f [.i .u64 n] (.f .f64 (canon .f64 n.toNat))
def oc1_math_Float64frombits (as : List AV) : T AV := match as with | [.i _ n] => .leaf (.f .f64 (canon .f64 n.toNat)) | _ => .fail
theorem k_math_Float64frombits {P : Program} {f : FuncId} (h : ExtIs P f Extern.MathFloatBits.float64frombits) : C_math_Float64frombits P f := by
  intro n
  refine ext_call h (hr := fun G w vs hv => ?_)
  obtain ⟨u, hu, rfl, h1, h2⟩ := vl1 hv
  obtain ⟨vs⟩ := vs
  simp only at hu
  subst hu
  refine ⟨.float .f64 n.toNat, w.drawn, rfl, fun G' w' => ⟨n.toNat, rfl, ?_, rfl⟩⟩
  have h2 : n ≤ 18446744073709551615 := h2
  have h1 : (0 : Int) ≤ n := h1
  show n.toNat < 18446744073709551616
  omega

open Go.IntKind (wrap)
-- FN math_NaN
def ps_math_NaN : List Nat := [0]
def b_math_NaN (gq0 : FuncId) : VCode :=
 (.seq
 (.region false [
 ⟨some 0, .mv, [.k (.f .f64 0)], none⟩])
 (.seq
 (.region false [
 ⟨some 1, (.call gq0), [.k (.i .u64 9221120237041090561)], none⟩,
 ⟨some 0, .mv, [.t 1], none⟩])
 .ret))

abbrev Is_math_NaN (P : Program) (g_f : FuncId) (gq0 : FuncId) : Prop := FnIs P g_f 2 [.t 0] (b_math_NaN gq0)

abbrev C_math_NaN (P : Program) (g_f : FuncId) : Prop := VCall P g_f [] (.f .f64 9221120237041090560)
def oc1_math_NaN (as : List AV) : T AV := match as with | [] => .leaf (.f .f64 9221120237041090560) | _ => .fail
def oc_math_NaN  (d : Nat) (as : List AV) : T AV := match d with | 1 => oc1_math_Float64frombits as | _ => .fail



theorem q_math_NaN {P : Program} {g_f : FuncId} {gq0 : FuncId} (h_ : Is_math_NaN P g_f gq0)  (ht : T.ok (fun x_ => x_ = .f .f64 9221120237041090560) (
 T.ob ((VCall P) gq0 [AV.i .u64 9221120237041090561] (AV.f .f64 9221120237041090560)) (T.leaf (AV.f .f64 9221120237041090560)))) :
 VCall P g_f [] (.f .f64 9221120237041090560) := h_.call_of ps_math_NaN ⟨oc_math_NaN, fun _ _ => none⟩ (by kernel_rfl) ht

-- END math_NaN
-- FN math_Abs
def ps_math_Abs : List Nat := [0, 2]
def b_math_Abs (gq0 gq1 : FuncId) : VCode :=
 (.seq
 (.region false [
 ⟨some 2, .mv, [.k (.f .f64 0)], none⟩])
 (.seq
 (.region false [
 ⟨some 3, .mv, [.t 0], none⟩,
 ⟨some 4, (.call gq0), [.t 3], none⟩,
 ⟨some 5, (.bin .andNot), [.t 4, .k (.i .u64 9223372036854775808)], none⟩,
 ⟨some 6, (.call gq1), [.t 5], none⟩,
 ⟨some 2, .mv, [.t 6], none⟩])
 .ret))

abbrev Is_math_Abs (P : Program) (g_f : FuncId) (gq0 gq1 : FuncId) : Prop := FnIs P g_f 7 [.t 2] (b_math_Abs gq0 gq1)

abbrev C_math_Abs (P : Program) (g_f : FuncId) : Prop := ∀ (x : Nat) (hx : x ≠ fnan .f64) (hw : x < 2 ^ 64), VCall P g_f [.f .f64 x] (.f .f64 (absM x))
def oc1_math_Abs (as : List AV) : T AV := match as with | [.f .f64 x] => .leaf (.f .f64 (absM x)) | _ => .fail
def oc_math_Abs (x : Nat) (d : Nat) (as : List AV) : T AV := match d with | 4 => oc1_math_Float64bits as | 6 => oc1_math_Float64frombits as | _ => .fail



theorem q_math_Abs {P : Program} {g_f : FuncId} {gq0 gq1 : FuncId} (h_ : Is_math_Abs P g_f gq0 gq1) (x : Nat) (ht : T.ok (fun x_ => x_ = .f .f64 (absM x)) (
 T.ob ((VCall P) gq0 [AV.f .f64 x] (AV.i .u64 (↑x : Int)))
 (T.ob
 ((VCall P) gq1 [AV.i .u64 (ibits BinOp.andNot .u64 (↑x : Int) 9223372036854775808)]
 (AV.f .f64 (canon .f64 (Int.toNat (ibits BinOp.andNot .u64 (↑x : Int) 9223372036854775808)))))
 (T.leaf (AV.f .f64 (canon .f64 (Int.toNat (ibits BinOp.andNot .u64 (↑x : Int) 9223372036854775808)))))))) :
 VCall P g_f [.f .f64 x] (.f .f64 (absM x)) := h_.call_of ps_math_Abs ⟨oc_math_Abs x, fun _ _ => none⟩ (by kernel_rfl) ht

-- END math_Abs
-- FN impl_isFinite64
def ps_impl_isFinite64 : List Nat := [0, 2]
def b_impl_isFinite64 : VCode :=
 (.seq
 (.region false [
 ⟨some 2, .mv, [.k (.b false)], none⟩])
 (.seq
 (.region false [
 ⟨some 3, .mv, [.t 0], none⟩,
 ⟨some 4, .mv, [.t 0], none⟩,
 ⟨some 5, (.bin .sub), [.t 3, .t 4], none⟩,
 ⟨some 6, (.bin .eql), [.t 5, .k (.f .f64 0)], none⟩,
 ⟨some 2, .mv, [.t 6], none⟩])
 .ret))

abbrev Is_impl_isFinite64 (P : Program) (g_f : FuncId) : Prop := FnIs P g_f 7 [.t 2] (b_impl_isFinite64)

abbrev C_impl_isFinite64 (P : Program) (g_f : FuncId) : Prop := ∀ (x : Nat), VCall P g_f [.f .f64 x] (.b (feq .f64 (fsub .f64 x x) 0))
def oc1_impl_isFinite64 (as : List AV) : T AV := match as with | [.f .f64 x] => .leaf (.b (feq .f64 (fsub .f64 x x) 0)) | _ => .fail



theorem q_impl_isFinite64 {P : Program} {g_f : FuncId} (h_ : Is_impl_isFinite64 P g_f) (x : Nat) (ht : T.ok (fun x_ => x_ = .b (feq .f64 (fsub .f64 x x) 0)) (
 T.leaf (AV.b (feq .f64 (fsub .f64 x x) 0)))) :
 VCall P g_f [.f .f64 x] (.b (feq .f64 (fsub .f64 x x) 0)) := h_.call_of ps_impl_isFinite64 ⟨fun _ _ => .fail, fun _ _ => none⟩ (by kernel_rfl) ht

-- END impl_isFinite64
-- FN impl_fraction
def ps_impl_fraction : List Nat := [0, 2, 3, 10]
def b_impl_fraction : VCode :=
 (.seq
 (.region false [
 ⟨some 2, .mv, [.k (.f .f64 0)], none⟩])
 (.seq
 (.region false [
 ⟨some 4, .mv, [.t 0], none⟩,
 ⟨some 5, .mv, [.t 0], none⟩,
 ⟨some 6, (.convI .i64), [.t 5], none⟩,
 ⟨some 7, (.convF .f64), [.t 6], none⟩,
 ⟨some 8, (.bin .sub), [.t 4, .t 7], none⟩,
 ⟨some 3, .mv, [.t 8], none⟩])
 (.seq
 (.seq
 (.region false [
 ⟨some 9, .mv, [.t 3], none⟩,
 ⟨some 10, (.bin .lss), [.t 9, .k (.f .f64 0)], none⟩])
 (.cond (.t 10)
 (.region false [
 ⟨some 11, .mv, [.t 3], none⟩,
 ⟨some 12, (.bin .add), [.t 11, .k (.f .f64 4607182418800017408)], none⟩,
 ⟨some 3, .mv, [.t 12], none⟩])
 .skip))
 (.seq
 (.region false [
 ⟨some 13, .mv, [.t 3], none⟩,
 ⟨some 2, .mv, [.t 13], none⟩])
 .ret))))

abbrev Is_impl_fraction (P : Program) (g_f : FuncId) : Prop := FnIs P g_f 14 [.t 2] (b_impl_fraction)

abbrev C_impl_fraction (P : Program) (g_f : FuncId) : Prop := ∀ (x : Nat) (hx : bd 1126 x), VCall P g_f [.f .f64 x] (.f .f64 (fracM x))
def oc1_impl_fraction (as : List AV) : T AV := match as with | [.f .f64 x] => .leaf (.f .f64 (fracM x)) | _ => .fail



theorem q_impl_fraction {P : Program} {g_f : FuncId} (h_ : Is_impl_fraction P g_f) (x : Nat) (ht : T.ok (fun x_ => x_ = .f .f64 (fracM x)) (
 T.ob (Option.isSome (ftoi .f64 .i64 x) = true)
 (T.ob True
 (T.ite (flt .f64 (fsub .f64 x (fofi .f64 (Option.getD (ftoi .f64 .i64 x) 0))) 0)
 (T.leaf (AV.f .f64 (fadd .f64 (fsub .f64 x (fofi .f64 (Option.getD (ftoi .f64 .i64 x) 0))) 4607182418800017408)))
 (T.leaf (AV.f .f64 (fsub .f64 x (fofi .f64 (Option.getD (ftoi .f64 .i64 x) 0))))))))) :
 VCall P g_f [.f .f64 x] (.f .f64 (fracM x)) := h_.call_of ps_impl_fraction ⟨fun _ _ => .fail, fun _ _ => none⟩ (by kernel_rfl) ht

-- END impl_fraction
-- FN impl_sine
def ps_impl_sine : List Nat := [0, 2, 3, 4, 5, 6, 7, 8, 13, 17, 26, 40]
def lv_impl_sine_L0 : List Nat := [4, 5, 6, 7, 8]
def b_impl_sine_L0 (gq0 : FuncId) : VCode :=
 (.seq
 (.seq
 (.region false [
 ⟨some 25, .mv, [.t 8], none⟩,
 ⟨some 26, (.bin .geq), [.t 25, .k (.f .f64 4607182418800017408)], none⟩])
 (.cond (.t 26)
 .skip
 (.exit 0)))
 (.seq
 (.block 1
 (.region false [
 ⟨some 29, .mv, [.t 6], none⟩,
 ⟨some 30, .mv, [.t 7], none⟩,
 ⟨some 31, (.bin .mul), [.t 29, .t 30], none⟩,
 ⟨some 32, .mv, [.t 8], none⟩,
 ⟨some 33, (.bin .mul), [.k (.f .f64 4611686018427387904), .t 32], none⟩,
 ⟨some 34, .mv, [.t 8], none⟩,
 ⟨some 35, (.bin .mul), [.k (.f .f64 4611686018427387904), .t 34], none⟩,
 ⟨some 36, (.bin .add), [.t 35, .k (.f .f64 4607182418800017408)], none⟩,
 ⟨some 37, (.bin .mul), [.t 33, .t 36], none⟩,
 ⟨some 38, (.bin .quo), [.t 31, .t 37], none⟩,
 ⟨some 39, (.bin .sub), [.k (.f .f64 4607182418800017408), .t 38], none⟩,
 ⟨some 7, .mv, [.t 39], none⟩]))
 (.region false [
 ⟨some 27, .mv, [.t 8], none⟩,
 ⟨some 28, (.bin .sub), [.t 27, .k (.f .f64 4607182418800017408)], none⟩,
 ⟨some 8, .mv, [.t 28], none⟩])))

def b_impl_sine (gq0 : FuncId) : VCode :=
 (.seq
 (.region false [
 ⟨some 2, .mv, [.k (.f .f64 0)], none⟩])
 (.seq
 (.region false [
 ⟨some 9, .mv, [.t 0], none⟩,
 ⟨some 10, (.call gq0), [.t 9], none⟩,
 ⟨some 3, .mv, [.t 10], none⟩])
 (.seq
 (.region false [
 ⟨some 11, .mv, [.t 3], none⟩,
 ⟨some 12, (.bin .geq), [.t 11, .k (.f .f64 4602678819172646912)], none⟩,
 ⟨some 4, .mv, [.t 12], none⟩])
 (.seq
 (.seq
 (.region false [
 ⟨some 13, .mv, [.t 4], none⟩])
 (.cond (.t 13)
 (.region false [
 ⟨some 14, .mv, [.t 3], none⟩,
 ⟨some 15, (.bin .sub), [.t 14, .k (.f .f64 4602678819172646912)], none⟩,
 ⟨some 3, .mv, [.t 15], none⟩])
 .skip))
 (.seq
 (.seq
 (.region false [
 ⟨some 16, .mv, [.t 3], none⟩,
 ⟨some 17, (.bin .gtr), [.t 16, .k (.f .f64 4598175219545276416)], none⟩])
 (.cond (.t 17)
 (.region false [
 ⟨some 18, .mv, [.t 3], none⟩,
 ⟨some 19, (.bin .sub), [.k (.f .f64 4602678819172646912), .t 18], none⟩,
 ⟨some 3, .mv, [.t 19], none⟩])
 .skip))
 (.seq
 (.region false [
 ⟨some 20, .mv, [.t 3], none⟩,
 ⟨some 21, (.bin .mul), [.t 20, .k (.f .f64 4618760256179416344)], none⟩,
 ⟨some 5, .mv, [.t 21], none⟩])
 (.seq
 (.region false [
 ⟨some 22, .mv, [.t 5], none⟩,
 ⟨some 23, .mv, [.t 5], none⟩,
 ⟨some 24, (.bin .mul), [.t 22, .t 23], none⟩,
 ⟨some 6, .mv, [.t 24], none⟩])
 (.seq
 (.region false [
 ⟨some 7, .mv, [.k (.f .f64 4607182418800017408)], none⟩])
 (.seq
 (.seq
 (.region false [
 ⟨some 8, .mv, [.k (.f .f64 4620693217682128896)], none⟩])
 (.block 0 (.loop (b_impl_sine_L0 gq0))))
 (.seq
 (.seq
 (.region false [
 ⟨some 40, .mv, [.t 4], none⟩])
 (.cond (.t 40)
 (.seq
 (.region false [
 ⟨some 41, .mv, [.t 5], none⟩,
 ⟨some 42, .mv, [.t 7], none⟩,
 ⟨some 43, (.bin .mul), [.t 41, .t 42], none⟩,
 ⟨some 44, .neg, [.t 43], none⟩,
 ⟨some 2, .mv, [.t 44], none⟩])
 .ret)
 .skip))
 (.seq
 (.region false [
 ⟨some 45, .mv, [.t 5], none⟩,
 ⟨some 46, .mv, [.t 7], none⟩,
 ⟨some 47, (.bin .mul), [.t 45, .t 46], none⟩,
 ⟨some 2, .mv, [.t 47], none⟩])
 .ret)))))))))))

abbrev Is_impl_sine (P : Program) (g_f : FuncId) (gq0 : FuncId) : Prop := FnIs P g_f 48 [.t 2] (b_impl_sine gq0)

abbrev C_impl_sine (P : Program) (g_f : FuncId) : Prop := ∀ (x : Nat) (hx : bd 1126 x), VCall P g_f [.f .f64 x] (.f .f64 (sinM x))
def oc1_impl_sine (as : List AV) : T AV := match as with | [.f .f64 x] => .leaf (.f .f64 (sinM x)) | _ => .fail
def oc_impl_sine (x : Nat) (d : Nat) (as : List AV) : T AV := match d with | 10 => oc1_impl_fraction as | _ => .fail
def h_impl_sine_L0 (x : Nat) (z : Nat) (u : Nat) (p : Nat) (k : Nat) : Env := anys 4 ++ [AV.b (fge .f64 (fracM x) 4602678819172646912), .f .f64 z, .f .f64 u, .f .f64 p, .f .f64 k] ++ anys 39

theorem q_impl_sine_L0 {VC : FuncId → List AV → AV → Prop} {gq0 : FuncId} (x : Nat) (z : Nat) (u : Nat) (p : Nat) (k : Nat) {e_ : Ex} {σ_ : Env} (ht : T.ok (fun x_ => x_ = (e_, σ_)) (
 T.ite (fge .f64 k 4607182418800017408)
 (T.ob True
 (T.leaf
 (Ex.normal,
 h_impl_sine_L0 x z u
 (fsub .f64 4607182418800017408
 (fdiv .f64 (fmul .f64 u p) (fmul .f64 (fmul .f64 4611686018427387904 k) (fadd .f64 (fmul .f64 4611686018427387904 k) 4607182418800017408))))
 (fsub .f64 k 4607182418800017408))))
 (T.leaf (Ex.exit 0, h_impl_sine_L0 x z u p k)))) :
 Exec VC ps_impl_sine (b_impl_sine_L0 gq0) (h_impl_sine_L0 x z u p k) e_ σ_ := evL_of (lv := lv_impl_sine_L0) (rs := [2]) (O := ⟨oc_impl_sine x, fun _ _ => none⟩) (by kernel_rfl) ht

theorem q_impl_sine {P : Program} {g_f : FuncId} {gq0 : FuncId} (h_ : Is_impl_sine P g_f gq0) (x : Nat) (ht : T.ok (fun x_ => x_ = .f .f64 (sinM x)) (
 T.ob ((VCall P) gq0 [AV.f .f64 x] (AV.f .f64 (fracM x)))
 (T.ite (fge .f64 (fracM x) 4602678819172646912)
 (T.ite (fgt .f64 (fsub .f64 (fracM x) 4602678819172646912) 4598175219545276416)
 (T.ob
 (Exec (VCall P) ps_impl_sine (VCode.block 0 (VCode.loop (b_impl_sine_L0 gq0)))
 (h_impl_sine_L0 x (fmul .f64 (fsub .f64 4602678819172646912 (fsub .f64 (fracM x) 4602678819172646912)) 4618760256179416344)
 (fmul .f64 (fmul .f64 (fsub .f64 4602678819172646912 (fsub .f64 (fracM x) 4602678819172646912)) 4618760256179416344)
 (fmul .f64 (fsub .f64 4602678819172646912 (fsub .f64 (fracM x) 4602678819172646912)) 4618760256179416344))
 4607182418800017408 4620693217682128896)
 Ex.normal
 (h_impl_sine_L0 x (AV.fl (AV.f .f64 (fmul .f64 (fsub .f64 4602678819172646912 (fsub .f64 (fracM x) 4602678819172646912)) 4618760256179416344)))
 (AV.fl
 (AV.f .f64
 (fmul .f64 (fmul .f64 (fsub .f64 4602678819172646912 (fsub .f64 (fracM x) 4602678819172646912)) 4618760256179416344)
 (fmul .f64 (fsub .f64 4602678819172646912 (fsub .f64 (fracM x) 4602678819172646912)) 4618760256179416344))))
 (sinP
 (AV.fl
 (AV.f .f64
 (fmul .f64 (fmul .f64 (fsub .f64 4602678819172646912 (fsub .f64 (fracM x) 4602678819172646912)) 4618760256179416344)
 (fmul .f64 (fsub .f64 4602678819172646912 (fsub .f64 (fracM x) 4602678819172646912)) 4618760256179416344))))
 8)
 0))
 (T.ite (fge .f64 (fracM x) 4602678819172646912)
 (T.leaf
 (AV.f .f64
 (fneg .f64
 (fmul .f64 (AV.fl (AV.f .f64 (fmul .f64 (fsub .f64 4602678819172646912 (fsub .f64 (fracM x) 4602678819172646912)) 4618760256179416344)))
 (sinP
 (AV.fl
 (AV.f .f64
 (fmul .f64 (fmul .f64 (fsub .f64 4602678819172646912 (fsub .f64 (fracM x) 4602678819172646912)) 4618760256179416344)
 (fmul .f64 (fsub .f64 4602678819172646912 (fsub .f64 (fracM x) 4602678819172646912)) 4618760256179416344))))
 8)))))
 (T.leaf
 (AV.f .f64
 (fmul .f64 (AV.fl (AV.f .f64 (fmul .f64 (fsub .f64 4602678819172646912 (fsub .f64 (fracM x) 4602678819172646912)) 4618760256179416344)))
 (sinP
 (AV.fl
 (AV.f .f64
 (fmul .f64 (fmul .f64 (fsub .f64 4602678819172646912 (fsub .f64 (fracM x) 4602678819172646912)) 4618760256179416344)
 (fmul .f64 (fsub .f64 4602678819172646912 (fsub .f64 (fracM x) 4602678819172646912)) 4618760256179416344))))
 8))))))
 (T.ob
 (Exec (VCall P) ps_impl_sine (VCode.block 0 (VCode.loop (b_impl_sine_L0 gq0)))
 (h_impl_sine_L0 x (fmul .f64 (fsub .f64 (fracM x) 4602678819172646912) 4618760256179416344)
 (fmul .f64 (fmul .f64 (fsub .f64 (fracM x) 4602678819172646912) 4618760256179416344) (fmul .f64 (fsub .f64 (fracM x) 4602678819172646912) 4618760256179416344))
 4607182418800017408 4620693217682128896)
 Ex.normal
 (h_impl_sine_L0 x (AV.fl (AV.f .f64 (fmul .f64 (fsub .f64 (fracM x) 4602678819172646912) 4618760256179416344)))
 (AV.fl
 (AV.f .f64
 (fmul .f64 (fmul .f64 (fsub .f64 (fracM x) 4602678819172646912) 4618760256179416344)
 (fmul .f64 (fsub .f64 (fracM x) 4602678819172646912) 4618760256179416344))))
 (sinP
 (AV.fl
 (AV.f .f64
 (fmul .f64 (fmul .f64 (fsub .f64 (fracM x) 4602678819172646912) 4618760256179416344)
 (fmul .f64 (fsub .f64 (fracM x) 4602678819172646912) 4618760256179416344))))
 8)
 0))
 (T.ite (fge .f64 (fracM x) 4602678819172646912)
 (T.leaf
 (AV.f .f64
 (fneg .f64
 (fmul .f64 (AV.fl (AV.f .f64 (fmul .f64 (fsub .f64 (fracM x) 4602678819172646912) 4618760256179416344)))
 (sinP
 (AV.fl
 (AV.f .f64
 (fmul .f64 (fmul .f64 (fsub .f64 (fracM x) 4602678819172646912) 4618760256179416344)
 (fmul .f64 (fsub .f64 (fracM x) 4602678819172646912) 4618760256179416344))))
 8)))))
 (T.leaf
 (AV.f .f64
 (fmul .f64 (AV.fl (AV.f .f64 (fmul .f64 (fsub .f64 (fracM x) 4602678819172646912) 4618760256179416344)))
 (sinP
 (AV.fl
 (AV.f .f64
 (fmul .f64 (fmul .f64 (fsub .f64 (fracM x) 4602678819172646912) 4618760256179416344)
 (fmul .f64 (fsub .f64 (fracM x) 4602678819172646912) 4618760256179416344))))
 8)))))))
 (T.ite (fgt .f64 (fracM x) 4598175219545276416)
 (T.ob
 (Exec (VCall P) ps_impl_sine (VCode.block 0 (VCode.loop (b_impl_sine_L0 gq0)))
 (h_impl_sine_L0 x (fmul .f64 (fsub .f64 4602678819172646912 (fracM x)) 4618760256179416344)
 (fmul .f64 (fmul .f64 (fsub .f64 4602678819172646912 (fracM x)) 4618760256179416344) (fmul .f64 (fsub .f64 4602678819172646912 (fracM x)) 4618760256179416344))
 4607182418800017408 4620693217682128896)
 Ex.normal
 (h_impl_sine_L0 x (AV.fl (AV.f .f64 (fmul .f64 (fsub .f64 4602678819172646912 (fracM x)) 4618760256179416344)))
 (AV.fl
 (AV.f .f64
 (fmul .f64 (fmul .f64 (fsub .f64 4602678819172646912 (fracM x)) 4618760256179416344)
 (fmul .f64 (fsub .f64 4602678819172646912 (fracM x)) 4618760256179416344))))
 (sinP
 (AV.fl
 (AV.f .f64
 (fmul .f64 (fmul .f64 (fsub .f64 4602678819172646912 (fracM x)) 4618760256179416344)
 (fmul .f64 (fsub .f64 4602678819172646912 (fracM x)) 4618760256179416344))))
 8)
 0))
 (T.ite (fge .f64 (fracM x) 4602678819172646912)
 (T.leaf
 (AV.f .f64
 (fneg .f64
 (fmul .f64 (AV.fl (AV.f .f64 (fmul .f64 (fsub .f64 4602678819172646912 (fracM x)) 4618760256179416344)))
 (sinP
 (AV.fl
 (AV.f .f64
 (fmul .f64 (fmul .f64 (fsub .f64 4602678819172646912 (fracM x)) 4618760256179416344)
 (fmul .f64 (fsub .f64 4602678819172646912 (fracM x)) 4618760256179416344))))
 8)))))
 (T.leaf
 (AV.f .f64
 (fmul .f64 (AV.fl (AV.f .f64 (fmul .f64 (fsub .f64 4602678819172646912 (fracM x)) 4618760256179416344)))
 (sinP
 (AV.fl
 (AV.f .f64
 (fmul .f64 (fmul .f64 (fsub .f64 4602678819172646912 (fracM x)) 4618760256179416344)
 (fmul .f64 (fsub .f64 4602678819172646912 (fracM x)) 4618760256179416344))))
 8))))))
 (T.ob
 (Exec (VCall P) ps_impl_sine (VCode.block 0 (VCode.loop (b_impl_sine_L0 gq0)))
 (h_impl_sine_L0 x (fmul .f64 (fracM x) 4618760256179416344) (fmul .f64 (fmul .f64 (fracM x) 4618760256179416344) (fmul .f64 (fracM x) 4618760256179416344))
 4607182418800017408 4620693217682128896)
 Ex.normal
 (h_impl_sine_L0 x (AV.fl (AV.f .f64 (fmul .f64 (fracM x) 4618760256179416344)))
 (AV.fl (AV.f .f64 (fmul .f64 (fmul .f64 (fracM x) 4618760256179416344) (fmul .f64 (fracM x) 4618760256179416344))))
 (sinP (AV.fl (AV.f .f64 (fmul .f64 (fmul .f64 (fracM x) 4618760256179416344) (fmul .f64 (fracM x) 4618760256179416344)))) 8) 0))
 (T.ite (fge .f64 (fracM x) 4602678819172646912)
 (T.leaf
 (AV.f .f64
 (fneg .f64
 (fmul .f64 (AV.fl (AV.f .f64 (fmul .f64 (fracM x) 4618760256179416344)))
 (sinP (AV.fl (AV.f .f64 (fmul .f64 (fmul .f64 (fracM x) 4618760256179416344) (fmul .f64 (fracM x) 4618760256179416344)))) 8)))))
 (T.leaf
 (AV.f .f64
 (fmul .f64 (AV.fl (AV.f .f64 (fmul .f64 (fracM x) 4618760256179416344)))
 (sinP (AV.fl (AV.f .f64 (fmul .f64 (fmul .f64 (fracM x) 4618760256179416344) (fmul .f64 (fracM x) 4618760256179416344)))) 8)))))))))) :
 VCall P g_f [.f .f64 x] (.f .f64 (sinM x)) := h_.call_of ps_impl_sine ⟨oc_impl_sine x, fun id σ => match id with | 0 => some (lv_impl_sine_L0, .leaf (.normal, h_impl_sine_L0 x (AV.fl (σ.getD 5 .any)) (AV.fl (σ.getD 6 .any)) (sinP (AV.fl (σ.getD 6 .any)) 8) (sinK 8))) | _ => none⟩ (by kernel_rfl) ht

-- END impl_sine
-- FN spec_l01SineWide
-- END spec_l01SineWide
-- FN impl_PhasorOf
def ps_impl_PhasorOf : List Nat := [0, 2, 3, 4, 5, 6, 7, 10, 18, 22, 32, 33, 38, 44]
def lv_impl_PhasorOf_L0 : List Nat := [4, 5]
def b_impl_PhasorOf_L0 (gq0 gq1 gq2 gq3 gq4 : FuncId) : VCode :=
 (.seq
 (.seq
 (.region false [
 ⟨some 21, .mv, [.t 4], none⟩,
 ⟨some 22, (.bin .geq), [.t 21, .k (.f .f64 4598175219545276416)], none⟩])
 (.cond (.t 22)
 .skip
 (.exit 0)))
 (.block 1
 (.seq
 (.region false [
 ⟨some 23, .mv, [.t 4], none⟩,
 ⟨some 24, (.bin .sub), [.t 23, .k (.f .f64 4598175219545276416)], none⟩,
 ⟨some 4, .mv, [.t 24], none⟩])
 (.region false [
 ⟨some 25, .mv, [.t 5], none⟩,
 ⟨some 26, (.bin .add), [.t 25, .k (.i .i64 1)], none⟩,
 ⟨some 5, .mv, [.t 26], none⟩]))))

def b_impl_PhasorOf (gq0 gq1 gq2 gq3 gq4 : FuncId) : VCode :=
 (.seq
 (.region false [
 ⟨some 2, .mv, [.k (.c .f32 0 0)], none⟩])
 (.seq
 (.seq
 (.region false [
 ⟨some 8, .mv, [.t 0], none⟩,
 ⟨some 9, (.call gq0), [.t 8], none⟩,
 ⟨some 10, .not, [.t 9], none⟩])
 (.cond (.t 10)
 (.seq
 (.region false [
 ⟨some 11, (.call gq1), [], none⟩,
 ⟨some 12, (.convF .f32), [.t 11], none⟩,
 ⟨some 3, .mv, [.t 12], none⟩])
 (.seq
 (.region false [
 ⟨some 13, .mv, [.t 3], none⟩,
 ⟨some 14, .mv, [.t 3], none⟩,
 ⟨some 15, .cplx, [.t 13, .t 14], none⟩,
 ⟨some 2, .mv, [.t 15], none⟩])
 .ret))
 .skip))
 (.seq
 (.seq
 (.region false [
 ⟨some 16, .mv, [.t 0], none⟩,
 ⟨some 17, (.call gq2), [.t 16], none⟩,
 ⟨some 18, (.bin .geq), [.t 17, .k (.f .f64 4841369599423283200)], none⟩])
 (.cond (.t 18)
 (.seq
 (.region false [
 ⟨some 2, .mv, [.k (.c .f32 1065353216 0)], none⟩])
 .ret)
 .skip))
 (.seq
 (.region false [
 ⟨some 19, .mv, [.t 0], none⟩,
 ⟨some 20, (.call gq3), [.t 19], none⟩,
 ⟨some 4, .mv, [.t 20], none⟩])
 (.seq
 (.region false [
 ⟨some 5, .mv, [.k (.i .i64 0)], none⟩])
 (.seq
 (.block 0 (.loop (b_impl_PhasorOf_L0 gq0 gq1 gq2 gq3 gq4)))
 (.seq
 (.region false [
 ⟨some 27, .mv, [.t 4], none⟩,
 ⟨some 28, (.bin .sub), [.k (.f .f64 4598175219545276416), .t 27], none⟩,
 ⟨some 29, (.call gq4), [.t 28], none⟩,
 ⟨some 30, .mv, [.t 4], none⟩,
 ⟨some 31, (.call gq4), [.t 30], none⟩,
 ⟨some 6, .mv, [.t 29], none⟩,
 ⟨some 7, .mv, [.t 31], none⟩])
 (.seq
 (.seq
 (.region false [
 ⟨some 32, .mv, [.t 5], none⟩])
 (.block 2
 (.seq
 (.region false [
 ⟨some 34, (.bin .eql), [.t 32, .k (.i .i64 1)], none⟩,
 ⟨some 33, .mv, [.t 34], none⟩])
 (.cond (.t 33)
 (.region false [
 ⟨some 35, .mv, [.t 7], none⟩,
 ⟨some 36, (.bin .sub), [.k (.f .f64 0), .t 35], none⟩,
 ⟨some 37, .mv, [.t 6], none⟩,
 ⟨some 6, .mv, [.t 36], none⟩,
 ⟨some 7, .mv, [.t 37], none⟩])
 (.seq
 (.region false [
 ⟨some 39, (.bin .eql), [.t 32, .k (.i .i64 2)], none⟩,
 ⟨some 38, .mv, [.t 39], none⟩])
 (.cond (.t 38)
 (.region false [
 ⟨some 40, .mv, [.t 6], none⟩,
 ⟨some 41, (.bin .sub), [.k (.f .f64 0), .t 40], none⟩,
 ⟨some 42, .mv, [.t 7], none⟩,
 ⟨some 43, (.bin .sub), [.k (.f .f64 0), .t 42], none⟩,
 ⟨some 6, .mv, [.t 41], none⟩,
 ⟨some 7, .mv, [.t 43], none⟩])
 (.seq
 (.region false [
 ⟨some 45, (.bin .eql), [.t 32, .k (.i .i64 3)], none⟩,
 ⟨some 44, .mv, [.t 45], none⟩])
 (.cond (.t 44)
 (.region false [
 ⟨some 46, .mv, [.t 7], none⟩,
 ⟨some 47, .mv, [.t 6], none⟩,
 ⟨some 48, (.bin .sub), [.k (.f .f64 0), .t 47], none⟩,
 ⟨some 6, .mv, [.t 46], none⟩,
 ⟨some 7, .mv, [.t 48], none⟩])
 .skip))))))))
 (.seq
 (.region false [
 ⟨some 49, .mv, [.t 6], none⟩,
 ⟨some 50, (.convF .f32), [.t 49], none⟩,
 ⟨some 51, .mv, [.t 7], none⟩,
 ⟨some 52, (.convF .f32), [.t 51], none⟩,
 ⟨some 53, .cplx, [.t 50, .t 52], none⟩,
 ⟨some 2, .mv, [.t 53], none⟩])
 .ret)))))))))

abbrev Is_impl_PhasorOf (P : Program) (g_f : FuncId) (gq0 gq1 gq2 gq3 gq4 : FuncId) : Prop := FnIs P g_f 54 [.t 2] (b_impl_PhasorOf gq0 gq1 gq2 gq3 gq4)

abbrev C_impl_PhasorOf (P : Program) (g_f : FuncId) : Prop := ∀ (x : Nat), VCall P g_f [.f .f64 x] (.c .f32 (phM x).1 (phM x).2)
def oc1_impl_PhasorOf (as : List AV) : T AV := match as with | [.f .f64 x] => .leaf (.c .f32 (phM x).1 (phM x).2) | _ => .fail
def oc_impl_PhasorOf (x : Nat) (d : Nat) (as : List AV) : T AV := match d with | 9 => oc1_impl_isFinite64 as | 11 => oc1_math_NaN as | 17 => oc1_math_Abs as | 20 => oc1_impl_fraction as | 29 => oc1_impl_sine as | 31 => oc1_impl_sine as | _ => .fail
def h_impl_PhasorOf_L0 (x : Nat) (f : Nat) (q : Int) : Env := anys 4 ++ [.f .f64 f, .i .i64 q] ++ anys 48

theorem q_impl_PhasorOf_L0 {VC : FuncId → List AV → AV → Prop} {gq0 gq1 gq2 gq3 gq4 : FuncId} (x : Nat) (f : Nat) (q : Int) {e_ : Ex} {σ_ : Env} (ht : T.ok (fun x_ => x_ = (e_, σ_)) (
 T.ite (fge .f64 f 4598175219545276416) (T.leaf (Ex.normal, h_impl_PhasorOf_L0 x (fsub .f64 f 4598175219545276416) (wrap .i64 (q + 1)))) (T.leaf (Ex.exit 0, h_impl_PhasorOf_L0 x f q)))) :
 Exec VC ps_impl_PhasorOf (b_impl_PhasorOf_L0 gq0 gq1 gq2 gq3 gq4) (h_impl_PhasorOf_L0 x f q) e_ σ_ := evL_of (lv := lv_impl_PhasorOf_L0) (rs := [2]) (O := ⟨oc_impl_PhasorOf x, fun _ _ => none⟩) (by kernel_rfl) ht

theorem q_impl_PhasorOf {P : Program} {g_f : FuncId} {gq0 gq1 gq2 gq3 gq4 : FuncId} (h_ : Is_impl_PhasorOf P g_f gq0 gq1 gq2 gq3 gq4) (x : Nat) (ht : T.ok (fun x_ => x_ = .c .f32 (phM x).1 (phM x).2) (
 T.ob ((VCall P) gq0 [AV.f .f64 x] (AV.b (feq .f64 (fsub .f64 x x) 0)))
 (T.ite (!feq .f64 (fsub .f64 x x) 0) (T.ob ((VCall P) gq1 [] (AV.f .f64 9221120237041090560)) (T.ob (true = true) (T.leaf (AV.c .f32 2143289344 2143289344))))
 (T.ob ((VCall P) gq2 [AV.f .f64 x] (AV.f .f64 (absM x)))
 (T.ite (fge .f64 (absM x) 4841369599423283200) (T.leaf (AV.c .f32 1065353216 0))
 (T.ob ((VCall P) gq3 [AV.f .f64 x] (AV.f .f64 (fracM x)))
 (T.ob
 (Exec (VCall P) ps_impl_PhasorOf (VCode.block 0 (VCode.loop (b_impl_PhasorOf_L0 gq0 gq1 gq2 gq3 gq4))) (h_impl_PhasorOf_L0 x (fracM x) 0) Ex.normal
 (h_impl_PhasorOf_L0 x (Prod.fst (qloop 5 (fracM x) 0)) (Prod.snd (qloop 5 (fracM x) 0))))
 (T.ob
 ((VCall P) gq4 [AV.f .f64 (fsub .f64 4598175219545276416 (Prod.fst (qloop 5 (fracM x) 0)))]
 (AV.f .f64 (sinM (fsub .f64 4598175219545276416 (Prod.fst (qloop 5 (fracM x) 0))))))
 (T.ob ((VCall P) gq4 [AV.f .f64 (Prod.fst (qloop 5 (fracM x) 0))] (AV.f .f64 (sinM (Prod.fst (qloop 5 (fracM x) 0)))))
 (T.ite (Prod.snd (qloop 5 (fracM x) 0) == 1)
 (T.ob (fconvOk .f64 .f32 (fsub .f64 0 (sinM (Prod.fst (qloop 5 (fracM x) 0)))) = true)
 (T.ob (fconvOk .f64 .f32 (sinM (fsub .f64 4598175219545276416 (Prod.fst (qloop 5 (fracM x) 0)))) = true)
 (T.leaf
 (AV.c .f32 (fconv .f64 .f32 (fsub .f64 0 (sinM (Prod.fst (qloop 5 (fracM x) 0)))))
 (fconv .f64 .f32 (sinM (fsub .f64 4598175219545276416 (Prod.fst (qloop 5 (fracM x) 0)))))))))
 (T.ite (Prod.snd (qloop 5 (fracM x) 0) == 2)
 (T.ob (fconvOk .f64 .f32 (fsub .f64 0 (sinM (fsub .f64 4598175219545276416 (Prod.fst (qloop 5 (fracM x) 0))))) = true)
 (T.ob (fconvOk .f64 .f32 (fsub .f64 0 (sinM (Prod.fst (qloop 5 (fracM x) 0)))) = true)
 (T.leaf
 (AV.c .f32 (fconv .f64 .f32 (fsub .f64 0 (sinM (fsub .f64 4598175219545276416 (Prod.fst (qloop 5 (fracM x) 0))))))
 (fconv .f64 .f32 (fsub .f64 0 (sinM (Prod.fst (qloop 5 (fracM x) 0)))))))))
 (T.ite (Prod.snd (qloop 5 (fracM x) 0) == 3)
 (T.ob (fconvOk .f64 .f32 (sinM (Prod.fst (qloop 5 (fracM x) 0))) = true)
 (T.ob (fconvOk .f64 .f32 (fsub .f64 0 (sinM (fsub .f64 4598175219545276416 (Prod.fst (qloop 5 (fracM x) 0))))) = true)
 (T.leaf
 (AV.c .f32 (fconv .f64 .f32 (sinM (Prod.fst (qloop 5 (fracM x) 0))))
 (fconv .f64 .f32 (fsub .f64 0 (sinM (fsub .f64 4598175219545276416 (Prod.fst (qloop 5 (fracM x) 0))))))))))
 (T.ob (fconvOk .f64 .f32 (sinM (fsub .f64 4598175219545276416 (Prod.fst (qloop 5 (fracM x) 0)))) = true)
 (T.ob (fconvOk .f64 .f32 (sinM (Prod.fst (qloop 5 (fracM x) 0))) = true)
 (T.leaf
 (AV.c .f32 (fconv .f64 .f32 (sinM (fsub .f64 4598175219545276416 (Prod.fst (qloop 5 (fracM x) 0)))))
 (fconv .f64 .f32 (sinM (Prod.fst (qloop 5 (fracM x) 0)))))))))))))))))))) :
 VCall P g_f [.f .f64 x] (.c .f32 (phM x).1 (phM x).2) := h_.call_of ps_impl_PhasorOf ⟨oc_impl_PhasorOf x, fun id σ => match id with | 0 => some (lv_impl_PhasorOf_L0, .leaf (.normal, h_impl_PhasorOf_L0 x (qloop 5 (fracM x) 0).1 (qloop 5 (fracM x) 0).2)) | _ => none⟩ (by kernel_rfl) ht

-- END impl_PhasorOf
-- FN spec_l01From
-- END spec_l01From
-- FN spec_l01Phasor
-- END spec_l01Phasor

theorem k_math_NaN {P : Program} {f g1 : FuncId} (h : Is_math_NaN P f g1) (c1 : C_math_Float64frombits P g1) : C_math_NaN P f := by
  refine q_math_NaN h ?_
  have c1 := c1 9221120237041090561
  rw [show canon .f64 (9221120237041090561 : Int).toNat = 9221120237041090560 by decide +kernel] at c1
  repeat' (first | with_reducible refine T.ok_ob ?_ (fun _ => ?_) | with_reducible refine T.ok_ite (fun _ => ?_) (fun _ => ?_) | with_reducible refine T.ok_leaf ?_)
  all_goals first | exact c1 | rfl
theorem k_impl_isFinite64 {P : Program} {f : FuncId} (h : Is_impl_isFinite64 P f) : C_impl_isFinite64 P f := by
  intro x
  refine q_impl_isFinite64 h x ?_
  repeat' (first | with_reducible refine T.ok_ob ?_ (fun _ => ?_) | with_reducible refine T.ok_ite (fun _ => ?_) (fun _ => ?_) | with_reducible refine T.ok_leaf ?_)
  all_goals first | with_reducible rfl | with_reducible assumption | contradiction | exact fconvOk_32_64 _ | assumption | exact rfl | (simp_all []; done) | (simp_all [T.ok]; omega)

theorem andNot_top {x : Nat} (h : x < 2 ^ 64) : (ibits .andNot .u64 (x : Int) 9223372036854775808).toNat = x % 2 ^ 63 := by
  have e1 : ~~~(BitVec.ofInt 64 9223372036854775808) = BitVec.ofNat 64 (2 ^ 63 - 1) := by decide
  have e2 : (BitVec.ofInt 64 (x : Int) &&& ~~~(BitVec.ofInt 64 9223372036854775808)).toNat = x % 2 ^ 63 := by
    rw [e1, BitVec.toNat_and, BitVec.ofInt_natCast, BitVec.toNat_ofNat, BitVec.toNat_ofNat, Nat.mod_eq_of_lt h, Nat.mod_eq_of_lt (show 2 ^ 63 - 1 < 2 ^ 64 by decide), Nat.and_two_pow_sub_one_eq_mod]
  unfold ibits
  show (IntKind.wrap .u64 (((BitVec.ofInt 64 (x : Int) &&& ~~~(BitVec.ofInt 64 9223372036854775808)).toNat : Nat) : Int)).toNat = _
  rw [e2]
  have h1 : x % 2 ^ 63 < 2 ^ 63 := Nat.mod_lt _ (by decide)
  generalize x % 2 ^ 63 = r at *
  unfold IntKind.wrap
  have h2 : IntKind.bits .u64 = 64 := rfl
  simp only [h2]
  first | omega | (simp [IntKind.signed]; omega)
theorem k_math_Abs {P : Program} {f g1 g2 : FuncId} (h : Is_math_Abs P f g1 g2) (c1 : C_math_Float64bits P g1) (c2 : C_math_Float64frombits P g2) : C_math_Abs P f := by
  intro x hx hw
  refine q_math_Abs h x ?_
  repeat' (first | with_reducible refine T.ok_ob ?_ (fun _ => ?_) | with_reducible refine T.ok_ite (fun _ => ?_) (fun _ => ?_) | with_reducible refine T.ok_leaf ?_)
  all_goals first | exact c1 x hx | exact c2 _ | (unfold absM; rw [andNot_top hw])
theorem k_impl_fraction {P : Program} {f : FuncId} (h : Is_impl_fraction P f) : C_impl_fraction P f := by
  intro x hx
  refine q_impl_fraction h x ?_
  obtain ⟨h1, _⟩ := frac_ok hx
  have e : fracM x = if flt .f64 (fsub .f64 x (fofi .f64 ((ftoi .f64 .i64 x).getD 0))) 0 = true then fadd .f64 (fsub .f64 x (fofi .f64 ((ftoi .f64 .i64 x).getD 0))) 4607182418800017408
    else fsub .f64 x (fofi .f64 ((ftoi .f64 .i64 x).getD 0)) := rfl
  rw [e]
  repeat' (first | with_reducible refine T.ok_ob ?_ (fun _ => ?_) | with_reducible refine T.ok_ite (fun _ => ?_) (fun _ => ?_) | with_reducible refine T.ok_leaf ?_)
  · exact h1
  · trivial
  · rename_i hc; rw [if_pos hc]
  · rename_i hc; rw [if_neg (by rw [hc]; decide)]

theorem sinK0 : (4620693217682128896 : Nat) = sinK 0 := by decide +kernel
theorem sinK_step : ∀ i : Fin 8, fsub .f64 (sinK i.val) 4607182418800017408 = sinK (i.val + 1) := by decide +kernel
theorem sinK_ge : ∀ i : Fin 8, fge .f64 (sinK i.val) 4607182418800017408 = true := by decide +kernel
theorem sinK_end : fge .f64 (sinK 8) 4607182418800017408 = false := by decide +kernel
theorem sinK_D : ∀ i : Fin 8, fmul .f64 (fmul .f64 4611686018427387904 (sinK i.val)) (fadd .f64 (fmul .f64 4611686018427387904 (sinK i.val)) 4607182418800017408) = sinD i.val := by decide +kernel
/-- the four ways to an angle -/
theorem sin_a {x : Nat} (h1 : fge .f64 (fracM x) d5 = true) (h2 : fgt .f64 (fsub .f64 (fracM x) d5) d25 = true) : sinT x = true ∧ sinF x = fsub .f64 d5 (fsub .f64 (fracM x) d5) := by
  have hT : sinT x = true := h1
  have hG : sinG x = fsub .f64 (fracM x) d5 := by unfold sinG; rw [if_pos hT]
  exact ⟨hT, by unfold sinF; rw [hG, if_pos h2]⟩
theorem sin_b {x : Nat} (h1 : fge .f64 (fracM x) d5 = true) (h2 : fgt .f64 (fsub .f64 (fracM x) d5) d25 = false) : sinT x = true ∧ sinF x = fsub .f64 (fracM x) d5 := by
  have hT : sinT x = true := h1
  have hG : sinG x = fsub .f64 (fracM x) d5 := by unfold sinG; rw [if_pos hT]
  exact ⟨hT, by unfold sinF; rw [hG, if_neg (by rw [h2]; decide)]⟩
theorem sin_c {x : Nat} (h1 : fge .f64 (fracM x) d5 = false) (h2 : fgt .f64 (fracM x) d25 = true) : sinT x = false ∧ sinF x = fsub .f64 d5 (fracM x) := by
  have hT : sinT x = false := h1
  have hG : sinG x = fracM x := by unfold sinG; rw [if_neg (by rw [hT]; decide)]
  exact ⟨hT, by unfold sinF; rw [hG, if_pos h2]⟩
theorem sin_d {x : Nat} (h1 : fge .f64 (fracM x) d5 = false) (h2 : fgt .f64 (fracM x) d25 = false) : sinT x = false ∧ sinF x = fracM x := by
  have hT : sinT x = false := h1
  have hG : sinG x = fracM x := by unfold sinG; rw [if_neg (by rw [hT]; decide)]
  exact ⟨hT, by unfold sinF; rw [hG, if_neg (by rw [h2]; decide)]⟩
theorem sin_t {x : Nat} (h : sinT x = true) : sinM x = fneg .f64 (fmul .f64 (fmul .f64 (sinF x) 4618760256179416344) (sinP (fmul .f64 (fmul .f64 (sinF x) 4618760256179416344) (fmul .f64 (sinF x) 4618760256179416344)) 8)) := by
  unfold sinM sinZ; rw [if_pos h]
theorem sin_f {x : Nat} (h : sinT x = false) : sinM x = fmul .f64 (fmul .f64 (sinF x) 4618760256179416344) (sinP (fmul .f64 (fmul .f64 (sinF x) 4618760256179416344) (fmul .f64 (sinF x) 4618760256179416344)) 8) := by
  unfold sinM sinZ; rw [if_neg (by rw [h]; decide)]

theorem l_impl_sine {P : Program} (g1 : FuncId) (x z u : Nat) : Exec (VCall P) ps_impl_sine (VCode.block 0 (VCode.loop (b_impl_sine_L0 g1))) (h_impl_sine_L0 x z u 4607182418800017408 4620693217682128896) Ex.normal (h_impl_sine_L0 x z u (sinP u 8) 0) := by
  refine for_up (e := .exit 0) 8 (fun i => h_impl_sine_L0 x z u (sinP u i) (sinK i)) (by rw [sinK0]; rfl) (fun i hi => ?_) ?_
  · refine q_impl_sine_L0 _ _ _ _ _ ?_
    rw [sinK_ge ⟨i, hi⟩, sinK_step ⟨i, hi⟩, sinK_D ⟨i, hi⟩]
    repeat' (first | with_reducible refine T.ok_ob ?_ (fun _ => ?_) | with_reducible refine T.ok_ite (fun _ => ?_) (fun _ => ?_) | with_reducible refine T.ok_leaf ?_)
    all_goals first | rfl | trivial | contradiction
  · refine q_impl_sine_L0 _ _ _ _ _ ?_
    rw [sinK_end]
    repeat' (first | with_reducible refine T.ok_ob ?_ (fun _ => ?_) | with_reducible refine T.ok_ite (fun _ => ?_) (fun _ => ?_) | with_reducible refine T.ok_leaf ?_)
    all_goals first | rfl | trivial | contradiction
theorem k_impl_sine {P : Program} {f g1 : FuncId} (h : Is_impl_sine P f g1) (c1 : C_impl_fraction P g1) : C_impl_sine P f := by
  intro x hx
  refine q_impl_sine h x ?_
  have c1 := c1 x hx
  simp only [AV.fl]
  cases h1 : fge .f64 (fracM x) 4602678819172646912
  · cases h2 : fgt .f64 (fracM x) 4598175219545276416
    · obtain ⟨e1, e2⟩ := sin_d h1 h2
      rw [sin_f e1, e2]
      repeat' (first | with_reducible refine T.ok_ob ?_ (fun _ => ?_) | with_reducible refine T.ok_ite (fun _ => ?_) (fun _ => ?_) | with_reducible refine T.ok_leaf ?_)
      all_goals first | exact c1 | exact l_impl_sine _ _ _ _ | contradiction | rfl
    · obtain ⟨e1, e2⟩ := sin_c h1 h2
      rw [sin_f e1, e2]
      repeat' (first | with_reducible refine T.ok_ob ?_ (fun _ => ?_) | with_reducible refine T.ok_ite (fun _ => ?_) (fun _ => ?_) | with_reducible refine T.ok_leaf ?_)
      all_goals first | exact c1 | exact l_impl_sine _ _ _ _ | contradiction | rfl
  · cases h2 : fgt .f64 (fsub .f64 (fracM x) 4602678819172646912) 4598175219545276416
    · obtain ⟨e1, e2⟩ := sin_b h1 h2
      rw [sin_t e1, e2]
      repeat' (first | with_reducible refine T.ok_ob ?_ (fun _ => ?_) | with_reducible refine T.ok_ite (fun _ => ?_) (fun _ => ?_) | with_reducible refine T.ok_leaf ?_)
      all_goals first | exact c1 | exact l_impl_sine _ _ _ _ | contradiction | rfl
    · obtain ⟨e1, e2⟩ := sin_a h1 h2
      rw [sin_t e1, e2]
      repeat' (first | with_reducible refine T.ok_ob ?_ (fun _ => ?_) | with_reducible refine T.ok_ite (fun _ => ?_) (fun _ => ?_) | with_reducible refine T.ok_leaf ?_)
      all_goals first | exact c1 | exact l_impl_sine _ _ _ _ | contradiction | rfl
theorem fin_of {x : Nat} (h : feq .f64 (fsub .f64 x x) 0 = true) : fin64 x := by
  apply Classical.byContradiction
  intro hc
  have hc : Ieee.double.infRung ≤ rung Ieee.double x := Nat.le_of_not_lt hc
  have hB : Ieee.double.binade ≤ Ieee.double.infRung := by decide
  have e : fsub .f64 x x = fnan .f64 := by
    unfold fsub Ieee.Format.sub
    simp only [FloatKind.format]
    rcases Nat.lt_or_eq_of_le hc with h1 | h1
    · have hn := read_nan (f := Ieee.double) hB h1
      cases hr : Ieee.double.read x <;> rw [hr] at hn <;> first | (simp [Ieee.Datum.isNaN] at hn; done) | skip
      rfl
    · rw [read_inf hB h1.symm]
      cases sign Ieee.double x <;> rfl
  rw [e] at h
  exact absurd h (by decide)
theorem bd_small {x : Nat} (h : fin64 x) (h1 : fge .f64 x d52 = false) (h2 : fle .f64 x dm52 = false) : bd 1126 x := by
  rw [fge_val h c52.1] at h1
  rw [fle_val h cm52.1] at h2
  have h1 := of_decide_eq_false h1
  have h2 := of_decide_eq_false h2
  rw [c52.2] at h1
  rw [cm52.2] at h2
  refine ⟨h, ?_⟩
  generalize 2 ^ 1126 = N at *
  omega
/-! ### phasors -/
theorem abs_val {x : Nat} (h : fin64 x) : fin64 (absM x) ∧ val (absM x) = ((val x).natAbs : Nat) := by
  have hS : Ieee.double.signWeight = 2 ^ 63 := by decide
  have hr : x % 2 ^ 63 = rung Ieee.double x := by unfold rung; rw [hS]
  have hlt : rung Ieee.double x < 2 ^ 63 := by rw [← hr]; exact Nat.mod_lt _ (by decide)
  have e1 : rung Ieee.double (x % 2 ^ 63) = rung Ieee.double x := by rw [hr]; unfold rung; rw [hS] at *; exact Nat.mod_mod _ _
  have e2 : sign Ieee.double (x % 2 ^ 63) = false := by
    rw [hr]; unfold sign; rw [hS, Nat.div_eq_of_lt hlt]; rfl
  have hf : fin64 (x % 2 ^ 63) := by unfold fin64; rw [e1]; exact h
  have hn : absM x = x % 2 ^ 63 := by
    unfold absM canon
    rw [if_neg (by have := fin_nan64 hf; unfold nanB at this; rw [this]; decide)]
  rw [hn]
  refine ⟨hf, ?_⟩
  rw [val_abs]
  unfold val
  rw [e1, e2]; rfl
theorem abs_cond {x : Nat} (h : fin64 x) : fge .f64 (absM x) 4841369599423283200 = (fge .f64 x 4841369599423283200 || fle .f64 x 14064741636278059008) := by
  obtain ⟨h1, h2⟩ := abs_val h
  rw [fge_val h1 c52.1, fge_val h c52.1, fle_val h cm52.1, h2, c52.2, cm52.2]
  generalize 2 ^ 1126 = N
  generalize val x = v
  by_cases a : (N : Int) ≤ v
  · rw [decide_eq_true a, decide_eq_true (by omega)]; rfl
  · rw [decide_eq_false a]
    by_cases b : v ≤ -(N : Int)
    · rw [decide_eq_true b, decide_eq_true (by omega)]; rfl
    · rw [decide_eq_false b, decide_eq_false (by omega)]; rfl
theorem l_iph {P : Program} (g1 g2 g3 g4 g5 : FuncId) (x : Nat) {V : Int} (hV : val d25 = V) (hU : 4 * V = (UN : Int)) : ∀ (n : Nat) (f : Nat) (q : Int), unit f → val f < (n : Int) * V → 0 ≤ q → q + n ≤ 100 →
    Exec (VCall P) ps_impl_PhasorOf (VCode.loop (b_impl_PhasorOf_L0 g1 g2 g3 g4 g5)) (h_impl_PhasorOf_L0 x f q) (.exit 0) (h_impl_PhasorOf_L0 x (qloop n f q).1 (qloop n f q).2)
  | 0, f, q, h, hn, _, _ => by
    have := h.2.1
    generalize val f = v at *
    omega
  | n + 1, f, q, h, hn, h0, h1 => by
    have hf := fge_val h.1 c25.1
    rw [hV] at hf
    by_cases hc : V ≤ val f
    · obtain ⟨s1, s2⟩ := quarter_step h (by rw [hV]; exact hc)
      rw [hV] at s2
      rw [decide_eq_true hc] at hf
      have hq : qloop (n + 1) f q = qloop n (fsub .f64 f d25) (q + 1) := by show (if fge .f64 f d25 = true then _ else _) = _; rw [hf, if_pos rfl]
      rw [hq]
      have hup := un_pos
      have h23 := h.2
      have hu : unit (fsub .f64 f d25) := ⟨s1, by rw [s2]; generalize val f = v at *; omega, by rw [s2]; generalize val f = v at *; omega⟩
      have hr := l_iph (P := P) g1 g2 g3 g4 g5 x hV hU n (fsub .f64 f d25) (q + 1) hu (by rw [s2]; generalize val f = v at *; push_cast at hn; rw [Int.add_mul] at hn; omega) (by omega) (by omega)
      refine .loopN ?_ hr
      refine q_impl_PhasorOf_L0 _ _ _ ?_
      have hf : fge .f64 f 4598175219545276416 = true := hf
      rw [hf, wrap64_id (by omega) (by omega)]
      repeat' (first | with_reducible refine T.ok_ob ?_ (fun _ => ?_) | with_reducible refine T.ok_ite (fun _ => ?_) (fun _ => ?_) | with_reducible refine T.ok_leaf ?_)
      all_goals first | (rename_i hz; exact Bool.noConfusion hz) | rfl
    · rw [decide_eq_false hc] at hf
      have hq : qloop (n + 1) f q = (f, q) := by show (if fge .f64 f d25 = true then _ else _) = _; rw [hf, if_neg (by decide)]
      rw [hq]
      refine .loopX ?_ (by simp)
      refine q_impl_PhasorOf_L0 _ _ _ ?_
      have hf : fge .f64 f 4598175219545276416 = false := hf
      rw [hf]
      repeat' (first | with_reducible refine T.ok_ob ?_ (fun _ => ?_) | with_reducible refine T.ok_ite (fun _ => ?_) (fun _ => ?_) | with_reducible refine T.ok_leaf ?_)
      all_goals first | (rename_i hz; exact Bool.noConfusion hz) | rfl
/-- where the loop begins -/
theorem ph_start {x : Nat} (h : bd 1126 x) : ∃ V, val d25 = V ∧ 4 * V = (UN : Int) ∧ unit (fracM x) ∧ val (fracM x) < ((5 : Nat) : Int) * V := by
  obtain ⟨V, hV⟩ : ∃ V, val d25 = V := ⟨_, rfl⟩
  have k25 := c25.2
  rw [hV] at k25
  obtain ⟨_, u⟩ := frac_ok h
  have h2 := u.2.2
  have hup := un_pos
  refine ⟨V, hV, k25, u, ?_⟩
  generalize val (fracM x) = v at *
  omega
theorem ph_1 {f : Nat} {q : Int} (h : q = 1) : phQ f q = (nar (fsub .f64 0 (sinM f)), nar (sinM (fsub .f64 4598175219545276416 f))) := by unfold phQ; rw [if_pos h]; rfl
theorem ph_2 {f : Nat} {q : Int} (h : q = 2) : phQ f q = (nar (fsub .f64 0 (sinM (fsub .f64 4598175219545276416 f))), nar (fsub .f64 0 (sinM f))) := by unfold phQ; rw [if_neg (by omega), if_pos h]; rfl
theorem ph_3 {f : Nat} {q : Int} (h : q = 3) : phQ f q = (nar (sinM f), nar (fsub .f64 0 (sinM (fsub .f64 4598175219545276416 f)))) := by unfold phQ; rw [if_neg (by omega), if_neg (by omega), if_pos h]; rfl
theorem ph_4 {f : Nat} {q : Int} (h1 : q ≠ 1) (h2 : q ≠ 2) (h3 : q ≠ 3) : phQ f q = (nar (sinM (fsub .f64 4598175219545276416 f)), nar (sinM f)) := by unfold phQ; rw [if_neg h1, if_neg h2, if_neg h3]; rfl
theorem k_impl_PhasorOf {P : Program} {f g1 g2 g3 g4 g5 : FuncId} (h : Is_impl_PhasorOf P f g1 g2 g3 g4 g5) (c1 : C_impl_isFinite64 P g1) (c2 : C_math_NaN P g2) (c3 : C_math_Abs P g3) (c4 : C_impl_fraction P g4) (c5 : C_impl_sine P g5) : C_impl_PhasorOf P f := by
  intro x
  refine VCall.rng fun hr => ?_
  have hw : Fw .f64 x := hr.1
  refine q_impl_PhasorOf h x ?_
  cases hf : feq .f64 (fsub .f64 x x) 0
  · have e : phM x = (2143289344, 2143289344) := by unfold phM; rw [hf]; rfl
    rw [e]
    repeat' (first | with_reducible refine T.ok_ob ?_ (fun _ => ?_) | with_reducible refine T.ok_ite (fun _ => ?_) (fun _ => ?_) | with_reducible refine T.ok_leaf ?_)
    all_goals first | exact hf ▸ c1 x | exact c2 | contradiction | rfl
  have hfin := fin_of hf
  have c3 := c3 x (by rintro rfl; exact absurd (fin_nan64 hfin) (by decide)) hw.lt
  cases hb : (fge .f64 x 4841369599423283200 || fle .f64 x 14064741636278059008)
  rotate_left
  · have e : phM x = (1065353216, 0) := by unfold phM; rw [hf, if_pos rfl]; exact if_pos hb
    rw [e, abs_cond hfin, hb]
    repeat' (first | with_reducible refine T.ok_ob ?_ (fun _ => ?_) | with_reducible refine T.ok_ite (fun _ => ?_) (fun _ => ?_) | with_reducible refine T.ok_leaf ?_)
    all_goals first | exact hf ▸ c1 x | exact c3 | contradiction | rfl
  · have e : phM x = phQ (qloop 5 (fracM x) 0).1 (qloop 5 (fracM x) 0).2 := by unfold phM; rw [hf, if_pos rfl, if_neg (by rw [show (fge .f64 x d52 || fle .f64 x dm52) = false from hb]; decide)]
    have hb2 := Bool.or_eq_false_iff.1 hb
    have hB := bd_small hfin hb2.1 hb2.2
    obtain ⟨V, v1, v2, v3, v4⟩ := ph_start hB
    have hL := l_iph (P := P) g1 g2 g3 g4 g5 x v1 v2 5 (fracM x) 0 v3 v4 (by omega) (by omega)
    obtain ⟨p1, p2, p3, p4⟩ := ph_ok hB
    have c4 := c4 x hB
    have d1 := c5 _ (bd_mono p2 (by omega))
    have d2 := c5 _ (bd_mono p1 (by omega))
    have b1 := sinM_bd (bd_mono p2 (show 1073 ≤ 1126 by omega))
    have b2 := sinM_bd (bd_mono p1 (show 1072 ≤ 1126 by omega))
    have n1 := neg_bd b1
    have n2 := neg_bd b2
    rw [e, abs_cond hfin, hb]
    generalize (qloop 5 (fracM x) 0).1 = F at *
    generalize (qloop 5 (fracM x) 0).2 = Q at *
    repeat' (first | with_reducible refine T.ok_ob ?_ (fun _ => ?_) | with_reducible refine T.ok_ite (fun _ => ?_) (fun _ => ?_) | with_reducible refine T.ok_leaf ?_)
    all_goals try (with_reducible first | exact hf ▸ c1 x | exact c3 | exact c4 | exact d1 | exact d2 | exact .block hL | contradiction)
    all_goals first | exact narrow_bd n1 (by omega) | exact narrow_bd n2 (by omega) | exact narrow_bd b1 (by omega) | exact narrow_bd b2 (by omega) | (simp only [beq_iff_eq, beq_eq_false_iff_ne] at *; first | (rw [ph_1 (by assumption)]; done) | (rw [ph_2 (by assumption)]; done) | (rw [ph_3 (by assumption)]; done) | (rw [ph_4 (by assumption) (by assumption) (by assumption)]; done)) | exact .block hL
end Go.Proofs.LV
