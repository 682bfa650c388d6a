/- The statement FnExactSameState, proved: whatever the input, the law returns true, and the input reads as it did. -/
import Derived.Test.YtkcgiakliiadoaaRows
import Derived.Test.YtkcgiakliiadoaaLvFnA
import Derived.Test.YtkcgiakliiadoaaLvFnB
import Derived.Test.YtkcgiakliiadoaaLvFnD
import Derived.Test.YtkcgiakliiadoaaLvLawB
import Derived.JoinedOf
namespace Go.Proofs.Ytkcgiakliiadoaa.FnExactSameState
open Go.Proofs.LV Go.ChangeShapes Go.WideShapes Go.ChangeAt Go.RowKit
set_option linter.unusedVariables false
set_option linter.unusedSimpArgs false
theorem own : ownKnob Try.prog.godebug = none := by kernel_rfl
theorem fn50 : Is_laws_szFloat32S Try.prog 50 := FnIs.of Try.func50 (by kernel_rfl) (by kernel_rfl) (by kernel_rfl) (by decide) (fun vs w => Try.call50 vs w)
theorem c50 : C_laws_szFloat32S Try.prog 50 := k_laws_szFloat32S fn50
theorem fn15 : Is_laws_szState Try.prog 15 50 := FnIs.of Try.func15 (by kernel_rfl) (by kernel_rfl) (by kernel_rfl) (by decide) (fun vs w => Try.call15 vs w)
theorem c15 : C_laws_szState Try.prog 15 := k_laws_szState fn15 c50
theorem fn21 : Is_laws_toFloat32S Try.prog 21 := FnIs.of Try.func21 (by kernel_rfl) (by kernel_rfl) (by kernel_rfl) (by decide) (fun vs w => Try.call21 vs w)
theorem c21 : C_laws_toFloat32S Try.prog 21 := k_laws_toFloat32S fn21
theorem fn17 : Is_laws_toState Try.prog 17 21 := FnIs.of Try.func17 (by kernel_rfl) (by kernel_rfl) (by kernel_rfl) (by decide) (fun vs w => Try.call17 vs w)
theorem c17 : C_laws_toState Try.prog 17 := k_laws_toState fn17 c21
theorem fn131 : ExtIs Try.prog 131 Extern.MathFloatBits.float32bits := ExtIs.of Try.func131 (by kernel_rfl) (by kernel_rfl) (by kernel_rfl) (by kernel_rfl)
theorem c131 : C_math_Float32bits Try.prog 131 := k_math_Float32bits fn131
theorem fn129 : Is_spec_l01Bits Try.prog 129 131 := FnIs.of Try.func129 (by kernel_rfl) (by kernel_rfl) (by kernel_rfl) (by decide) (fun vs w => Try.call129 vs w)
theorem c129 : C_spec_l01Bits Try.prog 129 := k_spec_l01Bits fn129 c131
theorem fn122 : Is_spec_l01Same Try.prog 122 129 := FnIs.of Try.func122 (by kernel_rfl) (by kernel_rfl) (by kernel_rfl) (by decide) (fun vs w => Try.call122 vs w)
theorem c122 : C_spec_l01Same Try.prog 122 := k_spec_l01Same fn122 c129
theorem fn103 : Is_spec_l01SameAll Try.prog 103 122 := FnIs.of Try.func103 (by kernel_rfl) (by kernel_rfl) (by kernel_rfl) (by decide) (fun vs w => Try.call103 vs w)
theorem c103 : C_spec_l01SameAll Try.prog 103 := k_spec_l01SameAll fn103 c122
theorem fn51 : Is_spec_l04Same Try.prog 51 103 := FnIs.of Try.func51 (by kernel_rfl) (by kernel_rfl) (by kernel_rfl) (by decide) (fun vs w => Try.call51 vs w)
theorem c51 : C_spec_l04Same Try.prog 51 := k_spec_l04Same fn51 c103
theorem fn16 : Is_spec_SameState Try.prog 16 51 := FnIs.of Try.func16 (by kernel_rfl) (by kernel_rfl) (by kernel_rfl) (by decide) (fun vs w => Try.call16 vs w)
theorem c16 : C_spec_SameState Try.prog 16 := k_spec_SameState fn16 c51
theorem fn123 : ExtIs Try.prog 123 Extern.MathFloatBits.float64bits := ExtIs.of Try.func123 (by kernel_rfl) (by kernel_rfl) (by kernel_rfl) (by kernel_rfl)
theorem c123 : C_math_Float64bits Try.prog 123 := k_math_Float64bits fn123
theorem fn104 : Is_math_Signbit Try.prog 104 123 := FnIs.of Try.func104 (by kernel_rfl) (by kernel_rfl) (by kernel_rfl) (by decide) (fun vs w => Try.call104 vs w)
theorem c104 : C_math_Signbit Try.prog 104 := k_math_Signbit fn104 c123
theorem fn52 : Is_impl_SameNumber Try.prog 52 104 := FnIs.of Try.func52 (by kernel_rfl) (by kernel_rfl) (by kernel_rfl) (by decide) (fun vs w => Try.call52 vs w)
theorem c52 : C_impl_SameNumber Try.prog 52 := k_impl_SameNumber fn52 c104
theorem fn53 : Is_slices_EqualFunc___float32___float32_float32_float32_ Try.prog 53 := FnIs.of Try.func53 (by kernel_rfl) (by kernel_rfl) (by kernel_rfl) (by decide) (fun vs w => Try.call53 vs w)
theorem c53 : C_slices_EqualFunc___float32___float32_float32_float32_ Try.prog 53 := k_slices_EqualFunc___float32___float32_float32_float32_ fn53
theorem fn18 : Is_impl_SameState Try.prog 18 52 53 := FnIs.of Try.func18 (by kernel_rfl) (by kernel_rfl) (by kernel_rfl) (by decide) (fun vs w => Try.call18 vs w)
theorem c18 : C_impl_SameState Try.prog 18 := k_impl_SameState fn18 c52 c53
theorem fn28 : Is_laws_sameFloat Try.prog 28 := FnIs.of Try.func28 (by kernel_rfl) (by kernel_rfl) (by kernel_rfl) (by decide) (fun vs w => Try.call28 vs w)
theorem c28 : C_laws_sameFloat Try.prog 28 := k_laws_sameFloat fn28
theorem fn23 : Is_laws_eqFloat32S Try.prog 23 28 := FnIs.of Try.func23 (by kernel_rfl) (by kernel_rfl) (by kernel_rfl) (by decide) (fun vs w => Try.call23 vs w)
theorem c23 : C_laws_eqFloat32S Try.prog 23 := k_laws_eqFloat32S fn23 c28
theorem fn19 : Is_laws_eqState Try.prog 19 28 23 := FnIs.of Try.func19 (by kernel_rfl) (by kernel_rfl) (by kernel_rfl) (by decide) (fun vs w => Try.call19 vs w)
theorem c19 : C_laws_eqState Try.prog 19 := k_laws_eqState fn19 c28 c23
theorem fn3 : Is_laws_FnExactSameState Try.prog 3 15 17 16 18 19 := FnIs.of Try.func3 (by kernel_rfl) (by kernel_rfl) (by kernel_rfl) (by decide) (fun vs w => Try.call3 vs w)
theorem c3 : C_laws_FnExactSameState Try.prog 3 := k_laws_FnExactSameState fn3 c15 c17 c16 c18 c19
theorem law (xs : List AV) (h : ShapesT [.st [.f .f32, .f .f32, .sf .f32, .i .i64], .st [.f .f32, .f .f32, .sf .f32, .i .i64]] xs) : VCall Try.prog 3 (AV.viewL [] 0 xs) (.b true) := by
  obtain ⟨_, _, rfl, ⟨_, rfl, _, _, rfl, ⟨_, rfl, _⟩, _, _, rfl, ⟨_, rfl, _⟩, _, _, rfl, ⟨_, rfl, _, _⟩, _, _, rfl, ⟨_, rfl, _⟩, rfl⟩, _, _, rfl, ⟨_, rfl, _, _, rfl, ⟨_, rfl, _⟩, _, _, rfl, ⟨_, rfl, _⟩, _, _, rfl, ⟨_, rfl, _, _⟩, _, _, rfl, ⟨_, rfl, _⟩, rfl⟩, rfl⟩ := h
  exact c3 _ _ _ _ _ _ _ _ (by assumption) (by assumption)
set_option maxRecDepth 100000 in
theorem lifted (os : Os) (started : os.Started) (H : Type) (enc : TypeId × Value → H) :
    ReturnsInHanded {} Try.checked os 3 .any (Rows.fnExactSameStateSpec.pre6 enc Try.prog Try.f3 Rows.fnExactSameStateRow.domain false) (Rows.fnExactSameStateSpec.post enc Try.prog Try.f3 false true false false) := by
  refine returnsInHanded_of_change (C := Try.checked) own started (by kernel_rfl) Try.func3
    (ChangeSpec.witness6 (enc := enc) (C := Try.checked) false ⟨#[], #[.agg #[.float .f32 0, .float .f32 0, .slice none 0 0, .int .i64 0], .agg #[.float .f32 0, .float .f32 0, .slice none 0 0, .int .i64 0]], []⟩ 8 (by kernel_rfl) (by kernel_rfl) (by kernel_rfl) (by kernel_rfl)) ?_
  intro W base args ds gs before hval hW _ _
  exact law_post (P := Try.prog) (fn := Try.f3) (tys := [.st [.f .f32, .f .f32, .sf .f32, .i .i64], .st [.f .f32, .f .f32, .sf .f32, .i .i64]]) (by kernel_rfl) (by kernel_rfl) (by kernel_rfl) rfl
    (fun H ds hds => by
      match ds, hds with
      | [d0, d1], _ => rfl) (rt := 4) (by kernel_rfl) (by kernel_rfl) (fun vs w => Try.call3 vs w) law enc W base args ds gs before hval hW

theorem proved : Rows.FnExactSameStateSaid :=
  OpenClaim.holds_of_wide 3 Try.f3 rfl rfl rfl rfl rfl rfl rfl ⟨rfl, rfl, rfl, rfl, rfl⟩ rfl rfl rfl rfl rfl (by kernel_rfl) Try.func3 (by kernel_rfl)
    (of_decide_eq_true (by kernel_rfl)) (by unfold Func.isWrapper; first | (rw [if_pos (by decide +kernel)]; kernel_rfl) | (rw [if_neg (by decide +kernel)]; exact ⟨rfl, rfl⟩))
    (fun os started H enc _ => lifted os started H enc)
end Go.Proofs.Ytkcgiakliiadoaa.FnExactSameState
