/- The statement FnExactStepWaves, proved: whatever the input, the law returns true, and the input reads as it did. -/
import Derived.Test.YtplfalnldkbliaaRows
import Derived.Test.YtplfalnldkbliaaLvFnA
import Derived.Test.YtplfalnldkbliaaLvFnB
import Derived.Test.YtplfalnldkbliaaLvFnW
import Derived.Test.YtplfalnldkbliaaLvLawL
import Derived.JoinedOf
namespace Go.Proofs.Ytplfalnldkbliaa.FnExactStepWaves
open Go.Proofs.LV Go.ChangeShapes Go.WideShapes Go.ChangeAt Go.RowKit
set_option linter.unusedVariables false
set_option linter.unusedSimpArgs false
theorem own : ownKnob Try.prog.godebug = none := by kernel_rfl
theorem fn17 : Is_laws_toFloat32S Try.prog 17 := FnIs.of Try.func17 (by kernel_rfl) (by kernel_rfl) (by kernel_rfl) (by decide) (fun vs w => Try.call17 vs w)
theorem c17 : C_laws_toFloat32S Try.prog 17 := k_laws_toFloat32S fn17
theorem fn42 : Is_spec_l01Finite Try.prog 42 := FnIs.of Try.func42 (by kernel_rfl) (by kernel_rfl) (by kernel_rfl) (by decide) (fun vs w => Try.call42 vs w)
theorem c42 : C_spec_l01Finite Try.prog 42 := k_spec_l01Finite fn42
theorem fn37 : Is_spec_l02Finite Try.prog 37 42 := FnIs.of Try.func37 (by kernel_rfl) (by kernel_rfl) (by kernel_rfl) (by decide) (fun vs w => Try.call37 vs w)
theorem c37 : C_spec_l02Finite Try.prog 37 := k_spec_l02Finite fn37 c42
theorem fn36 : Is_spec_l02Series Try.prog 36 37 := FnIs.of Try.func36 (by kernel_rfl) (by kernel_rfl) (by kernel_rfl) (by decide) (fun vs w => Try.call36 vs w)
theorem c36 : C_spec_l02Series Try.prog 36 := k_spec_l02Series fn36 c37
theorem fn20 : Is_spec_StepWaves Try.prog 20 36 37 := FnIs.of Try.func20 (by kernel_rfl) (by kernel_rfl) (by kernel_rfl) (by decide) (fun vs w => Try.call20 vs w)
theorem c20 : C_spec_StepWaves Try.prog 20 := k_spec_StepWaves fn20 c36 c37
theorem fn47 : Is_slices_IndexFunc___float32_float32_ Try.prog 47 := FnIs.of Try.func47 (by kernel_rfl) (by kernel_rfl) (by kernel_rfl) (by decide) (fun vs w => Try.call47 vs w)
theorem c47 : C_slices_IndexFunc___float32_float32_ Try.prog 47 := k_slices_IndexFunc___float32_float32_ fn47
theorem fn44 : Is_slices_ContainsFunc___float32_float32_ Try.prog 44 47 := FnIs.of Try.func44 (by kernel_rfl) (by kernel_rfl) (by kernel_rfl) (by decide) (fun vs w => Try.call44 vs w)
theorem c44 : C_slices_ContainsFunc___float32_float32_ Try.prog 44 := k_slices_ContainsFunc___float32_float32_ fn44 c47
theorem fn46 : Is_impl_IsFinite Try.prog 46 := FnIs.of Try.func46 (by kernel_rfl) (by kernel_rfl) (by kernel_rfl) (by decide) (fun vs w => Try.call46 vs w)
theorem c46 : C_impl_IsFinite Try.prog 46 := k_impl_IsFinite fn46
theorem fn45 : Is_impl_areFinite_1 Try.prog 45 46 := FnIs.of Try.func45 (by kernel_rfl) (by kernel_rfl) (by kernel_rfl) (by decide) (fun vs w => Try.call45 vs w)
theorem c45 : C_impl_areFinite_1 Try.prog 45 := k_impl_areFinite_1 fn45 c46
theorem fn30 : Is_impl_areFinite Try.prog 30 44 45 := FnIs.of Try.func30 (by kernel_rfl) (by kernel_rfl) (by kernel_rfl) (by decide) (fun vs w => Try.call30 vs w)
theorem c30 : C_impl_areFinite Try.prog 30 := k_impl_areFinite fn30 c44 c45
theorem fn38 : Is_impl_IsSeries Try.prog 38 30 := FnIs.of Try.func38 (by kernel_rfl) (by kernel_rfl) (by kernel_rfl) (by decide) (fun vs w => Try.call38 vs w)
theorem c38 : C_impl_IsSeries Try.prog 38 := k_impl_IsSeries fn38 c30
theorem fn21 : Is_impl_StepWaves Try.prog 21 38 30 := FnIs.of Try.func21 (by kernel_rfl) (by kernel_rfl) (by kernel_rfl) (by decide) (fun vs w => Try.call21 vs w)
theorem c21 : C_impl_StepWaves Try.prog 21 := k_impl_StepWaves fn21 c38 c30
theorem fn32 : Is_laws_sameFloat Try.prog 32 := FnIs.of Try.func32 (by kernel_rfl) (by kernel_rfl) (by kernel_rfl) (by decide) (fun vs w => Try.call32 vs w)
theorem c32 : C_laws_sameFloat Try.prog 32 := k_laws_sameFloat fn32
theorem fn19 : Is_laws_eqFloat32S Try.prog 19 32 := FnIs.of Try.func19 (by kernel_rfl) (by kernel_rfl) (by kernel_rfl) (by decide) (fun vs w => Try.call19 vs w)
theorem c19 : C_laws_eqFloat32S Try.prog 19 := k_laws_eqFloat32S fn19 c32
theorem fn22 : Is_laws_markFloat32S Try.prog 22 := FnIs.of Try.func22 (by kernel_rfl) (by kernel_rfl) (by kernel_rfl) (by decide) (fun vs w => Try.call22 vs w)
theorem c22 : C_laws_markFloat32S Try.prog 22 := k_laws_markFloat32S fn22
theorem fn23 : Is_laws_heldFloat32S Try.prog 23 := FnIs.of Try.func23 (by kernel_rfl) (by kernel_rfl) (by kernel_rfl) (by decide) (fun vs w => Try.call23 vs w)
theorem c23 : C_laws_heldFloat32S Try.prog 23 := k_laws_heldFloat32S fn23
theorem fn6 : Is_laws_FnExactStepWaves Try.prog 6 17 20 21 19 22 23 := FnIs.of Try.func6 (by kernel_rfl) (by kernel_rfl) (by kernel_rfl) (by decide) (fun vs w => Try.call6 vs w)
theorem c6 : C_laws_FnExactStepWaves Try.prog 6 := k_laws_FnExactStepWaves fn6 c17 c20 c21 c19 c22 c23
theorem law (xs : List AV) (h : ShapesT [.one (.sf .f32)] xs) : VCall Try.prog 6 (AV.viewL [] 0 xs) (.b true) := by
  obtain ⟨_, _, rfl, ⟨_, rfl, _, _⟩, rfl⟩ := h
  exact c6 _ (by assumption)
set_option maxRecDepth 100000 in
theorem lifted (os : Os) (started : os.Started) (H : Type) (enc : TypeId × Value → H) :
    ReturnsInHanded {} Try.checked os 6 .any (Rows.fnExactStepWavesSpec.pre6 enc Try.prog Try.f6 Rows.fnExactStepWavesRow.domain false) (Rows.fnExactStepWavesSpec.post enc Try.prog Try.f6 false true false false) := by
  refine returnsInHanded_of_change (C := Try.checked) own started (by kernel_rfl) Try.func6
    (ChangeSpec.witness6 (enc := enc) (C := Try.checked) false ⟨#[], #[.slice none 0 0], []⟩ 8 (by kernel_rfl) (by kernel_rfl) (by kernel_rfl) (by kernel_rfl)) ?_
  intro W base args ds gs before hval hW _ _
  exact law_post (P := Try.prog) (fn := Try.f6) (tys := [.one (.sf .f32)]) (by kernel_rfl) (by kernel_rfl) (by kernel_rfl) rfl
    (fun H ds hds => by
      match ds, hds with
      | [d0], _ => rfl) (rt := 4) (by kernel_rfl) (by kernel_rfl) (fun vs w => Try.call6 vs w) law enc W base args ds gs before hval hW

theorem proved : Rows.FnExactStepWavesSaid :=
  OpenClaim.holds_of_wide 6 Try.f6 rfl rfl rfl rfl rfl rfl rfl ⟨rfl, rfl, rfl, rfl, rfl⟩ rfl rfl rfl rfl rfl (by kernel_rfl) Try.func6 (by kernel_rfl)
    (of_decide_eq_true (by kernel_rfl)) (by unfold Func.isWrapper; first | (rw [if_pos (by decide +kernel)]; kernel_rfl) | (rw [if_neg (by decide +kernel)]; exact ⟨rfl, rfl⟩))
    (fun os started H enc _ => lifted os started H enc)
end Go.Proofs.Ytplfalnldkbliaa.FnExactStepWaves
