/- The statement FnExactChanceNeeds, proved: whatever the input, the law returns true, and the input reads as it did. -/
import Derived.Test.YtkcgiakliiadoaaRows
import Derived.Test.YtkcgiakliiadoaaLvFnA
import Derived.Test.YtkcgiakliiadoaaLvFnB
import Derived.Test.YtkcgiakliiadoaaLvFnD
import Derived.Test.YtkcgiakliiadoaaLvFnE
import Derived.Test.YtkcgiakliiadoaaLvLawB
import Derived.JoinedOf
namespace Go.Proofs.Ytkcgiakliiadoaa.FnExactChanceNeeds
open Go.Proofs.LV Go.ChangeShapes Go.WideShapes Go.ChangeAt Go.RowKit
set_option linter.unusedVariables false
set_option linter.unusedSimpArgs false
theorem own : ownKnob Try.prog.godebug = none := by kernel_rfl
theorem fn21 : Is_laws_toFloat32S Try.prog 21 := FnIs.of Try.func21 (by kernel_rfl) (by kernel_rfl) (by kernel_rfl) (by decide) (fun vs w => Try.call21 vs w)
theorem c21 : C_laws_toFloat32S Try.prog 21 := k_laws_toFloat32S fn21
theorem fn66 : Is_spec_l01Finite Try.prog 66 := FnIs.of Try.func66 (by kernel_rfl) (by kernel_rfl) (by kernel_rfl) (by decide) (fun vs w => Try.call66 vs w)
theorem c66 : C_spec_l01Finite Try.prog 66 := k_spec_l01Finite fn66
theorem fn88 : Is_spec_l02Finite Try.prog 88 66 := FnIs.of Try.func88 (by kernel_rfl) (by kernel_rfl) (by kernel_rfl) (by decide) (fun vs w => Try.call88 vs w)
theorem c88 : C_spec_l02Finite Try.prog 88 := k_spec_l02Finite fn88 c66
theorem fn54 : Is_spec_l02Series Try.prog 54 88 := FnIs.of Try.func54 (by kernel_rfl) (by kernel_rfl) (by kernel_rfl) (by decide) (fun vs w => Try.call54 vs w)
theorem c54 : C_spec_l02Series Try.prog 54 := k_spec_l02Series fn54 c88
theorem fn55 : Is_spec_l02Share Try.prog 55 := FnIs.of Try.func55 (by kernel_rfl) (by kernel_rfl) (by kernel_rfl) (by decide) (fun vs w => Try.call55 vs w)
theorem c55 : C_spec_l02Share Try.prog 55 := k_spec_l02Share fn55
theorem fn62 : Is_spec_l04Needs Try.prog 62 := FnIs.of Try.func62 (by kernel_rfl) (by kernel_rfl) (by kernel_rfl) (by decide) (fun vs w => Try.call62 vs w)
theorem c62 : C_spec_l04Needs Try.prog 62 := k_spec_l04Needs fn62
theorem fn63 : Is_spec_l02Number Try.prog 63 66 := FnIs.of Try.func63 (by kernel_rfl) (by kernel_rfl) (by kernel_rfl) (by decide) (fun vs w => Try.call63 vs w)
theorem c63 : C_spec_l02Number Try.prog 63 := k_spec_l02Number fn63 c66
theorem fn26 : Is_spec_ChanceNeeds Try.prog 26 54 55 62 63 := FnIs.of Try.func26 (by kernel_rfl) (by kernel_rfl) (by kernel_rfl) (by decide) (fun vs w => Try.call26 vs w)
theorem c26 : C_spec_ChanceNeeds Try.prog 26 := k_spec_ChanceNeeds fn26 c54 c55 c62 c63
theorem fn106 : Is_slices_IndexFunc___float32_float32_ Try.prog 106 := FnIs.of Try.func106 (by kernel_rfl) (by kernel_rfl) (by kernel_rfl) (by decide) (fun vs w => Try.call106 vs w)
theorem c106 : C_slices_IndexFunc___float32_float32_ Try.prog 106 := k_slices_IndexFunc___float32_float32_ fn106
theorem fn116 : Is_slices_ContainsFunc___float32_float32_ Try.prog 116 106 := FnIs.of Try.func116 (by kernel_rfl) (by kernel_rfl) (by kernel_rfl) (by decide) (fun vs w => Try.call116 vs w)
theorem c116 : C_slices_ContainsFunc___float32_float32_ Try.prog 116 := k_slices_ContainsFunc___float32_float32_ fn116 c106
theorem fn93 : Is_impl_IsFinite Try.prog 93 := FnIs.of Try.func93 (by kernel_rfl) (by kernel_rfl) (by kernel_rfl) (by decide) (fun vs w => Try.call93 vs w)
theorem c93 : C_impl_IsFinite Try.prog 93 := k_impl_IsFinite fn93
theorem fn117 : Is_impl_areFinite_1 Try.prog 117 93 := FnIs.of Try.func117 (by kernel_rfl) (by kernel_rfl) (by kernel_rfl) (by decide) (fun vs w => Try.call117 vs w)
theorem c117 : C_impl_areFinite_1 Try.prog 117 := k_impl_areFinite_1 fn117 c93
theorem fn92 : Is_impl_areFinite Try.prog 92 116 117 := FnIs.of Try.func92 (by kernel_rfl) (by kernel_rfl) (by kernel_rfl) (by decide) (fun vs w => Try.call92 vs w)
theorem c92 : C_impl_areFinite Try.prog 92 := k_impl_areFinite fn92 c116 c117
theorem fn58 : Is_impl_IsSeries Try.prog 58 92 := FnIs.of Try.func58 (by kernel_rfl) (by kernel_rfl) (by kernel_rfl) (by decide) (fun vs w => Try.call58 vs w)
theorem c58 : C_impl_IsSeries Try.prog 58 := k_impl_IsSeries fn58 c92
theorem fn124 : Is_impl_areNotLess_1 Try.prog 124 93 := FnIs.of Try.func124 (by kernel_rfl) (by kernel_rfl) (by kernel_rfl) (by decide) (fun vs w => Try.call124 vs w)
theorem c124 : C_impl_areNotLess_1 Try.prog 124 := k_impl_areNotLess_1 fn124 c93
theorem fn105 : Is_impl_areNotLess Try.prog 105 116 124 := FnIs.of Try.func105 (by kernel_rfl) (by kernel_rfl) (by kernel_rfl) (by decide) (fun vs w => Try.call105 vs w)
theorem c105 : C_impl_areNotLess Try.prog 105 := k_impl_areNotLess fn105 c116 c124
theorem fn59 : Is_impl_isShare Try.prog 59 := FnIs.of Try.func59 (by kernel_rfl) (by kernel_rfl) (by kernel_rfl) (by decide) (fun vs w => Try.call59 vs w)
theorem c59 : C_impl_isShare Try.prog 59 := k_impl_isShare fn59
theorem fn107 : Is_impl_firstNeed_1 Try.prog 107 := FnIs.of Try.func107 (by kernel_rfl) (by kernel_rfl) (by kernel_rfl) (by decide) (fun vs w => Try.call107 vs w)
theorem c107 : C_impl_firstNeed_1 Try.prog 107 := k_impl_firstNeed_1 fn107
theorem fn64 : Is_impl_firstNeed Try.prog 64 58 105 59 106 107 := FnIs.of Try.func64 (by kernel_rfl) (by kernel_rfl) (by kernel_rfl) (by decide) (fun vs w => Try.call64 vs w)
theorem c64 : C_impl_firstNeed Try.prog 64 := k_impl_firstNeed fn64 c58 c105 c59 c106 c107
theorem fn65 : Is_impl_ifFinite Try.prog 65 93 := FnIs.of Try.func65 (by kernel_rfl) (by kernel_rfl) (by kernel_rfl) (by decide) (fun vs w => Try.call65 vs w)
theorem c65 : C_impl_ifFinite Try.prog 65 := k_impl_ifFinite fn65 c93
theorem fn27 : Is_impl_ChanceNeeds Try.prog 27 64 59 65 := FnIs.of Try.func27 (by kernel_rfl) (by kernel_rfl) (by kernel_rfl) (by decide) (fun vs w => Try.call27 vs w)
theorem c27 : C_impl_ChanceNeeds Try.prog 27 := k_impl_ChanceNeeds fn27 c64 c59 c65
theorem fn28 : Is_laws_sameFloat Try.prog 28 := FnIs.of Try.func28 (by kernel_rfl) (by kernel_rfl) (by kernel_rfl) (by decide) (fun vs w => Try.call28 vs w)
theorem c28 : C_laws_sameFloat Try.prog 28 := k_laws_sameFloat fn28
theorem fn23 : Is_laws_eqFloat32S Try.prog 23 28 := FnIs.of Try.func23 (by kernel_rfl) (by kernel_rfl) (by kernel_rfl) (by decide) (fun vs w => Try.call23 vs w)
theorem c23 : C_laws_eqFloat32S Try.prog 23 := k_laws_eqFloat32S fn23 c28
theorem fn5 : Is_laws_FnExactChanceNeeds Try.prog 5 21 26 27 28 23 := FnIs.of Try.func5 (by kernel_rfl) (by kernel_rfl) (by kernel_rfl) (by decide) (fun vs w => Try.call5 vs w)
theorem c5 : C_laws_FnExactChanceNeeds Try.prog 5 := k_laws_FnExactChanceNeeds fn5 c21 c26 c27 c28 c23
theorem law (xs : List AV) (h : ShapesT [.one (.sf .f32), .one (.f .f32), .one (.f .f32)] xs) : VCall Try.prog 5 (AV.viewL [] 0 xs) (.b true) := by
  obtain ⟨_, _, rfl, ⟨_, rfl, _, _⟩, _, _, rfl, ⟨_, rfl, _⟩, _, _, rfl, ⟨_, rfl, _⟩, rfl⟩ := h
  exact c5 _ _ _ (by assumption)
set_option maxRecDepth 100000 in
theorem lifted (os : Os) (started : os.Started) (H : Type) (enc : TypeId × Value → H) :
    ReturnsInHanded {} Try.checked os 5 .any (Rows.fnExactChanceNeedsSpec.pre6 enc Try.prog Try.f5 Rows.fnExactChanceNeedsRow.domain false) (Rows.fnExactChanceNeedsSpec.post enc Try.prog Try.f5 false true false false) := by
  refine returnsInHanded_of_change (C := Try.checked) own started (by kernel_rfl) Try.func5
    (ChangeSpec.witness6 (enc := enc) (C := Try.checked) false ⟨#[], #[.slice none 0 0, .float .f32 0, .float .f32 0], []⟩ 8 (by kernel_rfl) (by kernel_rfl) (by kernel_rfl) (by kernel_rfl)) ?_
  intro W base args ds gs before hval hW _ _
  exact law_post (P := Try.prog) (fn := Try.f5) (tys := [.one (.sf .f32), .one (.f .f32), .one (.f .f32)]) (by kernel_rfl) (by kernel_rfl) (by kernel_rfl) rfl
    (fun H ds hds => by
      match ds, hds with
      | [d0, d1, d2], _ => rfl) (rt := 4) (by kernel_rfl) (by kernel_rfl) (fun vs w => Try.call5 vs w) law enc W base args ds gs before hval hW

theorem proved : Rows.FnExactChanceNeedsSaid :=
  OpenClaim.holds_of_wide 5 Try.f5 rfl rfl rfl rfl rfl rfl rfl ⟨rfl, rfl, rfl, rfl, rfl⟩ rfl rfl rfl rfl rfl (by kernel_rfl) Try.func5 (by kernel_rfl)
    (of_decide_eq_true (by kernel_rfl)) (by unfold Func.isWrapper; first | (rw [if_pos (by decide +kernel)]; kernel_rfl) | (rw [if_neg (by decide +kernel)]; exact ⟨rfl, rfl⟩))
    (fun os started H enc _ => lifted os started H enc)
end Go.Proofs.Ytkcgiakliiadoaa.FnExactChanceNeeds
