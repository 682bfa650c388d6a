/- The statement FnExactMiddleSlope, proved: whatever the input, the law returns true, and the input reads as it did. -/
import Derived.Test.YtdjjpckpcfkgiaaRows
import Derived.Test.YtdjjpckpcfkgiaaLvFnA
import Derived.Test.YtdjjpckpcfkgiaaLvFnB
import Derived.Test.YtdjjpckpcfkgiaaLvFnO
import Derived.Test.YtdjjpckpcfkgiaaLvFnS
import Derived.Test.YtdjjpckpcfkgiaaLvFnT
import Derived.Test.YtdjjpckpcfkgiaaLvFnU
import Derived.Test.YtdjjpckpcfkgiaaLvFnV
import Derived.Test.YtdjjpckpcfkgiaaLvFnX
import Derived.Test.YtdjjpckpcfkgiaaLvLawM
import Derived.JoinedOf
namespace Go.Proofs.Ytdjjpckpcfkgiaa.FnExactMiddleSlope
open Go.Proofs.LV Go.ChangeShapes Go.WideShapes Go.ChangeAt Go.RowKit
set_option linter.unusedVariables false
set_option linter.unusedSimpArgs false
theorem own : ownKnob Try.prog.godebug = none := by kernel_rfl
theorem fn25 : Is_laws_toFloat32S Try.prog 25 := FnIs.of Try.func25 (by kernel_rfl) (by kernel_rfl) (by kernel_rfl) (by decide) (fun vs w => Try.call25 vs w)
theorem c25 : C_laws_toFloat32S Try.prog 25 := k_laws_toFloat32S fn25
theorem fn52 : Is_spec_l01Finite Try.prog 52 := FnIs.of Try.func52 (by kernel_rfl) (by kernel_rfl) (by kernel_rfl) (by decide) (fun vs w => Try.call52 vs w)
theorem c52 : C_spec_l01Finite Try.prog 52 := k_spec_l01Finite fn52
theorem fn72 : Is_spec_l02Finite Try.prog 72 52 := FnIs.of Try.func72 (by kernel_rfl) (by kernel_rfl) (by kernel_rfl) (by decide) (fun vs w => Try.call72 vs w)
theorem c72 : C_spec_l02Finite Try.prog 72 := k_spec_l02Finite fn72 c52
theorem fn60 : Is_spec_l02Series Try.prog 60 72 := FnIs.of Try.func60 (by kernel_rfl) (by kernel_rfl) (by kernel_rfl) (by decide) (fun vs w => Try.call60 vs w)
theorem c60 : C_spec_l02Series Try.prog 60 := k_spec_l02Series fn60 c72
theorem fn104 : Is_spec_l03Sorted Try.prog 104 := FnIs.of Try.func104 (by kernel_rfl) (by kernel_rfl) (by kernel_rfl) (by decide) (fun vs w => Try.call104 vs w)
theorem c104 : C_spec_l03Sorted Try.prog 104 := k_spec_l03Sorted fn104
theorem fn42 : Is_spec_MiddleSlope Try.prog 42 60 72 104 := FnIs.of Try.func42 (by kernel_rfl) (by kernel_rfl) (by kernel_rfl) (by decide) (fun vs w => Try.call42 vs w)
theorem c42 : C_spec_MiddleSlope Try.prog 42 := k_spec_MiddleSlope fn42 c60 c72 c104
theorem fn144 : Is_slices_IndexFunc___float32_float32_ Try.prog 144 := FnIs.of Try.func144 (by kernel_rfl) (by kernel_rfl) (by kernel_rfl) (by decide) (fun vs w => Try.call144 vs w)
theorem c144 : C_slices_IndexFunc___float32_float32_ Try.prog 144 := k_slices_IndexFunc___float32_float32_ fn144
theorem fn124 : Is_slices_ContainsFunc___float32_float32_ Try.prog 124 144 := FnIs.of Try.func124 (by kernel_rfl) (by kernel_rfl) (by kernel_rfl) (by decide) (fun vs w => Try.call124 vs w)
theorem c124 : C_slices_ContainsFunc___float32_float32_ Try.prog 124 := k_slices_ContainsFunc___float32_float32_ fn124 c144
theorem fn57 : Is_impl_IsFinite Try.prog 57 := FnIs.of Try.func57 (by kernel_rfl) (by kernel_rfl) (by kernel_rfl) (by decide) (fun vs w => Try.call57 vs w)
theorem c57 : C_impl_IsFinite Try.prog 57 := k_impl_IsFinite fn57
theorem fn125 : Is_impl_areFinite_1 Try.prog 125 57 := FnIs.of Try.func125 (by kernel_rfl) (by kernel_rfl) (by kernel_rfl) (by decide) (fun vs w => Try.call125 vs w)
theorem c125 : C_impl_areFinite_1 Try.prog 125 := k_impl_areFinite_1 fn125 c57
theorem fn81 : Is_impl_areFinite Try.prog 81 124 125 := FnIs.of Try.func81 (by kernel_rfl) (by kernel_rfl) (by kernel_rfl) (by decide) (fun vs w => Try.call81 vs w)
theorem c81 : C_impl_areFinite Try.prog 81 := k_impl_areFinite fn81 c124 c125
theorem fn63 : Is_impl_IsSeries Try.prog 63 81 := FnIs.of Try.func63 (by kernel_rfl) (by kernel_rfl) (by kernel_rfl) (by decide) (fun vs w => Try.call63 vs w)
theorem c63 : C_impl_IsSeries Try.prog 63 := k_impl_IsSeries fn63 c81
theorem fn92 : Is_slices_Clone___float32_float32_ Try.prog 92 := FnIs.of Try.func92 (by kernel_rfl) (by kernel_rfl) (by kernel_rfl) (by decide) (fun vs w => Try.call92 vs w)
theorem c92 : C_slices_Clone___float32_float32_ Try.prog 92 := k_slices_Clone___float32_float32_ fn92
theorem fn149 : Is_slices_insertionSortCmpFunc_float32_ Try.prog 149 := FnIs.of Try.func149 (by kernel_rfl) (by kernel_rfl) (by kernel_rfl) (by decide) (fun vs w => Try.call149 vs w)
theorem c149 : C_slices_insertionSortCmpFunc_float32_ Try.prog 149 := k_slices_insertionSortCmpFunc_float32_ fn149
theorem fn152 : Is_slices_swapRangeCmpFunc_float32_ Try.prog 152 := FnIs.of Try.func152 (by kernel_rfl) (by kernel_rfl) (by kernel_rfl) (by decide) (fun vs w => Try.call152 vs w)
theorem c152 : C_slices_swapRangeCmpFunc_float32_ Try.prog 152 := k_slices_swapRangeCmpFunc_float32_ fn152
theorem fn151 : Is_slices_rotateCmpFunc_float32_ Try.prog 151 152 := FnIs.of Try.func151 (by kernel_rfl) (by kernel_rfl) (by kernel_rfl) (by decide) (fun vs w => Try.call151 vs w)
theorem c151 : C_slices_rotateCmpFunc_float32_ Try.prog 151 := k_slices_rotateCmpFunc_float32_ fn151 c152
theorem fn150 : Is_slices_symMergeCmpFunc_float32_ Try.prog 150 151 150 := FnIs.of Try.func150 (by kernel_rfl) (by kernel_rfl) (by kernel_rfl) (by decide) (fun vs w => Try.call150 vs w)
theorem c150 : C_slices_symMergeCmpFunc_float32_ Try.prog 150 := k_slices_symMergeCmpFunc_float32_ fn150 c151
theorem fn148 : Is_slices_stableCmpFunc_float32_ Try.prog 148 149 150 := FnIs.of Try.func148 (by kernel_rfl) (by kernel_rfl) (by kernel_rfl) (by decide) (fun vs w => Try.call148 vs w)
theorem c148 : C_slices_stableCmpFunc_float32_ Try.prog 148 := k_slices_stableCmpFunc_float32_ fn148 c149 c150
theorem fn137 : Is_slices_SortStableFunc___float32_float32_ Try.prog 137 148 := FnIs.of Try.func137 (by kernel_rfl) (by kernel_rfl) (by kernel_rfl) (by decide) (fun vs w => Try.call137 vs w)
theorem c137 : C_slices_SortStableFunc___float32_float32_ Try.prog 137 := k_slices_SortStableFunc___float32_float32_ fn137 c148
theorem fn138 : Is_impl_sorted_1 Try.prog 138 := FnIs.of Try.func138 (by kernel_rfl) (by kernel_rfl) (by kernel_rfl) (by decide) (fun vs w => Try.call138 vs w)
theorem c138 : C_impl_sorted_1 Try.prog 138 := k_impl_sorted_1 fn138
theorem fn105 : Is_impl_sorted Try.prog 105 92 137 138 := FnIs.of Try.func105 (by kernel_rfl) (by kernel_rfl) (by kernel_rfl) (by decide) (fun vs w => Try.call105 vs w)
theorem c105 : C_impl_sorted Try.prog 105 := k_impl_sorted fn105 c92 c137 c138
theorem fn43 : Is_impl_MiddleSlope Try.prog 43 63 81 105 := FnIs.of Try.func43 (by kernel_rfl) (by kernel_rfl) (by kernel_rfl) (by decide) (fun vs w => Try.call43 vs w)
theorem c43 : C_impl_MiddleSlope Try.prog 43 := k_impl_MiddleSlope fn43 c63 c81 c105
theorem fn21 : Is_laws_sameFloat Try.prog 21 := FnIs.of Try.func21 (by kernel_rfl) (by kernel_rfl) (by kernel_rfl) (by decide) (fun vs w => Try.call21 vs w)
theorem c21 : C_laws_sameFloat Try.prog 21 := k_laws_sameFloat fn21
theorem fn27 : Is_laws_eqFloat32S Try.prog 27 21 := FnIs.of Try.func27 (by kernel_rfl) (by kernel_rfl) (by kernel_rfl) (by decide) (fun vs w => Try.call27 vs w)
theorem c27 : C_laws_eqFloat32S Try.prog 27 := k_laws_eqFloat32S fn27 c21
theorem fn11 : Is_laws_FnExactMiddleSlope Try.prog 11 25 42 43 21 27 := FnIs.of Try.func11 (by kernel_rfl) (by kernel_rfl) (by kernel_rfl) (by decide) (fun vs w => Try.call11 vs w)
theorem c11 : C_laws_FnExactMiddleSlope Try.prog 11 := k_laws_FnExactMiddleSlope fn11 c25 c42 c43 c21 c27
theorem law (xs : List AV) (h : ShapesT [.one (.sf .f32)] xs) : VCall Try.prog 11 (AV.viewL [] 0 xs) (.b true) := by
  obtain ⟨_, _, rfl, ⟨_, rfl, _, _⟩, rfl⟩ := h
  exact c11 _ (by assumption)
set_option maxRecDepth 100000 in
theorem lifted (os : Os) (started : os.Started) (H : Type) (enc : TypeId × Value → H) :
    ReturnsInHanded {} Try.checked os 11 .any (Rows.fnExactMiddleSlopeSpec.pre6 enc Try.prog Try.f11 Rows.fnExactMiddleSlopeRow.domain false) (Rows.fnExactMiddleSlopeSpec.post enc Try.prog Try.f11 false true false false) := by
  refine returnsInHanded_of_change (C := Try.checked) own started (by kernel_rfl) Try.func11
    (ChangeSpec.witness6 (enc := enc) (C := Try.checked) false ⟨#[], #[.slice none 0 0], []⟩ 8 (by kernel_rfl) (by kernel_rfl) (by kernel_rfl) (by kernel_rfl)) ?_
  intro W base args ds gs before hval hW _ _
  exact law_post (P := Try.prog) (fn := Try.f11) (tys := [.one (.sf .f32)]) (by kernel_rfl) (by kernel_rfl) (by kernel_rfl) rfl
    (fun H ds hds => by
      match ds, hds with
      | [d0], _ => rfl) (rt := 4) (by kernel_rfl) (by kernel_rfl) (fun vs w => Try.call11 vs w) law enc W base args ds gs before hval hW

theorem proved : Rows.FnExactMiddleSlopeSaid :=
  OpenClaim.holds_of_wide 11 Try.f11 rfl rfl rfl rfl rfl rfl rfl ⟨rfl, rfl, rfl, rfl, rfl⟩ rfl rfl rfl rfl rfl (by kernel_rfl) Try.func11 (by kernel_rfl)
    (of_decide_eq_true (by kernel_rfl)) (by unfold Func.isWrapper; first | (rw [if_pos (by decide +kernel)]; kernel_rfl) | (rw [if_neg (by decide +kernel)]; exact ⟨rfl, rfl⟩))
    (fun os started H enc _ => lifted os started H enc)
end Go.Proofs.Ytdjjpckpcfkgiaa.FnExactMiddleSlope
