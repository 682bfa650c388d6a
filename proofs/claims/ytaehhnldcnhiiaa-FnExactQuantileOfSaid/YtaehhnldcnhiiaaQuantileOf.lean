/- The statement FnExactQuantileOf, proved: whatever the input, the law returns true, and the input reads as it did. -/
import Derived.Test.YtaehhnldcnhiiaaRows
import Derived.Test.YtaehhnldcnhiiaaLvFnA
import Derived.Test.YtaehhnldcnhiiaaLvFnB
import Derived.Test.YtaehhnldcnhiiaaLvFnD
import Derived.Test.YtaehhnldcnhiiaaLvFnO
import Derived.Test.YtaehhnldcnhiiaaLvFnR
import Derived.Test.YtaehhnldcnhiiaaLvFnS
import Derived.Test.YtaehhnldcnhiiaaLvFnT
import Derived.Test.YtaehhnldcnhiiaaLvFnU
import Derived.Test.YtaehhnldcnhiiaaLvFnV
import Derived.Test.YtaehhnldcnhiiaaLvFnX
import Derived.Test.YtaehhnldcnhiiaaLvLawQ
import Derived.JoinedOf
namespace Go.Proofs.Ytaehhnldcnhiiaa.FnExactQuantileOf
open Go.Proofs.LV Go.ChangeShapes Go.WideShapes Go.ChangeAt Go.RowKit
set_option linter.unusedVariables false
set_option linter.unusedSimpArgs false
theorem own : ownKnob Try.prog.godebug = none := by kernel_rfl
theorem fn11 : Is_laws_toFloat32S Try.prog 11 := FnIs.of Try.func11 (by kernel_rfl) (by kernel_rfl) (by kernel_rfl) (by decide) (fun vs w => Try.call11 vs w)
theorem c11 : C_laws_toFloat32S Try.prog 11 := k_laws_toFloat32S fn11
theorem fn101 : Is_spec_l01Finite Try.prog 101 := FnIs.of Try.func101 (by kernel_rfl) (by kernel_rfl) (by kernel_rfl) (by decide) (fun vs w => Try.call101 vs w)
theorem c101 : C_spec_l01Finite Try.prog 101 := k_spec_l01Finite fn101
theorem fn90 : Is_spec_l02Finite Try.prog 90 101 := FnIs.of Try.func90 (by kernel_rfl) (by kernel_rfl) (by kernel_rfl) (by decide) (fun vs w => Try.call90 vs w)
theorem c90 : C_spec_l02Finite Try.prog 90 := k_spec_l02Finite fn90 c101
theorem fn46 : Is_spec_l02Series Try.prog 46 90 := FnIs.of Try.func46 (by kernel_rfl) (by kernel_rfl) (by kernel_rfl) (by decide) (fun vs w => Try.call46 vs w)
theorem c46 : C_spec_l02Series Try.prog 46 := k_spec_l02Series fn46 c90
theorem fn67 : Is_spec_l02Share Try.prog 67 := FnIs.of Try.func67 (by kernel_rfl) (by kernel_rfl) (by kernel_rfl) (by decide) (fun vs w => Try.call67 vs w)
theorem c67 : C_spec_l02Share Try.prog 67 := k_spec_l02Share fn67
theorem fn99 : Is_spec_l02Sorted Try.prog 99 := FnIs.of Try.func99 (by kernel_rfl) (by kernel_rfl) (by kernel_rfl) (by decide) (fun vs w => Try.call99 vs w)
theorem c99 : C_spec_l02Sorted Try.prog 99 := k_spec_l02Sorted fn99
theorem fn69 : Is_spec_l02Quantile Try.prog 69 99 := FnIs.of Try.func69 (by kernel_rfl) (by kernel_rfl) (by kernel_rfl) (by decide) (fun vs w => Try.call69 vs w)
theorem c69 : C_spec_l02Quantile Try.prog 69 := k_spec_l02Quantile fn69 c99
theorem fn68 : Is_spec_l02Number Try.prog 68 101 := FnIs.of Try.func68 (by kernel_rfl) (by kernel_rfl) (by kernel_rfl) (by decide) (fun vs w => Try.call68 vs w)
theorem c68 : C_spec_l02Number Try.prog 68 := k_spec_l02Number fn68 c101
theorem fn26 : Is_spec_QuantileOf Try.prog 26 46 67 69 68 := FnIs.of Try.func26 (by kernel_rfl) (by kernel_rfl) (by kernel_rfl) (by decide) (fun vs w => Try.call26 vs w)
theorem c26 : C_spec_QuantileOf Try.prog 26 := k_spec_QuantileOf fn26 c46 c67 c69 c68
theorem fn124 : Is_slices_IndexFunc___float32_float32_ Try.prog 124 := FnIs.of Try.func124 (by kernel_rfl) (by kernel_rfl) (by kernel_rfl) (by decide) (fun vs w => Try.call124 vs w)
theorem c124 : C_slices_IndexFunc___float32_float32_ Try.prog 124 := k_slices_IndexFunc___float32_float32_ fn124
theorem fn102 : Is_slices_ContainsFunc___float32_float32_ Try.prog 102 124 := FnIs.of Try.func102 (by kernel_rfl) (by kernel_rfl) (by kernel_rfl) (by decide) (fun vs w => Try.call102 vs w)
theorem c102 : C_slices_ContainsFunc___float32_float32_ Try.prog 102 := k_slices_ContainsFunc___float32_float32_ fn102 c124
theorem fn104 : Is_impl_IsFinite Try.prog 104 := FnIs.of Try.func104 (by kernel_rfl) (by kernel_rfl) (by kernel_rfl) (by decide) (fun vs w => Try.call104 vs w)
theorem c104 : C_impl_IsFinite Try.prog 104 := k_impl_IsFinite fn104
theorem fn105 : Is_impl_areFinite_1 Try.prog 105 104 := FnIs.of Try.func105 (by kernel_rfl) (by kernel_rfl) (by kernel_rfl) (by decide) (fun vs w => Try.call105 vs w)
theorem c105 : C_impl_areFinite_1 Try.prog 105 := k_impl_areFinite_1 fn105 c104
theorem fn65 : Is_impl_areFinite Try.prog 65 102 105 := FnIs.of Try.func65 (by kernel_rfl) (by kernel_rfl) (by kernel_rfl) (by decide) (fun vs w => Try.call65 vs w)
theorem c65 : C_impl_areFinite Try.prog 65 := k_impl_areFinite fn65 c102 c105
theorem fn49 : Is_impl_IsSeries Try.prog 49 65 := FnIs.of Try.func49 (by kernel_rfl) (by kernel_rfl) (by kernel_rfl) (by decide) (fun vs w => Try.call49 vs w)
theorem c49 : C_impl_IsSeries Try.prog 49 := k_impl_IsSeries fn49 c65
theorem fn70 : Is_impl_isShare Try.prog 70 := FnIs.of Try.func70 (by kernel_rfl) (by kernel_rfl) (by kernel_rfl) (by decide) (fun vs w => Try.call70 vs w)
theorem c70 : C_impl_isShare Try.prog 70 := k_impl_isShare fn70
theorem fn74 : Is_slices_Clone___float32_float32_ Try.prog 74 := FnIs.of Try.func74 (by kernel_rfl) (by kernel_rfl) (by kernel_rfl) (by decide) (fun vs w => Try.call74 vs w)
theorem c74 : C_slices_Clone___float32_float32_ Try.prog 74 := k_slices_Clone___float32_float32_ fn74
theorem fn136 : Is_slices_insertionSortCmpFunc_float32_ Try.prog 136 := FnIs.of Try.func136 (by kernel_rfl) (by kernel_rfl) (by kernel_rfl) (by decide) (fun vs w => Try.call136 vs w)
theorem c136 : C_slices_insertionSortCmpFunc_float32_ Try.prog 136 := k_slices_insertionSortCmpFunc_float32_ fn136
theorem fn146 : Is_slices_swapRangeCmpFunc_float32_ Try.prog 146 := FnIs.of Try.func146 (by kernel_rfl) (by kernel_rfl) (by kernel_rfl) (by decide) (fun vs w => Try.call146 vs w)
theorem c146 : C_slices_swapRangeCmpFunc_float32_ Try.prog 146 := k_slices_swapRangeCmpFunc_float32_ fn146
theorem fn143 : Is_slices_rotateCmpFunc_float32_ Try.prog 143 146 := FnIs.of Try.func143 (by kernel_rfl) (by kernel_rfl) (by kernel_rfl) (by decide) (fun vs w => Try.call143 vs w)
theorem c143 : C_slices_rotateCmpFunc_float32_ Try.prog 143 := k_slices_rotateCmpFunc_float32_ fn143 c146
theorem fn137 : Is_slices_symMergeCmpFunc_float32_ Try.prog 137 143 137 := FnIs.of Try.func137 (by kernel_rfl) (by kernel_rfl) (by kernel_rfl) (by decide) (fun vs w => Try.call137 vs w)
theorem c137 : C_slices_symMergeCmpFunc_float32_ Try.prog 137 := k_slices_symMergeCmpFunc_float32_ fn137 c143
theorem fn125 : Is_slices_stableCmpFunc_float32_ Try.prog 125 136 137 := FnIs.of Try.func125 (by kernel_rfl) (by kernel_rfl) (by kernel_rfl) (by decide) (fun vs w => Try.call125 vs w)
theorem c125 : C_slices_stableCmpFunc_float32_ Try.prog 125 := k_slices_stableCmpFunc_float32_ fn125 c136 c137
theorem fn106 : Is_slices_SortStableFunc___float32_float32_ Try.prog 106 125 := FnIs.of Try.func106 (by kernel_rfl) (by kernel_rfl) (by kernel_rfl) (by decide) (fun vs w => Try.call106 vs w)
theorem c106 : C_slices_SortStableFunc___float32_float32_ Try.prog 106 := k_slices_SortStableFunc___float32_float32_ fn106 c125
theorem fn107 : Is_impl_sorted_1 Try.prog 107 := FnIs.of Try.func107 (by kernel_rfl) (by kernel_rfl) (by kernel_rfl) (by decide) (fun vs w => Try.call107 vs w)
theorem c107 : C_impl_sorted_1 Try.prog 107 := k_impl_sorted_1 fn107
theorem fn71 : Is_impl_sorted Try.prog 71 74 106 107 := FnIs.of Try.func71 (by kernel_rfl) (by kernel_rfl) (by kernel_rfl) (by decide) (fun vs w => Try.call71 vs w)
theorem c71 : C_impl_sorted Try.prog 71 := k_impl_sorted fn71 c74 c106 c107
theorem fn126 : ExtIs Try.prog 126 (Extern.MathFloor.toIntegral "math.archFloor" .down) := ExtIs.of Try.func126 (by kernel_rfl) (by kernel_rfl) (by kernel_rfl) (by kernel_rfl)
theorem c126 : C_math_archFloor Try.prog 126 := k_math_archFloor fn126
theorem fn108 : Is_math_Floor Try.prog 108 126 127 := FnIs.of Try.func108 (by kernel_rfl) (by kernel_rfl) (by kernel_rfl) (by decide) (fun vs w => Try.call108 vs w)
theorem c108 : C_math_Floor Try.prog 108 := k_math_Floor fn108 c126
theorem fn72 : Is_impl_floorOf Try.prog 72 108 := FnIs.of Try.func72 (by kernel_rfl) (by kernel_rfl) (by kernel_rfl) (by decide) (fun vs w => Try.call72 vs w)
theorem c72 : C_impl_floorOf Try.prog 72 := k_impl_floorOf fn72 c108
theorem fn73 : Is_impl_ifFinite Try.prog 73 104 := FnIs.of Try.func73 (by kernel_rfl) (by kernel_rfl) (by kernel_rfl) (by decide) (fun vs w => Try.call73 vs w)
theorem c73 : C_impl_ifFinite Try.prog 73 := k_impl_ifFinite fn73 c104
theorem fn27 : Is_impl_QuantileOf Try.prog 27 49 70 71 72 73 := FnIs.of Try.func27 (by kernel_rfl) (by kernel_rfl) (by kernel_rfl) (by decide) (fun vs w => Try.call27 vs w)
theorem c27 : C_impl_QuantileOf Try.prog 27 := k_impl_QuantileOf fn27 c49 c70 c71 c72 c73
theorem fn28 : Is_laws_sameFloat Try.prog 28 := FnIs.of Try.func28 (by kernel_rfl) (by kernel_rfl) (by kernel_rfl) (by decide) (fun vs w => Try.call28 vs w)
theorem c28 : C_laws_sameFloat Try.prog 28 := k_laws_sameFloat fn28
theorem fn14 : Is_laws_eqFloat32S Try.prog 14 28 := FnIs.of Try.func14 (by kernel_rfl) (by kernel_rfl) (by kernel_rfl) (by decide) (fun vs w => Try.call14 vs w)
theorem c14 : C_laws_eqFloat32S Try.prog 14 := k_laws_eqFloat32S fn14 c28
theorem fn6 : Is_laws_FnExactQuantileOf Try.prog 6 11 26 27 28 14 := FnIs.of Try.func6 (by kernel_rfl) (by kernel_rfl) (by kernel_rfl) (by decide) (fun vs w => Try.call6 vs w)
theorem c6 : C_laws_FnExactQuantileOf Try.prog 6 := k_laws_FnExactQuantileOf fn6 c11 c26 c27 c28 c14
theorem law (xs : List AV) (h : ShapesT [.one (.sf .f32), .one (.f .f32)] xs) : VCall Try.prog 6 (AV.viewL [] 0 xs) (.b true) := by
  obtain ⟨_, _, rfl, ⟨_, rfl, _, _⟩, _, _, rfl, ⟨_, rfl, _⟩, rfl⟩ := h
  exact c6 _ _ (by assumption)
set_option maxRecDepth 100000 in
theorem lifted (os : Os) (started : os.Started) (H : Type) (enc : TypeId × Value → H) :
    ReturnsInHanded {} Try.checked os 6 .any (Rows.fnExactQuantileOfSpec.pre6 enc Try.prog Try.f6 Rows.fnExactQuantileOfRow.domain false) (Rows.fnExactQuantileOfSpec.post enc Try.prog Try.f6 false true false false) := by
  refine returnsInHanded_of_change (C := Try.checked) own started (by kernel_rfl) Try.func6
    (ChangeSpec.witness6 (enc := enc) (C := Try.checked) false ⟨#[], #[.slice none 0 0, .float .f32 0], []⟩ 8 (by kernel_rfl) (by kernel_rfl) (by kernel_rfl) (by kernel_rfl)) ?_
  intro W base args ds gs before hval hW _ _
  exact law_post (P := Try.prog) (fn := Try.f6) (tys := [.one (.sf .f32), .one (.f .f32)]) (by kernel_rfl) (by kernel_rfl) (by kernel_rfl) rfl
    (fun H ds hds => by
      match ds, hds with
      | [d0, d1], _ => rfl) (rt := 4) (by kernel_rfl) (by kernel_rfl) (fun vs w => Try.call6 vs w) law enc W base args ds gs before hval hW

theorem proved : Rows.FnExactQuantileOfSaid :=
  OpenClaim.holds_of_wide 6 Try.f6 rfl rfl rfl rfl rfl rfl rfl ⟨rfl, rfl, rfl, rfl, rfl⟩ rfl rfl rfl rfl rfl (by kernel_rfl) Try.func6 (by kernel_rfl)
    (of_decide_eq_true (by kernel_rfl)) (by unfold Func.isWrapper; first | (rw [if_pos (by decide +kernel)]; kernel_rfl) | (rw [if_neg (by decide +kernel)]; exact ⟨rfl, rfl⟩))
    (fun os started H enc _ => lifted os started H enc)
end Go.Proofs.Ytaehhnldcnhiiaa.FnExactQuantileOf
