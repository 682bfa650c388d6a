/- The statement FnUndone, proved: whatever the input, the law returns true, and the input reads as it did. -/
import Derived.Test.YtjfgmnfkkehgfaaRows
import Derived.Test.YtjfgmnfkkehgfaaLvAbsX
import Derived.Test.YtjfgmnfkkehgfaaLvExtX
import Derived.Test.YtjfgmnfkkehgfaaLvFnF
import Derived.Test.YtjfgmnfkkehgfaaLvFnFFX
import Derived.Test.YtjfgmnfkkehgfaaLvFnK
import Derived.Test.YtjfgmnfkkehgfaaLvFnIX
import Derived.Test.YtjfgmnfkkehgfaaLvFnOOX
import Derived.Test.YtjfgmnfkkehgfaaLvFnPP
import Derived.Test.YtjfgmnfkkehgfaaLvFnRRX
import Derived.Test.YtjfgmnfkkehgfaaLvFnS
import Derived.Test.YtjfgmnfkkehgfaaLvFnT
import Derived.Test.YtjfgmnfkkehgfaaLvFnU
import Derived.Test.YtjfgmnfkkehgfaaLvFnXX
import Derived.Test.YtjfgmnfkkehgfaaLvLawFF
import Derived.JoinedOf
namespace Go.Proofs.Ytjfgmnfkkehgfaa.FnUndone
open Go.Proofs.LV Go.ChangeShapes Go.WideShapes Go.ChangeAt Go.RowKit
set_option linter.unusedVariables false
set_option linter.unusedSimpArgs false
theorem own : ownKnob Try.prog.godebug = none := by kernel_rfl
theorem fn39 : Is_laws_r8Long Try.prog 39 := FnIs.of Try.func39 (by kernel_rfl) (by kernel_rfl) (by kernel_rfl) (by decide) (fun vs w => Try.call39 vs w)
theorem c39 : C_laws_r8Long Try.prog 39 := k_laws_r8Long fn39
theorem fn40 : Is_laws_r8At Try.prog 40 := FnIs.of Try.func40 (by kernel_rfl) (by kernel_rfl) (by kernel_rfl) (by decide) (fun vs w => Try.call40 vs w)
theorem c40 : C_laws_r8At Try.prog 40 := k_laws_r8At fn40
theorem fn128 : Is_spec_l00From Try.prog 128 := FnIs.of Try.func128 (by kernel_rfl) (by kernel_rfl) (by kernel_rfl) (by decide) (fun vs w => Try.call128 vs w)
theorem c128 : C_spec_l00From Try.prog 128 := k_spec_l00From fn128
theorem fn191 : Is_spec_l00Src__next Try.prog 191 := FnIs.of Try.func191 (by kernel_rfl) (by kernel_rfl) (by kernel_rfl) (by decide) (fun vs w => Try.call191 vs w)
theorem c191 : C_spec_l00Src__next Try.prog 191 := k_spec_l00Src__next fn191
theorem fn167 : Is_spec_l00Src__pick Try.prog 167 191 := FnIs.of Try.func167 (by kernel_rfl) (by kernel_rfl) (by kernel_rfl) (by decide) (fun vs w => Try.call167 vs w)
theorem c167 : C_spec_l00Src__pick Try.prog 167 := k_spec_l00Src__pick fn167 c191
theorem fn135 : Is_spec_l02DrawOk Try.prog 135 167 := FnIs.of Try.func135 (by kernel_rfl) (by kernel_rfl) (by kernel_rfl) (by decide) (fun vs w => Try.call135 vs w)
theorem c135 : C_spec_l02DrawOk Try.prog 135 := k_spec_l02DrawOk fn135 c167
theorem fn60 : Is_spec_R8Series Try.prog 60 128 135 := FnIs.of Try.func60 (by kernel_rfl) (by kernel_rfl) (by kernel_rfl) (by decide) (fun vs w => Try.call60 vs w)
theorem c60 : C_spec_R8Series Try.prog 60 := k_spec_R8Series fn60 c128 c135
theorem fn177 : Is_slices_IndexFunc___float32_float32_ Try.prog 177 := FnIs.of Try.func177 (by kernel_rfl) (by kernel_rfl) (by kernel_rfl) (by decide) (fun vs w => Try.call177 vs w)
theorem c177 : C_slices_IndexFunc___float32_float32_ Try.prog 177 := k_slices_IndexFunc___float32_float32_ fn177
theorem fn154 : Is_slices_ContainsFunc___float32_float32_ Try.prog 154 177 := FnIs.of Try.func154 (by kernel_rfl) (by kernel_rfl) (by kernel_rfl) (by decide) (fun vs w => Try.call154 vs w)
theorem c154 : C_slices_ContainsFunc___float32_float32_ Try.prog 154 := k_slices_ContainsFunc___float32_float32_ fn154 c177
theorem fn112 : Is_impl_IsFinite Try.prog 112 := FnIs.of Try.func112 (by kernel_rfl) (by kernel_rfl) (by kernel_rfl) (by decide) (fun vs w => Try.call112 vs w)
theorem c112 : C_impl_IsFinite Try.prog 112 := k_impl_IsFinite fn112
theorem fn155 : Is_impl_areFinite_1 Try.prog 155 112 := FnIs.of Try.func155 (by kernel_rfl) (by kernel_rfl) (by kernel_rfl) (by decide) (fun vs w => Try.call155 vs w)
theorem c155 : C_impl_areFinite_1 Try.prog 155 := k_impl_areFinite_1 fn155 c112
theorem fn96 : Is_impl_areFinite Try.prog 96 154 155 := FnIs.of Try.func96 (by kernel_rfl) (by kernel_rfl) (by kernel_rfl) (by decide) (fun vs w => Try.call96 vs w)
theorem c96 : C_impl_areFinite Try.prog 96 := k_impl_areFinite fn96 c154 c155
theorem fn77 : Is_impl_IsSeries Try.prog 77 96 := FnIs.of Try.func77 (by kernel_rfl) (by kernel_rfl) (by kernel_rfl) (by decide) (fun vs w => Try.call77 vs w)
theorem c77 : C_impl_IsSeries Try.prog 77 := k_impl_IsSeries fn77 c96
theorem fn90 : Is_impl_within Try.prog 90 := FnIs.of Try.func90 (by kernel_rfl) (by kernel_rfl) (by kernel_rfl) (by decide) (fun vs w => Try.call90 vs w)
theorem c90 : C_impl_within Try.prog 90 := k_impl_within fn90
theorem fn93 : Is_impl_less Try.prog 93 := FnIs.of Try.func93 (by kernel_rfl) (by kernel_rfl) (by kernel_rfl) (by decide) (fun vs w => Try.call93 vs w)
theorem c93 : C_impl_less Try.prog 93 := k_impl_less fn93
theorem fn102 : Is_impl_ifAll Try.prog 102 96 := FnIs.of Try.func102 (by kernel_rfl) (by kernel_rfl) (by kernel_rfl) (by decide) (fun vs w => Try.call102 vs w)
theorem c102 : C_impl_ifAll Try.prog 102 := k_impl_ifAll fn102 c96
theorem fn61 : Is_impl_LagDifferences Try.prog 61 77 90 93 102 := FnIs.of Try.func61 (by kernel_rfl) (by kernel_rfl) (by kernel_rfl) (by decide) (fun vs w => Try.call61 vs w)
theorem c61 : C_impl_LagDifferences Try.prog 61 := k_impl_LagDifferences fn61 c77 c90 c93 c102
theorem fn136 : Is_slices_Clone___float32_float32_ Try.prog 136 := FnIs.of Try.func136 (by kernel_rfl) (by kernel_rfl) (by kernel_rfl) (by decide) (fun vs w => Try.call136 vs w)
theorem c136 : C_slices_Clone___float32_float32_ Try.prog 136 := k_slices_Clone___float32_float32_ fn136
theorem fn62 : Is_impl_UndoDifferences Try.prog 62 77 136 102 := FnIs.of Try.func62 (by kernel_rfl) (by kernel_rfl) (by kernel_rfl) (by decide) (fun vs w => Try.call62 vs w)
theorem c62 : C_impl_UndoDifferences Try.prog 62 := k_impl_UndoDifferences fn62 c77 c136 c102
theorem fn63 : Is_impl_RunningSums Try.prog 63 77 102 := FnIs.of Try.func63 (by kernel_rfl) (by kernel_rfl) (by kernel_rfl) (by decide) (fun vs w => Try.call63 vs w)
theorem c63 : C_impl_RunningSums Try.prog 63 := k_impl_RunningSums fn63 c77 c102
theorem fn64 : Is_laws_r8Gap Try.prog 64 := FnIs.of Try.func64 (by kernel_rfl) (by kernel_rfl) (by kernel_rfl) (by decide) (fun vs w => Try.call64 vs w)
theorem c64 : C_laws_r8Gap Try.prog 64 := k_laws_r8Gap fn64
theorem fn88 : Is_impl_isPeriodOf Try.prog 88 77 90 := FnIs.of Try.func88 (by kernel_rfl) (by kernel_rfl) (by kernel_rfl) (by decide) (fun vs w => Try.call88 vs w)
theorem c88 : C_impl_isPeriodOf Try.prog 88 := k_impl_isPeriodOf fn88 c77 c90
theorem fn137 : Is_impl_addUp Try.prog 137 := FnIs.of Try.func137 (by kernel_rfl) (by kernel_rfl) (by kernel_rfl) (by decide) (fun vs w => Try.call137 vs w)
theorem c137 : C_impl_addUp Try.prog 137 := k_impl_addUp fn137
theorem fn65 : Is_impl_JoinSteps Try.prog 65 88 137 102 := FnIs.of Try.func65 (by kernel_rfl) (by kernel_rfl) (by kernel_rfl) (by decide) (fun vs w => Try.call65 vs w)
theorem c65 : C_impl_JoinSteps Try.prog 65 := k_impl_JoinSteps fn65 c88 c137 c102
theorem fn66 : Is_impl_ThinSteps Try.prog 66 88 := FnIs.of Try.func66 (by kernel_rfl) (by kernel_rfl) (by kernel_rfl) (by decide) (fun vs w => Try.call66 vs w)
theorem c66 : C_impl_ThinSteps Try.prog 66 := k_impl_ThinSteps fn66 c88
theorem fn89 : Is_impl_isSide Try.prog 89 90 := FnIs.of Try.func89 (by kernel_rfl) (by kernel_rfl) (by kernel_rfl) (by decide) (fun vs w => Try.call89 vs w)
theorem c89 : C_impl_isSide Try.prog 89 := k_impl_isSide fn89 c90
theorem fn92 : Is_impl_moving Try.prog 92 := FnIs.of Try.func92 (by kernel_rfl) (by kernel_rfl) (by kernel_rfl) (by decide) (fun vs w => Try.call92 vs w)
theorem c92 : C_impl_moving Try.prog 92 := k_impl_moving fn92
theorem fn94 : Is_impl_mean Try.prog 94 137 := FnIs.of Try.func94 (by kernel_rfl) (by kernel_rfl) (by kernel_rfl) (by decide) (fun vs w => Try.call94 vs w)
theorem c94 : C_impl_mean Try.prog 94 := k_impl_mean fn94 c137
theorem fn67 : Is_impl_MovingMean Try.prog 67 77 89 92 94 102 := FnIs.of Try.func67 (by kernel_rfl) (by kernel_rfl) (by kernel_rfl) (by decide) (fun vs w => Try.call67 vs w)
theorem c67 : C_impl_MovingMean Try.prog 67 := k_impl_MovingMean fn67 c77 c89 c92 c94 c102
theorem fn201 : Is_slices_insertionSortCmpFunc_float32_ Try.prog 201 := FnIs.of Try.func201 (by kernel_rfl) (by kernel_rfl) (by kernel_rfl) (by decide) (fun vs w => Try.call201 vs w)
theorem c201 : C_slices_insertionSortCmpFunc_float32_ Try.prog 201 := k_slices_insertionSortCmpFunc_float32_ fn201
theorem fn211 : Is_slices_swapRangeCmpFunc_float32_ Try.prog 211 := FnIs.of Try.func211 (by kernel_rfl) (by kernel_rfl) (by kernel_rfl) (by decide) (fun vs w => Try.call211 vs w)
theorem c211 : C_slices_swapRangeCmpFunc_float32_ Try.prog 211 := k_slices_swapRangeCmpFunc_float32_ fn211
theorem fn208 : Is_slices_rotateCmpFunc_float32_ Try.prog 208 211 := FnIs.of Try.func208 (by kernel_rfl) (by kernel_rfl) (by kernel_rfl) (by decide) (fun vs w => Try.call208 vs w)
theorem c208 : C_slices_rotateCmpFunc_float32_ Try.prog 208 := k_slices_rotateCmpFunc_float32_ fn208 c211
theorem fn202 : Is_slices_symMergeCmpFunc_float32_ Try.prog 202 208 202 := FnIs.of Try.func202 (by kernel_rfl) (by kernel_rfl) (by kernel_rfl) (by decide) (fun vs w => Try.call202 vs w)
theorem c202 : C_slices_symMergeCmpFunc_float32_ Try.prog 202 := k_slices_symMergeCmpFunc_float32_ fn202 c208
theorem fn194 : Is_slices_stableCmpFunc_float32_ Try.prog 194 201 202 := FnIs.of Try.func194 (by kernel_rfl) (by kernel_rfl) (by kernel_rfl) (by decide) (fun vs w => Try.call194 vs w)
theorem c194 : C_slices_stableCmpFunc_float32_ Try.prog 194 := k_slices_stableCmpFunc_float32_ fn194 c201 c202
theorem fn172 : Is_slices_SortStableFunc___float32_float32_ Try.prog 172 194 := FnIs.of Try.func172 (by kernel_rfl) (by kernel_rfl) (by kernel_rfl) (by decide) (fun vs w => Try.call172 vs w)
theorem c172 : C_slices_SortStableFunc___float32_float32_ Try.prog 172 := k_slices_SortStableFunc___float32_float32_ fn172 c194
theorem fn173 : Is_impl_sorted_1 Try.prog 173 := FnIs.of Try.func173 (by kernel_rfl) (by kernel_rfl) (by kernel_rfl) (by decide) (fun vs w => Try.call173 vs w)
theorem c173 : C_impl_sorted_1 Try.prog 173 := k_impl_sorted_1 fn173
theorem fn144 : Is_impl_sorted Try.prog 144 136 172 173 := FnIs.of Try.func144 (by kernel_rfl) (by kernel_rfl) (by kernel_rfl) (by decide) (fun vs w => Try.call144 vs w)
theorem c144 : C_impl_sorted Try.prog 144 := k_impl_sorted fn144 c136 c172 c173
theorem fn138 : Is_impl_median Try.prog 138 144 := FnIs.of Try.func138 (by kernel_rfl) (by kernel_rfl) (by kernel_rfl) (by decide) (fun vs w => Try.call138 vs w)
theorem c138 : C_impl_median Try.prog 138 := k_impl_median fn138 c144
theorem fn68 : Is_impl_MovingMedian Try.prog 68 77 89 92 138 102 := FnIs.of Try.func68 (by kernel_rfl) (by kernel_rfl) (by kernel_rfl) (by decide) (fun vs w => Try.call68 vs w)
theorem c68 : C_impl_MovingMedian Try.prog 68 := k_impl_MovingMedian fn68 c77 c89 c92 c138 c102
theorem fn170 : Is_slices_Index___bool_bool_ Try.prog 170 := FnIs.of Try.func170 (by kernel_rfl) (by kernel_rfl) (by kernel_rfl) (by decide) (fun vs w => Try.call170 vs w)
theorem c170 : C_slices_Index___bool_bool_ Try.prog 170 := k_slices_Index___bool_bool_ fn170
theorem fn139 : Is_slices_Contains___bool_bool_ Try.prog 139 170 := FnIs.of Try.func139 (by kernel_rfl) (by kernel_rfl) (by kernel_rfl) (by decide) (fun vs w => Try.call139 vs w)
theorem c139 : C_slices_Contains___bool_bool_ Try.prog 139 := k_slices_Contains___bool_bool_ fn139 c170
theorem fn69 : Is_impl_FillGaps Try.prog 69 139 112 102 := FnIs.of Try.func69 (by kernel_rfl) (by kernel_rfl) (by kernel_rfl) (by decide) (fun vs w => Try.call69 vs w)
theorem c69 : C_impl_FillGaps Try.prog 69 := k_impl_FillGaps fn69 c139 c112 c102
theorem fn12 : Is_laws_FnUndone Try.prog 12 39 40 60 61 62 63 64 65 66 67 68 69 := FnIs.of Try.func12 (by kernel_rfl) (by kernel_rfl) (by kernel_rfl) (by decide) (fun vs w => Try.call12 vs w)
theorem c12 : C_laws_FnUndone Try.prog 12 := k_laws_FnUndone fn12 c39 c40 c60 c61 c62 c63 c64 c65 c66 c67 c68 c69
theorem law (xs : List AV) (h : ShapesT [.one (.si .u8), .one (.si .u8)] xs) : VCall Try.prog 12 (AV.viewL [] 0 xs) (.b true) := by
  obtain ⟨_, _, rfl, ⟨_, rfl, _, _⟩, _, _, rfl, ⟨_, rfl, _, _⟩, rfl⟩ := h
  exact c12 _ _
set_option maxRecDepth 100000 in
theorem lifted (os : Os) (started : os.Started) (H : Type) (enc : TypeId × Value → H) :
    ReturnsInHanded {} Try.checked os 12 .any (Rows.fnUndoneSpec.pre6 enc Try.prog Try.f12 Rows.fnUndoneRow.domain false) (Rows.fnUndoneSpec.post enc Try.prog Try.f12 false true false false) := by
  refine returnsInHanded_of_change (C := Try.checked) own started (by kernel_rfl) Try.func12
    (ChangeSpec.witness6 (enc := enc) (C := Try.checked) false ⟨#[], #[.slice none 0 0, .slice none 0 0], []⟩ 8 (by kernel_rfl) (by kernel_rfl) (by kernel_rfl) (by kernel_rfl)) ?_
  intro W base args ds gs before hval hW _ _
  exact law_post (P := Try.prog) (fn := Try.f12) (tys := [.one (.si .u8), .one (.si .u8)]) (by kernel_rfl) (by kernel_rfl) (by kernel_rfl) rfl
    (fun H ds hds => by
      match ds, hds with
      | [d0, d1], _ => rfl) (rt := 4) (by kernel_rfl) (by kernel_rfl) (fun vs w => Try.call12 vs w) law enc W base args ds gs before hval hW

theorem proved : Rows.FnUndoneSaid :=
  OpenClaim.holds_of_wide 12 Try.f12 rfl rfl rfl rfl rfl rfl rfl ⟨rfl, rfl, rfl, rfl, rfl⟩ rfl rfl rfl rfl rfl (by kernel_rfl) Try.func12 (by kernel_rfl)
    (of_decide_eq_true (by kernel_rfl)) (by unfold Func.isWrapper; first | (rw [if_pos (by decide +kernel)]; kernel_rfl) | (rw [if_neg (by decide +kernel)]; exact ⟨rfl, rfl⟩))
    (fun os started H enc _ => lifted os started H enc)
end Go.Proofs.Ytjfgmnfkkehgfaa.FnUndone
