/- The statement FnNumbersOf, proved: whatever the input, the law returns true, and the input reads as it did. -/
import Derived.Test.YtjfgmnfkkehgfaaRows
import Derived.Test.YtjfgmnfkkehgfaaLvAbsX
import Derived.Test.YtjfgmnfkkehgfaaLvExtX
import Derived.Test.YtjfgmnfkkehgfaaLvFnCX
import Derived.Test.YtjfgmnfkkehgfaaLvFnF
import Derived.Test.YtjfgmnfkkehgfaaLvFnGX
import Derived.Test.YtjfgmnfkkehgfaaLvFnMX
import Derived.Test.YtjfgmnfkkehgfaaLvFnOO
import Derived.Test.YtjfgmnfkkehgfaaLvFnQQ
import Derived.Test.YtjfgmnfkkehgfaaLvFnRX
import Derived.Test.YtjfgmnfkkehgfaaLvRatTX
import Derived.Test.YtjfgmnfkkehgfaaLvFnS
import Derived.Test.YtjfgmnfkkehgfaaLvFnT
import Derived.Test.YtjfgmnfkkehgfaaLvFnU
import Derived.Test.YtjfgmnfkkehgfaaLvHalfX
import Derived.Test.YtjfgmnfkkehgfaaLvLawGG
import Derived.JoinedOf
namespace Go.Proofs.Ytjfgmnfkkehgfaa.FnNumbersOf
open Go.Proofs.LV Go.ChangeShapes Go.WideShapes Go.ChangeAt Go.RowKit
set_option linter.unusedVariables false
set_option linter.unusedSimpArgs false
theorem own : ownKnob Try.prog.godebug = none := by kernel_rfl
theorem fn39 : Is_laws_r8Long Try.prog 39 := FnIs.of Try.func39 (by kernel_rfl) (by kernel_rfl) (by kernel_rfl) (by decide) (fun vs w => Try.call39 vs w)
theorem c39 : C_laws_r8Long Try.prog 39 := k_laws_r8Long fn39
theorem fn40 : Is_laws_r8At Try.prog 40 := FnIs.of Try.func40 (by kernel_rfl) (by kernel_rfl) (by kernel_rfl) (by decide) (fun vs w => Try.call40 vs w)
theorem c40 : C_laws_r8At Try.prog 40 := k_laws_r8At fn40
theorem fn128 : Is_spec_l00From Try.prog 128 := FnIs.of Try.func128 (by kernel_rfl) (by kernel_rfl) (by kernel_rfl) (by decide) (fun vs w => Try.call128 vs w)
theorem c128 : C_spec_l00From Try.prog 128 := k_spec_l00From fn128
theorem fn191 : Is_spec_l00Src__next Try.prog 191 := FnIs.of Try.func191 (by kernel_rfl) (by kernel_rfl) (by kernel_rfl) (by decide) (fun vs w => Try.call191 vs w)
theorem c191 : C_spec_l00Src__next Try.prog 191 := k_spec_l00Src__next fn191
theorem fn167 : Is_spec_l00Src__pick Try.prog 167 191 := FnIs.of Try.func167 (by kernel_rfl) (by kernel_rfl) (by kernel_rfl) (by decide) (fun vs w => Try.call167 vs w)
theorem c167 : C_spec_l00Src__pick Try.prog 167 := k_spec_l00Src__pick fn167 c191
theorem fn135 : Is_spec_l02DrawOk Try.prog 135 167 := FnIs.of Try.func135 (by kernel_rfl) (by kernel_rfl) (by kernel_rfl) (by decide) (fun vs w => Try.call135 vs w)
theorem c135 : C_spec_l02DrawOk Try.prog 135 := k_spec_l02DrawOk fn135 c167
theorem fn60 : Is_spec_R8Series Try.prog 60 128 135 := FnIs.of Try.func60 (by kernel_rfl) (by kernel_rfl) (by kernel_rfl) (by decide) (fun vs w => Try.call60 vs w)
theorem c60 : C_spec_R8Series Try.prog 60 := k_spec_R8Series fn60 c128 c135
theorem fn177 : Is_slices_IndexFunc___float32_float32_ Try.prog 177 := FnIs.of Try.func177 (by kernel_rfl) (by kernel_rfl) (by kernel_rfl) (by decide) (fun vs w => Try.call177 vs w)
theorem c177 : C_slices_IndexFunc___float32_float32_ Try.prog 177 := k_slices_IndexFunc___float32_float32_ fn177
theorem fn154 : Is_slices_ContainsFunc___float32_float32_ Try.prog 154 177 := FnIs.of Try.func154 (by kernel_rfl) (by kernel_rfl) (by kernel_rfl) (by decide) (fun vs w => Try.call154 vs w)
theorem c154 : C_slices_ContainsFunc___float32_float32_ Try.prog 154 := k_slices_ContainsFunc___float32_float32_ fn154 c177
theorem fn112 : Is_impl_IsFinite Try.prog 112 := FnIs.of Try.func112 (by kernel_rfl) (by kernel_rfl) (by kernel_rfl) (by decide) (fun vs w => Try.call112 vs w)
theorem c112 : C_impl_IsFinite Try.prog 112 := k_impl_IsFinite fn112
theorem fn155 : Is_impl_areFinite_1 Try.prog 155 112 := FnIs.of Try.func155 (by kernel_rfl) (by kernel_rfl) (by kernel_rfl) (by decide) (fun vs w => Try.call155 vs w)
theorem c155 : C_impl_areFinite_1 Try.prog 155 := k_impl_areFinite_1 fn155 c112
theorem fn96 : Is_impl_areFinite Try.prog 96 154 155 := FnIs.of Try.func96 (by kernel_rfl) (by kernel_rfl) (by kernel_rfl) (by decide) (fun vs w => Try.call96 vs w)
theorem c96 : C_impl_areFinite Try.prog 96 := k_impl_areFinite fn96 c154 c155
theorem fn77 : Is_impl_IsSeries Try.prog 77 96 := FnIs.of Try.func77 (by kernel_rfl) (by kernel_rfl) (by kernel_rfl) (by decide) (fun vs w => Try.call77 vs w)
theorem c77 : C_impl_IsSeries Try.prog 77 := k_impl_IsSeries fn77 c96
theorem fn137 : Is_impl_addUp Try.prog 137 := FnIs.of Try.func137 (by kernel_rfl) (by kernel_rfl) (by kernel_rfl) (by decide) (fun vs w => Try.call137 vs w)
theorem c137 : C_impl_addUp Try.prog 137 := k_impl_addUp fn137
theorem fn94 : Is_impl_mean Try.prog 94 137 := FnIs.of Try.func94 (by kernel_rfl) (by kernel_rfl) (by kernel_rfl) (by decide) (fun vs w => Try.call94 vs w)
theorem c94 : C_impl_mean Try.prog 94 := k_impl_mean fn94 c137
theorem fn141 : Is_impl_ifFinite Try.prog 141 112 := FnIs.of Try.func141 (by kernel_rfl) (by kernel_rfl) (by kernel_rfl) (by decide) (fun vs w => Try.call141 vs w)
theorem c141 : C_impl_ifFinite Try.prog 141 := k_impl_ifFinite fn141 c112
theorem fn72 : Is_impl_MeanOf Try.prog 72 77 94 141 := FnIs.of Try.func72 (by kernel_rfl) (by kernel_rfl) (by kernel_rfl) (by decide) (fun vs w => Try.call72 vs w)
theorem c72 : C_impl_MeanOf Try.prog 72 := k_impl_MeanOf fn72 c77 c94 c141
theorem fn153 : Is_impl_lessOne Try.prog 153 := FnIs.of Try.func153 (by kernel_rfl) (by kernel_rfl) (by kernel_rfl) (by decide) (fun vs w => Try.call153 vs w)
theorem c153 : C_impl_lessOne Try.prog 153 := k_impl_lessOne fn153
theorem fn111 : Is_impl_dot Try.prog 111 := FnIs.of Try.func111 (by kernel_rfl) (by kernel_rfl) (by kernel_rfl) (by decide) (fun vs w => Try.call111 vs w)
theorem c111 : C_impl_dot Try.prog 111 := k_impl_dot fn111
theorem fn140 : Is_impl_squares Try.prog 140 94 153 111 := FnIs.of Try.func140 (by kernel_rfl) (by kernel_rfl) (by kernel_rfl) (by decide) (fun vs w => Try.call140 vs w)
theorem c140 : C_impl_squares Try.prog 140 := k_impl_squares fn140 c94 c153 c111
theorem fn193 : ExtIs Try.prog 193 Extern.MathSqrt.sqrt := ExtIs.of Try.func193 (by kernel_rfl) (by kernel_rfl) (by kernel_rfl) (by kernel_rfl)
theorem c193 : C_math_sqrt Try.prog 193 := k_math_sqrt fn193
theorem fn171 : Is_math_Sqrt Try.prog 171 193 := FnIs.of Try.func171 (by kernel_rfl) (by kernel_rfl) (by kernel_rfl) (by decide) (fun vs w => Try.call171 vs w)
theorem c171 : C_math_Sqrt Try.prog 171 := k_math_Sqrt fn171 c193
theorem fn142 : Is_impl_RootNumber Try.prog 142 171 := FnIs.of Try.func142 (by kernel_rfl) (by kernel_rfl) (by kernel_rfl) (by decide) (fun vs w => Try.call142 vs w)
theorem c142 : C_impl_RootNumber Try.prog 142 := k_impl_RootNumber fn142 c171
theorem fn73 : Is_impl_SpreadOf Try.prog 73 77 140 142 141 := FnIs.of Try.func73 (by kernel_rfl) (by kernel_rfl) (by kernel_rfl) (by decide) (fun vs w => Try.call73 vs w)
theorem c73 : C_impl_SpreadOf Try.prog 73 := k_impl_SpreadOf fn73 c77 c140 c142 c141
theorem fn136 : Is_slices_Clone___float32_float32_ Try.prog 136 := FnIs.of Try.func136 (by kernel_rfl) (by kernel_rfl) (by kernel_rfl) (by decide) (fun vs w => Try.call136 vs w)
theorem c136 : C_slices_Clone___float32_float32_ Try.prog 136 := k_slices_Clone___float32_float32_ fn136
theorem fn201 : Is_slices_insertionSortCmpFunc_float32_ Try.prog 201 := FnIs.of Try.func201 (by kernel_rfl) (by kernel_rfl) (by kernel_rfl) (by decide) (fun vs w => Try.call201 vs w)
theorem c201 : C_slices_insertionSortCmpFunc_float32_ Try.prog 201 := k_slices_insertionSortCmpFunc_float32_ fn201
theorem fn211 : Is_slices_swapRangeCmpFunc_float32_ Try.prog 211 := FnIs.of Try.func211 (by kernel_rfl) (by kernel_rfl) (by kernel_rfl) (by decide) (fun vs w => Try.call211 vs w)
theorem c211 : C_slices_swapRangeCmpFunc_float32_ Try.prog 211 := k_slices_swapRangeCmpFunc_float32_ fn211
theorem fn208 : Is_slices_rotateCmpFunc_float32_ Try.prog 208 211 := FnIs.of Try.func208 (by kernel_rfl) (by kernel_rfl) (by kernel_rfl) (by decide) (fun vs w => Try.call208 vs w)
theorem c208 : C_slices_rotateCmpFunc_float32_ Try.prog 208 := k_slices_rotateCmpFunc_float32_ fn208 c211
theorem fn202 : Is_slices_symMergeCmpFunc_float32_ Try.prog 202 208 202 := FnIs.of Try.func202 (by kernel_rfl) (by kernel_rfl) (by kernel_rfl) (by decide) (fun vs w => Try.call202 vs w)
theorem c202 : C_slices_symMergeCmpFunc_float32_ Try.prog 202 := k_slices_symMergeCmpFunc_float32_ fn202 c208
theorem fn194 : Is_slices_stableCmpFunc_float32_ Try.prog 194 201 202 := FnIs.of Try.func194 (by kernel_rfl) (by kernel_rfl) (by kernel_rfl) (by decide) (fun vs w => Try.call194 vs w)
theorem c194 : C_slices_stableCmpFunc_float32_ Try.prog 194 := k_slices_stableCmpFunc_float32_ fn194 c201 c202
theorem fn172 : Is_slices_SortStableFunc___float32_float32_ Try.prog 172 194 := FnIs.of Try.func172 (by kernel_rfl) (by kernel_rfl) (by kernel_rfl) (by decide) (fun vs w => Try.call172 vs w)
theorem c172 : C_slices_SortStableFunc___float32_float32_ Try.prog 172 := k_slices_SortStableFunc___float32_float32_ fn172 c194
theorem fn173 : Is_impl_sorted_1 Try.prog 173 := FnIs.of Try.func173 (by kernel_rfl) (by kernel_rfl) (by kernel_rfl) (by decide) (fun vs w => Try.call173 vs w)
theorem c173 : C_impl_sorted_1 Try.prog 173 := k_impl_sorted_1 fn173
theorem fn144 : Is_impl_sorted Try.prog 144 136 172 173 := FnIs.of Try.func144 (by kernel_rfl) (by kernel_rfl) (by kernel_rfl) (by decide) (fun vs w => Try.call144 vs w)
theorem c144 : C_impl_sorted Try.prog 144 := k_impl_sorted fn144 c136 c172 c173
theorem fn138 : Is_impl_median Try.prog 138 144 := FnIs.of Try.func138 (by kernel_rfl) (by kernel_rfl) (by kernel_rfl) (by decide) (fun vs w => Try.call138 vs w)
theorem c138 : C_impl_median Try.prog 138 := k_impl_median fn138 c144
theorem fn74 : Is_impl_MedianOf Try.prog 74 77 138 141 := FnIs.of Try.func74 (by kernel_rfl) (by kernel_rfl) (by kernel_rfl) (by decide) (fun vs w => Try.call74 vs w)
theorem c74 : C_impl_MedianOf Try.prog 74 := k_impl_MedianOf fn74 c77 c138 c141
theorem fn143 : Is_impl_isShare Try.prog 143 := FnIs.of Try.func143 (by kernel_rfl) (by kernel_rfl) (by kernel_rfl) (by decide) (fun vs w => Try.call143 vs w)
theorem c143 : C_impl_isShare Try.prog 143 := k_impl_isShare fn143
theorem fn195 : ExtIs Try.prog 195 (Extern.MathFloor.toIntegral "math.archFloor" .down) := ExtIs.of Try.func195 (by kernel_rfl) (by kernel_rfl) (by kernel_rfl) (by kernel_rfl)
theorem c195 : C_math_archFloor Try.prog 195 := k_math_archFloor fn195
theorem fn174 : Is_math_Floor Try.prog 174 195 196 := FnIs.of Try.func174 (by kernel_rfl) (by kernel_rfl) (by kernel_rfl) (by decide) (fun vs w => Try.call174 vs w)
theorem c174 : C_math_Floor Try.prog 174 := k_math_Floor fn174 c195
theorem fn145 : Is_impl_floorOf Try.prog 145 174 := FnIs.of Try.func145 (by kernel_rfl) (by kernel_rfl) (by kernel_rfl) (by decide) (fun vs w => Try.call145 vs w)
theorem c145 : C_impl_floorOf Try.prog 145 := k_impl_floorOf fn145 c174
theorem fn75 : Is_impl_QuantileOf Try.prog 75 77 143 144 145 141 := FnIs.of Try.func75 (by kernel_rfl) (by kernel_rfl) (by kernel_rfl) (by decide) (fun vs w => Try.call75 vs w)
theorem c75 : C_impl_QuantileOf Try.prog 75 := k_impl_QuantileOf fn75 c77 c143 c144 c145 c141
theorem fn146 : Is_impl_around Try.prog 146 := FnIs.of Try.func146 (by kernel_rfl) (by kernel_rfl) (by kernel_rfl) (by decide) (fun vs w => Try.call146 vs w)
theorem c146 : C_impl_around Try.prog 146 := k_impl_around fn146
theorem fn76 : Is_impl_RanksOf Try.prog 76 77 146 := FnIs.of Try.func76 (by kernel_rfl) (by kernel_rfl) (by kernel_rfl) (by decide) (fun vs w => Try.call76 vs w)
theorem c76 : C_impl_RanksOf Try.prog 76 := k_impl_RanksOf fn76 c77 c146
theorem fn64 : Is_laws_r8Gap Try.prog 64 := FnIs.of Try.func64 (by kernel_rfl) (by kernel_rfl) (by kernel_rfl) (by decide) (fun vs w => Try.call64 vs w)
theorem c64 : C_laws_r8Gap Try.prog 64 := k_laws_r8Gap fn64
theorem fn102 : Is_impl_ifAll Try.prog 102 96 := FnIs.of Try.func102 (by kernel_rfl) (by kernel_rfl) (by kernel_rfl) (by decide) (fun vs w => Try.call102 vs w)
theorem c102 : C_impl_ifAll Try.prog 102 := k_impl_ifAll fn102 c96
theorem fn78 : Is_impl_EvenSeries Try.prog 78 72 73 102 := FnIs.of Try.func78 (by kernel_rfl) (by kernel_rfl) (by kernel_rfl) (by decide) (fun vs w => Try.call78 vs w)
theorem c78 : C_impl_EvenSeries Try.prog 78 := k_impl_EvenSeries fn78 c72 c73 c102
theorem fn175 : Is_impl_areNotLess_1 Try.prog 175 112 := FnIs.of Try.func175 (by kernel_rfl) (by kernel_rfl) (by kernel_rfl) (by decide) (fun vs w => Try.call175 vs w)
theorem c175 : C_impl_areNotLess_1 Try.prog 175 := k_impl_areNotLess_1 fn175 c112
theorem fn147 : Is_impl_areNotLess Try.prog 147 154 175 := FnIs.of Try.func147 (by kernel_rfl) (by kernel_rfl) (by kernel_rfl) (by decide) (fun vs w => Try.call147 vs w)
theorem c147 : C_impl_areNotLess Try.prog 147 := k_impl_areNotLess fn147 c154 c175
theorem fn149 : Is_impl_absolute Try.prog 149 := FnIs.of Try.func149 (by kernel_rfl) (by kernel_rfl) (by kernel_rfl) (by decide) (fun vs w => Try.call149 vs w)
theorem c149 : C_impl_absolute Try.prog 149 := k_impl_absolute fn149
theorem fn148 : Is_impl_far Try.prog 148 138 149 := FnIs.of Try.func148 (by kernel_rfl) (by kernel_rfl) (by kernel_rfl) (by decide) (fun vs w => Try.call148 vs w)
theorem c148 : C_impl_far Try.prog 148 := k_impl_far fn148 c138 c149
theorem fn79 : Is_impl_FarOnes Try.prog 79 77 147 148 96 149 := FnIs.of Try.func79 (by kernel_rfl) (by kernel_rfl) (by kernel_rfl) (by decide) (fun vs w => Try.call79 vs w)
theorem c79 : C_impl_FarOnes Try.prog 79 := k_impl_FarOnes fn79 c77 c147 c148 c96 c149
theorem fn80 : Is_impl_TameOnes Try.prog 80 79 148 136 102 := FnIs.of Try.func80 (by kernel_rfl) (by kernel_rfl) (by kernel_rfl) (by decide) (fun vs w => Try.call80 vs w)
theorem c80 : C_impl_TameOnes Try.prog 80 := k_impl_TameOnes fn80 c79 c148 c136 c102
theorem fn90 : Is_impl_within Try.prog 90 := FnIs.of Try.func90 (by kernel_rfl) (by kernel_rfl) (by kernel_rfl) (by decide) (fun vs w => Try.call90 vs w)
theorem c90 : C_impl_within Try.prog 90 := k_impl_within fn90
theorem fn105 : Is_impl_areWorkers Try.prog 105 90 := FnIs.of Try.func105 (by kernel_rfl) (by kernel_rfl) (by kernel_rfl) (by decide) (fun vs w => Try.call105 vs w)
theorem c105 : C_impl_areWorkers Try.prog 105 := k_impl_areWorkers fn105 c90
theorem fn28 : Is_impl_MeansShared Try.prog 28 105 72 := FnIs.of Try.func28 (by kernel_rfl) (by kernel_rfl) (by kernel_rfl) (by decide) (fun vs w => Try.call28 vs w)
theorem c28 : C_impl_MeansShared Try.prog 28 := k_impl_MeansShared fn28 c105 c72
theorem fn14 : Is_laws_FnNumbersOf Try.prog 14 39 40 60 72 73 74 75 76 77 64 78 79 80 28 := FnIs.of Try.func14 (by kernel_rfl) (by kernel_rfl) (by kernel_rfl) (by decide) (fun vs w => Try.call14 vs w)
theorem c14 : C_laws_FnNumbersOf Try.prog 14 := k_laws_FnNumbersOf fn14 c39 c40 c60 c72 c73 c74 c75 c76 c77 c64 c78 c79 c80 c28
theorem law (xs : List AV) (h : ShapesT [.one (.si .u8), .one (.si .u8)] xs) : VCall Try.prog 14 (AV.viewL [] 0 xs) (.b true) := by
  obtain ⟨_, _, rfl, ⟨_, rfl, _, _⟩, _, _, rfl, ⟨_, rfl, _, _⟩, rfl⟩ := h
  exact c14 _ _
set_option maxRecDepth 100000 in
theorem lifted (os : Os) (started : os.Started) (H : Type) (enc : TypeId × Value → H) :
    ReturnsInHanded {} Try.checked os 14 .any (Rows.fnNumbersOfSpec.pre6 enc Try.prog Try.f14 Rows.fnNumbersOfRow.domain false) (Rows.fnNumbersOfSpec.post enc Try.prog Try.f14 false true false false) := by
  refine returnsInHanded_of_change (C := Try.checked) own started (by kernel_rfl) Try.func14
    (ChangeSpec.witness6 (enc := enc) (C := Try.checked) false ⟨#[], #[.slice none 0 0, .slice none 0 0], []⟩ 8 (by kernel_rfl) (by kernel_rfl) (by kernel_rfl) (by kernel_rfl)) ?_
  intro W base args ds gs before hval hW _ _
  exact law_post (P := Try.prog) (fn := Try.f14) (tys := [.one (.si .u8), .one (.si .u8)]) (by kernel_rfl) (by kernel_rfl) (by kernel_rfl) rfl
    (fun H ds hds => by
      match ds, hds with
      | [d0, d1], _ => rfl) (rt := 4) (by kernel_rfl) (by kernel_rfl) (fun vs w => Try.call14 vs w) law enc W base args ds gs before hval hW

theorem proved : Rows.FnNumbersOfSaid :=
  OpenClaim.holds_of_wide 14 Try.f14 rfl rfl rfl rfl rfl rfl rfl ⟨rfl, rfl, rfl, rfl, rfl⟩ rfl rfl rfl rfl rfl (by kernel_rfl) Try.func14 (by kernel_rfl)
    (of_decide_eq_true (by kernel_rfl)) (by unfold Func.isWrapper; first | (rw [if_pos (by decide +kernel)]; kernel_rfl) | (rw [if_neg (by decide +kernel)]; exact ⟨rfl, rfl⟩))
    (fun os started H enc _ => lifted os started H enc)
end Go.Proofs.Ytjfgmnfkkehgfaa.FnNumbersOf
