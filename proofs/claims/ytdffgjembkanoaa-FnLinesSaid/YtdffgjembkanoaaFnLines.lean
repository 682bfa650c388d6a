/- The statement FnLines, proved: whatever the input, the law returns true, and the input reads as it did. -/
import Derived.Test.YtdffgjembkanoaaRows
import Derived.Test.YtdffgjembkanoaaLvExtX
import Derived.Test.YtdffgjembkanoaaLvFnBX
import Derived.Test.YtdffgjembkanoaaLvOrdX
import Derived.Test.YtdffgjembkanoaaLvFnE
import Derived.Test.YtdffgjembkanoaaLvFnF
import Derived.Test.YtdffgjembkanoaaLvFnFF
import Derived.Test.YtdffgjembkanoaaLvFnGX
import Derived.Test.YtdffgjembkanoaaLvFnMX
import Derived.Test.YtdffgjembkanoaaLvFnS
import Derived.Test.YtdffgjembkanoaaLvFnT
import Derived.Test.YtdffgjembkanoaaLvFnU
import Derived.Test.YtdffgjembkanoaaLvFnV
import Derived.Test.YtdffgjembkanoaaLvLawW
import Derived.Test.YtdffgjembkanoaaLvLawX
import Derived.JoinedOf
namespace Go.Proofs.Ytdffgjembkanoaa.FnLines
open Go.Proofs.LV Go.ChangeShapes Go.WideShapes Go.ChangeAt Go.RowKit
set_option linter.unusedVariables false
set_option linter.unusedSimpArgs false
theorem own : ownKnob Try.prog.godebug = none := by kernel_rfl
theorem fn7 : Is_laws_b10Long Try.prog 7 := FnIs.of Try.func7 (by kernel_rfl) (by kernel_rfl) (by kernel_rfl) (by decide) (fun vs w => Try.call7 vs w)
theorem c7 : C_laws_b10Long Try.prog 7 := k_laws_b10Long fn7
theorem fn8 : Is_laws_b10At Try.prog 8 := FnIs.of Try.func8 (by kernel_rfl) (by kernel_rfl) (by kernel_rfl) (by decide) (fun vs w => Try.call8 vs w)
theorem c8 : C_laws_b10At Try.prog 8 := k_laws_b10At fn8
theorem fn136 : Is_slices_IndexFunc___float32_float32_ Try.prog 136 := FnIs.of Try.func136 (by kernel_rfl) (by kernel_rfl) (by kernel_rfl) (by decide) (fun vs w => Try.call136 vs w)
theorem c136 : C_slices_IndexFunc___float32_float32_ Try.prog 136 := k_slices_IndexFunc___float32_float32_ fn136
theorem fn98 : Is_slices_ContainsFunc___float32_float32_ Try.prog 98 136 := FnIs.of Try.func98 (by kernel_rfl) (by kernel_rfl) (by kernel_rfl) (by decide) (fun vs w => Try.call98 vs w)
theorem c98 : C_slices_ContainsFunc___float32_float32_ Try.prog 98 := k_slices_ContainsFunc___float32_float32_ fn98 c136
theorem fn75 : Is_impl_IsFinite Try.prog 75 := FnIs.of Try.func75 (by kernel_rfl) (by kernel_rfl) (by kernel_rfl) (by decide) (fun vs w => Try.call75 vs w)
theorem c75 : C_impl_IsFinite Try.prog 75 := k_impl_IsFinite fn75
theorem fn100 : Is_impl_areFinite_1 Try.prog 100 75 := FnIs.of Try.func100 (by kernel_rfl) (by kernel_rfl) (by kernel_rfl) (by decide) (fun vs w => Try.call100 vs w)
theorem c100 : C_impl_areFinite_1 Try.prog 100 := k_impl_areFinite_1 fn100 c75
theorem fn50 : Is_impl_areFinite Try.prog 50 98 100 := FnIs.of Try.func50 (by kernel_rfl) (by kernel_rfl) (by kernel_rfl) (by decide) (fun vs w => Try.call50 vs w)
theorem c50 : C_impl_areFinite Try.prog 50 := k_impl_areFinite fn50 c98 c100
theorem fn40 : Is_impl_IsSeries Try.prog 40 50 := FnIs.of Try.func40 (by kernel_rfl) (by kernel_rfl) (by kernel_rfl) (by decide) (fun vs w => Try.call40 vs w)
theorem c40 : C_impl_IsSeries Try.prog 40 := k_impl_IsSeries fn40 c50
theorem fn41 : Is_impl_places Try.prog 41 := FnIs.of Try.func41 (by kernel_rfl) (by kernel_rfl) (by kernel_rfl) (by decide) (fun vs w => Try.call41 vs w)
theorem c41 : C_impl_places Try.prog 41 := k_impl_places fn41
theorem fn46 : Is_impl_addUp Try.prog 46 := FnIs.of Try.func46 (by kernel_rfl) (by kernel_rfl) (by kernel_rfl) (by decide) (fun vs w => Try.call46 vs w)
theorem c46 : C_impl_addUp Try.prog 46 := k_impl_addUp fn46
theorem fn42 : Is_impl_mean Try.prog 42 46 := FnIs.of Try.func42 (by kernel_rfl) (by kernel_rfl) (by kernel_rfl) (by decide) (fun vs w => Try.call42 vs w)
theorem c42 : C_impl_mean Try.prog 42 := k_impl_mean fn42 c46
theorem fn43 : Is_impl_lessOne Try.prog 43 := FnIs.of Try.func43 (by kernel_rfl) (by kernel_rfl) (by kernel_rfl) (by decide) (fun vs w => Try.call43 vs w)
theorem c43 : C_impl_lessOne Try.prog 43 := k_impl_lessOne fn43
theorem fn44 : Is_impl_dot Try.prog 44 := FnIs.of Try.func44 (by kernel_rfl) (by kernel_rfl) (by kernel_rfl) (by decide) (fun vs w => Try.call44 vs w)
theorem c44 : C_impl_dot Try.prog 44 := k_impl_dot fn44
theorem fn45 : Is_impl_ifTwo Try.prog 45 50 := FnIs.of Try.func45 (by kernel_rfl) (by kernel_rfl) (by kernel_rfl) (by decide) (fun vs w => Try.call45 vs w)
theorem c45 : C_impl_ifTwo Try.prog 45 := k_impl_ifTwo fn45 c50
theorem fn9 : Is_impl_LineFit Try.prog 9 40 41 42 43 44 45 := FnIs.of Try.func9 (by kernel_rfl) (by kernel_rfl) (by kernel_rfl) (by decide) (fun vs w => Try.call9 vs w)
theorem c9 : C_impl_LineFit Try.prog 9 := k_impl_LineFit fn9 c40 c41 c42 c43 c44 c45
theorem fn47 : Is_impl_areTwo Try.prog 47 40 := FnIs.of Try.func47 (by kernel_rfl) (by kernel_rfl) (by kernel_rfl) (by decide) (fun vs w => Try.call47 vs w)
theorem c47 : C_impl_areTwo Try.prog 47 := k_impl_areTwo fn47 c40
theorem fn99 : Is_impl_areNotLess_1 Try.prog 99 75 := FnIs.of Try.func99 (by kernel_rfl) (by kernel_rfl) (by kernel_rfl) (by decide) (fun vs w => Try.call99 vs w)
theorem c99 : C_impl_areNotLess_1 Try.prog 99 := k_impl_areNotLess_1 fn99 c75
theorem fn48 : Is_impl_areNotLess Try.prog 48 98 99 := FnIs.of Try.func48 (by kernel_rfl) (by kernel_rfl) (by kernel_rfl) (by decide) (fun vs w => Try.call48 vs w)
theorem c48 : C_impl_areNotLess Try.prog 48 := k_impl_areNotLess fn48 c98 c99
theorem fn49 : Is_impl_weighed Try.prog 49 := FnIs.of Try.func49 (by kernel_rfl) (by kernel_rfl) (by kernel_rfl) (by decide) (fun vs w => Try.call49 vs w)
theorem c49 : C_impl_weighed Try.prog 49 := k_impl_weighed fn49
theorem fn10 : Is_impl_WeightFit Try.prog 10 46 47 48 44 43 49 45 := FnIs.of Try.func10 (by kernel_rfl) (by kernel_rfl) (by kernel_rfl) (by decide) (fun vs w => Try.call10 vs w)
theorem c10 : C_impl_WeightFit Try.prog 10 := k_impl_WeightFit fn10 c46 c47 c48 c44 c43 c49 c45
theorem fn61 : Is_slices_Clone___float32_float32_ Try.prog 61 := FnIs.of Try.func61 (by kernel_rfl) (by kernel_rfl) (by kernel_rfl) (by decide) (fun vs w => Try.call61 vs w)
theorem c61 : C_slices_Clone___float32_float32_ Try.prog 61 := k_slices_Clone___float32_float32_ fn61
theorem fn149 : Is_slices_insertionSortCmpFunc_float32_ Try.prog 149 := FnIs.of Try.func149 (by kernel_rfl) (by kernel_rfl) (by kernel_rfl) (by decide) (fun vs w => Try.call149 vs w)
theorem c149 : C_slices_insertionSortCmpFunc_float32_ Try.prog 149 := k_slices_insertionSortCmpFunc_float32_ fn149
theorem fn157 : Is_slices_swapRangeCmpFunc_float32_ Try.prog 157 := FnIs.of Try.func157 (by kernel_rfl) (by kernel_rfl) (by kernel_rfl) (by decide) (fun vs w => Try.call157 vs w)
theorem c157 : C_slices_swapRangeCmpFunc_float32_ Try.prog 157 := k_slices_swapRangeCmpFunc_float32_ fn157
theorem fn154 : Is_slices_rotateCmpFunc_float32_ Try.prog 154 157 := FnIs.of Try.func154 (by kernel_rfl) (by kernel_rfl) (by kernel_rfl) (by decide) (fun vs w => Try.call154 vs w)
theorem c154 : C_slices_rotateCmpFunc_float32_ Try.prog 154 := k_slices_rotateCmpFunc_float32_ fn154 c157
theorem fn150 : Is_slices_symMergeCmpFunc_float32_ Try.prog 150 154 150 := FnIs.of Try.func150 (by kernel_rfl) (by kernel_rfl) (by kernel_rfl) (by decide) (fun vs w => Try.call150 vs w)
theorem c150 : C_slices_symMergeCmpFunc_float32_ Try.prog 150 := k_slices_symMergeCmpFunc_float32_ fn150 c154
theorem fn137 : Is_slices_stableCmpFunc_float32_ Try.prog 137 149 150 := FnIs.of Try.func137 (by kernel_rfl) (by kernel_rfl) (by kernel_rfl) (by decide) (fun vs w => Try.call137 vs w)
theorem c137 : C_slices_stableCmpFunc_float32_ Try.prog 137 := k_slices_stableCmpFunc_float32_ fn137 c149 c150
theorem fn101 : Is_slices_SortStableFunc___float32_float32_ Try.prog 101 137 := FnIs.of Try.func101 (by kernel_rfl) (by kernel_rfl) (by kernel_rfl) (by decide) (fun vs w => Try.call101 vs w)
theorem c101 : C_slices_SortStableFunc___float32_float32_ Try.prog 101 := k_slices_SortStableFunc___float32_float32_ fn101 c137
theorem fn102 : Is_impl_sorted_1 Try.prog 102 := FnIs.of Try.func102 (by kernel_rfl) (by kernel_rfl) (by kernel_rfl) (by decide) (fun vs w => Try.call102 vs w)
theorem c102 : C_impl_sorted_1 Try.prog 102 := k_impl_sorted_1 fn102
theorem fn51 : Is_impl_sorted Try.prog 51 61 101 102 := FnIs.of Try.func51 (by kernel_rfl) (by kernel_rfl) (by kernel_rfl) (by decide) (fun vs w => Try.call51 vs w)
theorem c51 : C_impl_sorted Try.prog 51 := k_impl_sorted fn51 c61 c101 c102
theorem fn11 : Is_impl_MiddleSlope Try.prog 11 40 50 51 := FnIs.of Try.func11 (by kernel_rfl) (by kernel_rfl) (by kernel_rfl) (by decide) (fun vs w => Try.call11 vs w)
theorem c11 : C_impl_MiddleSlope Try.prog 11 := k_impl_MiddleSlope fn11 c40 c50 c51
theorem fn52 : Is_spec_l00From Try.prog 52 := FnIs.of Try.func52 (by kernel_rfl) (by kernel_rfl) (by kernel_rfl) (by decide) (fun vs w => Try.call52 vs w)
theorem c52 : C_spec_l00From Try.prog 52 := k_spec_l00From fn52
theorem fn138 : Is_spec_l00Src__next Try.prog 138 := FnIs.of Try.func138 (by kernel_rfl) (by kernel_rfl) (by kernel_rfl) (by decide) (fun vs w => Try.call138 vs w)
theorem c138 : C_spec_l00Src__next Try.prog 138 := k_spec_l00Src__next fn138
theorem fn103 : Is_spec_l00Src__pick Try.prog 103 138 := FnIs.of Try.func103 (by kernel_rfl) (by kernel_rfl) (by kernel_rfl) (by decide) (fun vs w => Try.call103 vs w)
theorem c103 : C_spec_l00Src__pick Try.prog 103 := k_spec_l00Src__pick fn103 c138
theorem fn53 : Is_spec_l03DrawOk Try.prog 53 103 := FnIs.of Try.func53 (by kernel_rfl) (by kernel_rfl) (by kernel_rfl) (by decide) (fun vs w => Try.call53 vs w)
theorem c53 : C_spec_l03DrawOk Try.prog 53 := k_spec_l03DrawOk fn53 c103
theorem fn12 : Is_spec_B10List Try.prog 12 52 53 := FnIs.of Try.func12 (by kernel_rfl) (by kernel_rfl) (by kernel_rfl) (by decide) (fun vs w => Try.call12 vs w)
theorem c12 : C_spec_B10List Try.prog 12 := k_spec_B10List fn12 c52 c53
theorem fn13 : Is_laws_b10Gap Try.prog 13 := FnIs.of Try.func13 (by kernel_rfl) (by kernel_rfl) (by kernel_rfl) (by decide) (fun vs w => Try.call13 vs w)
theorem c13 : C_laws_b10Gap Try.prog 13 := k_laws_b10Gap fn13
theorem fn3 : Is_laws_FnLines Try.prog 3 7 8 9 10 11 12 13 := FnIs.of Try.func3 (by kernel_rfl) (by kernel_rfl) (by kernel_rfl) (by decide) (fun vs w => Try.call3 vs w)
theorem c3 : C_laws_FnLines Try.prog 3 := k_laws_FnLines fn3 c7 c8 c9 c10 c11 c12 c13
theorem law (xs : List AV) (h : ShapesT [.one (.si .u8), .one (.si .u8)] xs) : VCall Try.prog 3 (AV.viewL [] 0 xs) (.b true) := by
  obtain ⟨_, _, rfl, ⟨_, rfl, _, _⟩, _, _, rfl, ⟨_, rfl, _, _⟩, rfl⟩ := h
  exact c3 _ _
set_option maxRecDepth 100000 in
theorem lifted (os : Os) (started : os.Started) (H : Type) (enc : TypeId × Value → H) :
    ReturnsInHanded {} Try.checked os 3 .any (Rows.fnLinesSpec.pre6 enc Try.prog Try.f3 Rows.fnLinesRow.domain false) (Rows.fnLinesSpec.post enc Try.prog Try.f3 false true false false) := by
  refine returnsInHanded_of_change (C := Try.checked) own started (by kernel_rfl) Try.func3
    (ChangeSpec.witness6 (enc := enc) (C := Try.checked) false ⟨#[], #[.slice none 0 0, .slice none 0 0], []⟩ 8 (by kernel_rfl) (by kernel_rfl) (by kernel_rfl) (by kernel_rfl)) ?_
  intro W base args ds gs before hval hW _ _
  exact law_post (P := Try.prog) (fn := Try.f3) (tys := [.one (.si .u8), .one (.si .u8)]) (by kernel_rfl) (by kernel_rfl) (by kernel_rfl) rfl
    (fun H ds hds => by
      match ds, hds with
      | [d0, d1], _ => rfl) (rt := 4) (by kernel_rfl) (by kernel_rfl) (fun vs w => Try.call3 vs w) law enc W base args ds gs before hval hW

theorem proved : Rows.FnLinesSaid :=
  OpenClaim.holds_of_wide 3 Try.f3 rfl rfl rfl rfl rfl rfl rfl ⟨rfl, rfl, rfl, rfl, rfl⟩ rfl rfl rfl rfl rfl (by kernel_rfl) Try.func3 (by kernel_rfl)
    (of_decide_eq_true (by kernel_rfl)) (by unfold Func.isWrapper; first | (rw [if_pos (by decide +kernel)]; kernel_rfl) | (rw [if_neg (by decide +kernel)]; exact ⟨rfl, rfl⟩))
    (fun os started H enc _ => lifted os started H enc)
end Go.Proofs.Ytdffgjembkanoaa.FnLines
