/- The statement FnExactMovingMedian, proved: whatever the input, the law returns true, and the input reads as it did. -/
import Derived.Test.YtaehhnldcnhiiaaRows
import Derived.Test.YtaehhnldcnhiiaaLvFnA
import Derived.Test.YtaehhnldcnhiiaaLvFnB
import Derived.Test.YtaehhnldcnhiiaaLvFnD
import Derived.Test.YtaehhnldcnhiiaaLvFnF
import Derived.Test.YtaehhnldcnhiiaaLvFnO
import Derived.Test.YtaehhnldcnhiiaaLvFnS
import Derived.Test.YtaehhnldcnhiiaaLvFnT
import Derived.Test.YtaehhnldcnhiiaaLvFnU
import Derived.Test.YtaehhnldcnhiiaaLvFnV
import Derived.Test.YtaehhnldcnhiiaaLvFnX
import Derived.Test.YtaehhnldcnhiiaaLvFnZ
import Derived.Test.YtaehhnldcnhiiaaLvLawN
import Derived.JoinedOf
namespace Go.Proofs.Ytaehhnldcnhiiaa.FnExactMovingMedian
open Go.Proofs.LV Go.ChangeShapes Go.WideShapes Go.ChangeAt Go.RowKit
set_option linter.unusedVariables false
set_option linter.unusedSimpArgs false
theorem own : ownKnob Try.prog.godebug = none := by kernel_rfl
theorem fn11 : Is_laws_toFloat32S Try.prog 11 := FnIs.of Try.func11 (by kernel_rfl) (by kernel_rfl) (by kernel_rfl) (by decide) (fun vs w => Try.call11 vs w)
theorem c11 : C_laws_toFloat32S Try.prog 11 := k_laws_toFloat32S fn11
theorem fn101 : Is_spec_l01Finite Try.prog 101 := FnIs.of Try.func101 (by kernel_rfl) (by kernel_rfl) (by kernel_rfl) (by decide) (fun vs w => Try.call101 vs w)
theorem c101 : C_spec_l01Finite Try.prog 101 := k_spec_l01Finite fn101
theorem fn90 : Is_spec_l02Finite Try.prog 90 101 := FnIs.of Try.func90 (by kernel_rfl) (by kernel_rfl) (by kernel_rfl) (by decide) (fun vs w => Try.call90 vs w)
theorem c90 : C_spec_l02Finite Try.prog 90 := k_spec_l02Finite fn90 c101
theorem fn46 : Is_spec_l02Series Try.prog 46 90 := FnIs.of Try.func46 (by kernel_rfl) (by kernel_rfl) (by kernel_rfl) (by decide) (fun vs w => Try.call46 vs w)
theorem c46 : C_spec_l02Series Try.prog 46 := k_spec_l02Series fn46 c90
theorem fn53 : Is_spec_l00In Try.prog 53 := FnIs.of Try.func53 (by kernel_rfl) (by kernel_rfl) (by kernel_rfl) (by decide) (fun vs w => Try.call53 vs w)
theorem c53 : C_spec_l00In Try.prog 53 := k_spec_l00In fn53
theorem fn55 : Is_spec_l02Near Try.prog 55 := FnIs.of Try.func55 (by kernel_rfl) (by kernel_rfl) (by kernel_rfl) (by decide) (fun vs w => Try.call55 vs w)
theorem c55 : C_spec_l02Near Try.prog 55 := k_spec_l02Near fn55
theorem fn99 : Is_spec_l02Sorted Try.prog 99 := FnIs.of Try.func99 (by kernel_rfl) (by kernel_rfl) (by kernel_rfl) (by decide) (fun vs w => Try.call99 vs w)
theorem c99 : C_spec_l02Sorted Try.prog 99 := k_spec_l02Sorted fn99
theorem fn54 : Is_spec_l02Median Try.prog 54 99 := FnIs.of Try.func54 (by kernel_rfl) (by kernel_rfl) (by kernel_rfl) (by decide) (fun vs w => Try.call54 vs w)
theorem c54 : C_spec_l02Median Try.prog 54 := k_spec_l02Median fn54 c99
theorem fn56 : Is_spec_l02List Try.prog 56 90 := FnIs.of Try.func56 (by kernel_rfl) (by kernel_rfl) (by kernel_rfl) (by decide) (fun vs w => Try.call56 vs w)
theorem c56 : C_spec_l02List Try.prog 56 := k_spec_l02List fn56 c90
theorem fn18 : Is_spec_MovingMedian Try.prog 18 46 53 55 54 56 := FnIs.of Try.func18 (by kernel_rfl) (by kernel_rfl) (by kernel_rfl) (by decide) (fun vs w => Try.call18 vs w)
theorem c18 : C_spec_MovingMedian Try.prog 18 := k_spec_MovingMedian fn18 c46 c53 c55 c54 c56
theorem fn124 : Is_slices_IndexFunc___float32_float32_ Try.prog 124 := FnIs.of Try.func124 (by kernel_rfl) (by kernel_rfl) (by kernel_rfl) (by decide) (fun vs w => Try.call124 vs w)
theorem c124 : C_slices_IndexFunc___float32_float32_ Try.prog 124 := k_slices_IndexFunc___float32_float32_ fn124
theorem fn102 : Is_slices_ContainsFunc___float32_float32_ Try.prog 102 124 := FnIs.of Try.func102 (by kernel_rfl) (by kernel_rfl) (by kernel_rfl) (by decide) (fun vs w => Try.call102 vs w)
theorem c102 : C_slices_ContainsFunc___float32_float32_ Try.prog 102 := k_slices_ContainsFunc___float32_float32_ fn102 c124
theorem fn104 : Is_impl_IsFinite Try.prog 104 := FnIs.of Try.func104 (by kernel_rfl) (by kernel_rfl) (by kernel_rfl) (by decide) (fun vs w => Try.call104 vs w)
theorem c104 : C_impl_IsFinite Try.prog 104 := k_impl_IsFinite fn104
theorem fn105 : Is_impl_areFinite_1 Try.prog 105 104 := FnIs.of Try.func105 (by kernel_rfl) (by kernel_rfl) (by kernel_rfl) (by decide) (fun vs w => Try.call105 vs w)
theorem c105 : C_impl_areFinite_1 Try.prog 105 := k_impl_areFinite_1 fn105 c104
theorem fn65 : Is_impl_areFinite Try.prog 65 102 105 := FnIs.of Try.func65 (by kernel_rfl) (by kernel_rfl) (by kernel_rfl) (by decide) (fun vs w => Try.call65 vs w)
theorem c65 : C_impl_areFinite Try.prog 65 := k_impl_areFinite fn65 c102 c105
theorem fn49 : Is_impl_IsSeries Try.prog 49 65 := FnIs.of Try.func49 (by kernel_rfl) (by kernel_rfl) (by kernel_rfl) (by decide) (fun vs w => Try.call49 vs w)
theorem c49 : C_impl_IsSeries Try.prog 49 := k_impl_IsSeries fn49 c65
theorem fn75 : Is_impl_within Try.prog 75 := FnIs.of Try.func75 (by kernel_rfl) (by kernel_rfl) (by kernel_rfl) (by decide) (fun vs w => Try.call75 vs w)
theorem c75 : C_impl_within Try.prog 75 := k_impl_within fn75
theorem fn57 : Is_impl_isSide Try.prog 57 75 := FnIs.of Try.func57 (by kernel_rfl) (by kernel_rfl) (by kernel_rfl) (by decide) (fun vs w => Try.call57 vs w)
theorem c57 : C_impl_isSide Try.prog 57 := k_impl_isSide fn57 c75
theorem fn59 : Is_impl_moving Try.prog 59 := FnIs.of Try.func59 (by kernel_rfl) (by kernel_rfl) (by kernel_rfl) (by decide) (fun vs w => Try.call59 vs w)
theorem c59 : C_impl_moving Try.prog 59 := k_impl_moving fn59
theorem fn74 : Is_slices_Clone___float32_float32_ Try.prog 74 := FnIs.of Try.func74 (by kernel_rfl) (by kernel_rfl) (by kernel_rfl) (by decide) (fun vs w => Try.call74 vs w)
theorem c74 : C_slices_Clone___float32_float32_ Try.prog 74 := k_slices_Clone___float32_float32_ fn74
theorem fn136 : Is_slices_insertionSortCmpFunc_float32_ Try.prog 136 := FnIs.of Try.func136 (by kernel_rfl) (by kernel_rfl) (by kernel_rfl) (by decide) (fun vs w => Try.call136 vs w)
theorem c136 : C_slices_insertionSortCmpFunc_float32_ Try.prog 136 := k_slices_insertionSortCmpFunc_float32_ fn136
theorem fn146 : Is_slices_swapRangeCmpFunc_float32_ Try.prog 146 := FnIs.of Try.func146 (by kernel_rfl) (by kernel_rfl) (by kernel_rfl) (by decide) (fun vs w => Try.call146 vs w)
theorem c146 : C_slices_swapRangeCmpFunc_float32_ Try.prog 146 := k_slices_swapRangeCmpFunc_float32_ fn146
theorem fn143 : Is_slices_rotateCmpFunc_float32_ Try.prog 143 146 := FnIs.of Try.func143 (by kernel_rfl) (by kernel_rfl) (by kernel_rfl) (by decide) (fun vs w => Try.call143 vs w)
theorem c143 : C_slices_rotateCmpFunc_float32_ Try.prog 143 := k_slices_rotateCmpFunc_float32_ fn143 c146
theorem fn137 : Is_slices_symMergeCmpFunc_float32_ Try.prog 137 143 137 := FnIs.of Try.func137 (by kernel_rfl) (by kernel_rfl) (by kernel_rfl) (by decide) (fun vs w => Try.call137 vs w)
theorem c137 : C_slices_symMergeCmpFunc_float32_ Try.prog 137 := k_slices_symMergeCmpFunc_float32_ fn137 c143
theorem fn125 : Is_slices_stableCmpFunc_float32_ Try.prog 125 136 137 := FnIs.of Try.func125 (by kernel_rfl) (by kernel_rfl) (by kernel_rfl) (by decide) (fun vs w => Try.call125 vs w)
theorem c125 : C_slices_stableCmpFunc_float32_ Try.prog 125 := k_slices_stableCmpFunc_float32_ fn125 c136 c137
theorem fn106 : Is_slices_SortStableFunc___float32_float32_ Try.prog 106 125 := FnIs.of Try.func106 (by kernel_rfl) (by kernel_rfl) (by kernel_rfl) (by decide) (fun vs w => Try.call106 vs w)
theorem c106 : C_slices_SortStableFunc___float32_float32_ Try.prog 106 := k_slices_SortStableFunc___float32_float32_ fn106 c125
theorem fn107 : Is_impl_sorted_1 Try.prog 107 := FnIs.of Try.func107 (by kernel_rfl) (by kernel_rfl) (by kernel_rfl) (by decide) (fun vs w => Try.call107 vs w)
theorem c107 : C_impl_sorted_1 Try.prog 107 := k_impl_sorted_1 fn107
theorem fn71 : Is_impl_sorted Try.prog 71 74 106 107 := FnIs.of Try.func71 (by kernel_rfl) (by kernel_rfl) (by kernel_rfl) (by decide) (fun vs w => Try.call71 vs w)
theorem c71 : C_impl_sorted Try.prog 71 := k_impl_sorted fn71 c74 c106 c107
theorem fn60 : Is_impl_median Try.prog 60 71 := FnIs.of Try.func60 (by kernel_rfl) (by kernel_rfl) (by kernel_rfl) (by decide) (fun vs w => Try.call60 vs w)
theorem c60 : C_impl_median Try.prog 60 := k_impl_median fn60 c71
theorem fn58 : Is_impl_ifAll Try.prog 58 65 := FnIs.of Try.func58 (by kernel_rfl) (by kernel_rfl) (by kernel_rfl) (by decide) (fun vs w => Try.call58 vs w)
theorem c58 : C_impl_ifAll Try.prog 58 := k_impl_ifAll fn58 c65
theorem fn19 : Is_impl_MovingMedian Try.prog 19 49 57 59 60 58 := FnIs.of Try.func19 (by kernel_rfl) (by kernel_rfl) (by kernel_rfl) (by decide) (fun vs w => Try.call19 vs w)
theorem c19 : C_impl_MovingMedian Try.prog 19 := k_impl_MovingMedian fn19 c49 c57 c59 c60 c58
theorem fn28 : Is_laws_sameFloat Try.prog 28 := FnIs.of Try.func28 (by kernel_rfl) (by kernel_rfl) (by kernel_rfl) (by decide) (fun vs w => Try.call28 vs w)
theorem c28 : C_laws_sameFloat Try.prog 28 := k_laws_sameFloat fn28
theorem fn14 : Is_laws_eqFloat32S Try.prog 14 28 := FnIs.of Try.func14 (by kernel_rfl) (by kernel_rfl) (by kernel_rfl) (by decide) (fun vs w => Try.call14 vs w)
theorem c14 : C_laws_eqFloat32S Try.prog 14 := k_laws_eqFloat32S fn14 c28
theorem fn15 : Is_laws_markFloat32S Try.prog 15 := FnIs.of Try.func15 (by kernel_rfl) (by kernel_rfl) (by kernel_rfl) (by decide) (fun vs w => Try.call15 vs w)
theorem c15 : C_laws_markFloat32S Try.prog 15 := k_laws_markFloat32S fn15
theorem fn20 : Is_laws_heldFloat32S Try.prog 20 := FnIs.of Try.func20 (by kernel_rfl) (by kernel_rfl) (by kernel_rfl) (by decide) (fun vs w => Try.call20 vs w)
theorem c20 : C_laws_heldFloat32S Try.prog 20 := k_laws_heldFloat32S fn20
theorem fn4 : Is_laws_FnExactMovingMedian Try.prog 4 11 18 19 14 15 20 := FnIs.of Try.func4 (by kernel_rfl) (by kernel_rfl) (by kernel_rfl) (by decide) (fun vs w => Try.call4 vs w)
theorem c4 : C_laws_FnExactMovingMedian Try.prog 4 := k_laws_FnExactMovingMedian fn4 c11 c18 c19 c14 c15 c20
theorem law (xs : List AV) (h : ShapesT [.one (.sf .f32), .one (.i .i64)] xs) : VCall Try.prog 4 (AV.viewL [] 0 xs) (.b true) := by
  obtain ⟨_, _, rfl, ⟨_, rfl, _, _⟩, _, _, rfl, ⟨_, rfl, _⟩, rfl⟩ := h
  exact c4 _ _ (by assumption)
set_option maxRecDepth 100000 in
theorem lifted (os : Os) (started : os.Started) (H : Type) (enc : TypeId × Value → H) :
    ReturnsInHanded {} Try.checked os 4 .any (Rows.fnExactMovingMedianSpec.pre6 enc Try.prog Try.f4 Rows.fnExactMovingMedianRow.domain false) (Rows.fnExactMovingMedianSpec.post enc Try.prog Try.f4 false true false false) := by
  refine returnsInHanded_of_change (C := Try.checked) own started (by kernel_rfl) Try.func4
    (ChangeSpec.witness6 (enc := enc) (C := Try.checked) false ⟨#[], #[.slice none 0 0, .int .i64 0], []⟩ 8 (by kernel_rfl) (by kernel_rfl) (by kernel_rfl) (by kernel_rfl)) ?_
  intro W base args ds gs before hval hW _ _
  exact law_post (P := Try.prog) (fn := Try.f4) (tys := [.one (.sf .f32), .one (.i .i64)]) (by kernel_rfl) (by kernel_rfl) (by kernel_rfl) rfl
    (fun H ds hds => by
      match ds, hds with
      | [d0, d1], _ => rfl) (rt := 4) (by kernel_rfl) (by kernel_rfl) (fun vs w => Try.call4 vs w) law enc W base args ds gs before hval hW

theorem proved : Rows.FnExactMovingMedianSaid :=
  OpenClaim.holds_of_wide 4 Try.f4 rfl rfl rfl rfl rfl rfl rfl ⟨rfl, rfl, rfl, rfl, rfl⟩ rfl rfl rfl rfl rfl (by kernel_rfl) Try.func4 (by kernel_rfl)
    (of_decide_eq_true (by kernel_rfl)) (by unfold Func.isWrapper; first | (rw [if_pos (by decide +kernel)]; kernel_rfl) | (rw [if_neg (by decide +kernel)]; exact ⟨rfl, rfl⟩))
    (fun os started H enc _ => lifted os started H enc)
end Go.Proofs.Ytaehhnldcnhiiaa.FnExactMovingMedian
