/- The statement FnFolded, proved: whatever the input, the law returns true, and the input reads as it did. -/
import Derived.Test.YtjfgmnfkkehgfaaRows
import Derived.Test.YtjfgmnfkkehgfaaLvFnA
import Derived.Test.YtjfgmnfkkehgfaaLvFnB
import Derived.Test.YtjfgmnfkkehgfaaLvFnC
import Derived.Test.YtjfgmnfkkehgfaaLvFnD
import Derived.Test.YtjfgmnfkkehgfaaLvFnF
import Derived.Test.YtjfgmnfkkehgfaaLvFnFF
import Derived.Test.YtjfgmnfkkehgfaaLvFnG
import Derived.Test.YtjfgmnfkkehgfaaLvFnI
import Derived.Test.YtjfgmnfkkehgfaaLvFnW
import Derived.Test.YtjfgmnfkkehgfaaLvLawW
import Derived.JoinedOf
namespace Go.Proofs.Ytjfgmnfkkehgfaa.FnFolded
open Go.Proofs.LV Go.ChangeShapes Go.WideShapes Go.ChangeAt Go.RowKit
set_option linter.unusedVariables false
set_option linter.unusedSimpArgs false
theorem own : ownKnob Try.prog.godebug = none := by kernel_rfl
theorem fn51 : Is_laws_b10Long Try.prog 51 := FnIs.of Try.func51 (by kernel_rfl) (by kernel_rfl) (by kernel_rfl) (by decide) (fun vs w => Try.call51 vs w)
theorem c51 : C_laws_b10Long Try.prog 51 := k_laws_b10Long fn51
theorem fn52 : Is_laws_b10At Try.prog 52 := FnIs.of Try.func52 (by kernel_rfl) (by kernel_rfl) (by kernel_rfl) (by decide) (fun vs w => Try.call52 vs w)
theorem c52 : C_laws_b10At Try.prog 52 := k_laws_b10At fn52
theorem fn128 : Is_spec_l00From Try.prog 128 := FnIs.of Try.func128 (by kernel_rfl) (by kernel_rfl) (by kernel_rfl) (by decide) (fun vs w => Try.call128 vs w)
theorem c128 : C_spec_l00From Try.prog 128 := k_spec_l00From fn128
theorem fn191 : Is_spec_l00Src__next Try.prog 191 := FnIs.of Try.func191 (by kernel_rfl) (by kernel_rfl) (by kernel_rfl) (by decide) (fun vs w => Try.call191 vs w)
theorem c191 : C_spec_l00Src__next Try.prog 191 := k_spec_l00Src__next fn191
theorem fn167 : Is_spec_l00Src__pick Try.prog 167 191 := FnIs.of Try.func167 (by kernel_rfl) (by kernel_rfl) (by kernel_rfl) (by decide) (fun vs w => Try.call167 vs w)
theorem c167 : C_spec_l00Src__pick Try.prog 167 := k_spec_l00Src__pick fn167 c191
theorem fn129 : Is_spec_l03DrawOk Try.prog 129 167 := FnIs.of Try.func129 (by kernel_rfl) (by kernel_rfl) (by kernel_rfl) (by decide) (fun vs w => Try.call129 vs w)
theorem c129 : C_spec_l03DrawOk Try.prog 129 := k_spec_l03DrawOk fn129 c167
theorem fn53 : Is_spec_B10List Try.prog 53 128 129 := FnIs.of Try.func53 (by kernel_rfl) (by kernel_rfl) (by kernel_rfl) (by decide) (fun vs w => Try.call53 vs w)
theorem c53 : C_spec_B10List Try.prog 53 := k_spec_B10List fn53 c128 c129
theorem fn177 : Is_slices_IndexFunc___float32_float32_ Try.prog 177 := FnIs.of Try.func177 (by kernel_rfl) (by kernel_rfl) (by kernel_rfl) (by decide) (fun vs w => Try.call177 vs w)
theorem c177 : C_slices_IndexFunc___float32_float32_ Try.prog 177 := k_slices_IndexFunc___float32_float32_ fn177
theorem fn154 : Is_slices_ContainsFunc___float32_float32_ Try.prog 154 177 := FnIs.of Try.func154 (by kernel_rfl) (by kernel_rfl) (by kernel_rfl) (by decide) (fun vs w => Try.call154 vs w)
theorem c154 : C_slices_ContainsFunc___float32_float32_ Try.prog 154 := k_slices_ContainsFunc___float32_float32_ fn154 c177
theorem fn112 : Is_impl_IsFinite Try.prog 112 := FnIs.of Try.func112 (by kernel_rfl) (by kernel_rfl) (by kernel_rfl) (by decide) (fun vs w => Try.call112 vs w)
theorem c112 : C_impl_IsFinite Try.prog 112 := k_impl_IsFinite fn112
theorem fn155 : Is_impl_areFinite_1 Try.prog 155 112 := FnIs.of Try.func155 (by kernel_rfl) (by kernel_rfl) (by kernel_rfl) (by decide) (fun vs w => Try.call155 vs w)
theorem c155 : C_impl_areFinite_1 Try.prog 155 := k_impl_areFinite_1 fn155 c112
theorem fn96 : Is_impl_areFinite Try.prog 96 154 155 := FnIs.of Try.func96 (by kernel_rfl) (by kernel_rfl) (by kernel_rfl) (by decide) (fun vs w => Try.call96 vs w)
theorem c96 : C_impl_areFinite Try.prog 96 := k_impl_areFinite fn96 c154 c155
theorem fn77 : Is_impl_IsSeries Try.prog 77 96 := FnIs.of Try.func77 (by kernel_rfl) (by kernel_rfl) (by kernel_rfl) (by decide) (fun vs w => Try.call77 vs w)
theorem c77 : C_impl_IsSeries Try.prog 77 := k_impl_IsSeries fn77 c96
theorem fn90 : Is_impl_within Try.prog 90 := FnIs.of Try.func90 (by kernel_rfl) (by kernel_rfl) (by kernel_rfl) (by decide) (fun vs w => Try.call90 vs w)
theorem c90 : C_impl_within Try.prog 90 := k_impl_within fn90
theorem fn88 : Is_impl_isPeriodOf Try.prog 88 77 90 := FnIs.of Try.func88 (by kernel_rfl) (by kernel_rfl) (by kernel_rfl) (by decide) (fun vs w => Try.call88 vs w)
theorem c88 : C_impl_isPeriodOf Try.prog 88 := k_impl_isPeriodOf fn88 c77 c90
theorem fn137 : Is_impl_addUp Try.prog 137 := FnIs.of Try.func137 (by kernel_rfl) (by kernel_rfl) (by kernel_rfl) (by decide) (fun vs w => Try.call137 vs w)
theorem c137 : C_impl_addUp Try.prog 137 := k_impl_addUp fn137
theorem fn94 : Is_impl_mean Try.prog 94 137 := FnIs.of Try.func94 (by kernel_rfl) (by kernel_rfl) (by kernel_rfl) (by decide) (fun vs w => Try.call94 vs w)
theorem c94 : C_impl_mean Try.prog 94 := k_impl_mean fn94 c137
theorem fn130 : Is_impl_folded Try.prog 130 94 := FnIs.of Try.func130 (by kernel_rfl) (by kernel_rfl) (by kernel_rfl) (by decide) (fun vs w => Try.call130 vs w)
theorem c130 : C_impl_folded Try.prog 130 := k_impl_folded fn130 c94
theorem fn131 : Is_impl_restOfFold Try.prog 131 := FnIs.of Try.func131 (by kernel_rfl) (by kernel_rfl) (by kernel_rfl) (by decide) (fun vs w => Try.call131 vs w)
theorem c131 : C_impl_restOfFold Try.prog 131 := k_impl_restOfFold fn131
theorem fn54 : Is_impl_FoldedBy Try.prog 54 88 130 131 96 112 := FnIs.of Try.func54 (by kernel_rfl) (by kernel_rfl) (by kernel_rfl) (by decide) (fun vs w => Try.call54 vs w)
theorem c54 : C_impl_FoldedBy Try.prog 54 := k_impl_FoldedBy fn54 c88 c130 c131 c96 c112
theorem fn105 : Is_impl_areWorkers Try.prog 105 90 := FnIs.of Try.func105 (by kernel_rfl) (by kernel_rfl) (by kernel_rfl) (by decide) (fun vs w => Try.call105 vs w)
theorem c105 : C_impl_areWorkers Try.prog 105 := k_impl_areWorkers fn105 c90
theorem fn55 : Is_impl_BestPeriod Try.prog 55 77 90 105 54 := FnIs.of Try.func55 (by kernel_rfl) (by kernel_rfl) (by kernel_rfl) (by decide) (fun vs w => Try.call55 vs w)
theorem c55 : C_impl_BestPeriod Try.prog 55 := k_impl_BestPeriod fn55 c77 c90 c105 c54
theorem fn110 : Is_spec_l01Finite Try.prog 110 := FnIs.of Try.func110 (by kernel_rfl) (by kernel_rfl) (by kernel_rfl) (by decide) (fun vs w => Try.call110 vs w)
theorem c110 : C_spec_l01Finite Try.prog 110 := k_spec_l01Finite fn110
theorem fn87 : Is_spec_l02Finite Try.prog 87 110 := FnIs.of Try.func87 (by kernel_rfl) (by kernel_rfl) (by kernel_rfl) (by decide) (fun vs w => Try.call87 vs w)
theorem c87 : C_spec_l02Finite Try.prog 87 := k_spec_l02Finite fn87 c110
theorem fn81 : Is_spec_l02Series Try.prog 81 87 := FnIs.of Try.func81 (by kernel_rfl) (by kernel_rfl) (by kernel_rfl) (by decide) (fun vs w => Try.call81 vs w)
theorem c81 : C_spec_l02Series Try.prog 81 := k_spec_l02Series fn81 c87
theorem fn82 : Is_spec_l00In Try.prog 82 := FnIs.of Try.func82 (by kernel_rfl) (by kernel_rfl) (by kernel_rfl) (by decide) (fun vs w => Try.call82 vs w)
theorem c82 : C_spec_l00In Try.prog 82 := k_spec_l00In fn82
theorem fn168 : Is_spec_l03Fold Try.prog 168 := FnIs.of Try.func168 (by kernel_rfl) (by kernel_rfl) (by kernel_rfl) (by decide) (fun vs w => Try.call168 vs w)
theorem c168 : C_spec_l03Fold Try.prog 168 := k_spec_l03Fold fn168
theorem fn132 : Is_spec_FoldedBy Try.prog 132 81 82 168 87 110 := FnIs.of Try.func132 (by kernel_rfl) (by kernel_rfl) (by kernel_rfl) (by decide) (fun vs w => Try.call132 vs w)
theorem c132 : C_spec_FoldedBy Try.prog 132 := k_spec_FoldedBy fn132 c81 c82 c168 c87 c110
theorem fn56 : Is_spec_BestPeriod Try.prog 56 81 82 132 := FnIs.of Try.func56 (by kernel_rfl) (by kernel_rfl) (by kernel_rfl) (by decide) (fun vs w => Try.call56 vs w)
theorem c56 : C_spec_BestPeriod Try.prog 56 := k_spec_BestPeriod fn56 c81 c82 c132
theorem fn192 : ExtIs Try.prog 192 Extern.MathFloatBits.float32bits := ExtIs.of Try.func192 (by kernel_rfl) (by kernel_rfl) (by kernel_rfl) (by kernel_rfl)
theorem c192 : C_math_Float32bits Try.prog 192 := k_math_Float32bits fn192
theorem fn169 : Is_spec_l01Bits Try.prog 169 192 := FnIs.of Try.func169 (by kernel_rfl) (by kernel_rfl) (by kernel_rfl) (by decide) (fun vs w => Try.call169 vs w)
theorem c169 : C_spec_l01Bits Try.prog 169 := k_spec_l01Bits fn169 c192
theorem fn133 : Is_spec_l01Same Try.prog 133 169 := FnIs.of Try.func133 (by kernel_rfl) (by kernel_rfl) (by kernel_rfl) (by decide) (fun vs w => Try.call133 vs w)
theorem c133 : C_spec_l01Same Try.prog 133 := k_spec_l01Same fn133 c169
theorem fn57 : Is_spec_SameNumber Try.prog 57 133 := FnIs.of Try.func57 (by kernel_rfl) (by kernel_rfl) (by kernel_rfl) (by decide) (fun vs w => Try.call57 vs w)
theorem c57 : C_spec_SameNumber Try.prog 57 := k_spec_SameNumber fn57 c133
theorem fn58 : Is_impl_StepWaves Try.prog 58 77 96 := FnIs.of Try.func58 (by kernel_rfl) (by kernel_rfl) (by kernel_rfl) (by decide) (fun vs w => Try.call58 vs w)
theorem c58 : C_impl_StepWaves Try.prog 58 := k_impl_StepWaves fn58 c77 c96
theorem fn134 : Is_impl_areTwo Try.prog 134 77 := FnIs.of Try.func134 (by kernel_rfl) (by kernel_rfl) (by kernel_rfl) (by decide) (fun vs w => Try.call134 vs w)
theorem c134 : C_impl_areTwo Try.prog 134 := k_impl_areTwo fn134 c77
theorem fn102 : Is_impl_ifAll Try.prog 102 96 := FnIs.of Try.func102 (by kernel_rfl) (by kernel_rfl) (by kernel_rfl) (by decide) (fun vs w => Try.call102 vs w)
theorem c102 : C_impl_ifAll Try.prog 102 := k_impl_ifAll fn102 c96
theorem fn59 : Is_impl_BackOfWaves Try.prog 59 134 102 := FnIs.of Try.func59 (by kernel_rfl) (by kernel_rfl) (by kernel_rfl) (by decide) (fun vs w => Try.call59 vs w)
theorem c59 : C_impl_BackOfWaves Try.prog 59 := k_impl_BackOfWaves fn59 c134 c102
theorem fn11 : Is_laws_FnFolded Try.prog 11 51 52 53 54 55 56 57 58 59 := FnIs.of Try.func11 (by kernel_rfl) (by kernel_rfl) (by kernel_rfl) (by decide) (fun vs w => Try.call11 vs w)
theorem c11 : C_laws_FnFolded Try.prog 11 := k_laws_FnFolded fn11 c51 c52 c53 c54 c55 c56 c57 c58 c59
theorem law (xs : List AV) (h : ShapesT [.one (.si .u8), .one (.si .u8)] xs) : VCall Try.prog 11 (AV.viewL [] 0 xs) (.b true) := by
  obtain ⟨_, _, rfl, ⟨_, rfl, _, _⟩, _, _, rfl, ⟨_, rfl, _, _⟩, rfl⟩ := h
  exact c11 _ _
set_option maxRecDepth 100000 in
theorem lifted (os : Os) (started : os.Started) (H : Type) (enc : TypeId × Value → H) :
    ReturnsInHanded {} Try.checked os 11 .any (Rows.fnFoldedSpec.pre6 enc Try.prog Try.f11 Rows.fnFoldedRow.domain false) (Rows.fnFoldedSpec.post enc Try.prog Try.f11 false true false false) := by
  refine returnsInHanded_of_change (C := Try.checked) own started (by kernel_rfl) Try.func11
    (ChangeSpec.witness6 (enc := enc) (C := Try.checked) false ⟨#[], #[.slice none 0 0, .slice none 0 0], []⟩ 8 (by kernel_rfl) (by kernel_rfl) (by kernel_rfl) (by kernel_rfl)) ?_
  intro W base args ds gs before hval hW _ _
  exact law_post (P := Try.prog) (fn := Try.f11) (tys := [.one (.si .u8), .one (.si .u8)]) (by kernel_rfl) (by kernel_rfl) (by kernel_rfl) rfl
    (fun H ds hds => by
      match ds, hds with
      | [d0, d1], _ => rfl) (rt := 4) (by kernel_rfl) (by kernel_rfl) (fun vs w => Try.call11 vs w) law enc W base args ds gs before hval hW

theorem proved : Rows.FnFoldedSaid :=
  OpenClaim.holds_of_wide 11 Try.f11 rfl rfl rfl rfl rfl rfl rfl ⟨rfl, rfl, rfl, rfl, rfl⟩ rfl rfl rfl rfl rfl (by kernel_rfl) Try.func11 (by kernel_rfl)
    (of_decide_eq_true (by kernel_rfl)) (by unfold Func.isWrapper; first | (rw [if_pos (by decide +kernel)]; kernel_rfl) | (rw [if_neg (by decide +kernel)]; exact ⟨rfl, rfl⟩))
    (fun os started H enc _ => lifted os started H enc)
end Go.Proofs.Ytjfgmnfkkehgfaa.FnFolded
