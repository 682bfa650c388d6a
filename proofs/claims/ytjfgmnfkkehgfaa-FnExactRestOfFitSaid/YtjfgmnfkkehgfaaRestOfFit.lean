/- The statement FnExactRestOfFit, proved: whatever the input, the law returns true, and the input reads as it did. -/
import Derived.Test.YtjfgmnfkkehgfaaRows
import Derived.Test.YtjfgmnfkkehgfaaLvAbs
import Derived.Test.YtjfgmnfkkehgfaaLvFnA
import Derived.Test.YtjfgmnfkkehgfaaLvFnB
import Derived.Test.YtjfgmnfkkehgfaaLvFnF
import Derived.Test.YtjfgmnfkkehgfaaLvFnGG
import Derived.Test.YtjfgmnfkkehgfaaLvFnHH
import Derived.Test.YtjfgmnfkkehgfaaLvFnJJ
import Derived.Test.YtjfgmnfkkehgfaaLvFnKK
import Derived.Test.YtjfgmnfkkehgfaaLvFnLL
import Derived.Test.YtjfgmnfkkehgfaaLvFnMM
import Derived.Test.YtjfgmnfkkehgfaaLvLawDD
import Derived.JoinedOf
namespace Go.Proofs.Ytjfgmnfkkehgfaa.FnExactRestOfFit
open Go.Proofs.LV Go.ChangeShapes Go.WideShapes Go.ChangeAt Go.RowKit
set_option linter.unusedVariables false
set_option linter.unusedSimpArgs false
theorem own : ownKnob Try.prog.godebug = none := by kernel_rfl
theorem fn97 : Is_laws_szFloat32S Try.prog 97 := FnIs.of Try.func97 (by kernel_rfl) (by kernel_rfl) (by kernel_rfl) (by decide) (fun vs w => Try.call97 vs w)
theorem c97 : C_laws_szFloat32S Try.prog 97 := k_laws_szFloat32S fn97
theorem fn21 : Is_laws_szFloat32SS Try.prog 21 97 := FnIs.of Try.func21 (by kernel_rfl) (by kernel_rfl) (by kernel_rfl) (by decide) (fun vs w => Try.call21 vs w)
theorem c21 : C_laws_szFloat32SS Try.prog 21 := k_laws_szFloat32SS fn21 c97
theorem fn16 : Is_laws_toFloat32S Try.prog 16 := FnIs.of Try.func16 (by kernel_rfl) (by kernel_rfl) (by kernel_rfl) (by decide) (fun vs w => Try.call16 vs w)
theorem c16 : C_laws_toFloat32S Try.prog 16 := k_laws_toFloat32S fn16
theorem fn23 : Is_laws_toFloat32SS Try.prog 23 16 := FnIs.of Try.func23 (by kernel_rfl) (by kernel_rfl) (by kernel_rfl) (by decide) (fun vs w => Try.call23 vs w)
theorem c23 : C_laws_toFloat32SS Try.prog 23 := k_laws_toFloat32SS fn23 c16
theorem fn110 : Is_spec_l01Finite Try.prog 110 := FnIs.of Try.func110 (by kernel_rfl) (by kernel_rfl) (by kernel_rfl) (by decide) (fun vs w => Try.call110 vs w)
theorem c110 : C_spec_l01Finite Try.prog 110 := k_spec_l01Finite fn110
theorem fn87 : Is_spec_l02Finite Try.prog 87 110 := FnIs.of Try.func87 (by kernel_rfl) (by kernel_rfl) (by kernel_rfl) (by decide) (fun vs w => Try.call87 vs w)
theorem c87 : C_spec_l02Finite Try.prog 87 := k_spec_l02Finite fn87 c110
theorem fn81 : Is_spec_l02Series Try.prog 81 87 := FnIs.of Try.func81 (by kernel_rfl) (by kernel_rfl) (by kernel_rfl) (by decide) (fun vs w => Try.call81 vs w)
theorem c81 : C_spec_l02Series Try.prog 81 := k_spec_l02Series fn81 c87
theorem fn98 : Is_spec_l03Columns Try.prog 98 81 := FnIs.of Try.func98 (by kernel_rfl) (by kernel_rfl) (by kernel_rfl) (by decide) (fun vs w => Try.call98 vs w)
theorem c98 : C_spec_l03Columns Try.prog 98 := k_spec_l03Columns fn98 c81
theorem fn180 : Is_spec_l03Size Try.prog 180 := FnIs.of Try.func180 (by kernel_rfl) (by kernel_rfl) (by kernel_rfl) (by decide) (fun vs w => Try.call180 vs w)
theorem c180 : C_spec_l03Size Try.prog 180 := k_spec_l03Size fn180
theorem fn160 : Is_spec_l03Solve Try.prog 160 180 87 := FnIs.of Try.func160 (by kernel_rfl) (by kernel_rfl) (by kernel_rfl) (by decide) (fun vs w => Try.call160 vs w)
theorem c160 : C_spec_l03Solve Try.prog 160 := k_spec_l03Solve fn160 c180 c87
theorem fn108 : Is_spec_l03Fit Try.prog 108 87 160 := FnIs.of Try.func108 (by kernel_rfl) (by kernel_rfl) (by kernel_rfl) (by decide) (fun vs w => Try.call108 vs w)
theorem c108 : C_spec_l03Fit Try.prog 108 := k_spec_l03Fit fn108 c87 c160
theorem fn32 : Is_spec_ColumnFit Try.prog 32 98 81 108 := FnIs.of Try.func32 (by kernel_rfl) (by kernel_rfl) (by kernel_rfl) (by decide) (fun vs w => Try.call32 vs w)
theorem c32 : C_spec_ColumnFit Try.prog 32 := k_spec_ColumnFit fn32 c98 c81 c108
theorem fn100 : Is_spec_l03Fitted Try.prog 100 := FnIs.of Try.func100 (by kernel_rfl) (by kernel_rfl) (by kernel_rfl) (by decide) (fun vs w => Try.call100 vs w)
theorem c100 : C_spec_l03Fitted Try.prog 100 := k_spec_l03Fitted fn100
theorem fn99 : Is_spec_l03Given Try.prog 99 87 := FnIs.of Try.func99 (by kernel_rfl) (by kernel_rfl) (by kernel_rfl) (by decide) (fun vs w => Try.call99 vs w)
theorem c99 : C_spec_l03Given Try.prog 99 := k_spec_l03Given fn99 c87
theorem fn22 : Is_spec_FittedOf Try.prog 22 98 87 100 99 := FnIs.of Try.func22 (by kernel_rfl) (by kernel_rfl) (by kernel_rfl) (by decide) (fun vs w => Try.call22 vs w)
theorem c22 : C_spec_FittedOf Try.prog 22 := k_spec_FittedOf fn22 c98 c87 c100 c99
theorem fn34 : Is_spec_RestOfFit Try.prog 34 32 22 87 110 := FnIs.of Try.func34 (by kernel_rfl) (by kernel_rfl) (by kernel_rfl) (by decide) (fun vs w => Try.call34 vs w)
theorem c34 : C_spec_RestOfFit Try.prog 34 := k_spec_RestOfFit fn34 c32 c22 c87 c110
theorem fn177 : Is_slices_IndexFunc___float32_float32_ Try.prog 177 := FnIs.of Try.func177 (by kernel_rfl) (by kernel_rfl) (by kernel_rfl) (by decide) (fun vs w => Try.call177 vs w)
theorem c177 : C_slices_IndexFunc___float32_float32_ Try.prog 177 := k_slices_IndexFunc___float32_float32_ fn177
theorem fn154 : Is_slices_ContainsFunc___float32_float32_ Try.prog 154 177 := FnIs.of Try.func154 (by kernel_rfl) (by kernel_rfl) (by kernel_rfl) (by decide) (fun vs w => Try.call154 vs w)
theorem c154 : C_slices_ContainsFunc___float32_float32_ Try.prog 154 := k_slices_ContainsFunc___float32_float32_ fn154 c177
theorem fn112 : Is_impl_IsFinite Try.prog 112 := FnIs.of Try.func112 (by kernel_rfl) (by kernel_rfl) (by kernel_rfl) (by decide) (fun vs w => Try.call112 vs w)
theorem c112 : C_impl_IsFinite Try.prog 112 := k_impl_IsFinite fn112
theorem fn155 : Is_impl_areFinite_1 Try.prog 155 112 := FnIs.of Try.func155 (by kernel_rfl) (by kernel_rfl) (by kernel_rfl) (by decide) (fun vs w => Try.call155 vs w)
theorem c155 : C_impl_areFinite_1 Try.prog 155 := k_impl_areFinite_1 fn155 c112
theorem fn96 : Is_impl_areFinite Try.prog 96 154 155 := FnIs.of Try.func96 (by kernel_rfl) (by kernel_rfl) (by kernel_rfl) (by decide) (fun vs w => Try.call96 vs w)
theorem c96 : C_impl_areFinite Try.prog 96 := k_impl_areFinite fn96 c154 c155
theorem fn77 : Is_impl_IsSeries Try.prog 77 96 := FnIs.of Try.func77 (by kernel_rfl) (by kernel_rfl) (by kernel_rfl) (by decide) (fun vs w => Try.call77 vs w)
theorem c77 : C_impl_IsSeries Try.prog 77 := k_impl_IsSeries fn77 c96
theorem fn157 : Is_impl_areColumns_1 Try.prog 157 77 := FnIs.of Try.func157 (by kernel_rfl) (by kernel_rfl) (by kernel_rfl) (by decide) (fun vs w => Try.call157 vs w)
theorem c157 : C_impl_areColumns_1 Try.prog 157 := k_impl_areColumns_1 fn157 c77
theorem fn178 : Is_slices_IndexFunc_____float32___float32_ Try.prog 178 := FnIs.of Try.func178 (by kernel_rfl) (by kernel_rfl) (by kernel_rfl) (by decide) (fun vs w => Try.call178 vs w)
theorem c178 : C_slices_IndexFunc_____float32___float32_ Try.prog 178 := k_slices_IndexFunc_____float32___float32_ fn178
theorem fn156 : Is_slices_ContainsFunc_____float32___float32_ Try.prog 156 178 := FnIs.of Try.func156 (by kernel_rfl) (by kernel_rfl) (by kernel_rfl) (by decide) (fun vs w => Try.call156 vs w)
theorem c156 : C_slices_ContainsFunc_____float32___float32_ Try.prog 156 := k_slices_ContainsFunc_____float32___float32_ fn156 c178
theorem fn101 : Is_impl_areColumns Try.prog 101 157 156 := FnIs.of Try.func101 (by kernel_rfl) (by kernel_rfl) (by kernel_rfl) (by decide) (fun vs w => Try.call101 vs w)
theorem c101 : C_impl_areColumns Try.prog 101 := k_impl_areColumns fn101 c157 c156
theorem fn111 : Is_impl_dot Try.prog 111 := FnIs.of Try.func111 (by kernel_rfl) (by kernel_rfl) (by kernel_rfl) (by decide) (fun vs w => Try.call111 vs w)
theorem c111 : C_impl_dot Try.prog 111 := k_impl_dot fn111
theorem fn149 : Is_impl_absolute Try.prog 149 := FnIs.of Try.func149 (by kernel_rfl) (by kernel_rfl) (by kernel_rfl) (by decide) (fun vs w => Try.call149 vs w)
theorem c149 : C_impl_absolute Try.prog 149 := k_impl_absolute fn149
theorem fn102 : Is_impl_ifAll Try.prog 102 96 := FnIs.of Try.func102 (by kernel_rfl) (by kernel_rfl) (by kernel_rfl) (by decide) (fun vs w => Try.call102 vs w)
theorem c102 : C_impl_ifAll Try.prog 102 := k_impl_ifAll fn102 c96
theorem fn109 : Is_impl_columnFit Try.prog 109 111 96 149 102 := FnIs.of Try.func109 (by kernel_rfl) (by kernel_rfl) (by kernel_rfl) (by decide) (fun vs w => Try.call109 vs w)
theorem c109 : C_impl_columnFit Try.prog 109 := k_impl_columnFit fn109 c111 c96 c149 c102
theorem fn33 : Is_impl_ColumnFit Try.prog 33 77 101 109 := FnIs.of Try.func33 (by kernel_rfl) (by kernel_rfl) (by kernel_rfl) (by decide) (fun vs w => Try.call33 vs w)
theorem c33 : C_impl_ColumnFit Try.prog 33 := k_impl_ColumnFit fn33 c77 c101 c109
theorem fn103 : Is_impl_fitted Try.prog 103 := FnIs.of Try.func103 (by kernel_rfl) (by kernel_rfl) (by kernel_rfl) (by decide) (fun vs w => Try.call103 vs w)
theorem c103 : C_impl_fitted Try.prog 103 := k_impl_fitted fn103
theorem fn93 : Is_impl_less Try.prog 93 := FnIs.of Try.func93 (by kernel_rfl) (by kernel_rfl) (by kernel_rfl) (by decide) (fun vs w => Try.call93 vs w)
theorem c93 : C_impl_less Try.prog 93 := k_impl_less fn93
theorem fn35 : Is_impl_RestOfFit Try.prog 35 33 103 93 111 96 112 := FnIs.of Try.func35 (by kernel_rfl) (by kernel_rfl) (by kernel_rfl) (by decide) (fun vs w => Try.call35 vs w)
theorem c35 : C_impl_RestOfFit Try.prog 35 := k_impl_RestOfFit fn35 c33 c103 c93 c111 c96 c112
theorem fn36 : Is_laws_sameFloat Try.prog 36 := FnIs.of Try.func36 (by kernel_rfl) (by kernel_rfl) (by kernel_rfl) (by decide) (fun vs w => Try.call36 vs w)
theorem c36 : C_laws_sameFloat Try.prog 36 := k_laws_sameFloat fn36
theorem fn18 : Is_laws_eqFloat32S Try.prog 18 36 := FnIs.of Try.func18 (by kernel_rfl) (by kernel_rfl) (by kernel_rfl) (by decide) (fun vs w => Try.call18 vs w)
theorem c18 : C_laws_eqFloat32S Try.prog 18 := k_laws_eqFloat32S fn18 c36
theorem fn25 : Is_laws_eqFloat32SS Try.prog 25 18 := FnIs.of Try.func25 (by kernel_rfl) (by kernel_rfl) (by kernel_rfl) (by decide) (fun vs w => Try.call25 vs w)
theorem c25 : C_laws_eqFloat32SS Try.prog 25 := k_laws_eqFloat32SS fn25 c18
theorem fn19 : Is_laws_markFloat32S Try.prog 19 := FnIs.of Try.func19 (by kernel_rfl) (by kernel_rfl) (by kernel_rfl) (by decide) (fun vs w => Try.call19 vs w)
theorem c19 : C_laws_markFloat32S Try.prog 19 := k_laws_markFloat32S fn19
theorem fn26 : Is_laws_markFloat32SS Try.prog 26 19 := FnIs.of Try.func26 (by kernel_rfl) (by kernel_rfl) (by kernel_rfl) (by decide) (fun vs w => Try.call26 vs w)
theorem c26 : C_laws_markFloat32SS Try.prog 26 := k_laws_markFloat32SS fn26 c19
theorem fn20 : Is_laws_heldFloat32S Try.prog 20 := FnIs.of Try.func20 (by kernel_rfl) (by kernel_rfl) (by kernel_rfl) (by decide) (fun vs w => Try.call20 vs w)
theorem c20 : C_laws_heldFloat32S Try.prog 20 := k_laws_heldFloat32S fn20
theorem fn8 : Is_laws_FnExactRestOfFit Try.prog 8 21 23 16 34 35 18 36 25 26 19 20 := FnIs.of Try.func8 (by kernel_rfl) (by kernel_rfl) (by kernel_rfl) (by decide) (fun vs w => Try.call8 vs w)
theorem c8 : C_laws_FnExactRestOfFit Try.prog 8 := k_laws_FnExactRestOfFit fn8 c21 c23 c16 c34 c35 c18 c36 c25 c26 c19 c20
theorem law (xs : List AV) (h : ShapesT [.one (.sff .f32), .one (.sf .f32)] xs) : VCall Try.prog 8 (AV.viewL [] 0 xs) (.b true) := by
  obtain ⟨_, _, rfl, ⟨_, rfl, _, hq⟩, _, _, rfl, ⟨_, rfl, _, _⟩, rfl⟩ := h
  exact c8 _ _ (by assumption) (fun r h => (hq r h).1) (by assumption)
set_option maxRecDepth 100000 in
theorem lifted (os : Os) (started : os.Started) (H : Type) (enc : TypeId × Value → H) :
    ReturnsInHanded {} Try.checked os 8 .any (Rows.fnExactRestOfFitSpec.pre6 enc Try.prog Try.f8 Rows.fnExactRestOfFitRow.domain false) (Rows.fnExactRestOfFitSpec.post enc Try.prog Try.f8 false true false false) := by
  refine returnsInHanded_of_change (C := Try.checked) own started (by kernel_rfl) Try.func8
    (ChangeSpec.witness6 (enc := enc) (C := Try.checked) false ⟨#[], #[.slice none 0 0, .slice none 0 0], []⟩ 8 (by kernel_rfl) (by kernel_rfl) (by kernel_rfl) (by kernel_rfl)) ?_
  intro W base args ds gs before hval hW _ _
  exact law_post (P := Try.prog) (fn := Try.f8) (tys := [.one (.sff .f32), .one (.sf .f32)]) (by kernel_rfl) (by kernel_rfl) (by kernel_rfl) rfl
    (fun H ds hds => by
      match ds, hds with
      | [d0, d1], _ => rfl) (rt := 4) (by kernel_rfl) (by kernel_rfl) (fun vs w => Try.call8 vs w) law enc W base args ds gs before hval hW

theorem proved : Rows.FnExactRestOfFitSaid :=
  OpenClaim.holds_of_wide 8 Try.f8 rfl rfl rfl rfl rfl rfl rfl ⟨rfl, rfl, rfl, rfl, rfl⟩ rfl rfl rfl rfl rfl (by kernel_rfl) Try.func8 (by kernel_rfl)
    (of_decide_eq_true (by kernel_rfl)) (by unfold Func.isWrapper; first | (rw [if_pos (by decide +kernel)]; kernel_rfl) | (rw [if_neg (by decide +kernel)]; exact ⟨rfl, rfl⟩))
    (fun os started H enc _ => lifted os started H enc)
end Go.Proofs.Ytjfgmnfkkehgfaa.FnExactRestOfFit
