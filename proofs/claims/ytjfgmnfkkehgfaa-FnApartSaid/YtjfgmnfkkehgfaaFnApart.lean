/- The statement FnApart, proved: whatever the input, the law returns true, and the input reads as it did. -/
import Derived.Test.YtjfgmnfkkehgfaaRows
import Derived.Test.YtjfgmnfkkehgfaaLvAbs
import Derived.Test.YtjfgmnfkkehgfaaLvExtX
import Derived.Test.YtjfgmnfkkehgfaaLvFnB
import Derived.Test.YtjfgmnfkkehgfaaLvFnDD
import Derived.Test.YtjfgmnfkkehgfaaLvFnHX
import Derived.Test.YtjfgmnfkkehgfaaLvFnF
import Derived.Test.YtjfgmnfkkehgfaaLvFnFF
import Derived.Test.YtjfgmnfkkehgfaaLvFnG
import Derived.Test.YtjfgmnfkkehgfaaLvFnI
import Derived.Test.YtjfgmnfkkehgfaaLvFnOO
import Derived.Test.YtjfgmnfkkehgfaaLvSortX
import Derived.Test.YtjfgmnfkkehgfaaLvLawHH
import Derived.JoinedOf
namespace Go.Proofs.Ytjfgmnfkkehgfaa.FnApart
open Go.Proofs.LV Go.ChangeShapes Go.WideShapes Go.ChangeAt Go.RowKit
set_option linter.unusedVariables false
set_option linter.unusedSimpArgs false
theorem own : ownKnob Try.prog.godebug = none := by kernel_rfl
theorem fn39 : Is_laws_r8Long Try.prog 39 := FnIs.of Try.func39 (by kernel_rfl) (by kernel_rfl) (by kernel_rfl) (by decide) (fun vs w => Try.call39 vs w)
theorem c39 : C_laws_r8Long Try.prog 39 := k_laws_r8Long fn39
theorem fn40 : Is_laws_r8At Try.prog 40 := FnIs.of Try.func40 (by kernel_rfl) (by kernel_rfl) (by kernel_rfl) (by decide) (fun vs w => Try.call40 vs w)
theorem c40 : C_laws_r8At Try.prog 40 := k_laws_r8At fn40
theorem fn128 : Is_spec_l00From Try.prog 128 := FnIs.of Try.func128 (by kernel_rfl) (by kernel_rfl) (by kernel_rfl) (by decide) (fun vs w => Try.call128 vs w)
theorem c128 : C_spec_l00From Try.prog 128 := k_spec_l00From fn128
theorem fn191 : Is_spec_l00Src__next Try.prog 191 := FnIs.of Try.func191 (by kernel_rfl) (by kernel_rfl) (by kernel_rfl) (by decide) (fun vs w => Try.call191 vs w)
theorem c191 : C_spec_l00Src__next Try.prog 191 := k_spec_l00Src__next fn191
theorem fn167 : Is_spec_l00Src__pick Try.prog 167 191 := FnIs.of Try.func167 (by kernel_rfl) (by kernel_rfl) (by kernel_rfl) (by decide) (fun vs w => Try.call167 vs w)
theorem c167 : C_spec_l00Src__pick Try.prog 167 := k_spec_l00Src__pick fn167 c191
theorem fn135 : Is_spec_l02DrawOk Try.prog 135 167 := FnIs.of Try.func135 (by kernel_rfl) (by kernel_rfl) (by kernel_rfl) (by decide) (fun vs w => Try.call135 vs w)
theorem c135 : C_spec_l02DrawOk Try.prog 135 := k_spec_l02DrawOk fn135 c167
theorem fn60 : Is_spec_R8Series Try.prog 60 128 135 := FnIs.of Try.func60 (by kernel_rfl) (by kernel_rfl) (by kernel_rfl) (by decide) (fun vs w => Try.call60 vs w)
theorem c60 : C_spec_R8Series Try.prog 60 := k_spec_R8Series fn60 c128 c135
theorem fn177 : Is_slices_IndexFunc___float32_float32_ Try.prog 177 := FnIs.of Try.func177 (by kernel_rfl) (by kernel_rfl) (by kernel_rfl) (by decide) (fun vs w => Try.call177 vs w)
theorem c177 : C_slices_IndexFunc___float32_float32_ Try.prog 177 := k_slices_IndexFunc___float32_float32_ fn177
theorem fn154 : Is_slices_ContainsFunc___float32_float32_ Try.prog 154 177 := FnIs.of Try.func154 (by kernel_rfl) (by kernel_rfl) (by kernel_rfl) (by decide) (fun vs w => Try.call154 vs w)
theorem c154 : C_slices_ContainsFunc___float32_float32_ Try.prog 154 := k_slices_ContainsFunc___float32_float32_ fn154 c177
theorem fn112 : Is_impl_IsFinite Try.prog 112 := FnIs.of Try.func112 (by kernel_rfl) (by kernel_rfl) (by kernel_rfl) (by decide) (fun vs w => Try.call112 vs w)
theorem c112 : C_impl_IsFinite Try.prog 112 := k_impl_IsFinite fn112
theorem fn155 : Is_impl_areFinite_1 Try.prog 155 112 := FnIs.of Try.func155 (by kernel_rfl) (by kernel_rfl) (by kernel_rfl) (by decide) (fun vs w => Try.call155 vs w)
theorem c155 : C_impl_areFinite_1 Try.prog 155 := k_impl_areFinite_1 fn155 c112
theorem fn96 : Is_impl_areFinite Try.prog 96 154 155 := FnIs.of Try.func96 (by kernel_rfl) (by kernel_rfl) (by kernel_rfl) (by decide) (fun vs w => Try.call96 vs w)
theorem c96 : C_impl_areFinite Try.prog 96 := k_impl_areFinite fn96 c154 c155
theorem fn77 : Is_impl_IsSeries Try.prog 77 96 := FnIs.of Try.func77 (by kernel_rfl) (by kernel_rfl) (by kernel_rfl) (by decide) (fun vs w => Try.call77 vs w)
theorem c77 : C_impl_IsSeries Try.prog 77 := k_impl_IsSeries fn77 c96
theorem fn90 : Is_impl_within Try.prog 90 := FnIs.of Try.func90 (by kernel_rfl) (by kernel_rfl) (by kernel_rfl) (by decide) (fun vs w => Try.call90 vs w)
theorem c90 : C_impl_within Try.prog 90 := k_impl_within fn90
theorem fn88 : Is_impl_isPeriodOf Try.prog 88 77 90 := FnIs.of Try.func88 (by kernel_rfl) (by kernel_rfl) (by kernel_rfl) (by decide) (fun vs w => Try.call88 vs w)
theorem c88 : C_impl_isPeriodOf Try.prog 88 := k_impl_isPeriodOf fn88 c77 c90
theorem fn89 : Is_impl_isSide Try.prog 89 90 := FnIs.of Try.func89 (by kernel_rfl) (by kernel_rfl) (by kernel_rfl) (by decide) (fun vs w => Try.call89 vs w)
theorem c89 : C_impl_isSide Try.prog 89 := k_impl_isSide fn89 c90
theorem fn91 : Is_impl_TakeApart_1 Try.prog 91 := FnIs.of Try.func91 (by kernel_rfl) (by kernel_rfl) (by kernel_rfl) (by decide) (fun vs w => Try.call91 vs w)
theorem c91 : C_impl_TakeApart_1 Try.prog 91 := k_impl_TakeApart_1 fn91
theorem fn93 : Is_impl_less Try.prog 93 := FnIs.of Try.func93 (by kernel_rfl) (by kernel_rfl) (by kernel_rfl) (by decide) (fun vs w => Try.call93 vs w)
theorem c93 : C_impl_less Try.prog 93 := k_impl_less fn93
theorem fn92 : Is_impl_moving Try.prog 92 := FnIs.of Try.func92 (by kernel_rfl) (by kernel_rfl) (by kernel_rfl) (by decide) (fun vs w => Try.call92 vs w)
theorem c92 : C_impl_moving Try.prog 92 := k_impl_moving fn92
theorem fn137 : Is_impl_addUp Try.prog 137 := FnIs.of Try.func137 (by kernel_rfl) (by kernel_rfl) (by kernel_rfl) (by decide) (fun vs w => Try.call137 vs w)
theorem c137 : C_impl_addUp Try.prog 137 := k_impl_addUp fn137
theorem fn94 : Is_impl_mean Try.prog 94 137 := FnIs.of Try.func94 (by kernel_rfl) (by kernel_rfl) (by kernel_rfl) (by decide) (fun vs w => Try.call94 vs w)
theorem c94 : C_impl_mean Try.prog 94 := k_impl_mean fn94 c137
theorem fn130 : Is_impl_folded Try.prog 130 94 := FnIs.of Try.func130 (by kernel_rfl) (by kernel_rfl) (by kernel_rfl) (by decide) (fun vs w => Try.call130 vs w)
theorem c130 : C_impl_folded Try.prog 130 := k_impl_folded fn130 c94
theorem fn153 : Is_impl_lessOne Try.prog 153 := FnIs.of Try.func153 (by kernel_rfl) (by kernel_rfl) (by kernel_rfl) (by decide) (fun vs w => Try.call153 vs w)
theorem c153 : C_impl_lessOne Try.prog 153 := k_impl_lessOne fn153
theorem fn95 : Is_impl_season Try.prog 95 130 94 153 := FnIs.of Try.func95 (by kernel_rfl) (by kernel_rfl) (by kernel_rfl) (by decide) (fun vs w => Try.call95 vs w)
theorem c95 : C_impl_season Try.prog 95 := k_impl_season fn95 c130 c94 c153
theorem fn17 : Is_impl_TakeApart Try.prog 17 88 89 90 91 93 92 94 95 96 := FnIs.of Try.func17 (by kernel_rfl) (by kernel_rfl) (by kernel_rfl) (by decide) (fun vs w => Try.call17 vs w)
theorem c17 : C_impl_TakeApart Try.prog 17 := k_impl_TakeApart fn17 c88 c89 c90 c91 c93 c92 c94 c95 c96
theorem fn102 : Is_impl_ifAll Try.prog 102 96 := FnIs.of Try.func102 (by kernel_rfl) (by kernel_rfl) (by kernel_rfl) (by decide) (fun vs w => Try.call102 vs w)
theorem c102 : C_impl_ifAll Try.prog 102 := k_impl_ifAll fn102 c96
theorem fn70 : Is_impl_SeasonOf Try.prog 70 88 95 102 := FnIs.of Try.func70 (by kernel_rfl) (by kernel_rfl) (by kernel_rfl) (by decide) (fun vs w => Try.call70 vs w)
theorem c70 : C_impl_SeasonOf Try.prog 70 := k_impl_SeasonOf fn70 c88 c95 c102
theorem fn64 : Is_laws_r8Gap Try.prog 64 := FnIs.of Try.func64 (by kernel_rfl) (by kernel_rfl) (by kernel_rfl) (by decide) (fun vs w => Try.call64 vs w)
theorem c64 : C_laws_r8Gap Try.prog 64 := k_laws_r8Gap fn64
theorem fn111 : Is_impl_dot Try.prog 111 := FnIs.of Try.func111 (by kernel_rfl) (by kernel_rfl) (by kernel_rfl) (by decide) (fun vs w => Try.call111 vs w)
theorem c111 : C_impl_dot Try.prog 111 := k_impl_dot fn111
theorem fn140 : Is_impl_squares Try.prog 140 94 153 111 := FnIs.of Try.func140 (by kernel_rfl) (by kernel_rfl) (by kernel_rfl) (by decide) (fun vs w => Try.call140 vs w)
theorem c140 : C_impl_squares Try.prog 140 := k_impl_squares fn140 c94 c153 c111
theorem fn71 : Is_impl_StepOf Try.prog 71 77 140 112 94 := FnIs.of Try.func71 (by kernel_rfl) (by kernel_rfl) (by kernel_rfl) (by decide) (fun vs w => Try.call71 vs w)
theorem c71 : C_impl_StepOf Try.prog 71 := k_impl_StepOf fn71 c77 c140 c112 c94
theorem fn13 : Is_laws_FnApart Try.prog 13 39 40 60 17 70 64 71 := FnIs.of Try.func13 (by kernel_rfl) (by kernel_rfl) (by kernel_rfl) (by decide) (fun vs w => Try.call13 vs w)
theorem c13 : C_laws_FnApart Try.prog 13 := k_laws_FnApart fn13 c39 c40 c60 c17 c70 c64 c71
theorem law (xs : List AV) (h : ShapesT [.one (.si .u8), .one (.si .u8)] xs) : VCall Try.prog 13 (AV.viewL [] 0 xs) (.b true) := by
  obtain ⟨_, _, rfl, ⟨_, rfl, _, _⟩, _, _, rfl, ⟨_, rfl, _, _⟩, rfl⟩ := h
  exact c13 _ _
set_option maxRecDepth 100000 in
theorem lifted (os : Os) (started : os.Started) (H : Type) (enc : TypeId × Value → H) :
    ReturnsInHanded {} Try.checked os 13 .any (Rows.fnApartSpec.pre6 enc Try.prog Try.f13 Rows.fnApartRow.domain false) (Rows.fnApartSpec.post enc Try.prog Try.f13 false true false false) := by
  refine returnsInHanded_of_change (C := Try.checked) own started (by kernel_rfl) Try.func13
    (ChangeSpec.witness6 (enc := enc) (C := Try.checked) false ⟨#[], #[.slice none 0 0, .slice none 0 0], []⟩ 8 (by kernel_rfl) (by kernel_rfl) (by kernel_rfl) (by kernel_rfl)) ?_
  intro W base args ds gs before hval hW _ _
  exact law_post (P := Try.prog) (fn := Try.f13) (tys := [.one (.si .u8), .one (.si .u8)]) (by kernel_rfl) (by kernel_rfl) (by kernel_rfl) rfl
    (fun H ds hds => by
      match ds, hds with
      | [d0, d1], _ => rfl) (rt := 4) (by kernel_rfl) (by kernel_rfl) (fun vs w => Try.call13 vs w) law enc W base args ds gs before hval hW

theorem proved : Rows.FnApartSaid :=
  OpenClaim.holds_of_wide 13 Try.f13 rfl rfl rfl rfl rfl rfl rfl ⟨rfl, rfl, rfl, rfl, rfl⟩ rfl rfl rfl rfl rfl (by kernel_rfl) Try.func13 (by kernel_rfl)
    (of_decide_eq_true (by kernel_rfl)) (by unfold Func.isWrapper; first | (rw [if_pos (by decide +kernel)]; kernel_rfl) | (rw [if_neg (by decide +kernel)]; exact ⟨rfl, rfl⟩))
    (fun os started H enc _ => lifted os started H enc)
end Go.Proofs.Ytjfgmnfkkehgfaa.FnApart
