/- The statement FnExactPartLikes, proved: whatever the input, the law returns true, and the input reads as it did. -/
import Derived.Test.YtdjjpckpcfkgiaaRows
import Derived.Test.YtdjjpckpcfkgiaaLvFnA
import Derived.Test.YtdjjpckpcfkgiaaLvFnB
import Derived.Test.YtdjjpckpcfkgiaaLvFnF
import Derived.Test.YtdjjpckpcfkgiaaLvFnJ
import Derived.Test.YtdjjpckpcfkgiaaLvFnO
import Derived.Test.YtdjjpckpcfkgiaaLvLawP
import Derived.JoinedOf
namespace Go.Proofs.Ytdjjpckpcfkgiaa.FnExactPartLikes
open Go.Proofs.LV Go.ChangeShapes Go.WideShapes Go.ChangeAt Go.RowKit
set_option linter.unusedVariables false
set_option linter.unusedSimpArgs false
theorem own : ownKnob Try.prog.godebug = none := by kernel_rfl
theorem fn25 : Is_laws_toFloat32S Try.prog 25 := FnIs.of Try.func25 (by kernel_rfl) (by kernel_rfl) (by kernel_rfl) (by decide) (fun vs w => Try.call25 vs w)
theorem c25 : C_laws_toFloat32S Try.prog 25 := k_laws_toFloat32S fn25
theorem fn52 : Is_spec_l01Finite Try.prog 52 := FnIs.of Try.func52 (by kernel_rfl) (by kernel_rfl) (by kernel_rfl) (by decide) (fun vs w => Try.call52 vs w)
theorem c52 : C_spec_l01Finite Try.prog 52 := k_spec_l01Finite fn52
theorem fn72 : Is_spec_l02Finite Try.prog 72 52 := FnIs.of Try.func72 (by kernel_rfl) (by kernel_rfl) (by kernel_rfl) (by decide) (fun vs w => Try.call72 vs w)
theorem c72 : C_spec_l02Finite Try.prog 72 := k_spec_l02Finite fn72 c52
theorem fn60 : Is_spec_l02Series Try.prog 60 72 := FnIs.of Try.func60 (by kernel_rfl) (by kernel_rfl) (by kernel_rfl) (by decide) (fun vs w => Try.call60 vs w)
theorem c60 : C_spec_l02Series Try.prog 60 := k_spec_l02Series fn60 c72
theorem fn67 : Is_spec_l00In Try.prog 67 := FnIs.of Try.func67 (by kernel_rfl) (by kernel_rfl) (by kernel_rfl) (by decide) (fun vs w => Try.call67 vs w)
theorem c67 : C_spec_l00In Try.prog 67 := k_spec_l00In fn67
theorem fn136 : Is_spec_l03Mean Try.prog 136 := FnIs.of Try.func136 (by kernel_rfl) (by kernel_rfl) (by kernel_rfl) (by decide) (fun vs w => Try.call136 vs w)
theorem c136 : C_spec_l03Mean Try.prog 136 := k_spec_l03Mean fn136
theorem fn98 : Is_spec_l03Off Try.prog 98 136 := FnIs.of Try.func98 (by kernel_rfl) (by kernel_rfl) (by kernel_rfl) (by decide) (fun vs w => Try.call98 vs w)
theorem c98 : C_spec_l03Off Try.prog 98 := k_spec_l03Off fn98 c136
theorem fn100 : Is_spec_l03Delayed Try.prog 100 := FnIs.of Try.func100 (by kernel_rfl) (by kernel_rfl) (by kernel_rfl) (by decide) (fun vs w => Try.call100 vs w)
theorem c100 : C_spec_l03Delayed Try.prog 100 := k_spec_l03Delayed fn100
theorem fn90 : Is_spec_l03Given Try.prog 90 72 := FnIs.of Try.func90 (by kernel_rfl) (by kernel_rfl) (by kernel_rfl) (by decide) (fun vs w => Try.call90 vs w)
theorem c90 : C_spec_l03Given Try.prog 90 := k_spec_l03Given fn90 c72
theorem fn89 : Is_spec_SelfLikes Try.prog 89 60 67 98 100 90 := FnIs.of Try.func89 (by kernel_rfl) (by kernel_rfl) (by kernel_rfl) (by decide) (fun vs w => Try.call89 vs w)
theorem c89 : C_spec_SelfLikes Try.prog 89 := k_spec_SelfLikes fn89 c60 c67 c98 c100 c90
theorem fn36 : Is_spec_PartLikes Try.prog 36 89 90 := FnIs.of Try.func36 (by kernel_rfl) (by kernel_rfl) (by kernel_rfl) (by decide) (fun vs w => Try.call36 vs w)
theorem c36 : C_spec_PartLikes Try.prog 36 := k_spec_PartLikes fn36 c89 c90
theorem fn144 : Is_slices_IndexFunc___float32_float32_ Try.prog 144 := FnIs.of Try.func144 (by kernel_rfl) (by kernel_rfl) (by kernel_rfl) (by decide) (fun vs w => Try.call144 vs w)
theorem c144 : C_slices_IndexFunc___float32_float32_ Try.prog 144 := k_slices_IndexFunc___float32_float32_ fn144
theorem fn124 : Is_slices_ContainsFunc___float32_float32_ Try.prog 124 144 := FnIs.of Try.func124 (by kernel_rfl) (by kernel_rfl) (by kernel_rfl) (by decide) (fun vs w => Try.call124 vs w)
theorem c124 : C_slices_ContainsFunc___float32_float32_ Try.prog 124 := k_slices_ContainsFunc___float32_float32_ fn124 c144
theorem fn57 : Is_impl_IsFinite Try.prog 57 := FnIs.of Try.func57 (by kernel_rfl) (by kernel_rfl) (by kernel_rfl) (by decide) (fun vs w => Try.call57 vs w)
theorem c57 : C_impl_IsFinite Try.prog 57 := k_impl_IsFinite fn57
theorem fn125 : Is_impl_areFinite_1 Try.prog 125 57 := FnIs.of Try.func125 (by kernel_rfl) (by kernel_rfl) (by kernel_rfl) (by decide) (fun vs w => Try.call125 vs w)
theorem c125 : C_impl_areFinite_1 Try.prog 125 := k_impl_areFinite_1 fn125 c57
theorem fn81 : Is_impl_areFinite Try.prog 81 124 125 := FnIs.of Try.func81 (by kernel_rfl) (by kernel_rfl) (by kernel_rfl) (by decide) (fun vs w => Try.call81 vs w)
theorem c81 : C_impl_areFinite Try.prog 81 := k_impl_areFinite fn81 c124 c125
theorem fn63 : Is_impl_IsSeries Try.prog 63 81 := FnIs.of Try.func63 (by kernel_rfl) (by kernel_rfl) (by kernel_rfl) (by decide) (fun vs w => Try.call63 vs w)
theorem c63 : C_impl_IsSeries Try.prog 63 := k_impl_IsSeries fn63 c81
theorem fn75 : Is_impl_within Try.prog 75 := FnIs.of Try.func75 (by kernel_rfl) (by kernel_rfl) (by kernel_rfl) (by decide) (fun vs w => Try.call75 vs w)
theorem c75 : C_impl_within Try.prog 75 := k_impl_within fn75
theorem fn102 : Is_impl_isMost Try.prog 102 63 75 := FnIs.of Try.func102 (by kernel_rfl) (by kernel_rfl) (by kernel_rfl) (by decide) (fun vs w => Try.call102 vs w)
theorem c102 : C_impl_isMost Try.prog 102 := k_impl_isMost fn102 c63 c75
theorem fn122 : Is_impl_addUp Try.prog 122 := FnIs.of Try.func122 (by kernel_rfl) (by kernel_rfl) (by kernel_rfl) (by decide) (fun vs w => Try.call122 vs w)
theorem c122 : C_impl_addUp Try.prog 122 := k_impl_addUp fn122
theorem fn79 : Is_impl_mean Try.prog 79 122 := FnIs.of Try.func79 (by kernel_rfl) (by kernel_rfl) (by kernel_rfl) (by decide) (fun vs w => Try.call79 vs w)
theorem c79 : C_impl_mean Try.prog 79 := k_impl_mean fn79 c122
theorem fn103 : Is_impl_lessOne Try.prog 103 := FnIs.of Try.func103 (by kernel_rfl) (by kernel_rfl) (by kernel_rfl) (by decide) (fun vs w => Try.call103 vs w)
theorem c103 : C_impl_lessOne Try.prog 103 := k_impl_lessOne fn103
theorem fn85 : Is_impl_dot Try.prog 85 := FnIs.of Try.func85 (by kernel_rfl) (by kernel_rfl) (by kernel_rfl) (by decide) (fun vs w => Try.call85 vs w)
theorem c85 : C_impl_dot Try.prog 85 := k_impl_dot fn85
theorem fn93 : Is_impl_ifAll Try.prog 93 81 := FnIs.of Try.func93 (by kernel_rfl) (by kernel_rfl) (by kernel_rfl) (by decide) (fun vs w => Try.call93 vs w)
theorem c93 : C_impl_ifAll Try.prog 93 := k_impl_ifAll fn93 c81
theorem fn127 : Is_impl_selfLikes Try.prog 127 79 103 85 93 := FnIs.of Try.func127 (by kernel_rfl) (by kernel_rfl) (by kernel_rfl) (by decide) (fun vs w => Try.call127 vs w)
theorem c127 : C_impl_selfLikes Try.prog 127 := k_impl_selfLikes fn127 c79 c103 c85 c93
theorem fn91 : Is_impl_SelfLikes Try.prog 91 102 127 := FnIs.of Try.func91 (by kernel_rfl) (by kernel_rfl) (by kernel_rfl) (by decide) (fun vs w => Try.call91 vs w)
theorem c91 : C_impl_SelfLikes Try.prog 91 := k_impl_SelfLikes fn91 c102 c127
theorem fn92 : Is_slices_Clone___float32_float32_ Try.prog 92 := FnIs.of Try.func92 (by kernel_rfl) (by kernel_rfl) (by kernel_rfl) (by decide) (fun vs w => Try.call92 vs w)
theorem c92 : C_slices_Clone___float32_float32_ Try.prog 92 := k_slices_Clone___float32_float32_ fn92
theorem fn37 : Is_impl_PartLikes Try.prog 37 91 92 93 := FnIs.of Try.func37 (by kernel_rfl) (by kernel_rfl) (by kernel_rfl) (by decide) (fun vs w => Try.call37 vs w)
theorem c37 : C_impl_PartLikes Try.prog 37 := k_impl_PartLikes fn37 c91 c92 c93
theorem fn21 : Is_laws_sameFloat Try.prog 21 := FnIs.of Try.func21 (by kernel_rfl) (by kernel_rfl) (by kernel_rfl) (by decide) (fun vs w => Try.call21 vs w)
theorem c21 : C_laws_sameFloat Try.prog 21 := k_laws_sameFloat fn21
theorem fn27 : Is_laws_eqFloat32S Try.prog 27 21 := FnIs.of Try.func27 (by kernel_rfl) (by kernel_rfl) (by kernel_rfl) (by decide) (fun vs w => Try.call27 vs w)
theorem c27 : C_laws_eqFloat32S Try.prog 27 := k_laws_eqFloat32S fn27 c21
theorem fn30 : Is_laws_markFloat32S Try.prog 30 := FnIs.of Try.func30 (by kernel_rfl) (by kernel_rfl) (by kernel_rfl) (by decide) (fun vs w => Try.call30 vs w)
theorem c30 : C_laws_markFloat32S Try.prog 30 := k_laws_markFloat32S fn30
theorem fn31 : Is_laws_heldFloat32S Try.prog 31 := FnIs.of Try.func31 (by kernel_rfl) (by kernel_rfl) (by kernel_rfl) (by decide) (fun vs w => Try.call31 vs w)
theorem c31 : C_laws_heldFloat32S Try.prog 31 := k_laws_heldFloat32S fn31
theorem fn8 : Is_laws_FnExactPartLikes Try.prog 8 25 36 37 27 30 31 := FnIs.of Try.func8 (by kernel_rfl) (by kernel_rfl) (by kernel_rfl) (by decide) (fun vs w => Try.call8 vs w)
theorem c8 : C_laws_FnExactPartLikes Try.prog 8 := k_laws_FnExactPartLikes fn8 c25 c36 c37 c27 c30 c31
theorem law (xs : List AV) (h : ShapesT [.one (.sf .f32), .one (.i .i64)] xs) : VCall Try.prog 8 (AV.viewL [] 0 xs) (.b true) := by
  obtain ⟨_, _, rfl, ⟨_, rfl, _, _⟩, _, _, rfl, ⟨_, rfl, _⟩, rfl⟩ := h
  exact c8 _ _ (by assumption)
set_option maxRecDepth 100000 in
theorem lifted (os : Os) (started : os.Started) (H : Type) (enc : TypeId × Value → H) :
    ReturnsInHanded {} Try.checked os 8 .any (Rows.fnExactPartLikesSpec.pre6 enc Try.prog Try.f8 Rows.fnExactPartLikesRow.domain false) (Rows.fnExactPartLikesSpec.post enc Try.prog Try.f8 false true false false) := by
  refine returnsInHanded_of_change (C := Try.checked) own started (by kernel_rfl) Try.func8
    (ChangeSpec.witness6 (enc := enc) (C := Try.checked) false ⟨#[], #[.slice none 0 0, .int .i64 0], []⟩ 8 (by kernel_rfl) (by kernel_rfl) (by kernel_rfl) (by kernel_rfl)) ?_
  intro W base args ds gs before hval hW _ _
  exact law_post (P := Try.prog) (fn := Try.f8) (tys := [.one (.sf .f32), .one (.i .i64)]) (by kernel_rfl) (by kernel_rfl) (by kernel_rfl) rfl
    (fun H ds hds => by
      match ds, hds with
      | [d0, d1], _ => rfl) (rt := 4) (by kernel_rfl) (by kernel_rfl) (fun vs w => Try.call8 vs w) law enc W base args ds gs before hval hW

theorem proved : Rows.FnExactPartLikesSaid :=
  OpenClaim.holds_of_wide 8 Try.f8 rfl rfl rfl rfl rfl rfl rfl ⟨rfl, rfl, rfl, rfl, rfl⟩ rfl rfl rfl rfl rfl (by kernel_rfl) Try.func8 (by kernel_rfl)
    (of_decide_eq_true (by kernel_rfl)) (by unfold Func.isWrapper; first | (rw [if_pos (by decide +kernel)]; kernel_rfl) | (rw [if_neg (by decide +kernel)]; exact ⟨rfl, rfl⟩))
    (fun os started H enc _ => lifted os started H enc)
end Go.Proofs.Ytdjjpckpcfkgiaa.FnExactPartLikes
