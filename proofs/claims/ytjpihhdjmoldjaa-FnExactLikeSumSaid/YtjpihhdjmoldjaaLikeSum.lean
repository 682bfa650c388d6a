/- The statement FnExactLikeSum, proved: whatever the input, the law returns true, and the input reads as it did. -/
import Derived.Test.YtjpihhdjmoldjaaRows
import Derived.Test.YtjpihhdjmoldjaaLvFnA
import Derived.Test.YtjpihhdjmoldjaaLvFnB
import Derived.Test.YtjpihhdjmoldjaaLvFnD
import Derived.Test.YtjpihhdjmoldjaaLvFnF
import Derived.Test.YtjpihhdjmoldjaaLvFnJ
import Derived.Test.YtjpihhdjmoldjaaLvLawF
import Derived.JoinedOf
namespace Go.Proofs.Ytjpihhdjmoldjaa.FnExactLikeSum
open Go.Proofs.LV Go.ChangeShapes Go.WideShapes Go.ChangeAt Go.RowKit
set_option linter.unusedVariables false
set_option linter.unusedSimpArgs false
theorem own : ownKnob Try.prog.godebug = none := by kernel_rfl
theorem fn16 : Is_laws_toFloat32S Try.prog 16 := FnIs.of Try.func16 (by kernel_rfl) (by kernel_rfl) (by kernel_rfl) (by decide) (fun vs w => Try.call16 vs w)
theorem c16 : C_laws_toFloat32S Try.prog 16 := k_laws_toFloat32S fn16
theorem fn68 : Is_spec_l01Finite Try.prog 68 := FnIs.of Try.func68 (by kernel_rfl) (by kernel_rfl) (by kernel_rfl) (by decide) (fun vs w => Try.call68 vs w)
theorem c68 : C_spec_l01Finite Try.prog 68 := k_spec_l01Finite fn68
theorem fn96 : Is_spec_l02Finite Try.prog 96 68 := FnIs.of Try.func96 (by kernel_rfl) (by kernel_rfl) (by kernel_rfl) (by decide) (fun vs w => Try.call96 vs w)
theorem c96 : C_spec_l02Finite Try.prog 96 := k_spec_l02Finite fn96 c68
theorem fn58 : Is_spec_l02Series Try.prog 58 96 := FnIs.of Try.func58 (by kernel_rfl) (by kernel_rfl) (by kernel_rfl) (by decide) (fun vs w => Try.call58 vs w)
theorem c58 : C_spec_l02Series Try.prog 58 := k_spec_l02Series fn58 c96
theorem fn75 : Is_spec_l00In Try.prog 75 := FnIs.of Try.func75 (by kernel_rfl) (by kernel_rfl) (by kernel_rfl) (by decide) (fun vs w => Try.call75 vs w)
theorem c75 : C_spec_l00In Try.prog 75 := k_spec_l00In fn75
theorem fn120 : Is_spec_l03Mean Try.prog 120 := FnIs.of Try.func120 (by kernel_rfl) (by kernel_rfl) (by kernel_rfl) (by decide) (fun vs w => Try.call120 vs w)
theorem c120 : C_spec_l03Mean Try.prog 120 := k_spec_l03Mean fn120
theorem fn85 : Is_spec_l03Off Try.prog 85 120 := FnIs.of Try.func85 (by kernel_rfl) (by kernel_rfl) (by kernel_rfl) (by decide) (fun vs w => Try.call85 vs w)
theorem c85 : C_spec_l03Off Try.prog 85 := k_spec_l03Off fn85 c120
theorem fn86 : Is_spec_l03Delayed Try.prog 86 := FnIs.of Try.func86 (by kernel_rfl) (by kernel_rfl) (by kernel_rfl) (by decide) (fun vs w => Try.call86 vs w)
theorem c86 : C_spec_l03Delayed Try.prog 86 := k_spec_l03Delayed fn86
theorem fn87 : Is_spec_l03Given Try.prog 87 96 := FnIs.of Try.func87 (by kernel_rfl) (by kernel_rfl) (by kernel_rfl) (by decide) (fun vs w => Try.call87 vs w)
theorem c87 : C_spec_l03Given Try.prog 87 := k_spec_l03Given fn87 c96
theorem fn28 : Is_spec_SelfLikes Try.prog 28 58 75 85 86 87 := FnIs.of Try.func28 (by kernel_rfl) (by kernel_rfl) (by kernel_rfl) (by decide) (fun vs w => Try.call28 vs w)
theorem c28 : C_spec_SelfLikes Try.prog 28 := k_spec_SelfLikes fn28 c58 c75 c85 c86 c87
theorem fn69 : Is_spec_l02Number Try.prog 69 68 := FnIs.of Try.func69 (by kernel_rfl) (by kernel_rfl) (by kernel_rfl) (by decide) (fun vs w => Try.call69 vs w)
theorem c69 : C_spec_l02Number Try.prog 69 := k_spec_l02Number fn69 c68
theorem fn53 : Is_spec_LikeSum Try.prog 53 28 69 := FnIs.of Try.func53 (by kernel_rfl) (by kernel_rfl) (by kernel_rfl) (by decide) (fun vs w => Try.call53 vs w)
theorem c53 : C_spec_LikeSum Try.prog 53 := k_spec_LikeSum fn53 c28 c69
theorem fn130 : Is_slices_IndexFunc___float32_float32_ Try.prog 130 := FnIs.of Try.func130 (by kernel_rfl) (by kernel_rfl) (by kernel_rfl) (by decide) (fun vs w => Try.call130 vs w)
theorem c130 : C_slices_IndexFunc___float32_float32_ Try.prog 130 := k_slices_IndexFunc___float32_float32_ fn130
theorem fn113 : Is_slices_ContainsFunc___float32_float32_ Try.prog 113 130 := FnIs.of Try.func113 (by kernel_rfl) (by kernel_rfl) (by kernel_rfl) (by decide) (fun vs w => Try.call113 vs w)
theorem c113 : C_slices_ContainsFunc___float32_float32_ Try.prog 113 := k_slices_ContainsFunc___float32_float32_ fn113 c130
theorem fn73 : Is_impl_IsFinite Try.prog 73 := FnIs.of Try.func73 (by kernel_rfl) (by kernel_rfl) (by kernel_rfl) (by decide) (fun vs w => Try.call73 vs w)
theorem c73 : C_impl_IsFinite Try.prog 73 := k_impl_IsFinite fn73
theorem fn126 : Is_impl_areFinite_1 Try.prog 126 73 := FnIs.of Try.func126 (by kernel_rfl) (by kernel_rfl) (by kernel_rfl) (by decide) (fun vs w => Try.call126 vs w)
theorem c126 : C_impl_areFinite_1 Try.prog 126 := k_impl_areFinite_1 fn126 c73
theorem fn99 : Is_impl_areFinite Try.prog 99 113 126 := FnIs.of Try.func99 (by kernel_rfl) (by kernel_rfl) (by kernel_rfl) (by decide) (fun vs w => Try.call99 vs w)
theorem c99 : C_impl_areFinite Try.prog 99 := k_impl_areFinite fn99 c113 c126
theorem fn71 : Is_impl_IsSeries Try.prog 71 99 := FnIs.of Try.func71 (by kernel_rfl) (by kernel_rfl) (by kernel_rfl) (by decide) (fun vs w => Try.call71 vs w)
theorem c71 : C_impl_IsSeries Try.prog 71 := k_impl_IsSeries fn71 c99
theorem fn82 : Is_impl_within Try.prog 82 := FnIs.of Try.func82 (by kernel_rfl) (by kernel_rfl) (by kernel_rfl) (by decide) (fun vs w => Try.call82 vs w)
theorem c82 : C_impl_within Try.prog 82 := k_impl_within fn82
theorem fn88 : Is_impl_isMost Try.prog 88 71 82 := FnIs.of Try.func88 (by kernel_rfl) (by kernel_rfl) (by kernel_rfl) (by decide) (fun vs w => Try.call88 vs w)
theorem c88 : C_impl_isMost Try.prog 88 := k_impl_isMost fn88 c71 c82
theorem fn60 : Is_impl_addUp Try.prog 60 := FnIs.of Try.func60 (by kernel_rfl) (by kernel_rfl) (by kernel_rfl) (by decide) (fun vs w => Try.call60 vs w)
theorem c60 : C_impl_addUp Try.prog 60 := k_impl_addUp fn60
theorem fn74 : Is_impl_mean Try.prog 74 60 := FnIs.of Try.func74 (by kernel_rfl) (by kernel_rfl) (by kernel_rfl) (by decide) (fun vs w => Try.call74 vs w)
theorem c74 : C_impl_mean Try.prog 74 := k_impl_mean fn74 c60
theorem fn64 : Is_impl_lessOne Try.prog 64 := FnIs.of Try.func64 (by kernel_rfl) (by kernel_rfl) (by kernel_rfl) (by decide) (fun vs w => Try.call64 vs w)
theorem c64 : C_impl_lessOne Try.prog 64 := k_impl_lessOne fn64
theorem fn63 : Is_impl_dot Try.prog 63 := FnIs.of Try.func63 (by kernel_rfl) (by kernel_rfl) (by kernel_rfl) (by decide) (fun vs w => Try.call63 vs w)
theorem c63 : C_impl_dot Try.prog 63 := k_impl_dot fn63
theorem fn79 : Is_impl_ifAll Try.prog 79 99 := FnIs.of Try.func79 (by kernel_rfl) (by kernel_rfl) (by kernel_rfl) (by decide) (fun vs w => Try.call79 vs w)
theorem c79 : C_impl_ifAll Try.prog 79 := k_impl_ifAll fn79 c99
theorem fn89 : Is_impl_selfLikes Try.prog 89 74 64 63 79 := FnIs.of Try.func89 (by kernel_rfl) (by kernel_rfl) (by kernel_rfl) (by decide) (fun vs w => Try.call89 vs w)
theorem c89 : C_impl_selfLikes Try.prog 89 := k_impl_selfLikes fn89 c74 c64 c63 c79
theorem fn29 : Is_impl_SelfLikes Try.prog 29 88 89 := FnIs.of Try.func29 (by kernel_rfl) (by kernel_rfl) (by kernel_rfl) (by decide) (fun vs w => Try.call29 vs w)
theorem c29 : C_impl_SelfLikes Try.prog 29 := k_impl_SelfLikes fn29 c88 c89
theorem fn110 : Is_impl_ifFinite Try.prog 110 73 := FnIs.of Try.func110 (by kernel_rfl) (by kernel_rfl) (by kernel_rfl) (by decide) (fun vs w => Try.call110 vs w)
theorem c110 : C_impl_ifFinite Try.prog 110 := k_impl_ifFinite fn110 c73
theorem fn54 : Is_impl_LikeSum Try.prog 54 29 110 := FnIs.of Try.func54 (by kernel_rfl) (by kernel_rfl) (by kernel_rfl) (by decide) (fun vs w => Try.call54 vs w)
theorem c54 : C_impl_LikeSum Try.prog 54 := k_impl_LikeSum fn54 c29 c110
theorem fn18 : Is_laws_sameFloat Try.prog 18 := FnIs.of Try.func18 (by kernel_rfl) (by kernel_rfl) (by kernel_rfl) (by decide) (fun vs w => Try.call18 vs w)
theorem c18 : C_laws_sameFloat Try.prog 18 := k_laws_sameFloat fn18
theorem fn19 : Is_laws_eqFloat32S Try.prog 19 18 := FnIs.of Try.func19 (by kernel_rfl) (by kernel_rfl) (by kernel_rfl) (by decide) (fun vs w => Try.call19 vs w)
theorem c19 : C_laws_eqFloat32S Try.prog 19 := k_laws_eqFloat32S fn19 c18
theorem fn13 : Is_laws_FnExactLikeSum Try.prog 13 16 53 54 18 19 := FnIs.of Try.func13 (by kernel_rfl) (by kernel_rfl) (by kernel_rfl) (by decide) (fun vs w => Try.call13 vs w)
theorem c13 : C_laws_FnExactLikeSum Try.prog 13 := k_laws_FnExactLikeSum fn13 c16 c53 c54 c18 c19
theorem law (xs : List AV) (h : ShapesT [.one (.sf .f32), .one (.i .i64)] xs) : VCall Try.prog 13 (AV.viewL [] 0 xs) (.b true) := by
  obtain ⟨_, _, rfl, ⟨_, rfl, _, _⟩, _, _, rfl, ⟨_, rfl, _⟩, rfl⟩ := h
  exact c13 _ _ (by assumption)
set_option maxRecDepth 100000 in
theorem lifted (os : Os) (started : os.Started) (H : Type) (enc : TypeId × Value → H) :
    ReturnsInHanded {} Try.checked os 13 .any (Rows.fnExactLikeSumSpec.pre6 enc Try.prog Try.f13 Rows.fnExactLikeSumRow.domain false) (Rows.fnExactLikeSumSpec.post enc Try.prog Try.f13 false true false false) := by
  refine returnsInHanded_of_change (C := Try.checked) own started (by kernel_rfl) Try.func13
    (ChangeSpec.witness6 (enc := enc) (C := Try.checked) false ⟨#[], #[.slice none 0 0, .int .i64 0], []⟩ 8 (by kernel_rfl) (by kernel_rfl) (by kernel_rfl) (by kernel_rfl)) ?_
  intro W base args ds gs before hval hW _ _
  exact law_post (P := Try.prog) (fn := Try.f13) (tys := [.one (.sf .f32), .one (.i .i64)]) (by kernel_rfl) (by kernel_rfl) (by kernel_rfl) rfl
    (fun H ds hds => by
      match ds, hds with
      | [d0, d1], _ => rfl) (rt := 4) (by kernel_rfl) (by kernel_rfl) (fun vs w => Try.call13 vs w) law enc W base args ds gs before hval hW

theorem proved : Rows.FnExactLikeSumSaid :=
  OpenClaim.holds_of_wide 13 Try.f13 rfl rfl rfl rfl rfl rfl rfl ⟨rfl, rfl, rfl, rfl, rfl⟩ rfl rfl rfl rfl rfl (by kernel_rfl) Try.func13 (by kernel_rfl)
    (of_decide_eq_true (by kernel_rfl)) (by unfold Func.isWrapper; first | (rw [if_pos (by decide +kernel)]; kernel_rfl) | (rw [if_neg (by decide +kernel)]; exact ⟨rfl, rfl⟩))
    (fun os started H enc _ => lifted os started H enc)
end Go.Proofs.Ytjpihhdjmoldjaa.FnExactLikeSum
