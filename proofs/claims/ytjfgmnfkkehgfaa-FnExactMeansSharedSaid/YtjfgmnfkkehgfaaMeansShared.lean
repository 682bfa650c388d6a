/- The statement FnExactMeansShared, proved: whatever the input, the law returns true, and the input reads as it did. -/
import Derived.Test.YtjfgmnfkkehgfaaRows
import Derived.Test.YtjfgmnfkkehgfaaLvFnA
import Derived.Test.YtjfgmnfkkehgfaaLvFnB
import Derived.Test.YtjfgmnfkkehgfaaLvFnD
import Derived.Test.YtjfgmnfkkehgfaaLvFnF
import Derived.Test.YtjfgmnfkkehgfaaLvFnGG
import Derived.Test.YtjfgmnfkkehgfaaLvFnI
import Derived.Test.YtjfgmnfkkehgfaaLvFnJ
import Derived.Test.YtjfgmnfkkehgfaaLvLawAA
import Derived.JoinedOf
namespace Go.Proofs.Ytjfgmnfkkehgfaa.FnExactMeansShared
open Go.Proofs.LV Go.ChangeShapes Go.WideShapes Go.ChangeAt Go.RowKit
set_option linter.unusedVariables false
set_option linter.unusedSimpArgs false
theorem own : ownKnob Try.prog.godebug = none := by kernel_rfl
theorem fn97 : Is_laws_szFloat32S Try.prog 97 := FnIs.of Try.func97 (by kernel_rfl) (by kernel_rfl) (by kernel_rfl) (by decide) (fun vs w => Try.call97 vs w)
theorem c97 : C_laws_szFloat32S Try.prog 97 := k_laws_szFloat32S fn97
theorem fn21 : Is_laws_szFloat32SS Try.prog 21 97 := FnIs.of Try.func21 (by kernel_rfl) (by kernel_rfl) (by kernel_rfl) (by decide) (fun vs w => Try.call21 vs w)
theorem c21 : C_laws_szFloat32SS Try.prog 21 := k_laws_szFloat32SS fn21 c97
theorem fn16 : Is_laws_toFloat32S Try.prog 16 := FnIs.of Try.func16 (by kernel_rfl) (by kernel_rfl) (by kernel_rfl) (by decide) (fun vs w => Try.call16 vs w)
theorem c16 : C_laws_toFloat32S Try.prog 16 := k_laws_toFloat32S fn16
theorem fn23 : Is_laws_toFloat32SS Try.prog 23 16 := FnIs.of Try.func23 (by kernel_rfl) (by kernel_rfl) (by kernel_rfl) (by decide) (fun vs w => Try.call23 vs w)
theorem c23 : C_laws_toFloat32SS Try.prog 23 := k_laws_toFloat32SS fn23 c16
theorem fn82 : Is_spec_l00In Try.prog 82 := FnIs.of Try.func82 (by kernel_rfl) (by kernel_rfl) (by kernel_rfl) (by decide) (fun vs w => Try.call82 vs w)
theorem c82 : C_spec_l00In Try.prog 82 := k_spec_l00In fn82
theorem fn110 : Is_spec_l01Finite Try.prog 110 := FnIs.of Try.func110 (by kernel_rfl) (by kernel_rfl) (by kernel_rfl) (by decide) (fun vs w => Try.call110 vs w)
theorem c110 : C_spec_l01Finite Try.prog 110 := k_spec_l01Finite fn110
theorem fn87 : Is_spec_l02Finite Try.prog 87 110 := FnIs.of Try.func87 (by kernel_rfl) (by kernel_rfl) (by kernel_rfl) (by decide) (fun vs w => Try.call87 vs w)
theorem c87 : C_spec_l02Finite Try.prog 87 := k_spec_l02Finite fn87 c110
theorem fn81 : Is_spec_l02Series Try.prog 81 87 := FnIs.of Try.func81 (by kernel_rfl) (by kernel_rfl) (by kernel_rfl) (by decide) (fun vs w => Try.call81 vs w)
theorem c81 : C_spec_l02Series Try.prog 81 := k_spec_l02Series fn81 c87
theorem fn176 : Is_spec_l02Sum Try.prog 176 := FnIs.of Try.func176 (by kernel_rfl) (by kernel_rfl) (by kernel_rfl) (by decide) (fun vs w => Try.call176 vs w)
theorem c176 : C_spec_l02Sum Try.prog 176 := k_spec_l02Sum fn176
theorem fn150 : Is_spec_l02Mean Try.prog 150 176 := FnIs.of Try.func150 (by kernel_rfl) (by kernel_rfl) (by kernel_rfl) (by decide) (fun vs w => Try.call150 vs w)
theorem c150 : C_spec_l02Mean Try.prog 150 := k_spec_l02Mean fn150 c176
theorem fn158 : Is_spec_l02Number Try.prog 158 110 := FnIs.of Try.func158 (by kernel_rfl) (by kernel_rfl) (by kernel_rfl) (by decide) (fun vs w => Try.call158 vs w)
theorem c158 : C_spec_l02Number Try.prog 158 := k_spec_l02Number fn158 c110
theorem fn104 : Is_spec_MeanOf Try.prog 104 81 150 158 := FnIs.of Try.func104 (by kernel_rfl) (by kernel_rfl) (by kernel_rfl) (by decide) (fun vs w => Try.call104 vs w)
theorem c104 : C_spec_MeanOf Try.prog 104 := k_spec_MeanOf fn104 c81 c150 c158
theorem fn27 : Is_spec_MeansShared Try.prog 27 82 104 := FnIs.of Try.func27 (by kernel_rfl) (by kernel_rfl) (by kernel_rfl) (by decide) (fun vs w => Try.call27 vs w)
theorem c27 : C_spec_MeansShared Try.prog 27 := k_spec_MeansShared fn27 c82 c104
theorem fn90 : Is_impl_within Try.prog 90 := FnIs.of Try.func90 (by kernel_rfl) (by kernel_rfl) (by kernel_rfl) (by decide) (fun vs w => Try.call90 vs w)
theorem c90 : C_impl_within Try.prog 90 := k_impl_within fn90
theorem fn105 : Is_impl_areWorkers Try.prog 105 90 := FnIs.of Try.func105 (by kernel_rfl) (by kernel_rfl) (by kernel_rfl) (by decide) (fun vs w => Try.call105 vs w)
theorem c105 : C_impl_areWorkers Try.prog 105 := k_impl_areWorkers fn105 c90
theorem fn177 : Is_slices_IndexFunc___float32_float32_ Try.prog 177 := FnIs.of Try.func177 (by kernel_rfl) (by kernel_rfl) (by kernel_rfl) (by decide) (fun vs w => Try.call177 vs w)
theorem c177 : C_slices_IndexFunc___float32_float32_ Try.prog 177 := k_slices_IndexFunc___float32_float32_ fn177
theorem fn154 : Is_slices_ContainsFunc___float32_float32_ Try.prog 154 177 := FnIs.of Try.func154 (by kernel_rfl) (by kernel_rfl) (by kernel_rfl) (by decide) (fun vs w => Try.call154 vs w)
theorem c154 : C_slices_ContainsFunc___float32_float32_ Try.prog 154 := k_slices_ContainsFunc___float32_float32_ fn154 c177
theorem fn112 : Is_impl_IsFinite Try.prog 112 := FnIs.of Try.func112 (by kernel_rfl) (by kernel_rfl) (by kernel_rfl) (by decide) (fun vs w => Try.call112 vs w)
theorem c112 : C_impl_IsFinite Try.prog 112 := k_impl_IsFinite fn112
theorem fn155 : Is_impl_areFinite_1 Try.prog 155 112 := FnIs.of Try.func155 (by kernel_rfl) (by kernel_rfl) (by kernel_rfl) (by decide) (fun vs w => Try.call155 vs w)
theorem c155 : C_impl_areFinite_1 Try.prog 155 := k_impl_areFinite_1 fn155 c112
theorem fn96 : Is_impl_areFinite Try.prog 96 154 155 := FnIs.of Try.func96 (by kernel_rfl) (by kernel_rfl) (by kernel_rfl) (by decide) (fun vs w => Try.call96 vs w)
theorem c96 : C_impl_areFinite Try.prog 96 := k_impl_areFinite fn96 c154 c155
theorem fn77 : Is_impl_IsSeries Try.prog 77 96 := FnIs.of Try.func77 (by kernel_rfl) (by kernel_rfl) (by kernel_rfl) (by decide) (fun vs w => Try.call77 vs w)
theorem c77 : C_impl_IsSeries Try.prog 77 := k_impl_IsSeries fn77 c96
theorem fn137 : Is_impl_addUp Try.prog 137 := FnIs.of Try.func137 (by kernel_rfl) (by kernel_rfl) (by kernel_rfl) (by decide) (fun vs w => Try.call137 vs w)
theorem c137 : C_impl_addUp Try.prog 137 := k_impl_addUp fn137
theorem fn94 : Is_impl_mean Try.prog 94 137 := FnIs.of Try.func94 (by kernel_rfl) (by kernel_rfl) (by kernel_rfl) (by decide) (fun vs w => Try.call94 vs w)
theorem c94 : C_impl_mean Try.prog 94 := k_impl_mean fn94 c137
theorem fn141 : Is_impl_ifFinite Try.prog 141 112 := FnIs.of Try.func141 (by kernel_rfl) (by kernel_rfl) (by kernel_rfl) (by decide) (fun vs w => Try.call141 vs w)
theorem c141 : C_impl_ifFinite Try.prog 141 := k_impl_ifFinite fn141 c112
theorem fn72 : Is_impl_MeanOf Try.prog 72 77 94 141 := FnIs.of Try.func72 (by kernel_rfl) (by kernel_rfl) (by kernel_rfl) (by decide) (fun vs w => Try.call72 vs w)
theorem c72 : C_impl_MeanOf Try.prog 72 := k_impl_MeanOf fn72 c77 c94 c141
theorem fn28 : Is_impl_MeansShared Try.prog 28 105 72 := FnIs.of Try.func28 (by kernel_rfl) (by kernel_rfl) (by kernel_rfl) (by decide) (fun vs w => Try.call28 vs w)
theorem c28 : C_impl_MeansShared Try.prog 28 := k_impl_MeansShared fn28 c105 c72
theorem fn36 : Is_laws_sameFloat Try.prog 36 := FnIs.of Try.func36 (by kernel_rfl) (by kernel_rfl) (by kernel_rfl) (by decide) (fun vs w => Try.call36 vs w)
theorem c36 : C_laws_sameFloat Try.prog 36 := k_laws_sameFloat fn36
theorem fn18 : Is_laws_eqFloat32S Try.prog 18 36 := FnIs.of Try.func18 (by kernel_rfl) (by kernel_rfl) (by kernel_rfl) (by decide) (fun vs w => Try.call18 vs w)
theorem c18 : C_laws_eqFloat32S Try.prog 18 := k_laws_eqFloat32S fn18 c36
theorem fn25 : Is_laws_eqFloat32SS Try.prog 25 18 := FnIs.of Try.func25 (by kernel_rfl) (by kernel_rfl) (by kernel_rfl) (by decide) (fun vs w => Try.call25 vs w)
theorem c25 : C_laws_eqFloat32SS Try.prog 25 := k_laws_eqFloat32SS fn25 c18
theorem fn19 : Is_laws_markFloat32S Try.prog 19 := FnIs.of Try.func19 (by kernel_rfl) (by kernel_rfl) (by kernel_rfl) (by decide) (fun vs w => Try.call19 vs w)
theorem c19 : C_laws_markFloat32S Try.prog 19 := k_laws_markFloat32S fn19
theorem fn26 : Is_laws_markFloat32SS Try.prog 26 19 := FnIs.of Try.func26 (by kernel_rfl) (by kernel_rfl) (by kernel_rfl) (by decide) (fun vs w => Try.call26 vs w)
theorem c26 : C_laws_markFloat32SS Try.prog 26 := k_laws_markFloat32SS fn26 c19
theorem fn20 : Is_laws_heldFloat32S Try.prog 20 := FnIs.of Try.func20 (by kernel_rfl) (by kernel_rfl) (by kernel_rfl) (by decide) (fun vs w => Try.call20 vs w)
theorem c20 : C_laws_heldFloat32S Try.prog 20 := k_laws_heldFloat32S fn20
theorem fn5 : Is_laws_FnExactMeansShared Try.prog 5 21 23 27 28 18 25 26 19 20 := FnIs.of Try.func5 (by kernel_rfl) (by kernel_rfl) (by kernel_rfl) (by decide) (fun vs w => Try.call5 vs w)
theorem c5 : C_laws_FnExactMeansShared Try.prog 5 := k_laws_FnExactMeansShared fn5 c21 c23 c27 c28 c18 c25 c26 c19 c20
theorem law (xs : List AV) (h : ShapesT [.one (.sff .f32), .one (.i .i64)] xs) : VCall Try.prog 5 (AV.viewL [] 0 xs) (.b true) := by
  obtain ⟨_, _, rfl, ⟨_, rfl, _, hq⟩, _, _, rfl, ⟨_, rfl, _⟩, rfl⟩ := h
  exact c5 _ _ (by assumption) (fun r h => (hq r h).1)
set_option maxRecDepth 100000 in
theorem lifted (os : Os) (started : os.Started) (H : Type) (enc : TypeId × Value → H) :
    ReturnsInHanded {} Try.checked os 5 .any (Rows.fnExactMeansSharedSpec.pre6 enc Try.prog Try.f5 Rows.fnExactMeansSharedRow.domain false) (Rows.fnExactMeansSharedSpec.post enc Try.prog Try.f5 false true false false) := by
  refine returnsInHanded_of_change (C := Try.checked) own started (by kernel_rfl) Try.func5
    (ChangeSpec.witness6 (enc := enc) (C := Try.checked) false ⟨#[], #[.slice none 0 0, .int .i64 0], []⟩ 8 (by kernel_rfl) (by kernel_rfl) (by kernel_rfl) (by kernel_rfl)) ?_
  intro W base args ds gs before hval hW _ _
  exact law_post (P := Try.prog) (fn := Try.f5) (tys := [.one (.sff .f32), .one (.i .i64)]) (by kernel_rfl) (by kernel_rfl) (by kernel_rfl) rfl
    (fun H ds hds => by
      match ds, hds with
      | [d0, d1], _ => rfl) (rt := 4) (by kernel_rfl) (by kernel_rfl) (fun vs w => Try.call5 vs w) law enc W base args ds gs before hval hW

theorem proved : Rows.FnExactMeansSharedSaid :=
  OpenClaim.holds_of_wide 5 Try.f5 rfl rfl rfl rfl rfl rfl rfl ⟨rfl, rfl, rfl, rfl, rfl⟩ rfl rfl rfl rfl rfl (by kernel_rfl) Try.func5 (by kernel_rfl)
    (of_decide_eq_true (by kernel_rfl)) (by unfold Func.isWrapper; first | (rw [if_pos (by decide +kernel)]; kernel_rfl) | (rw [if_neg (by decide +kernel)]; exact ⟨rfl, rfl⟩))
    (fun os started H enc _ => lifted os started H enc)
end Go.Proofs.Ytjfgmnfkkehgfaa.FnExactMeansShared
