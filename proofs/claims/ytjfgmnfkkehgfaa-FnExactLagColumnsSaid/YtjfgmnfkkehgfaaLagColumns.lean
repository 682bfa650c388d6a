/- The statement FnExactLagColumns, proved: whatever the input, the law returns true, and the input reads as it did. -/
import Derived.Test.YtjfgmnfkkehgfaaRows
import Derived.Test.YtjfgmnfkkehgfaaLvFnA
import Derived.Test.YtjfgmnfkkehgfaaLvFnB
import Derived.Test.YtjfgmnfkkehgfaaLvFnGG
import Derived.Test.YtjfgmnfkkehgfaaLvFnII
import Derived.Test.YtjfgmnfkkehgfaaLvFnMX
import Derived.Test.YtjfgmnfkkehgfaaLvLawBB
import Derived.JoinedOf
namespace Go.Proofs.Ytjfgmnfkkehgfaa.FnExactLagColumns
open Go.Proofs.LV Go.ChangeShapes Go.WideShapes Go.ChangeAt Go.RowKit
set_option linter.unusedVariables false
set_option linter.unusedSimpArgs false
theorem own : ownKnob Try.prog.godebug = none := by kernel_rfl
theorem fn16 : Is_laws_toFloat32S Try.prog 16 := FnIs.of Try.func16 (by kernel_rfl) (by kernel_rfl) (by kernel_rfl) (by decide) (fun vs w => Try.call16 vs w)
theorem c16 : C_laws_toFloat32S Try.prog 16 := k_laws_toFloat32S fn16
theorem fn110 : Is_spec_l01Finite Try.prog 110 := FnIs.of Try.func110 (by kernel_rfl) (by kernel_rfl) (by kernel_rfl) (by decide) (fun vs w => Try.call110 vs w)
theorem c110 : C_spec_l01Finite Try.prog 110 := k_spec_l01Finite fn110
theorem fn87 : Is_spec_l02Finite Try.prog 87 110 := FnIs.of Try.func87 (by kernel_rfl) (by kernel_rfl) (by kernel_rfl) (by decide) (fun vs w => Try.call87 vs w)
theorem c87 : C_spec_l02Finite Try.prog 87 := k_spec_l02Finite fn87 c110
theorem fn81 : Is_spec_l02Series Try.prog 81 87 := FnIs.of Try.func81 (by kernel_rfl) (by kernel_rfl) (by kernel_rfl) (by decide) (fun vs w => Try.call81 vs w)
theorem c81 : C_spec_l02Series Try.prog 81 := k_spec_l02Series fn81 c87
theorem fn82 : Is_spec_l00In Try.prog 82 := FnIs.of Try.func82 (by kernel_rfl) (by kernel_rfl) (by kernel_rfl) (by decide) (fun vs w => Try.call82 vs w)
theorem c82 : C_spec_l00In Try.prog 82 := k_spec_l00In fn82
theorem fn106 : Is_spec_l03Same Try.prog 106 := FnIs.of Try.func106 (by kernel_rfl) (by kernel_rfl) (by kernel_rfl) (by decide) (fun vs w => Try.call106 vs w)
theorem c106 : C_spec_l03Same Try.prog 106 := k_spec_l03Same fn106
theorem fn29 : Is_spec_LagColumns Try.prog 29 81 82 106 := FnIs.of Try.func29 (by kernel_rfl) (by kernel_rfl) (by kernel_rfl) (by decide) (fun vs w => Try.call29 vs w)
theorem c29 : C_spec_LagColumns Try.prog 29 := k_spec_LagColumns fn29 c81 c82 c106
theorem fn177 : Is_slices_IndexFunc___float32_float32_ Try.prog 177 := FnIs.of Try.func177 (by kernel_rfl) (by kernel_rfl) (by kernel_rfl) (by decide) (fun vs w => Try.call177 vs w)
theorem c177 : C_slices_IndexFunc___float32_float32_ Try.prog 177 := k_slices_IndexFunc___float32_float32_ fn177
theorem fn154 : Is_slices_ContainsFunc___float32_float32_ Try.prog 154 177 := FnIs.of Try.func154 (by kernel_rfl) (by kernel_rfl) (by kernel_rfl) (by decide) (fun vs w => Try.call154 vs w)
theorem c154 : C_slices_ContainsFunc___float32_float32_ Try.prog 154 := k_slices_ContainsFunc___float32_float32_ fn154 c177
theorem fn112 : Is_impl_IsFinite Try.prog 112 := FnIs.of Try.func112 (by kernel_rfl) (by kernel_rfl) (by kernel_rfl) (by decide) (fun vs w => Try.call112 vs w)
theorem c112 : C_impl_IsFinite Try.prog 112 := k_impl_IsFinite fn112
theorem fn155 : Is_impl_areFinite_1 Try.prog 155 112 := FnIs.of Try.func155 (by kernel_rfl) (by kernel_rfl) (by kernel_rfl) (by decide) (fun vs w => Try.call155 vs w)
theorem c155 : C_impl_areFinite_1 Try.prog 155 := k_impl_areFinite_1 fn155 c112
theorem fn96 : Is_impl_areFinite Try.prog 96 154 155 := FnIs.of Try.func96 (by kernel_rfl) (by kernel_rfl) (by kernel_rfl) (by decide) (fun vs w => Try.call96 vs w)
theorem c96 : C_impl_areFinite Try.prog 96 := k_impl_areFinite fn96 c154 c155
theorem fn77 : Is_impl_IsSeries Try.prog 77 96 := FnIs.of Try.func77 (by kernel_rfl) (by kernel_rfl) (by kernel_rfl) (by decide) (fun vs w => Try.call77 vs w)
theorem c77 : C_impl_IsSeries Try.prog 77 := k_impl_IsSeries fn77 c96
theorem fn90 : Is_impl_within Try.prog 90 := FnIs.of Try.func90 (by kernel_rfl) (by kernel_rfl) (by kernel_rfl) (by decide) (fun vs w => Try.call90 vs w)
theorem c90 : C_impl_within Try.prog 90 := k_impl_within fn90
theorem fn207 : Is_bits_Mul64 Try.prog 207 := FnIs.of Try.func207 (by kernel_rfl) (by kernel_rfl) (by kernel_rfl) (by decide) (fun vs w => Try.call207 vs w)
theorem c207 : C_bits_Mul64 Try.prog 207 := k_bits_Mul64 fn207
theorem fn197 : Is_bits_Mul Try.prog 197 206 207 := FnIs.of Try.func197 (by kernel_rfl) (by kernel_rfl) (by kernel_rfl) (by decide) (fun vs w => Try.call197 vs w)
theorem c197 : C_bits_Mul Try.prog 197 := k_bits_Mul fn197 c207
theorem fn179 : Is_slices_Repeat___float32_float32_ Try.prog 179 197 := FnIs.of Try.func179 (by kernel_rfl) (by kernel_rfl) (by kernel_rfl) (by decide) (fun vs w => Try.call179 vs w)
theorem c179 : C_slices_Repeat___float32_float32_ Try.prog 179 := k_slices_Repeat___float32_float32_ fn179 c197
theorem fn159 : Is_impl_ones Try.prog 159 179 := FnIs.of Try.func159 (by kernel_rfl) (by kernel_rfl) (by kernel_rfl) (by decide) (fun vs w => Try.call159 vs w)
theorem c159 : C_impl_ones Try.prog 159 := k_impl_ones fn159 c179
theorem fn136 : Is_slices_Clone___float32_float32_ Try.prog 136 := FnIs.of Try.func136 (by kernel_rfl) (by kernel_rfl) (by kernel_rfl) (by decide) (fun vs w => Try.call136 vs w)
theorem c136 : C_slices_Clone___float32_float32_ Try.prog 136 := k_slices_Clone___float32_float32_ fn136
theorem fn107 : Is_impl_lagColumns Try.prog 107 159 136 := FnIs.of Try.func107 (by kernel_rfl) (by kernel_rfl) (by kernel_rfl) (by decide) (fun vs w => Try.call107 vs w)
theorem c107 : C_impl_lagColumns Try.prog 107 := k_impl_lagColumns fn107 c159 c136
theorem fn30 : Is_impl_LagColumns Try.prog 30 77 90 107 := FnIs.of Try.func30 (by kernel_rfl) (by kernel_rfl) (by kernel_rfl) (by decide) (fun vs w => Try.call30 vs w)
theorem c30 : C_impl_LagColumns Try.prog 30 := k_impl_LagColumns fn30 c77 c90 c107
theorem fn36 : Is_laws_sameFloat Try.prog 36 := FnIs.of Try.func36 (by kernel_rfl) (by kernel_rfl) (by kernel_rfl) (by decide) (fun vs w => Try.call36 vs w)
theorem c36 : C_laws_sameFloat Try.prog 36 := k_laws_sameFloat fn36
theorem fn18 : Is_laws_eqFloat32S Try.prog 18 36 := FnIs.of Try.func18 (by kernel_rfl) (by kernel_rfl) (by kernel_rfl) (by decide) (fun vs w => Try.call18 vs w)
theorem c18 : C_laws_eqFloat32S Try.prog 18 := k_laws_eqFloat32S fn18 c36
theorem fn25 : Is_laws_eqFloat32SS Try.prog 25 18 := FnIs.of Try.func25 (by kernel_rfl) (by kernel_rfl) (by kernel_rfl) (by decide) (fun vs w => Try.call25 vs w)
theorem c25 : C_laws_eqFloat32SS Try.prog 25 := k_laws_eqFloat32SS fn25 c18
theorem fn19 : Is_laws_markFloat32S Try.prog 19 := FnIs.of Try.func19 (by kernel_rfl) (by kernel_rfl) (by kernel_rfl) (by decide) (fun vs w => Try.call19 vs w)
theorem c19 : C_laws_markFloat32S Try.prog 19 := k_laws_markFloat32S fn19
theorem fn26 : Is_laws_markFloat32SS Try.prog 26 19 := FnIs.of Try.func26 (by kernel_rfl) (by kernel_rfl) (by kernel_rfl) (by decide) (fun vs w => Try.call26 vs w)
theorem c26 : C_laws_markFloat32SS Try.prog 26 := k_laws_markFloat32SS fn26 c19
theorem fn20 : Is_laws_heldFloat32S Try.prog 20 := FnIs.of Try.func20 (by kernel_rfl) (by kernel_rfl) (by kernel_rfl) (by decide) (fun vs w => Try.call20 vs w)
theorem c20 : C_laws_heldFloat32S Try.prog 20 := k_laws_heldFloat32S fn20
theorem fn31 : Is_laws_heldFloat32SS Try.prog 31 20 := FnIs.of Try.func31 (by kernel_rfl) (by kernel_rfl) (by kernel_rfl) (by decide) (fun vs w => Try.call31 vs w)
theorem c31 : C_laws_heldFloat32SS Try.prog 31 := k_laws_heldFloat32SS fn31 c20
theorem fn6 : Is_laws_FnExactLagColumns Try.prog 6 16 29 30 25 18 19 26 31 20 := FnIs.of Try.func6 (by kernel_rfl) (by kernel_rfl) (by kernel_rfl) (by decide) (fun vs w => Try.call6 vs w)
theorem c6 : C_laws_FnExactLagColumns Try.prog 6 := k_laws_FnExactLagColumns fn6 c16 c29 c30 c25 c18 c19 c26 c31 c20
theorem law (xs : List AV) (h : ShapesT [.one (.sf .f32), .one (.i .i64)] xs) : VCall Try.prog 6 (AV.viewL [] 0 xs) (.b true) := by
  obtain ⟨_, _, rfl, ⟨_, rfl, _, _⟩, _, _, rfl, ⟨_, rfl, _⟩, rfl⟩ := h
  exact c6 _ _ (by assumption)
set_option maxRecDepth 100000 in
theorem lifted (os : Os) (started : os.Started) (H : Type) (enc : TypeId × Value → H) :
    ReturnsInHanded {} Try.checked os 6 .any (Rows.fnExactLagColumnsSpec.pre6 enc Try.prog Try.f6 Rows.fnExactLagColumnsRow.domain false) (Rows.fnExactLagColumnsSpec.post enc Try.prog Try.f6 false true false false) := by
  refine returnsInHanded_of_change (C := Try.checked) own started (by kernel_rfl) Try.func6
    (ChangeSpec.witness6 (enc := enc) (C := Try.checked) false ⟨#[], #[.slice none 0 0, .int .i64 0], []⟩ 8 (by kernel_rfl) (by kernel_rfl) (by kernel_rfl) (by kernel_rfl)) ?_
  intro W base args ds gs before hval hW _ _
  exact law_post (P := Try.prog) (fn := Try.f6) (tys := [.one (.sf .f32), .one (.i .i64)]) (by kernel_rfl) (by kernel_rfl) (by kernel_rfl) rfl
    (fun H ds hds => by
      match ds, hds with
      | [d0, d1], _ => rfl) (rt := 4) (by kernel_rfl) (by kernel_rfl) (fun vs w => Try.call6 vs w) law enc W base args ds gs before hval hW

theorem proved : Rows.FnExactLagColumnsSaid :=
  OpenClaim.holds_of_wide 6 Try.f6 rfl rfl rfl rfl rfl rfl rfl ⟨rfl, rfl, rfl, rfl, rfl⟩ rfl rfl rfl rfl rfl (by kernel_rfl) Try.func6 (by kernel_rfl)
    (of_decide_eq_true (by kernel_rfl)) (by unfold Func.isWrapper; first | (rw [if_pos (by decide +kernel)]; kernel_rfl) | (rw [if_neg (by decide +kernel)]; exact ⟨rfl, rfl⟩))
    (fun os started H enc _ => lifted os started H enc)
end Go.Proofs.Ytjfgmnfkkehgfaa.FnExactLagColumns
