/- The statement FnExactTakeApart, proved: whatever the input, the law returns true, and the input reads as it did. -/
import Derived.Test.YtjfgmnfkkehgfaaRows
import Derived.Test.YtjfgmnfkkehgfaaLvFnA
import Derived.Test.YtjfgmnfkkehgfaaLvFnB
import Derived.Test.YtjfgmnfkkehgfaaLvFnDD
import Derived.Test.YtjfgmnfkkehgfaaLvFnF
import Derived.Test.YtjfgmnfkkehgfaaLvFnG
import Derived.Test.YtjfgmnfkkehgfaaLvFnI
import Derived.Test.YtjfgmnfkkehgfaaLvLawU
import Derived.JoinedOf
namespace Go.Proofs.Ytjfgmnfkkehgfaa.FnExactTakeApart
open Go.Proofs.LV Go.ChangeShapes Go.WideShapes Go.ChangeAt Go.RowKit
set_option linter.unusedVariables false
set_option linter.unusedSimpArgs false
theorem own : ownKnob Try.prog.godebug = none := by kernel_rfl
theorem fn16 : Is_laws_toFloat32S Try.prog 16 := FnIs.of Try.func16 (by kernel_rfl) (by kernel_rfl) (by kernel_rfl) (by decide) (fun vs w => Try.call16 vs w)
theorem c16 : C_laws_toFloat32S Try.prog 16 := k_laws_toFloat32S fn16
theorem fn110 : Is_spec_l01Finite Try.prog 110 := FnIs.of Try.func110 (by kernel_rfl) (by kernel_rfl) (by kernel_rfl) (by decide) (fun vs w => Try.call110 vs w)
theorem c110 : C_spec_l01Finite Try.prog 110 := k_spec_l01Finite fn110
theorem fn87 : Is_spec_l02Finite Try.prog 87 110 := FnIs.of Try.func87 (by kernel_rfl) (by kernel_rfl) (by kernel_rfl) (by decide) (fun vs w => Try.call87 vs w)
theorem c87 : C_spec_l02Finite Try.prog 87 := k_spec_l02Finite fn87 c110
theorem fn81 : Is_spec_l02Series Try.prog 81 87 := FnIs.of Try.func81 (by kernel_rfl) (by kernel_rfl) (by kernel_rfl) (by decide) (fun vs w => Try.call81 vs w)
theorem c81 : C_spec_l02Series Try.prog 81 := k_spec_l02Series fn81 c87
theorem fn82 : Is_spec_l00In Try.prog 82 := FnIs.of Try.func82 (by kernel_rfl) (by kernel_rfl) (by kernel_rfl) (by decide) (fun vs w => Try.call82 vs w)
theorem c82 : C_spec_l00In Try.prog 82 := k_spec_l00In fn82
theorem fn84 : Is_spec_l02Off Try.prog 84 := FnIs.of Try.func84 (by kernel_rfl) (by kernel_rfl) (by kernel_rfl) (by decide) (fun vs w => Try.call84 vs w)
theorem c84 : C_spec_l02Off Try.prog 84 := k_spec_l02Off fn84
theorem fn151 : Is_spec_l02Near Try.prog 151 := FnIs.of Try.func151 (by kernel_rfl) (by kernel_rfl) (by kernel_rfl) (by decide) (fun vs w => Try.call151 vs w)
theorem c151 : C_spec_l02Near Try.prog 151 := k_spec_l02Near fn151
theorem fn176 : Is_spec_l02Sum Try.prog 176 := FnIs.of Try.func176 (by kernel_rfl) (by kernel_rfl) (by kernel_rfl) (by decide) (fun vs w => Try.call176 vs w)
theorem c176 : C_spec_l02Sum Try.prog 176 := k_spec_l02Sum fn176
theorem fn150 : Is_spec_l02Mean Try.prog 150 176 := FnIs.of Try.func150 (by kernel_rfl) (by kernel_rfl) (by kernel_rfl) (by decide) (fun vs w => Try.call150 vs w)
theorem c150 : C_spec_l02Mean Try.prog 150 := k_spec_l02Mean fn150 c176
theorem fn83 : Is_spec_l02Moving Try.prog 83 151 150 := FnIs.of Try.func83 (by kernel_rfl) (by kernel_rfl) (by kernel_rfl) (by decide) (fun vs w => Try.call83 vs w)
theorem c83 : C_spec_l02Moving Try.prog 83 := k_spec_l02Moving fn83 c151 c150
theorem fn152 : Is_spec_l02Less Try.prog 152 := FnIs.of Try.func152 (by kernel_rfl) (by kernel_rfl) (by kernel_rfl) (by decide) (fun vs w => Try.call152 vs w)
theorem c152 : C_spec_l02Less Try.prog 152 := k_spec_l02Less fn152
theorem fn86 : Is_spec_l02Season Try.prog 86 150 152 := FnIs.of Try.func86 (by kernel_rfl) (by kernel_rfl) (by kernel_rfl) (by decide) (fun vs w => Try.call86 vs w)
theorem c86 : C_spec_l02Season Try.prog 86 := k_spec_l02Season fn86 c150 c152
theorem fn85 : Is_spec_l02Spreads Try.prog 85 := FnIs.of Try.func85 (by kernel_rfl) (by kernel_rfl) (by kernel_rfl) (by decide) (fun vs w => Try.call85 vs w)
theorem c85 : C_spec_l02Spreads Try.prog 85 := k_spec_l02Spreads fn85
theorem fn15 : Is_spec_TakeApart Try.prog 15 81 82 84 83 86 85 87 := FnIs.of Try.func15 (by kernel_rfl) (by kernel_rfl) (by kernel_rfl) (by decide) (fun vs w => Try.call15 vs w)
theorem c15 : C_spec_TakeApart Try.prog 15 := k_spec_TakeApart fn15 c81 c82 c84 c83 c86 c85 c87
theorem fn177 : Is_slices_IndexFunc___float32_float32_ Try.prog 177 := FnIs.of Try.func177 (by kernel_rfl) (by kernel_rfl) (by kernel_rfl) (by decide) (fun vs w => Try.call177 vs w)
theorem c177 : C_slices_IndexFunc___float32_float32_ Try.prog 177 := k_slices_IndexFunc___float32_float32_ fn177
theorem fn154 : Is_slices_ContainsFunc___float32_float32_ Try.prog 154 177 := FnIs.of Try.func154 (by kernel_rfl) (by kernel_rfl) (by kernel_rfl) (by decide) (fun vs w => Try.call154 vs w)
theorem c154 : C_slices_ContainsFunc___float32_float32_ Try.prog 154 := k_slices_ContainsFunc___float32_float32_ fn154 c177
theorem fn112 : Is_impl_IsFinite Try.prog 112 := FnIs.of Try.func112 (by kernel_rfl) (by kernel_rfl) (by kernel_rfl) (by decide) (fun vs w => Try.call112 vs w)
theorem c112 : C_impl_IsFinite Try.prog 112 := k_impl_IsFinite fn112
theorem fn155 : Is_impl_areFinite_1 Try.prog 155 112 := FnIs.of Try.func155 (by kernel_rfl) (by kernel_rfl) (by kernel_rfl) (by decide) (fun vs w => Try.call155 vs w)
theorem c155 : C_impl_areFinite_1 Try.prog 155 := k_impl_areFinite_1 fn155 c112
theorem fn96 : Is_impl_areFinite Try.prog 96 154 155 := FnIs.of Try.func96 (by kernel_rfl) (by kernel_rfl) (by kernel_rfl) (by decide) (fun vs w => Try.call96 vs w)
theorem c96 : C_impl_areFinite Try.prog 96 := k_impl_areFinite fn96 c154 c155
theorem fn77 : Is_impl_IsSeries Try.prog 77 96 := FnIs.of Try.func77 (by kernel_rfl) (by kernel_rfl) (by kernel_rfl) (by decide) (fun vs w => Try.call77 vs w)
theorem c77 : C_impl_IsSeries Try.prog 77 := k_impl_IsSeries fn77 c96
theorem fn90 : Is_impl_within Try.prog 90 := FnIs.of Try.func90 (by kernel_rfl) (by kernel_rfl) (by kernel_rfl) (by decide) (fun vs w => Try.call90 vs w)
theorem c90 : C_impl_within Try.prog 90 := k_impl_within fn90
theorem fn88 : Is_impl_isPeriodOf Try.prog 88 77 90 := FnIs.of Try.func88 (by kernel_rfl) (by kernel_rfl) (by kernel_rfl) (by decide) (fun vs w => Try.call88 vs w)
theorem c88 : C_impl_isPeriodOf Try.prog 88 := k_impl_isPeriodOf fn88 c77 c90
theorem fn89 : Is_impl_isSide Try.prog 89 90 := FnIs.of Try.func89 (by kernel_rfl) (by kernel_rfl) (by kernel_rfl) (by decide) (fun vs w => Try.call89 vs w)
theorem c89 : C_impl_isSide Try.prog 89 := k_impl_isSide fn89 c90
theorem fn91 : Is_impl_TakeApart_1 Try.prog 91 := FnIs.of Try.func91 (by kernel_rfl) (by kernel_rfl) (by kernel_rfl) (by decide) (fun vs w => Try.call91 vs w)
theorem c91 : C_impl_TakeApart_1 Try.prog 91 := k_impl_TakeApart_1 fn91
theorem fn93 : Is_impl_less Try.prog 93 := FnIs.of Try.func93 (by kernel_rfl) (by kernel_rfl) (by kernel_rfl) (by decide) (fun vs w => Try.call93 vs w)
theorem c93 : C_impl_less Try.prog 93 := k_impl_less fn93
theorem fn92 : Is_impl_moving Try.prog 92 := FnIs.of Try.func92 (by kernel_rfl) (by kernel_rfl) (by kernel_rfl) (by decide) (fun vs w => Try.call92 vs w)
theorem c92 : C_impl_moving Try.prog 92 := k_impl_moving fn92
theorem fn137 : Is_impl_addUp Try.prog 137 := FnIs.of Try.func137 (by kernel_rfl) (by kernel_rfl) (by kernel_rfl) (by decide) (fun vs w => Try.call137 vs w)
theorem c137 : C_impl_addUp Try.prog 137 := k_impl_addUp fn137
theorem fn94 : Is_impl_mean Try.prog 94 137 := FnIs.of Try.func94 (by kernel_rfl) (by kernel_rfl) (by kernel_rfl) (by decide) (fun vs w => Try.call94 vs w)
theorem c94 : C_impl_mean Try.prog 94 := k_impl_mean fn94 c137
theorem fn130 : Is_impl_folded Try.prog 130 94 := FnIs.of Try.func130 (by kernel_rfl) (by kernel_rfl) (by kernel_rfl) (by decide) (fun vs w => Try.call130 vs w)
theorem c130 : C_impl_folded Try.prog 130 := k_impl_folded fn130 c94
theorem fn153 : Is_impl_lessOne Try.prog 153 := FnIs.of Try.func153 (by kernel_rfl) (by kernel_rfl) (by kernel_rfl) (by decide) (fun vs w => Try.call153 vs w)
theorem c153 : C_impl_lessOne Try.prog 153 := k_impl_lessOne fn153
theorem fn95 : Is_impl_season Try.prog 95 130 94 153 := FnIs.of Try.func95 (by kernel_rfl) (by kernel_rfl) (by kernel_rfl) (by decide) (fun vs w => Try.call95 vs w)
theorem c95 : C_impl_season Try.prog 95 := k_impl_season fn95 c130 c94 c153
theorem fn17 : Is_impl_TakeApart Try.prog 17 88 89 90 91 93 92 94 95 96 := FnIs.of Try.func17 (by kernel_rfl) (by kernel_rfl) (by kernel_rfl) (by decide) (fun vs w => Try.call17 vs w)
theorem c17 : C_impl_TakeApart Try.prog 17 := k_impl_TakeApart fn17 c88 c89 c90 c91 c93 c92 c94 c95 c96
theorem fn36 : Is_laws_sameFloat Try.prog 36 := FnIs.of Try.func36 (by kernel_rfl) (by kernel_rfl) (by kernel_rfl) (by decide) (fun vs w => Try.call36 vs w)
theorem c36 : C_laws_sameFloat Try.prog 36 := k_laws_sameFloat fn36
theorem fn18 : Is_laws_eqFloat32S Try.prog 18 36 := FnIs.of Try.func18 (by kernel_rfl) (by kernel_rfl) (by kernel_rfl) (by decide) (fun vs w => Try.call18 vs w)
theorem c18 : C_laws_eqFloat32S Try.prog 18 := k_laws_eqFloat32S fn18 c36
theorem fn19 : Is_laws_markFloat32S Try.prog 19 := FnIs.of Try.func19 (by kernel_rfl) (by kernel_rfl) (by kernel_rfl) (by decide) (fun vs w => Try.call19 vs w)
theorem c19 : C_laws_markFloat32S Try.prog 19 := k_laws_markFloat32S fn19
theorem fn20 : Is_laws_heldFloat32S Try.prog 20 := FnIs.of Try.func20 (by kernel_rfl) (by kernel_rfl) (by kernel_rfl) (by decide) (fun vs w => Try.call20 vs w)
theorem c20 : C_laws_heldFloat32S Try.prog 20 := k_laws_heldFloat32S fn20
theorem fn3 : Is_laws_FnExactTakeApart Try.prog 3 16 15 17 18 19 20 := FnIs.of Try.func3 (by kernel_rfl) (by kernel_rfl) (by kernel_rfl) (by decide) (fun vs w => Try.call3 vs w)
theorem c3 : C_laws_FnExactTakeApart Try.prog 3 := k_laws_FnExactTakeApart fn3 c16 c15 c17 c18 c19 c20
theorem law (xs : List AV) (h : ShapesT [.one (.sf .f32), .one (.i .i64), .one (.i .i64), .one (.i .i64)] xs) : VCall Try.prog 3 (AV.viewL [] 0 xs) (.b true) := by
  obtain ⟨_, _, rfl, ⟨_, rfl, _, _⟩, _, _, rfl, ⟨_, rfl, _⟩, _, _, rfl, ⟨_, rfl, _⟩, _, _, rfl, ⟨_, rfl, _⟩, rfl⟩ := h
  exact c3 _ _ _ _ (by assumption)
set_option maxRecDepth 100000 in
theorem lifted (os : Os) (started : os.Started) (H : Type) (enc : TypeId × Value → H) :
    ReturnsInHanded {} Try.checked os 3 .any (Rows.fnExactTakeApartSpec.pre6 enc Try.prog Try.f3 Rows.fnExactTakeApartRow.domain false) (Rows.fnExactTakeApartSpec.post enc Try.prog Try.f3 false true false false) := by
  refine returnsInHanded_of_change (C := Try.checked) own started (by kernel_rfl) Try.func3
    (ChangeSpec.witness6 (enc := enc) (C := Try.checked) false ⟨#[], #[.slice none 0 0, .int .i64 0, .int .i64 0, .int .i64 0], []⟩ 8 (by kernel_rfl) (by kernel_rfl) (by kernel_rfl) (by kernel_rfl)) ?_
  intro W base args ds gs before hval hW _ _
  exact law_post (P := Try.prog) (fn := Try.f3) (tys := [.one (.sf .f32), .one (.i .i64), .one (.i .i64), .one (.i .i64)]) (by kernel_rfl) (by kernel_rfl) (by kernel_rfl) rfl
    (fun H ds hds => by
      match ds, hds with
      | [d0, d1, d2, d3], _ => rfl) (rt := 4) (by kernel_rfl) (by kernel_rfl) (fun vs w => Try.call3 vs w) law enc W base args ds gs before hval hW

theorem proved : Rows.FnExactTakeApartSaid :=
  OpenClaim.holds_of_wide 3 Try.f3 rfl rfl rfl rfl rfl rfl rfl ⟨rfl, rfl, rfl, rfl, rfl⟩ rfl rfl rfl rfl rfl (by kernel_rfl) Try.func3 (by kernel_rfl)
    (of_decide_eq_true (by kernel_rfl)) (by unfold Func.isWrapper; first | (rw [if_pos (by decide +kernel)]; kernel_rfl) | (rw [if_neg (by decide +kernel)]; exact ⟨rfl, rfl⟩))
    (fun os started H enc _ => lifted os started H enc)
end Go.Proofs.Ytjfgmnfkkehgfaa.FnExactTakeApart
