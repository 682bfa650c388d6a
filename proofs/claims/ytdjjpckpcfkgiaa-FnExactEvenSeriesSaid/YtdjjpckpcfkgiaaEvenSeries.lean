/- The statement FnExactEvenSeries, proved: whatever the input, the law returns true, and the input reads as it did. -/
import Derived.Test.YtdjjpckpcfkgiaaRows
import Derived.Test.YtdjjpckpcfkgiaaLvFnA
import Derived.Test.YtdjjpckpcfkgiaaLvFnB
import Derived.Test.YtdjjpckpcfkgiaaLvFnD
import Derived.Test.YtdjjpckpcfkgiaaLvFnF
import Derived.Test.YtdjjpckpcfkgiaaLvFnG
import Derived.Test.YtdjjpckpcfkgiaaLvFnI
import Derived.Test.YtdjjpckpcfkgiaaLvFnJ
import Derived.Test.YtdjjpckpcfkgiaaLvFnM
import Derived.Test.YtdjjpckpcfkgiaaLvLawI
import Derived.JoinedOf
namespace Go.Proofs.Ytdjjpckpcfkgiaa.FnExactEvenSeries
open Go.Proofs.LV Go.ChangeShapes Go.WideShapes Go.ChangeAt Go.RowKit
set_option linter.unusedVariables false
set_option linter.unusedSimpArgs false
theorem own : ownKnob Try.prog.godebug = none := by kernel_rfl
theorem fn25 : Is_laws_toFloat32S Try.prog 25 := FnIs.of Try.func25 (by kernel_rfl) (by kernel_rfl) (by kernel_rfl) (by decide) (fun vs w => Try.call25 vs w)
theorem c25 : C_laws_toFloat32S Try.prog 25 := k_laws_toFloat32S fn25
theorem fn52 : Is_spec_l01Finite Try.prog 52 := FnIs.of Try.func52 (by kernel_rfl) (by kernel_rfl) (by kernel_rfl) (by decide) (fun vs w => Try.call52 vs w)
theorem c52 : C_spec_l01Finite Try.prog 52 := k_spec_l01Finite fn52
theorem fn72 : Is_spec_l02Finite Try.prog 72 52 := FnIs.of Try.func72 (by kernel_rfl) (by kernel_rfl) (by kernel_rfl) (by decide) (fun vs w => Try.call72 vs w)
theorem c72 : C_spec_l02Finite Try.prog 72 := k_spec_l02Finite fn72 c52
theorem fn60 : Is_spec_l02Series Try.prog 60 72 := FnIs.of Try.func60 (by kernel_rfl) (by kernel_rfl) (by kernel_rfl) (by decide) (fun vs w => Try.call60 vs w)
theorem c60 : C_spec_l02Series Try.prog 60 := k_spec_l02Series fn60 c72
theorem fn140 : Is_spec_l02Sum Try.prog 140 := FnIs.of Try.func140 (by kernel_rfl) (by kernel_rfl) (by kernel_rfl) (by decide) (fun vs w => Try.call140 vs w)
theorem c140 : C_spec_l02Sum Try.prog 140 := k_spec_l02Sum fn140
theorem fn110 : Is_spec_l02Mean Try.prog 110 140 := FnIs.of Try.func110 (by kernel_rfl) (by kernel_rfl) (by kernel_rfl) (by decide) (fun vs w => Try.call110 vs w)
theorem c110 : C_spec_l02Mean Try.prog 110 := k_spec_l02Mean fn110 c140
theorem fn109 : Is_spec_l02Less Try.prog 109 := FnIs.of Try.func109 (by kernel_rfl) (by kernel_rfl) (by kernel_rfl) (by decide) (fun vs w => Try.call109 vs w)
theorem c109 : C_spec_l02Less Try.prog 109 := k_spec_l02Less fn109
theorem fn119 : Is_spec_l02Dot Try.prog 119 := FnIs.of Try.func119 (by kernel_rfl) (by kernel_rfl) (by kernel_rfl) (by decide) (fun vs w => Try.call119 vs w)
theorem c119 : C_spec_l02Dot Try.prog 119 := k_spec_l02Dot fn119
theorem fn143 : ExtIs Try.prog 143 Extern.MathSqrt.sqrt := ExtIs.of Try.func143 (by kernel_rfl) (by kernel_rfl) (by kernel_rfl) (by kernel_rfl)
theorem c143 : C_math_sqrt Try.prog 143 := k_math_sqrt fn143
theorem fn120 : Is_math_Sqrt Try.prog 120 143 := FnIs.of Try.func120 (by kernel_rfl) (by kernel_rfl) (by kernel_rfl) (by decide) (fun vs w => Try.call120 vs w)
theorem c120 : C_math_Sqrt Try.prog 120 := k_math_Sqrt fn120 c143
theorem fn130 : Is_spec_l01Narrow Try.prog 130 := FnIs.of Try.func130 (by kernel_rfl) (by kernel_rfl) (by kernel_rfl) (by decide) (fun vs w => Try.call130 vs w)
theorem c130 : C_spec_l01Narrow Try.prog 130 := k_spec_l01Narrow fn130
theorem fn99 : Is_spec_l01Sqrt Try.prog 99 120 130 := FnIs.of Try.func99 (by kernel_rfl) (by kernel_rfl) (by kernel_rfl) (by decide) (fun vs w => Try.call99 vs w)
theorem c99 : C_spec_l01Sqrt Try.prog 99 := k_spec_l01Sqrt fn99 c120 c130
theorem fn62 : Is_spec_l02Spread Try.prog 62 110 109 119 99 := FnIs.of Try.func62 (by kernel_rfl) (by kernel_rfl) (by kernel_rfl) (by decide) (fun vs w => Try.call62 vs w)
theorem c62 : C_spec_l02Spread Try.prog 62 := k_spec_l02Spread fn62 c110 c109 c119 c99
theorem fn82 : Is_spec_l02Above Try.prog 82 52 := FnIs.of Try.func82 (by kernel_rfl) (by kernel_rfl) (by kernel_rfl) (by decide) (fun vs w => Try.call82 vs w)
theorem c82 : C_spec_l02Above Try.prog 82 := k_spec_l02Above fn82 c52
theorem fn111 : Is_spec_l02List Try.prog 111 72 := FnIs.of Try.func111 (by kernel_rfl) (by kernel_rfl) (by kernel_rfl) (by decide) (fun vs w => Try.call111 vs w)
theorem c111 : C_spec_l02List Try.prog 111 := k_spec_l02List fn111 c72
theorem fn46 : Is_spec_EvenSeries Try.prog 46 60 62 82 110 109 111 := FnIs.of Try.func46 (by kernel_rfl) (by kernel_rfl) (by kernel_rfl) (by decide) (fun vs w => Try.call46 vs w)
theorem c46 : C_spec_EvenSeries Try.prog 46 := k_spec_EvenSeries fn46 c60 c62 c82 c110 c109 c111
theorem fn144 : Is_slices_IndexFunc___float32_float32_ Try.prog 144 := FnIs.of Try.func144 (by kernel_rfl) (by kernel_rfl) (by kernel_rfl) (by decide) (fun vs w => Try.call144 vs w)
theorem c144 : C_slices_IndexFunc___float32_float32_ Try.prog 144 := k_slices_IndexFunc___float32_float32_ fn144
theorem fn124 : Is_slices_ContainsFunc___float32_float32_ Try.prog 124 144 := FnIs.of Try.func124 (by kernel_rfl) (by kernel_rfl) (by kernel_rfl) (by decide) (fun vs w => Try.call124 vs w)
theorem c124 : C_slices_ContainsFunc___float32_float32_ Try.prog 124 := k_slices_ContainsFunc___float32_float32_ fn124 c144
theorem fn57 : Is_impl_IsFinite Try.prog 57 := FnIs.of Try.func57 (by kernel_rfl) (by kernel_rfl) (by kernel_rfl) (by decide) (fun vs w => Try.call57 vs w)
theorem c57 : C_impl_IsFinite Try.prog 57 := k_impl_IsFinite fn57
theorem fn125 : Is_impl_areFinite_1 Try.prog 125 57 := FnIs.of Try.func125 (by kernel_rfl) (by kernel_rfl) (by kernel_rfl) (by decide) (fun vs w => Try.call125 vs w)
theorem c125 : C_impl_areFinite_1 Try.prog 125 := k_impl_areFinite_1 fn125 c57
theorem fn81 : Is_impl_areFinite Try.prog 81 124 125 := FnIs.of Try.func81 (by kernel_rfl) (by kernel_rfl) (by kernel_rfl) (by decide) (fun vs w => Try.call81 vs w)
theorem c81 : C_impl_areFinite Try.prog 81 := k_impl_areFinite fn81 c124 c125
theorem fn63 : Is_impl_IsSeries Try.prog 63 81 := FnIs.of Try.func63 (by kernel_rfl) (by kernel_rfl) (by kernel_rfl) (by decide) (fun vs w => Try.call63 vs w)
theorem c63 : C_impl_IsSeries Try.prog 63 := k_impl_IsSeries fn63 c81
theorem fn122 : Is_impl_addUp Try.prog 122 := FnIs.of Try.func122 (by kernel_rfl) (by kernel_rfl) (by kernel_rfl) (by decide) (fun vs w => Try.call122 vs w)
theorem c122 : C_impl_addUp Try.prog 122 := k_impl_addUp fn122
theorem fn79 : Is_impl_mean Try.prog 79 122 := FnIs.of Try.func79 (by kernel_rfl) (by kernel_rfl) (by kernel_rfl) (by decide) (fun vs w => Try.call79 vs w)
theorem c79 : C_impl_mean Try.prog 79 := k_impl_mean fn79 c122
theorem fn64 : Is_impl_ifFinite Try.prog 64 57 := FnIs.of Try.func64 (by kernel_rfl) (by kernel_rfl) (by kernel_rfl) (by decide) (fun vs w => Try.call64 vs w)
theorem c64 : C_impl_ifFinite Try.prog 64 := k_impl_ifFinite fn64 c57
theorem fn112 : Is_impl_MeanOf Try.prog 112 63 79 64 := FnIs.of Try.func112 (by kernel_rfl) (by kernel_rfl) (by kernel_rfl) (by decide) (fun vs w => Try.call112 vs w)
theorem c112 : C_impl_MeanOf Try.prog 112 := k_impl_MeanOf fn112 c63 c79 c64
theorem fn103 : Is_impl_lessOne Try.prog 103 := FnIs.of Try.func103 (by kernel_rfl) (by kernel_rfl) (by kernel_rfl) (by decide) (fun vs w => Try.call103 vs w)
theorem c103 : C_impl_lessOne Try.prog 103 := k_impl_lessOne fn103
theorem fn85 : Is_impl_dot Try.prog 85 := FnIs.of Try.func85 (by kernel_rfl) (by kernel_rfl) (by kernel_rfl) (by decide) (fun vs w => Try.call85 vs w)
theorem c85 : C_impl_dot Try.prog 85 := k_impl_dot fn85
theorem fn66 : Is_impl_squares Try.prog 66 79 103 85 := FnIs.of Try.func66 (by kernel_rfl) (by kernel_rfl) (by kernel_rfl) (by decide) (fun vs w => Try.call66 vs w)
theorem c66 : C_impl_squares Try.prog 66 := k_impl_squares fn66 c79 c103 c85
theorem fn65 : Is_impl_RootNumber Try.prog 65 120 := FnIs.of Try.func65 (by kernel_rfl) (by kernel_rfl) (by kernel_rfl) (by decide) (fun vs w => Try.call65 vs w)
theorem c65 : C_impl_RootNumber Try.prog 65 := k_impl_RootNumber fn65 c120
theorem fn26 : Is_impl_SpreadOf Try.prog 26 63 66 65 64 := FnIs.of Try.func26 (by kernel_rfl) (by kernel_rfl) (by kernel_rfl) (by decide) (fun vs w => Try.call26 vs w)
theorem c26 : C_impl_SpreadOf Try.prog 26 := k_impl_SpreadOf fn26 c63 c66 c65 c64
theorem fn93 : Is_impl_ifAll Try.prog 93 81 := FnIs.of Try.func93 (by kernel_rfl) (by kernel_rfl) (by kernel_rfl) (by decide) (fun vs w => Try.call93 vs w)
theorem c93 : C_impl_ifAll Try.prog 93 := k_impl_ifAll fn93 c81
theorem fn47 : Is_impl_EvenSeries Try.prog 47 112 26 93 := FnIs.of Try.func47 (by kernel_rfl) (by kernel_rfl) (by kernel_rfl) (by decide) (fun vs w => Try.call47 vs w)
theorem c47 : C_impl_EvenSeries Try.prog 47 := k_impl_EvenSeries fn47 c112 c26 c93
theorem fn21 : Is_laws_sameFloat Try.prog 21 := FnIs.of Try.func21 (by kernel_rfl) (by kernel_rfl) (by kernel_rfl) (by decide) (fun vs w => Try.call21 vs w)
theorem c21 : C_laws_sameFloat Try.prog 21 := k_laws_sameFloat fn21
theorem fn27 : Is_laws_eqFloat32S Try.prog 27 21 := FnIs.of Try.func27 (by kernel_rfl) (by kernel_rfl) (by kernel_rfl) (by decide) (fun vs w => Try.call27 vs w)
theorem c27 : C_laws_eqFloat32S Try.prog 27 := k_laws_eqFloat32S fn27 c21
theorem fn30 : Is_laws_markFloat32S Try.prog 30 := FnIs.of Try.func30 (by kernel_rfl) (by kernel_rfl) (by kernel_rfl) (by decide) (fun vs w => Try.call30 vs w)
theorem c30 : C_laws_markFloat32S Try.prog 30 := k_laws_markFloat32S fn30
theorem fn31 : Is_laws_heldFloat32S Try.prog 31 := FnIs.of Try.func31 (by kernel_rfl) (by kernel_rfl) (by kernel_rfl) (by decide) (fun vs w => Try.call31 vs w)
theorem c31 : C_laws_heldFloat32S Try.prog 31 := k_laws_heldFloat32S fn31
theorem fn13 : Is_laws_FnExactEvenSeries Try.prog 13 25 46 47 27 30 31 := FnIs.of Try.func13 (by kernel_rfl) (by kernel_rfl) (by kernel_rfl) (by decide) (fun vs w => Try.call13 vs w)
theorem c13 : C_laws_FnExactEvenSeries Try.prog 13 := k_laws_FnExactEvenSeries fn13 c25 c46 c47 c27 c30 c31
theorem law (xs : List AV) (h : ShapesT [.one (.sf .f32)] xs) : VCall Try.prog 13 (AV.viewL [] 0 xs) (.b true) := by
  obtain ⟨_, _, rfl, ⟨_, rfl, _, _⟩, rfl⟩ := h
  exact c13 _ (by assumption)
set_option maxRecDepth 100000 in
theorem lifted (os : Os) (started : os.Started) (H : Type) (enc : TypeId × Value → H) :
    ReturnsInHanded {} Try.checked os 13 .any (Rows.fnExactEvenSeriesSpec.pre6 enc Try.prog Try.f13 Rows.fnExactEvenSeriesRow.domain false) (Rows.fnExactEvenSeriesSpec.post enc Try.prog Try.f13 false true false false) := by
  refine returnsInHanded_of_change (C := Try.checked) own started (by kernel_rfl) Try.func13
    (ChangeSpec.witness6 (enc := enc) (C := Try.checked) false ⟨#[], #[.slice none 0 0], []⟩ 8 (by kernel_rfl) (by kernel_rfl) (by kernel_rfl) (by kernel_rfl)) ?_
  intro W base args ds gs before hval hW _ _
  exact law_post (P := Try.prog) (fn := Try.f13) (tys := [.one (.sf .f32)]) (by kernel_rfl) (by kernel_rfl) (by kernel_rfl) rfl
    (fun H ds hds => by
      match ds, hds with
      | [d0], _ => rfl) (rt := 4) (by kernel_rfl) (by kernel_rfl) (fun vs w => Try.call13 vs w) law enc W base args ds gs before hval hW

theorem proved : Rows.FnExactEvenSeriesSaid :=
  OpenClaim.holds_of_wide 13 Try.f13 rfl rfl rfl rfl rfl rfl rfl ⟨rfl, rfl, rfl, rfl, rfl⟩ rfl rfl rfl rfl rfl (by kernel_rfl) Try.func13 (by kernel_rfl)
    (of_decide_eq_true (by kernel_rfl)) (by unfold Func.isWrapper; first | (rw [if_pos (by decide +kernel)]; kernel_rfl) | (rw [if_neg (by decide +kernel)]; exact ⟨rfl, rfl⟩))
    (fun os started H enc _ => lifted os started H enc)
end Go.Proofs.Ytdjjpckpcfkgiaa.FnExactEvenSeries
