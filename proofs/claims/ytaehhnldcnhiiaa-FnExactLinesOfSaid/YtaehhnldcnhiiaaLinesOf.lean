/- The statement FnExactLinesOf, proved: whatever the input, the law returns true, and the input reads as it did. -/
import Derived.Test.YtaehhnldcnhiiaaRows
import Derived.Test.YtaehhnldcnhiiaaLvFnA
import Derived.Test.YtaehhnldcnhiiaaLvFnAA
import Derived.Test.YtaehhnldcnhiiaaLvFnB
import Derived.Test.YtaehhnldcnhiiaaLvFnCC
import Derived.Test.YtaehhnldcnhiiaaLvFnM
import Derived.Test.YtaehhnldcnhiiaaLvLawT
import Derived.JoinedOf
namespace Go.Proofs.Ytaehhnldcnhiiaa.FnExactLinesOf
open Go.Proofs.LV Go.ChangeShapes Go.WideShapes Go.ChangeAt Go.RowKit
set_option linter.unusedVariables false
set_option linter.unusedSimpArgs false
theorem own : ownKnob Try.prog.godebug = none := by kernel_rfl
theorem fn11 : Is_laws_toFloat32S Try.prog 11 := FnIs.of Try.func11 (by kernel_rfl) (by kernel_rfl) (by kernel_rfl) (by decide) (fun vs w => Try.call11 vs w)
theorem c11 : C_laws_toFloat32S Try.prog 11 := k_laws_toFloat32S fn11
theorem fn101 : Is_spec_l01Finite Try.prog 101 := FnIs.of Try.func101 (by kernel_rfl) (by kernel_rfl) (by kernel_rfl) (by decide) (fun vs w => Try.call101 vs w)
theorem c101 : C_spec_l01Finite Try.prog 101 := k_spec_l01Finite fn101
theorem fn90 : Is_spec_l02Finite Try.prog 90 101 := FnIs.of Try.func90 (by kernel_rfl) (by kernel_rfl) (by kernel_rfl) (by decide) (fun vs w => Try.call90 vs w)
theorem c90 : C_spec_l02Finite Try.prog 90 := k_spec_l02Finite fn90 c101
theorem fn46 : Is_spec_l02Series Try.prog 46 90 := FnIs.of Try.func46 (by kernel_rfl) (by kernel_rfl) (by kernel_rfl) (by decide) (fun vs w => Try.call46 vs w)
theorem c46 : C_spec_l02Series Try.prog 46 := k_spec_l02Series fn46 c90
theorem fn142 : ExtIs Try.prog 142 Extern.MathFloatBits.float32frombits := ExtIs.of Try.func142 (by kernel_rfl) (by kernel_rfl) (by kernel_rfl) (by kernel_rfl)
theorem c142 : C_math_Float32frombits Try.prog 142 := k_math_Float32frombits fn142
theorem fn131 : Is_spec_l01From Try.prog 131 142 := FnIs.of Try.func131 (by kernel_rfl) (by kernel_rfl) (by kernel_rfl) (by decide) (fun vs w => Try.call131 vs w)
theorem c131 : C_spec_l01From Try.prog 131 := k_spec_l01From fn131 c142
theorem fn134 : ExtIs Try.prog 134 Extern.MathFloatBits.float64frombits := ExtIs.of Try.func134 (by kernel_rfl) (by kernel_rfl) (by kernel_rfl) (by kernel_rfl)
theorem c134 : C_math_Float64frombits Try.prog 134 := k_math_Float64frombits fn134
theorem fn119 : Is_math_NaN Try.prog 119 134 := FnIs.of Try.func119 (by kernel_rfl) (by kernel_rfl) (by kernel_rfl) (by decide) (fun vs w => Try.call119 vs w)
theorem c119 : C_math_NaN Try.prog 119 := k_math_NaN fn119 c134
theorem fn132 : Is_spec_l01SineWide Try.prog 132 119 := FnIs.of Try.func132 (by kernel_rfl) (by kernel_rfl) (by kernel_rfl) (by decide) (fun vs w => Try.call132 vs w)
theorem c132 : C_spec_l01SineWide Try.prog 132 := k_spec_l01SineWide fn132 c119
theorem fn133 : Is_spec_l01Narrow Try.prog 133 := FnIs.of Try.func133 (by kernel_rfl) (by kernel_rfl) (by kernel_rfl) (by decide) (fun vs w => Try.call133 vs w)
theorem c133 : C_spec_l01Narrow Try.prog 133 := k_spec_l01Narrow fn133
theorem fn117 : Is_spec_l01Phasor Try.prog 117 131 132 133 := FnIs.of Try.func117 (by kernel_rfl) (by kernel_rfl) (by kernel_rfl) (by decide) (fun vs w => Try.call117 vs w)
theorem c117 : C_spec_l01Phasor Try.prog 117 := k_spec_l01Phasor fn117 c131 c132 c133
theorem fn116 : Is_spec_l01Scale Try.prog 116 := FnIs.of Try.func116 (by kernel_rfl) (by kernel_rfl) (by kernel_rfl) (by decide) (fun vs w => Try.call116 vs w)
theorem c116 : C_spec_l01Scale Try.prog 116 := k_spec_l01Scale fn116
theorem fn91 : Is_spec_l03Line Try.prog 91 117 116 := FnIs.of Try.func91 (by kernel_rfl) (by kernel_rfl) (by kernel_rfl) (by decide) (fun vs w => Try.call91 vs w)
theorem c91 : C_spec_l03Line Try.prog 91 := k_spec_l03Line fn91 c117 c116
theorem fn47 : Is_spec_l03Lines Try.prog 47 91 := FnIs.of Try.func47 (by kernel_rfl) (by kernel_rfl) (by kernel_rfl) (by decide) (fun vs w => Try.call47 vs w)
theorem c47 : C_spec_l03Lines Try.prog 47 := k_spec_l03Lines fn47 c91
theorem fn92 : Is_spec_l01CFinite Try.prog 92 101 := FnIs.of Try.func92 (by kernel_rfl) (by kernel_rfl) (by kernel_rfl) (by decide) (fun vs w => Try.call92 vs w)
theorem c92 : C_spec_l01CFinite Try.prog 92 := k_spec_l01CFinite fn92 c101
theorem fn48 : Is_spec_l02CFinite Try.prog 48 92 := FnIs.of Try.func48 (by kernel_rfl) (by kernel_rfl) (by kernel_rfl) (by decide) (fun vs w => Try.call48 vs w)
theorem c48 : C_spec_l02CFinite Try.prog 48 := k_spec_l02CFinite fn48 c92
theorem fn10 : Is_spec_LinesOf Try.prog 10 46 47 48 := FnIs.of Try.func10 (by kernel_rfl) (by kernel_rfl) (by kernel_rfl) (by decide) (fun vs w => Try.call10 vs w)
theorem c10 : C_spec_LinesOf Try.prog 10 := k_spec_LinesOf fn10 c46 c47 c48
theorem fn124 : Is_slices_IndexFunc___float32_float32_ Try.prog 124 := FnIs.of Try.func124 (by kernel_rfl) (by kernel_rfl) (by kernel_rfl) (by decide) (fun vs w => Try.call124 vs w)
theorem c124 : C_slices_IndexFunc___float32_float32_ Try.prog 124 := k_slices_IndexFunc___float32_float32_ fn124
theorem fn102 : Is_slices_ContainsFunc___float32_float32_ Try.prog 102 124 := FnIs.of Try.func102 (by kernel_rfl) (by kernel_rfl) (by kernel_rfl) (by decide) (fun vs w => Try.call102 vs w)
theorem c102 : C_slices_ContainsFunc___float32_float32_ Try.prog 102 := k_slices_ContainsFunc___float32_float32_ fn102 c124
theorem fn104 : Is_impl_IsFinite Try.prog 104 := FnIs.of Try.func104 (by kernel_rfl) (by kernel_rfl) (by kernel_rfl) (by decide) (fun vs w => Try.call104 vs w)
theorem c104 : C_impl_IsFinite Try.prog 104 := k_impl_IsFinite fn104
theorem fn105 : Is_impl_areFinite_1 Try.prog 105 104 := FnIs.of Try.func105 (by kernel_rfl) (by kernel_rfl) (by kernel_rfl) (by decide) (fun vs w => Try.call105 vs w)
theorem c105 : C_impl_areFinite_1 Try.prog 105 := k_impl_areFinite_1 fn105 c104
theorem fn65 : Is_impl_areFinite Try.prog 65 102 105 := FnIs.of Try.func65 (by kernel_rfl) (by kernel_rfl) (by kernel_rfl) (by decide) (fun vs w => Try.call65 vs w)
theorem c65 : C_impl_areFinite Try.prog 65 := k_impl_areFinite fn65 c102 c105
theorem fn49 : Is_impl_IsSeries Try.prog 49 65 := FnIs.of Try.func49 (by kernel_rfl) (by kernel_rfl) (by kernel_rfl) (by decide) (fun vs w => Try.call49 vs w)
theorem c49 : C_impl_IsSeries Try.prog 49 := k_impl_IsSeries fn49 c65
theorem fn118 : Is_impl_isFinite64 Try.prog 118 := FnIs.of Try.func118 (by kernel_rfl) (by kernel_rfl) (by kernel_rfl) (by decide) (fun vs w => Try.call118 vs w)
theorem c118 : C_impl_isFinite64 Try.prog 118 := k_impl_isFinite64 fn118
theorem fn135 : ExtIs Try.prog 135 Extern.MathFloatBits.float64bits := ExtIs.of Try.func135 (by kernel_rfl) (by kernel_rfl) (by kernel_rfl) (by kernel_rfl)
theorem c135 : C_math_Float64bits Try.prog 135 := k_math_Float64bits fn135
theorem fn120 : Is_math_Abs Try.prog 120 135 134 := FnIs.of Try.func120 (by kernel_rfl) (by kernel_rfl) (by kernel_rfl) (by decide) (fun vs w => Try.call120 vs w)
theorem c120 : C_math_Abs Try.prog 120 := k_math_Abs fn120 c135 c134
theorem fn121 : Is_impl_fraction Try.prog 121 := FnIs.of Try.func121 (by kernel_rfl) (by kernel_rfl) (by kernel_rfl) (by decide) (fun vs w => Try.call121 vs w)
theorem c121 : C_impl_fraction Try.prog 121 := k_impl_fraction fn121
theorem fn122 : Is_impl_sine Try.prog 122 121 := FnIs.of Try.func122 (by kernel_rfl) (by kernel_rfl) (by kernel_rfl) (by decide) (fun vs w => Try.call122 vs w)
theorem c122 : C_impl_sine Try.prog 122 := k_impl_sine fn122 c121
theorem fn95 : Is_impl_PhasorOf Try.prog 95 118 119 120 121 122 := FnIs.of Try.func95 (by kernel_rfl) (by kernel_rfl) (by kernel_rfl) (by decide) (fun vs w => Try.call95 vs w)
theorem c95 : C_impl_PhasorOf Try.prog 95 := k_impl_PhasorOf fn95 c118 c119 c120 c121 c122
theorem fn94 : Is_impl_ScaleComplex Try.prog 94 := FnIs.of Try.func94 (by kernel_rfl) (by kernel_rfl) (by kernel_rfl) (by decide) (fun vs w => Try.call94 vs w)
theorem c94 : C_impl_ScaleComplex Try.prog 94 := k_impl_ScaleComplex fn94
theorem fn93 : Is_impl_plus Try.prog 93 := FnIs.of Try.func93 (by kernel_rfl) (by kernel_rfl) (by kernel_rfl) (by decide) (fun vs w => Try.call93 vs w)
theorem c93 : C_impl_plus Try.prog 93 := k_impl_plus fn93
theorem fn50 : Is_impl_lineOf Try.prog 50 95 94 93 := FnIs.of Try.func50 (by kernel_rfl) (by kernel_rfl) (by kernel_rfl) (by decide) (fun vs w => Try.call50 vs w)
theorem c50 : C_impl_lineOf Try.prog 50 := k_impl_lineOf fn50 c95 c94 c93
theorem fn123 : Is_slices_IndexFunc___complex64_complex64_ Try.prog 123 := FnIs.of Try.func123 (by kernel_rfl) (by kernel_rfl) (by kernel_rfl) (by decide) (fun vs w => Try.call123 vs w)
theorem c123 : C_slices_IndexFunc___complex64_complex64_ Try.prog 123 := k_slices_IndexFunc___complex64_complex64_ fn123
theorem fn96 : Is_slices_ContainsFunc___complex64_complex64_ Try.prog 96 123 := FnIs.of Try.func96 (by kernel_rfl) (by kernel_rfl) (by kernel_rfl) (by decide) (fun vs w => Try.call96 vs w)
theorem c96 : C_slices_ContainsFunc___complex64_complex64_ Try.prog 96 := k_slices_ContainsFunc___complex64_complex64_ fn96 c123
theorem fn98 : Is_impl_IsFiniteComplex Try.prog 98 104 := FnIs.of Try.func98 (by kernel_rfl) (by kernel_rfl) (by kernel_rfl) (by decide) (fun vs w => Try.call98 vs w)
theorem c98 : C_impl_IsFiniteComplex Try.prog 98 := k_impl_IsFiniteComplex fn98 c104
theorem fn97 : Is_impl_areLines_1 Try.prog 97 98 := FnIs.of Try.func97 (by kernel_rfl) (by kernel_rfl) (by kernel_rfl) (by decide) (fun vs w => Try.call97 vs w)
theorem c97 : C_impl_areLines_1 Try.prog 97 := k_impl_areLines_1 fn97 c98
theorem fn51 : Is_impl_areLines Try.prog 51 96 97 := FnIs.of Try.func51 (by kernel_rfl) (by kernel_rfl) (by kernel_rfl) (by decide) (fun vs w => Try.call51 vs w)
theorem c51 : C_impl_areLines Try.prog 51 := k_impl_areLines fn51 c96 c97
theorem fn12 : Is_impl_LinesOf Try.prog 12 49 50 51 := FnIs.of Try.func12 (by kernel_rfl) (by kernel_rfl) (by kernel_rfl) (by decide) (fun vs w => Try.call12 vs w)
theorem c12 : C_impl_LinesOf Try.prog 12 := k_impl_LinesOf fn12 c49 c50 c51
theorem fn28 : Is_laws_sameFloat Try.prog 28 := FnIs.of Try.func28 (by kernel_rfl) (by kernel_rfl) (by kernel_rfl) (by decide) (fun vs w => Try.call28 vs w)
theorem c28 : C_laws_sameFloat Try.prog 28 := k_laws_sameFloat fn28
theorem fn52 : Is_laws_sameComplex Try.prog 52 28 := FnIs.of Try.func52 (by kernel_rfl) (by kernel_rfl) (by kernel_rfl) (by decide) (fun vs w => Try.call52 vs w)
theorem c52 : C_laws_sameComplex Try.prog 52 := k_laws_sameComplex fn52 c28
theorem fn13 : Is_laws_eqComplex64S Try.prog 13 52 := FnIs.of Try.func13 (by kernel_rfl) (by kernel_rfl) (by kernel_rfl) (by decide) (fun vs w => Try.call13 vs w)
theorem c13 : C_laws_eqComplex64S Try.prog 13 := k_laws_eqComplex64S fn13 c52
theorem fn14 : Is_laws_eqFloat32S Try.prog 14 28 := FnIs.of Try.func14 (by kernel_rfl) (by kernel_rfl) (by kernel_rfl) (by decide) (fun vs w => Try.call14 vs w)
theorem c14 : C_laws_eqFloat32S Try.prog 14 := k_laws_eqFloat32S fn14 c28
theorem fn15 : Is_laws_markFloat32S Try.prog 15 := FnIs.of Try.func15 (by kernel_rfl) (by kernel_rfl) (by kernel_rfl) (by decide) (fun vs w => Try.call15 vs w)
theorem c15 : C_laws_markFloat32S Try.prog 15 := k_laws_markFloat32S fn15
theorem fn16 : Is_laws_markComplex64S Try.prog 16 := FnIs.of Try.func16 (by kernel_rfl) (by kernel_rfl) (by kernel_rfl) (by decide) (fun vs w => Try.call16 vs w)
theorem c16 : C_laws_markComplex64S Try.prog 16 := k_laws_markComplex64S fn16
theorem fn17 : Is_laws_heldComplex64S Try.prog 17 := FnIs.of Try.func17 (by kernel_rfl) (by kernel_rfl) (by kernel_rfl) (by decide) (fun vs w => Try.call17 vs w)
theorem c17 : C_laws_heldComplex64S Try.prog 17 := k_laws_heldComplex64S fn17
theorem fn3 : Is_laws_FnExactLinesOf Try.prog 3 11 10 12 13 14 15 16 17 := FnIs.of Try.func3 (by kernel_rfl) (by kernel_rfl) (by kernel_rfl) (by decide) (fun vs w => Try.call3 vs w)
theorem c3 : C_laws_FnExactLinesOf Try.prog 3 := k_laws_FnExactLinesOf fn3 c11 c10 c12 c13 c14 c15 c16 c17
theorem law (xs : List AV) (h : ShapesT [.one (.sf .f32)] xs) : VCall Try.prog 3 (AV.viewL [] 0 xs) (.b true) := by
  obtain ⟨_, _, rfl, ⟨_, rfl, _, _⟩, rfl⟩ := h
  exact c3 _ (by assumption)
set_option maxRecDepth 100000 in
theorem lifted (os : Os) (started : os.Started) (H : Type) (enc : TypeId × Value → H) :
    ReturnsInHanded {} Try.checked os 3 .any (Rows.fnExactLinesOfSpec.pre6 enc Try.prog Try.f3 Rows.fnExactLinesOfRow.domain false) (Rows.fnExactLinesOfSpec.post enc Try.prog Try.f3 false true false false) := by
  refine returnsInHanded_of_change (C := Try.checked) own started (by kernel_rfl) Try.func3
    (ChangeSpec.witness6 (enc := enc) (C := Try.checked) false ⟨#[], #[.slice none 0 0], []⟩ 8 (by kernel_rfl) (by kernel_rfl) (by kernel_rfl) (by kernel_rfl)) ?_
  intro W base args ds gs before hval hW _ _
  exact law_post (P := Try.prog) (fn := Try.f3) (tys := [.one (.sf .f32)]) (by kernel_rfl) (by kernel_rfl) (by kernel_rfl) rfl
    (fun H ds hds => by
      match ds, hds with
      | [d0], _ => rfl) (rt := 4) (by kernel_rfl) (by kernel_rfl) (fun vs w => Try.call3 vs w) law enc W base args ds gs before hval hW

theorem proved : Rows.FnExactLinesOfSaid :=
  OpenClaim.holds_of_wide 3 Try.f3 rfl rfl rfl rfl rfl rfl rfl ⟨rfl, rfl, rfl, rfl, rfl⟩ rfl rfl rfl rfl rfl (by kernel_rfl) Try.func3 (by kernel_rfl)
    (of_decide_eq_true (by kernel_rfl)) (by unfold Func.isWrapper; first | (rw [if_pos (by decide +kernel)]; kernel_rfl) | (rw [if_neg (by decide +kernel)]; exact ⟨rfl, rfl⟩))
    (fun os started H enc _ => lifted os started H enc)
end Go.Proofs.Ytaehhnldcnhiiaa.FnExactLinesOf
