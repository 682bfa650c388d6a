/- The statement FnExactTapered, proved: whatever the input, the law returns true, and the input reads as it did. -/
import Derived.Test.YtdjjpckpcfkgiaaRows
import Derived.Test.YtdjjpckpcfkgiaaLvFnA
import Derived.Test.YtdjjpckpcfkgiaaLvFnAA
import Derived.Test.YtdjjpckpcfkgiaaLvFnB
import Derived.Test.YtdjjpckpcfkgiaaLvFnBB
import Derived.Test.YtdjjpckpcfkgiaaLvFnM
import Derived.Test.YtdjjpckpcfkgiaaLvLawS
import Derived.JoinedOf
namespace Go.Proofs.Ytdjjpckpcfkgiaa.FnExactTapered
open Go.Proofs.LV Go.ChangeShapes Go.WideShapes Go.ChangeAt Go.RowKit
set_option linter.unusedVariables false
set_option linter.unusedSimpArgs false
theorem own : ownKnob Try.prog.godebug = none := by kernel_rfl
theorem fn25 : Is_laws_toFloat32S Try.prog 25 := FnIs.of Try.func25 (by kernel_rfl) (by kernel_rfl) (by kernel_rfl) (by decide) (fun vs w => Try.call25 vs w)
theorem c25 : C_laws_toFloat32S Try.prog 25 := k_laws_toFloat32S fn25
theorem fn52 : Is_spec_l01Finite Try.prog 52 := FnIs.of Try.func52 (by kernel_rfl) (by kernel_rfl) (by kernel_rfl) (by decide) (fun vs w => Try.call52 vs w)
theorem c52 : C_spec_l01Finite Try.prog 52 := k_spec_l01Finite fn52
theorem fn72 : Is_spec_l02Finite Try.prog 72 52 := FnIs.of Try.func72 (by kernel_rfl) (by kernel_rfl) (by kernel_rfl) (by decide) (fun vs w => Try.call72 vs w)
theorem c72 : C_spec_l02Finite Try.prog 72 := k_spec_l02Finite fn72 c52
theorem fn60 : Is_spec_l02Series Try.prog 60 72 := FnIs.of Try.func60 (by kernel_rfl) (by kernel_rfl) (by kernel_rfl) (by decide) (fun vs w => Try.call60 vs w)
theorem c60 : C_spec_l02Series Try.prog 60 := k_spec_l02Series fn60 c72
theorem fn67 : Is_spec_l00In Try.prog 67 := FnIs.of Try.func67 (by kernel_rfl) (by kernel_rfl) (by kernel_rfl) (by decide) (fun vs w => Try.call67 vs w)
theorem c67 : C_spec_l00In Try.prog 67 := k_spec_l00In fn67
theorem fn145 : ExtIs Try.prog 145 Extern.MathFloatBits.float32frombits := ExtIs.of Try.func145 (by kernel_rfl) (by kernel_rfl) (by kernel_rfl) (by kernel_rfl)
theorem c145 : C_math_Float32frombits Try.prog 145 := k_math_Float32frombits fn145
theorem fn128 : Is_spec_l01From Try.prog 128 145 := FnIs.of Try.func128 (by kernel_rfl) (by kernel_rfl) (by kernel_rfl) (by decide) (fun vs w => Try.call128 vs w)
theorem c128 : C_spec_l01From Try.prog 128 := k_spec_l01From fn128 c145
theorem fn146 : ExtIs Try.prog 146 Extern.MathFloatBits.float64frombits := ExtIs.of Try.func146 (by kernel_rfl) (by kernel_rfl) (by kernel_rfl) (by kernel_rfl)
theorem c146 : C_math_Float64frombits Try.prog 146 := k_math_Float64frombits fn146
theorem fn132 : Is_math_NaN Try.prog 132 146 := FnIs.of Try.func132 (by kernel_rfl) (by kernel_rfl) (by kernel_rfl) (by decide) (fun vs w => Try.call132 vs w)
theorem c132 : C_math_NaN Try.prog 132 := k_math_NaN fn132 c146
theorem fn129 : Is_spec_l01SineWide Try.prog 129 132 := FnIs.of Try.func129 (by kernel_rfl) (by kernel_rfl) (by kernel_rfl) (by decide) (fun vs w => Try.call129 vs w)
theorem c129 : C_spec_l01SineWide Try.prog 129 := k_spec_l01SineWide fn129 c132
theorem fn130 : Is_spec_l01Narrow Try.prog 130 := FnIs.of Try.func130 (by kernel_rfl) (by kernel_rfl) (by kernel_rfl) (by decide) (fun vs w => Try.call130 vs w)
theorem c130 : C_spec_l01Narrow Try.prog 130 := k_spec_l01Narrow fn130
theorem fn94 : Is_spec_l01Phasor Try.prog 94 128 129 130 := FnIs.of Try.func94 (by kernel_rfl) (by kernel_rfl) (by kernel_rfl) (by decide) (fun vs w => Try.call94 vs w)
theorem c94 : C_spec_l01Phasor Try.prog 94 := k_spec_l01Phasor fn94 c128 c129 c130
theorem fn95 : Is_spec_l03Size Try.prog 95 := FnIs.of Try.func95 (by kernel_rfl) (by kernel_rfl) (by kernel_rfl) (by decide) (fun vs w => Try.call95 vs w)
theorem c95 : C_spec_l03Size Try.prog 95 := k_spec_l03Size fn95
theorem fn90 : Is_spec_l03Given Try.prog 90 72 := FnIs.of Try.func90 (by kernel_rfl) (by kernel_rfl) (by kernel_rfl) (by decide) (fun vs w => Try.call90 vs w)
theorem c90 : C_spec_l03Given Try.prog 90 := k_spec_l03Given fn90 c72
theorem fn38 : Is_spec_Tapered Try.prog 38 60 67 94 95 90 := FnIs.of Try.func38 (by kernel_rfl) (by kernel_rfl) (by kernel_rfl) (by decide) (fun vs w => Try.call38 vs w)
theorem c38 : C_spec_Tapered Try.prog 38 := k_spec_Tapered fn38 c60 c67 c94 c95 c90
theorem fn144 : Is_slices_IndexFunc___float32_float32_ Try.prog 144 := FnIs.of Try.func144 (by kernel_rfl) (by kernel_rfl) (by kernel_rfl) (by decide) (fun vs w => Try.call144 vs w)
theorem c144 : C_slices_IndexFunc___float32_float32_ Try.prog 144 := k_slices_IndexFunc___float32_float32_ fn144
theorem fn124 : Is_slices_ContainsFunc___float32_float32_ Try.prog 124 144 := FnIs.of Try.func124 (by kernel_rfl) (by kernel_rfl) (by kernel_rfl) (by decide) (fun vs w => Try.call124 vs w)
theorem c124 : C_slices_ContainsFunc___float32_float32_ Try.prog 124 := k_slices_ContainsFunc___float32_float32_ fn124 c144
theorem fn57 : Is_impl_IsFinite Try.prog 57 := FnIs.of Try.func57 (by kernel_rfl) (by kernel_rfl) (by kernel_rfl) (by decide) (fun vs w => Try.call57 vs w)
theorem c57 : C_impl_IsFinite Try.prog 57 := k_impl_IsFinite fn57
theorem fn125 : Is_impl_areFinite_1 Try.prog 125 57 := FnIs.of Try.func125 (by kernel_rfl) (by kernel_rfl) (by kernel_rfl) (by decide) (fun vs w => Try.call125 vs w)
theorem c125 : C_impl_areFinite_1 Try.prog 125 := k_impl_areFinite_1 fn125 c57
theorem fn81 : Is_impl_areFinite Try.prog 81 124 125 := FnIs.of Try.func81 (by kernel_rfl) (by kernel_rfl) (by kernel_rfl) (by decide) (fun vs w => Try.call81 vs w)
theorem c81 : C_impl_areFinite Try.prog 81 := k_impl_areFinite fn81 c124 c125
theorem fn63 : Is_impl_IsSeries Try.prog 63 81 := FnIs.of Try.func63 (by kernel_rfl) (by kernel_rfl) (by kernel_rfl) (by decide) (fun vs w => Try.call63 vs w)
theorem c63 : C_impl_IsSeries Try.prog 63 := k_impl_IsSeries fn63 c81
theorem fn75 : Is_impl_within Try.prog 75 := FnIs.of Try.func75 (by kernel_rfl) (by kernel_rfl) (by kernel_rfl) (by decide) (fun vs w => Try.call75 vs w)
theorem c75 : C_impl_within Try.prog 75 := k_impl_within fn75
theorem fn131 : Is_impl_isFinite64 Try.prog 131 := FnIs.of Try.func131 (by kernel_rfl) (by kernel_rfl) (by kernel_rfl) (by decide) (fun vs w => Try.call131 vs w)
theorem c131 : C_impl_isFinite64 Try.prog 131 := k_impl_isFinite64 fn131
theorem fn147 : ExtIs Try.prog 147 Extern.MathFloatBits.float64bits := ExtIs.of Try.func147 (by kernel_rfl) (by kernel_rfl) (by kernel_rfl) (by kernel_rfl)
theorem c147 : C_math_Float64bits Try.prog 147 := k_math_Float64bits fn147
theorem fn133 : Is_math_Abs Try.prog 133 147 146 := FnIs.of Try.func133 (by kernel_rfl) (by kernel_rfl) (by kernel_rfl) (by decide) (fun vs w => Try.call133 vs w)
theorem c133 : C_math_Abs Try.prog 133 := k_math_Abs fn133 c147 c146
theorem fn134 : Is_impl_fraction Try.prog 134 := FnIs.of Try.func134 (by kernel_rfl) (by kernel_rfl) (by kernel_rfl) (by decide) (fun vs w => Try.call134 vs w)
theorem c134 : C_impl_fraction Try.prog 134 := k_impl_fraction fn134
theorem fn135 : Is_impl_sine Try.prog 135 134 := FnIs.of Try.func135 (by kernel_rfl) (by kernel_rfl) (by kernel_rfl) (by decide) (fun vs w => Try.call135 vs w)
theorem c135 : C_impl_sine Try.prog 135 := k_impl_sine fn135 c134
theorem fn96 : Is_impl_PhasorOf Try.prog 96 131 132 133 134 135 := FnIs.of Try.func96 (by kernel_rfl) (by kernel_rfl) (by kernel_rfl) (by decide) (fun vs w => Try.call96 vs w)
theorem c96 : C_impl_PhasorOf Try.prog 96 := k_impl_PhasorOf fn96 c131 c132 c133 c134 c135
theorem fn97 : Is_impl_absolute Try.prog 97 := FnIs.of Try.func97 (by kernel_rfl) (by kernel_rfl) (by kernel_rfl) (by decide) (fun vs w => Try.call97 vs w)
theorem c97 : C_impl_absolute Try.prog 97 := k_impl_absolute fn97
theorem fn93 : Is_impl_ifAll Try.prog 93 81 := FnIs.of Try.func93 (by kernel_rfl) (by kernel_rfl) (by kernel_rfl) (by decide) (fun vs w => Try.call93 vs w)
theorem c93 : C_impl_ifAll Try.prog 93 := k_impl_ifAll fn93 c81
theorem fn39 : Is_impl_Tapered Try.prog 39 63 75 96 97 93 := FnIs.of Try.func39 (by kernel_rfl) (by kernel_rfl) (by kernel_rfl) (by decide) (fun vs w => Try.call39 vs w)
theorem c39 : C_impl_Tapered Try.prog 39 := k_impl_Tapered fn39 c63 c75 c96 c97 c93
theorem fn21 : Is_laws_sameFloat Try.prog 21 := FnIs.of Try.func21 (by kernel_rfl) (by kernel_rfl) (by kernel_rfl) (by decide) (fun vs w => Try.call21 vs w)
theorem c21 : C_laws_sameFloat Try.prog 21 := k_laws_sameFloat fn21
theorem fn27 : Is_laws_eqFloat32S Try.prog 27 21 := FnIs.of Try.func27 (by kernel_rfl) (by kernel_rfl) (by kernel_rfl) (by decide) (fun vs w => Try.call27 vs w)
theorem c27 : C_laws_eqFloat32S Try.prog 27 := k_laws_eqFloat32S fn27 c21
theorem fn30 : Is_laws_markFloat32S Try.prog 30 := FnIs.of Try.func30 (by kernel_rfl) (by kernel_rfl) (by kernel_rfl) (by decide) (fun vs w => Try.call30 vs w)
theorem c30 : C_laws_markFloat32S Try.prog 30 := k_laws_markFloat32S fn30
theorem fn31 : Is_laws_heldFloat32S Try.prog 31 := FnIs.of Try.func31 (by kernel_rfl) (by kernel_rfl) (by kernel_rfl) (by decide) (fun vs w => Try.call31 vs w)
theorem c31 : C_laws_heldFloat32S Try.prog 31 := k_laws_heldFloat32S fn31
theorem fn9 : Is_laws_FnExactTapered Try.prog 9 25 38 39 27 30 31 := FnIs.of Try.func9 (by kernel_rfl) (by kernel_rfl) (by kernel_rfl) (by decide) (fun vs w => Try.call9 vs w)
theorem c9 : C_laws_FnExactTapered Try.prog 9 := k_laws_FnExactTapered fn9 c25 c38 c39 c27 c30 c31
theorem law (xs : List AV) (h : ShapesT [.one (.sf .f32), .one (.i .i64)] xs) : VCall Try.prog 9 (AV.viewL [] 0 xs) (.b true) := by
  obtain ⟨_, _, rfl, ⟨_, rfl, _, _⟩, _, _, rfl, ⟨_, rfl, _⟩, rfl⟩ := h
  exact c9 _ _ (by assumption)
set_option maxRecDepth 100000 in
theorem lifted (os : Os) (started : os.Started) (H : Type) (enc : TypeId × Value → H) :
    ReturnsInHanded {} Try.checked os 9 .any (Rows.fnExactTaperedSpec.pre6 enc Try.prog Try.f9 Rows.fnExactTaperedRow.domain false) (Rows.fnExactTaperedSpec.post enc Try.prog Try.f9 false true false false) := by
  refine returnsInHanded_of_change (C := Try.checked) own started (by kernel_rfl) Try.func9
    (ChangeSpec.witness6 (enc := enc) (C := Try.checked) false ⟨#[], #[.slice none 0 0, .int .i64 0], []⟩ 8 (by kernel_rfl) (by kernel_rfl) (by kernel_rfl) (by kernel_rfl)) ?_
  intro W base args ds gs before hval hW _ _
  exact law_post (P := Try.prog) (fn := Try.f9) (tys := [.one (.sf .f32), .one (.i .i64)]) (by kernel_rfl) (by kernel_rfl) (by kernel_rfl) rfl
    (fun H ds hds => by
      match ds, hds with
      | [d0, d1], _ => rfl) (rt := 4) (by kernel_rfl) (by kernel_rfl) (fun vs w => Try.call9 vs w) law enc W base args ds gs before hval hW

theorem proved : Rows.FnExactTaperedSaid :=
  OpenClaim.holds_of_wide 9 Try.f9 rfl rfl rfl rfl rfl rfl rfl ⟨rfl, rfl, rfl, rfl, rfl⟩ rfl rfl rfl rfl rfl (by kernel_rfl) Try.func9 (by kernel_rfl)
    (of_decide_eq_true (by kernel_rfl)) (by unfold Func.isWrapper; first | (rw [if_pos (by decide +kernel)]; kernel_rfl) | (rw [if_neg (by decide +kernel)]; exact ⟨rfl, rfl⟩))
    (fun os started H enc _ => lifted os started H enc)
end Go.Proofs.Ytdjjpckpcfkgiaa.FnExactTapered
