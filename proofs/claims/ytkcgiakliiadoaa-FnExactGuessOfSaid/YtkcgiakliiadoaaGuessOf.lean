/- The statement FnExactGuessOf, proved: whatever the input, the law returns true, and the input reads as it did. -/
import Derived.Test.YtkcgiakliiadoaaRows
import Derived.Test.YtkcgiakliiadoaaLvFnA
import Derived.Test.YtkcgiakliiadoaaLvFnB
import Derived.Test.YtkcgiakliiadoaaLvFnD
import Derived.Test.YtkcgiakliiadoaaLvFnE
import Derived.Test.YtkcgiakliiadoaaLvLawB
import Derived.JoinedOf
namespace Go.Proofs.Ytkcgiakliiadoaa.FnExactGuessOf
open Go.Proofs.LV Go.ChangeShapes Go.WideShapes Go.ChangeAt Go.RowKit
set_option linter.unusedVariables false
set_option linter.unusedSimpArgs false
theorem own : ownKnob Try.prog.godebug = none := by kernel_rfl
theorem fn50 : Is_laws_szFloat32S Try.prog 50 := FnIs.of Try.func50 (by kernel_rfl) (by kernel_rfl) (by kernel_rfl) (by decide) (fun vs w => Try.call50 vs w)
theorem c50 : C_laws_szFloat32S Try.prog 50 := k_laws_szFloat32S fn50
theorem fn15 : Is_laws_szState Try.prog 15 50 := FnIs.of Try.func15 (by kernel_rfl) (by kernel_rfl) (by kernel_rfl) (by decide) (fun vs w => Try.call15 vs w)
theorem c15 : C_laws_szState Try.prog 15 := k_laws_szState fn15 c50
theorem fn21 : Is_laws_toFloat32S Try.prog 21 := FnIs.of Try.func21 (by kernel_rfl) (by kernel_rfl) (by kernel_rfl) (by decide) (fun vs w => Try.call21 vs w)
theorem c21 : C_laws_toFloat32S Try.prog 21 := k_laws_toFloat32S fn21
theorem fn17 : Is_laws_toState Try.prog 17 21 := FnIs.of Try.func17 (by kernel_rfl) (by kernel_rfl) (by kernel_rfl) (by decide) (fun vs w => Try.call17 vs w)
theorem c17 : C_laws_toState Try.prog 17 := k_laws_toState fn17 c21
theorem fn46 : Is_laws_toShares Try.prog 46 := FnIs.of Try.func46 (by kernel_rfl) (by kernel_rfl) (by kernel_rfl) (by decide) (fun vs w => Try.call46 vs w)
theorem c46 : C_laws_toShares Try.prog 46 := k_laws_toShares fn46
theorem fn66 : Is_spec_l01Finite Try.prog 66 := FnIs.of Try.func66 (by kernel_rfl) (by kernel_rfl) (by kernel_rfl) (by decide) (fun vs w => Try.call66 vs w)
theorem c66 : C_spec_l01Finite Try.prog 66 := k_spec_l01Finite fn66
theorem fn71 : Is_spec_l00In Try.prog 71 := FnIs.of Try.func71 (by kernel_rfl) (by kernel_rfl) (by kernel_rfl) (by decide) (fun vs w => Try.call71 vs w)
theorem c71 : C_spec_l00In Try.prog 71 := k_spec_l00In fn71
theorem fn88 : Is_spec_l02Finite Try.prog 88 66 := FnIs.of Try.func88 (by kernel_rfl) (by kernel_rfl) (by kernel_rfl) (by decide) (fun vs w => Try.call88 vs w)
theorem c88 : C_spec_l02Finite Try.prog 88 := k_spec_l02Finite fn88 c66
theorem fn118 : Is_spec_l04Is Try.prog 118 66 71 88 := FnIs.of Try.func118 (by kernel_rfl) (by kernel_rfl) (by kernel_rfl) (by decide) (fun vs w => Try.call118 vs w)
theorem c118 : C_spec_l04Is Try.prog 118 := k_spec_l04Is fn118 c66 c71 c88
theorem fn55 : Is_spec_l02Share Try.prog 55 := FnIs.of Try.func55 (by kernel_rfl) (by kernel_rfl) (by kernel_rfl) (by decide) (fun vs w => Try.call55 vs w)
theorem c55 : C_spec_l02Share Try.prog 55 := k_spec_l02Share fn55
theorem fn119 : Is_spec_l04Shares Try.prog 119 55 := FnIs.of Try.func119 (by kernel_rfl) (by kernel_rfl) (by kernel_rfl) (by decide) (fun vs w => Try.call119 vs w)
theorem c119 : C_spec_l04Shares Try.prog 119 := k_spec_l04Shares fn119 c55
theorem fn94 : Is_spec_l04Can Try.prog 94 118 119 := FnIs.of Try.func94 (by kernel_rfl) (by kernel_rfl) (by kernel_rfl) (by decide) (fun vs w => Try.call94 vs w)
theorem c94 : C_spec_l04Can Try.prog 94 := k_spec_l04Can fn94 c118 c119
theorem fn95 : Is_spec_l04Guess Try.prog 95 := FnIs.of Try.func95 (by kernel_rfl) (by kernel_rfl) (by kernel_rfl) (by decide) (fun vs w => Try.call95 vs w)
theorem c95 : C_spec_l04Guess Try.prog 95 := k_spec_l04Guess fn95
theorem fn63 : Is_spec_l02Number Try.prog 63 66 := FnIs.of Try.func63 (by kernel_rfl) (by kernel_rfl) (by kernel_rfl) (by decide) (fun vs w => Try.call63 vs w)
theorem c63 : C_spec_l02Number Try.prog 63 := k_spec_l02Number fn63 c66
theorem fn45 : Is_spec_GuessOf Try.prog 45 94 95 63 := FnIs.of Try.func45 (by kernel_rfl) (by kernel_rfl) (by kernel_rfl) (by decide) (fun vs w => Try.call45 vs w)
theorem c45 : C_spec_GuessOf Try.prog 45 := k_spec_GuessOf fn45 c94 c95 c63
theorem fn106 : Is_slices_IndexFunc___float32_float32_ Try.prog 106 := FnIs.of Try.func106 (by kernel_rfl) (by kernel_rfl) (by kernel_rfl) (by decide) (fun vs w => Try.call106 vs w)
theorem c106 : C_slices_IndexFunc___float32_float32_ Try.prog 106 := k_slices_IndexFunc___float32_float32_ fn106
theorem fn116 : Is_slices_ContainsFunc___float32_float32_ Try.prog 116 106 := FnIs.of Try.func116 (by kernel_rfl) (by kernel_rfl) (by kernel_rfl) (by decide) (fun vs w => Try.call116 vs w)
theorem c116 : C_slices_ContainsFunc___float32_float32_ Try.prog 116 := k_slices_ContainsFunc___float32_float32_ fn116 c106
theorem fn93 : Is_impl_IsFinite Try.prog 93 := FnIs.of Try.func93 (by kernel_rfl) (by kernel_rfl) (by kernel_rfl) (by decide) (fun vs w => Try.call93 vs w)
theorem c93 : C_impl_IsFinite Try.prog 93 := k_impl_IsFinite fn93
theorem fn117 : Is_impl_areFinite_1 Try.prog 117 93 := FnIs.of Try.func117 (by kernel_rfl) (by kernel_rfl) (by kernel_rfl) (by decide) (fun vs w => Try.call117 vs w)
theorem c117 : C_impl_areFinite_1 Try.prog 117 := k_impl_areFinite_1 fn117 c93
theorem fn92 : Is_impl_areFinite Try.prog 92 116 117 := FnIs.of Try.func92 (by kernel_rfl) (by kernel_rfl) (by kernel_rfl) (by decide) (fun vs w => Try.call92 vs w)
theorem c92 : C_impl_areFinite Try.prog 92 := k_impl_areFinite fn92 c116 c117
theorem fn86 : Is_impl_within Try.prog 86 := FnIs.of Try.func86 (by kernel_rfl) (by kernel_rfl) (by kernel_rfl) (by decide) (fun vs w => Try.call86 vs w)
theorem c86 : C_impl_within Try.prog 86 := k_impl_within fn86
theorem fn96 : Is_impl_ValidState Try.prog 96 92 86 := FnIs.of Try.func96 (by kernel_rfl) (by kernel_rfl) (by kernel_rfl) (by decide) (fun vs w => Try.call96 vs w)
theorem c96 : C_impl_ValidState Try.prog 96 := k_impl_ValidState fn96 c92 c86
theorem fn59 : Is_impl_isShare Try.prog 59 := FnIs.of Try.func59 (by kernel_rfl) (by kernel_rfl) (by kernel_rfl) (by decide) (fun vs w => Try.call59 vs w)
theorem c59 : C_impl_isShare Try.prog 59 := k_impl_isShare fn59
theorem fn97 : Is_impl_ValidShares Try.prog 97 59 := FnIs.of Try.func97 (by kernel_rfl) (by kernel_rfl) (by kernel_rfl) (by decide) (fun vs w => Try.call97 vs w)
theorem c97 : C_impl_ValidShares Try.prog 97 := k_impl_ValidShares fn97 c59
theorem fn98 : Is_impl_State__guess Try.prog 98 := FnIs.of Try.func98 (by kernel_rfl) (by kernel_rfl) (by kernel_rfl) (by decide) (fun vs w => Try.call98 vs w)
theorem c98 : C_impl_State__guess Try.prog 98 := k_impl_State__guess fn98
theorem fn65 : Is_impl_ifFinite Try.prog 65 93 := FnIs.of Try.func65 (by kernel_rfl) (by kernel_rfl) (by kernel_rfl) (by decide) (fun vs w => Try.call65 vs w)
theorem c65 : C_impl_ifFinite Try.prog 65 := k_impl_ifFinite fn65 c93
theorem fn47 : Is_impl_GuessOf Try.prog 47 96 97 98 65 := FnIs.of Try.func47 (by kernel_rfl) (by kernel_rfl) (by kernel_rfl) (by decide) (fun vs w => Try.call47 vs w)
theorem c47 : C_impl_GuessOf Try.prog 47 := k_impl_GuessOf fn47 c96 c97 c98 c65
theorem fn28 : Is_laws_sameFloat Try.prog 28 := FnIs.of Try.func28 (by kernel_rfl) (by kernel_rfl) (by kernel_rfl) (by decide) (fun vs w => Try.call28 vs w)
theorem c28 : C_laws_sameFloat Try.prog 28 := k_laws_sameFloat fn28
theorem fn23 : Is_laws_eqFloat32S Try.prog 23 28 := FnIs.of Try.func23 (by kernel_rfl) (by kernel_rfl) (by kernel_rfl) (by decide) (fun vs w => Try.call23 vs w)
theorem c23 : C_laws_eqFloat32S Try.prog 23 := k_laws_eqFloat32S fn23 c28
theorem fn19 : Is_laws_eqState Try.prog 19 28 23 := FnIs.of Try.func19 (by kernel_rfl) (by kernel_rfl) (by kernel_rfl) (by decide) (fun vs w => Try.call19 vs w)
theorem c19 : C_laws_eqState Try.prog 19 := k_laws_eqState fn19 c28 c23
theorem fn13 : Is_laws_FnExactGuessOf Try.prog 13 15 17 46 45 47 28 19 := FnIs.of Try.func13 (by kernel_rfl) (by kernel_rfl) (by kernel_rfl) (by decide) (fun vs w => Try.call13 vs w)
theorem c13 : C_laws_FnExactGuessOf Try.prog 13 := k_laws_FnExactGuessOf fn13 c15 c17 c46 c45 c47 c28 c19
theorem law (xs : List AV) (h : ShapesT [.st [.f .f32, .f .f32, .sf .f32, .i .i64], .st [.f .f32, .f .f32, .f .f32, .f .f32]] xs) : VCall Try.prog 13 (AV.viewL [] 0 xs) (.b true) := by
  obtain ⟨_, _, rfl, ⟨_, rfl, _, _, rfl, ⟨_, rfl, _⟩, _, _, rfl, ⟨_, rfl, _⟩, _, _, rfl, ⟨_, rfl, _, _⟩, _, _, rfl, ⟨_, rfl, _⟩, rfl⟩, _, _, rfl, ⟨_, rfl, _, _, rfl, ⟨_, rfl, _⟩, _, _, rfl, ⟨_, rfl, _⟩, _, _, rfl, ⟨_, rfl, _⟩, _, _, rfl, ⟨_, rfl, _⟩, rfl⟩, rfl⟩ := h
  exact c13 _ _ _ _ _ _ _ _ (by assumption)
set_option maxRecDepth 100000 in
theorem lifted (os : Os) (started : os.Started) (H : Type) (enc : TypeId × Value → H) :
    ReturnsInHanded {} Try.checked os 13 .any (Rows.fnExactGuessOfSpec.pre6 enc Try.prog Try.f13 Rows.fnExactGuessOfRow.domain false) (Rows.fnExactGuessOfSpec.post enc Try.prog Try.f13 false true false false) := by
  refine returnsInHanded_of_change (C := Try.checked) own started (by kernel_rfl) Try.func13
    (ChangeSpec.witness6 (enc := enc) (C := Try.checked) false ⟨#[], #[.agg #[.float .f32 0, .float .f32 0, .slice none 0 0, .int .i64 0], .agg #[.float .f32 0, .float .f32 0, .float .f32 0, .float .f32 0]], []⟩ 8 (by kernel_rfl) (by kernel_rfl) (by kernel_rfl) (by kernel_rfl)) ?_
  intro W base args ds gs before hval hW _ _
  exact law_post (P := Try.prog) (fn := Try.f13) (tys := [.st [.f .f32, .f .f32, .sf .f32, .i .i64], .st [.f .f32, .f .f32, .f .f32, .f .f32]]) (by kernel_rfl) (by kernel_rfl) (by kernel_rfl) rfl
    (fun H ds hds => by
      match ds, hds with
      | [d0, d1], _ => rfl) (rt := 4) (by kernel_rfl) (by kernel_rfl) (fun vs w => Try.call13 vs w) law enc W base args ds gs before hval hW

theorem proved : Rows.FnExactGuessOfSaid :=
  OpenClaim.holds_of_wide 13 Try.f13 rfl rfl rfl rfl rfl rfl rfl ⟨rfl, rfl, rfl, rfl, rfl⟩ rfl rfl rfl rfl rfl (by kernel_rfl) Try.func13 (by kernel_rfl)
    (of_decide_eq_true (by kernel_rfl)) (by unfold Func.isWrapper; first | (rw [if_pos (by decide +kernel)]; kernel_rfl) | (rw [if_neg (by decide +kernel)]; exact ⟨rfl, rfl⟩))
    (fun os started H enc _ => lifted os started H enc)
end Go.Proofs.Ytkcgiakliiadoaa.FnExactGuessOf
