/- The statement FnExactStepState, proved: whatever the input, the law returns true, and the input reads as it did. -/
import Derived.Test.YtdjjpckpcfkgiaaRows
import Derived.Test.YtdjjpckpcfkgiaaLvFnA
import Derived.Test.YtdjjpckpcfkgiaaLvFnB
import Derived.Test.YtdjjpckpcfkgiaaLvFnE
import Derived.Test.YtdjjpckpcfkgiaaLvFnO
import Derived.Test.YtdjjpckpcfkgiaaLvFnY
import Derived.Test.YtdjjpckpcfkgiaaLvLawF
import Derived.Test.YtdjjpckpcfkgiaaLvLawG
import Derived.Test.YtdjjpckpcfkgiaaLvLawR
import Derived.JoinedOf
namespace Go.Proofs.Ytdjjpckpcfkgiaa.FnExactStepState
open Go.Proofs.LV Go.ChangeShapes Go.WideShapes Go.ChangeAt Go.RowKit
set_option linter.unusedVariables false
set_option linter.unusedSimpArgs false
theorem own : ownKnob Try.prog.godebug = none := by kernel_rfl
theorem fn50 : Is_laws_szFloat32S Try.prog 50 := FnIs.of Try.func50 (by kernel_rfl) (by kernel_rfl) (by kernel_rfl) (by decide) (fun vs w => Try.call50 vs w)
theorem c50 : C_laws_szFloat32S Try.prog 50 := k_laws_szFloat32S fn50
theorem fn15 : Is_laws_szState Try.prog 15 50 := FnIs.of Try.func15 (by kernel_rfl) (by kernel_rfl) (by kernel_rfl) (by decide) (fun vs w => Try.call15 vs w)
theorem c15 : C_laws_szState Try.prog 15 := k_laws_szState fn15 c50
theorem fn25 : Is_laws_toFloat32S Try.prog 25 := FnIs.of Try.func25 (by kernel_rfl) (by kernel_rfl) (by kernel_rfl) (by decide) (fun vs w => Try.call25 vs w)
theorem c25 : C_laws_toFloat32S Try.prog 25 := k_laws_toFloat32S fn25
theorem fn17 : Is_laws_toState Try.prog 17 25 := FnIs.of Try.func17 (by kernel_rfl) (by kernel_rfl) (by kernel_rfl) (by decide) (fun vs w => Try.call17 vs w)
theorem c17 : C_laws_toState Try.prog 17 := k_laws_toState fn17 c25
theorem fn18 : Is_laws_toShares Try.prog 18 := FnIs.of Try.func18 (by kernel_rfl) (by kernel_rfl) (by kernel_rfl) (by decide) (fun vs w => Try.call18 vs w)
theorem c18 : C_laws_toShares Try.prog 18 := k_laws_toShares fn18
theorem fn52 : Is_spec_l01Finite Try.prog 52 := FnIs.of Try.func52 (by kernel_rfl) (by kernel_rfl) (by kernel_rfl) (by decide) (fun vs w => Try.call52 vs w)
theorem c52 : C_spec_l01Finite Try.prog 52 := k_spec_l01Finite fn52
theorem fn67 : Is_spec_l00In Try.prog 67 := FnIs.of Try.func67 (by kernel_rfl) (by kernel_rfl) (by kernel_rfl) (by decide) (fun vs w => Try.call67 vs w)
theorem c67 : C_spec_l00In Try.prog 67 := k_spec_l00In fn67
theorem fn72 : Is_spec_l02Finite Try.prog 72 52 := FnIs.of Try.func72 (by kernel_rfl) (by kernel_rfl) (by kernel_rfl) (by decide) (fun vs w => Try.call72 vs w)
theorem c72 : C_spec_l02Finite Try.prog 72 := k_spec_l02Finite fn72 c52
theorem fn54 : Is_spec_l04Is Try.prog 54 52 67 72 := FnIs.of Try.func54 (by kernel_rfl) (by kernel_rfl) (by kernel_rfl) (by decide) (fun vs w => Try.call54 vs w)
theorem c54 : C_spec_l04Is Try.prog 54 := k_spec_l04Is fn54 c52 c67 c72
theorem fn142 : Is_spec_l02Share Try.prog 142 := FnIs.of Try.func142 (by kernel_rfl) (by kernel_rfl) (by kernel_rfl) (by decide) (fun vs w => Try.call142 vs w)
theorem c142 : C_spec_l02Share Try.prog 142 := k_spec_l02Share fn142
theorem fn115 : Is_spec_l04Shares Try.prog 115 142 := FnIs.of Try.func115 (by kernel_rfl) (by kernel_rfl) (by kernel_rfl) (by decide) (fun vs w => Try.call115 vs w)
theorem c115 : C_spec_l04Shares Try.prog 115 := k_spec_l04Shares fn115 c142
theorem fn51 : Is_spec_l04Can Try.prog 51 54 115 := FnIs.of Try.func51 (by kernel_rfl) (by kernel_rfl) (by kernel_rfl) (by decide) (fun vs w => Try.call51 vs w)
theorem c51 : C_spec_l04Can Try.prog 51 := k_spec_l04Can fn51 c54 c115
theorem fn116 : Is_spec_l04Guess Try.prog 116 := FnIs.of Try.func116 (by kernel_rfl) (by kernel_rfl) (by kernel_rfl) (by decide) (fun vs w => Try.call116 vs w)
theorem c116 : C_spec_l04Guess Try.prog 116 := k_spec_l04Guess fn116
theorem fn117 : Is_spec_l04Own Try.prog 117 := FnIs.of Try.func117 (by kernel_rfl) (by kernel_rfl) (by kernel_rfl) (by decide) (fun vs w => Try.call117 vs w)
theorem c117 : C_spec_l04Own Try.prog 117 := k_spec_l04Own fn117
theorem fn53 : Is_spec_l04Step Try.prog 53 116 117 := FnIs.of Try.func53 (by kernel_rfl) (by kernel_rfl) (by kernel_rfl) (by decide) (fun vs w => Try.call53 vs w)
theorem c53 : C_spec_l04Step Try.prog 53 := k_spec_l04Step fn53 c116 c117
theorem fn16 : Is_spec_StepState Try.prog 16 51 52 53 54 := FnIs.of Try.func16 (by kernel_rfl) (by kernel_rfl) (by kernel_rfl) (by decide) (fun vs w => Try.call16 vs w)
theorem c16 : C_spec_StepState Try.prog 16 := k_spec_StepState fn16 c51 c52 c53 c54
theorem fn144 : Is_slices_IndexFunc___float32_float32_ Try.prog 144 := FnIs.of Try.func144 (by kernel_rfl) (by kernel_rfl) (by kernel_rfl) (by decide) (fun vs w => Try.call144 vs w)
theorem c144 : C_slices_IndexFunc___float32_float32_ Try.prog 144 := k_slices_IndexFunc___float32_float32_ fn144
theorem fn124 : Is_slices_ContainsFunc___float32_float32_ Try.prog 124 144 := FnIs.of Try.func124 (by kernel_rfl) (by kernel_rfl) (by kernel_rfl) (by decide) (fun vs w => Try.call124 vs w)
theorem c124 : C_slices_ContainsFunc___float32_float32_ Try.prog 124 := k_slices_ContainsFunc___float32_float32_ fn124 c144
theorem fn57 : Is_impl_IsFinite Try.prog 57 := FnIs.of Try.func57 (by kernel_rfl) (by kernel_rfl) (by kernel_rfl) (by decide) (fun vs w => Try.call57 vs w)
theorem c57 : C_impl_IsFinite Try.prog 57 := k_impl_IsFinite fn57
theorem fn125 : Is_impl_areFinite_1 Try.prog 125 57 := FnIs.of Try.func125 (by kernel_rfl) (by kernel_rfl) (by kernel_rfl) (by decide) (fun vs w => Try.call125 vs w)
theorem c125 : C_impl_areFinite_1 Try.prog 125 := k_impl_areFinite_1 fn125 c57
theorem fn81 : Is_impl_areFinite Try.prog 81 124 125 := FnIs.of Try.func81 (by kernel_rfl) (by kernel_rfl) (by kernel_rfl) (by decide) (fun vs w => Try.call81 vs w)
theorem c81 : C_impl_areFinite Try.prog 81 := k_impl_areFinite fn81 c124 c125
theorem fn75 : Is_impl_within Try.prog 75 := FnIs.of Try.func75 (by kernel_rfl) (by kernel_rfl) (by kernel_rfl) (by decide) (fun vs w => Try.call75 vs w)
theorem c75 : C_impl_within Try.prog 75 := k_impl_within fn75
theorem fn55 : Is_impl_ValidState Try.prog 55 81 75 := FnIs.of Try.func55 (by kernel_rfl) (by kernel_rfl) (by kernel_rfl) (by decide) (fun vs w => Try.call55 vs w)
theorem c55 : C_impl_ValidState Try.prog 55 := k_impl_ValidState fn55 c81 c75
theorem fn118 : Is_impl_isShare Try.prog 118 := FnIs.of Try.func118 (by kernel_rfl) (by kernel_rfl) (by kernel_rfl) (by decide) (fun vs w => Try.call118 vs w)
theorem c118 : C_impl_isShare Try.prog 118 := k_impl_isShare fn118
theorem fn56 : Is_impl_ValidShares Try.prog 56 118 := FnIs.of Try.func56 (by kernel_rfl) (by kernel_rfl) (by kernel_rfl) (by decide) (fun vs w => Try.call56 vs w)
theorem c56 : C_impl_ValidShares Try.prog 56 := k_impl_ValidShares fn56 c118
theorem fn58 : Is_impl_State__guess Try.prog 58 := FnIs.of Try.func58 (by kernel_rfl) (by kernel_rfl) (by kernel_rfl) (by decide) (fun vs w => Try.call58 vs w)
theorem c58 : C_impl_State__guess Try.prog 58 := k_impl_State__guess fn58
theorem fn92 : Is_slices_Clone___float32_float32_ Try.prog 92 := FnIs.of Try.func92 (by kernel_rfl) (by kernel_rfl) (by kernel_rfl) (by decide) (fun vs w => Try.call92 vs w)
theorem c92 : C_slices_Clone___float32_float32_ Try.prog 92 := k_slices_Clone___float32_float32_ fn92
theorem fn59 : Is_impl_State__step Try.prog 59 58 92 := FnIs.of Try.func59 (by kernel_rfl) (by kernel_rfl) (by kernel_rfl) (by decide) (fun vs w => Try.call59 vs w)
theorem c59 : C_impl_State__step Try.prog 59 := k_impl_State__step fn59 c58 c92
theorem fn19 : Is_impl_StepState Try.prog 19 55 56 57 58 59 := FnIs.of Try.func19 (by kernel_rfl) (by kernel_rfl) (by kernel_rfl) (by decide) (fun vs w => Try.call19 vs w)
theorem c19 : C_impl_StepState Try.prog 19 := k_impl_StepState fn19 c55 c56 c57 c58 c59
theorem fn21 : Is_laws_sameFloat Try.prog 21 := FnIs.of Try.func21 (by kernel_rfl) (by kernel_rfl) (by kernel_rfl) (by decide) (fun vs w => Try.call21 vs w)
theorem c21 : C_laws_sameFloat Try.prog 21 := k_laws_sameFloat fn21
theorem fn27 : Is_laws_eqFloat32S Try.prog 27 21 := FnIs.of Try.func27 (by kernel_rfl) (by kernel_rfl) (by kernel_rfl) (by decide) (fun vs w => Try.call27 vs w)
theorem c27 : C_laws_eqFloat32S Try.prog 27 := k_laws_eqFloat32S fn27 c21
theorem fn20 : Is_laws_eqState Try.prog 20 21 27 := FnIs.of Try.func20 (by kernel_rfl) (by kernel_rfl) (by kernel_rfl) (by decide) (fun vs w => Try.call20 vs w)
theorem c20 : C_laws_eqState Try.prog 20 := k_laws_eqState fn20 c21 c27
theorem fn30 : Is_laws_markFloat32S Try.prog 30 := FnIs.of Try.func30 (by kernel_rfl) (by kernel_rfl) (by kernel_rfl) (by decide) (fun vs w => Try.call30 vs w)
theorem c30 : C_laws_markFloat32S Try.prog 30 := k_laws_markFloat32S fn30
theorem fn22 : Is_laws_markState Try.prog 22 30 := FnIs.of Try.func22 (by kernel_rfl) (by kernel_rfl) (by kernel_rfl) (by decide) (fun vs w => Try.call22 vs w)
theorem c22 : C_laws_markState Try.prog 22 := k_laws_markState fn22 c30
theorem fn31 : Is_laws_heldFloat32S Try.prog 31 := FnIs.of Try.func31 (by kernel_rfl) (by kernel_rfl) (by kernel_rfl) (by decide) (fun vs w => Try.call31 vs w)
theorem c31 : C_laws_heldFloat32S Try.prog 31 := k_laws_heldFloat32S fn31
theorem fn23 : Is_laws_heldState Try.prog 23 31 := FnIs.of Try.func23 (by kernel_rfl) (by kernel_rfl) (by kernel_rfl) (by decide) (fun vs w => Try.call23 vs w)
theorem c23 : C_laws_heldState Try.prog 23 := k_laws_heldState fn23 c31
theorem fn3 : Is_laws_FnExactStepState Try.prog 3 15 17 18 16 19 20 21 22 23 := FnIs.of Try.func3 (by kernel_rfl) (by kernel_rfl) (by kernel_rfl) (by decide) (fun vs w => Try.call3 vs w)
theorem c3 : C_laws_FnExactStepState Try.prog 3 := k_laws_FnExactStepState fn3 c15 c17 c18 c16 c19 c20 c21 c22 c23
theorem law (xs : List AV) (h : ShapesT [.st [.f .f32, .f .f32, .sf .f32, .i .i64], .st [.f .f32, .f .f32, .f .f32, .f .f32], .one (.f .f32)] xs) : VCall Try.prog 3 (AV.viewL [] 0 xs) (.b true) := by
  obtain ⟨_, _, rfl, ⟨_, rfl, _, _, rfl, ⟨_, rfl, _⟩, _, _, rfl, ⟨_, rfl, _⟩, _, _, rfl, ⟨_, rfl, _, _⟩, _, _, rfl, ⟨_, rfl, _⟩, rfl⟩, _, _, rfl, ⟨_, rfl, _, _, rfl, ⟨_, rfl, _⟩, _, _, rfl, ⟨_, rfl, _⟩, _, _, rfl, ⟨_, rfl, _⟩, _, _, rfl, ⟨_, rfl, _⟩, rfl⟩, _, _, rfl, ⟨_, rfl, _⟩, rfl⟩ := h
  exact c3 _ _ _ _ _ _ _ _ _ (by assumption)
set_option maxRecDepth 100000 in
theorem lifted (os : Os) (started : os.Started) (H : Type) (enc : TypeId × Value → H) :
    ReturnsInHanded {} Try.checked os 3 .any (Rows.fnExactStepStateSpec.pre6 enc Try.prog Try.f3 Rows.fnExactStepStateRow.domain false) (Rows.fnExactStepStateSpec.post enc Try.prog Try.f3 false true false false) := by
  refine returnsInHanded_of_change (C := Try.checked) own started (by kernel_rfl) Try.func3
    (ChangeSpec.witness6 (enc := enc) (C := Try.checked) false ⟨#[], #[.agg #[.float .f32 0, .float .f32 0, .slice none 0 0, .int .i64 0], .agg #[.float .f32 0, .float .f32 0, .float .f32 0, .float .f32 0], .float .f32 0], []⟩ 8 (by kernel_rfl) (by kernel_rfl) (by kernel_rfl) (by kernel_rfl)) ?_
  intro W base args ds gs before hval hW _ _
  exact law_post (P := Try.prog) (fn := Try.f3) (tys := [.st [.f .f32, .f .f32, .sf .f32, .i .i64], .st [.f .f32, .f .f32, .f .f32, .f .f32], .one (.f .f32)]) (by kernel_rfl) (by kernel_rfl) (by kernel_rfl) rfl
    (fun H ds hds => by
      match ds, hds with
      | [d0, d1, d2], _ => rfl) (rt := 4) (by kernel_rfl) (by kernel_rfl) (fun vs w => Try.call3 vs w) law enc W base args ds gs before hval hW

theorem proved : Rows.FnExactStepStateSaid :=
  OpenClaim.holds_of_wide 3 Try.f3 rfl rfl rfl rfl rfl rfl rfl ⟨rfl, rfl, rfl, rfl, rfl⟩ rfl rfl rfl rfl rfl (by kernel_rfl) Try.func3 (by kernel_rfl)
    (of_decide_eq_true (by kernel_rfl)) (by unfold Func.isWrapper; first | (rw [if_pos (by decide +kernel)]; kernel_rfl) | (rw [if_neg (by decide +kernel)]; exact ⟨rfl, rfl⟩))
    (fun os started H enc _ => lifted os started H enc)
end Go.Proofs.Ytdjjpckpcfkgiaa.FnExactStepState
