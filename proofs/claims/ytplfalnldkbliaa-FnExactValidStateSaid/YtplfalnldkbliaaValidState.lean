/- The statement FnExactValidState, proved: whatever the input, the law returns true, and the input reads as it did. -/
import Derived.Test.YtplfalnldkbliaaRows
import Derived.Test.YtplfalnldkbliaaLvFnA
import Derived.Test.YtplfalnldkbliaaLvFnB
import Derived.Test.YtplfalnldkbliaaLvFnC
import Derived.JoinedOf
namespace Go.Proofs.Ytplfalnldkbliaa.FnExactValidState
open Go.Proofs.LV Go.ChangeShapes Go.WideShapes Go.ChangeAt Go.RowKit
set_option linter.unusedVariables false
set_option linter.unusedSimpArgs false
theorem own : ownKnob Try.prog.godebug = none := by kernel_rfl
theorem fn28 : Is_laws_szFloat32S Try.prog 28 := FnIs.of Try.func28 (by kernel_rfl) (by kernel_rfl) (by kernel_rfl) (by decide) (fun vs w => Try.call28 vs w)
theorem c28 : C_laws_szFloat32S Try.prog 28 := k_laws_szFloat32S fn28
theorem fn11 : Is_laws_szState Try.prog 11 28 := FnIs.of Try.func11 (by kernel_rfl) (by kernel_rfl) (by kernel_rfl) (by decide) (fun vs w => Try.call11 vs w)
theorem c11 : C_laws_szState Try.prog 11 := k_laws_szState fn11 c28
theorem fn17 : Is_laws_toFloat32S Try.prog 17 := FnIs.of Try.func17 (by kernel_rfl) (by kernel_rfl) (by kernel_rfl) (by decide) (fun vs w => Try.call17 vs w)
theorem c17 : C_laws_toFloat32S Try.prog 17 := k_laws_toFloat32S fn17
theorem fn13 : Is_laws_toState Try.prog 13 17 := FnIs.of Try.func13 (by kernel_rfl) (by kernel_rfl) (by kernel_rfl) (by decide) (fun vs w => Try.call13 vs w)
theorem c13 : C_laws_toState Try.prog 13 := k_laws_toState fn13 c17
theorem fn42 : Is_spec_l01Finite Try.prog 42 := FnIs.of Try.func42 (by kernel_rfl) (by kernel_rfl) (by kernel_rfl) (by decide) (fun vs w => Try.call42 vs w)
theorem c42 : C_spec_l01Finite Try.prog 42 := k_spec_l01Finite fn42
theorem fn43 : Is_spec_l00In Try.prog 43 := FnIs.of Try.func43 (by kernel_rfl) (by kernel_rfl) (by kernel_rfl) (by decide) (fun vs w => Try.call43 vs w)
theorem c43 : C_spec_l00In Try.prog 43 := k_spec_l00In fn43
theorem fn37 : Is_spec_l02Finite Try.prog 37 42 := FnIs.of Try.func37 (by kernel_rfl) (by kernel_rfl) (by kernel_rfl) (by decide) (fun vs w => Try.call37 vs w)
theorem c37 : C_spec_l02Finite Try.prog 37 := k_spec_l02Finite fn37 c42
theorem fn29 : Is_spec_l04Is Try.prog 29 42 43 37 := FnIs.of Try.func29 (by kernel_rfl) (by kernel_rfl) (by kernel_rfl) (by decide) (fun vs w => Try.call29 vs w)
theorem c29 : C_spec_l04Is Try.prog 29 := k_spec_l04Is fn29 c42 c43 c37
theorem fn12 : Is_spec_ValidState Try.prog 12 29 := FnIs.of Try.func12 (by kernel_rfl) (by kernel_rfl) (by kernel_rfl) (by decide) (fun vs w => Try.call12 vs w)
theorem c12 : C_spec_ValidState Try.prog 12 := k_spec_ValidState fn12 c29
theorem fn47 : Is_slices_IndexFunc___float32_float32_ Try.prog 47 := FnIs.of Try.func47 (by kernel_rfl) (by kernel_rfl) (by kernel_rfl) (by decide) (fun vs w => Try.call47 vs w)
theorem c47 : C_slices_IndexFunc___float32_float32_ Try.prog 47 := k_slices_IndexFunc___float32_float32_ fn47
theorem fn44 : Is_slices_ContainsFunc___float32_float32_ Try.prog 44 47 := FnIs.of Try.func44 (by kernel_rfl) (by kernel_rfl) (by kernel_rfl) (by decide) (fun vs w => Try.call44 vs w)
theorem c44 : C_slices_ContainsFunc___float32_float32_ Try.prog 44 := k_slices_ContainsFunc___float32_float32_ fn44 c47
theorem fn46 : Is_impl_IsFinite Try.prog 46 := FnIs.of Try.func46 (by kernel_rfl) (by kernel_rfl) (by kernel_rfl) (by decide) (fun vs w => Try.call46 vs w)
theorem c46 : C_impl_IsFinite Try.prog 46 := k_impl_IsFinite fn46
theorem fn45 : Is_impl_areFinite_1 Try.prog 45 46 := FnIs.of Try.func45 (by kernel_rfl) (by kernel_rfl) (by kernel_rfl) (by decide) (fun vs w => Try.call45 vs w)
theorem c45 : C_impl_areFinite_1 Try.prog 45 := k_impl_areFinite_1 fn45 c46
theorem fn30 : Is_impl_areFinite Try.prog 30 44 45 := FnIs.of Try.func30 (by kernel_rfl) (by kernel_rfl) (by kernel_rfl) (by decide) (fun vs w => Try.call30 vs w)
theorem c30 : C_impl_areFinite Try.prog 30 := k_impl_areFinite fn30 c44 c45
theorem fn31 : Is_impl_within Try.prog 31 := FnIs.of Try.func31 (by kernel_rfl) (by kernel_rfl) (by kernel_rfl) (by decide) (fun vs w => Try.call31 vs w)
theorem c31 : C_impl_within Try.prog 31 := k_impl_within fn31
theorem fn14 : Is_impl_ValidState Try.prog 14 30 31 := FnIs.of Try.func14 (by kernel_rfl) (by kernel_rfl) (by kernel_rfl) (by decide) (fun vs w => Try.call14 vs w)
theorem c14 : C_impl_ValidState Try.prog 14 := k_impl_ValidState fn14 c30 c31
theorem fn32 : Is_laws_sameFloat Try.prog 32 := FnIs.of Try.func32 (by kernel_rfl) (by kernel_rfl) (by kernel_rfl) (by decide) (fun vs w => Try.call32 vs w)
theorem c32 : C_laws_sameFloat Try.prog 32 := k_laws_sameFloat fn32
theorem fn19 : Is_laws_eqFloat32S Try.prog 19 32 := FnIs.of Try.func19 (by kernel_rfl) (by kernel_rfl) (by kernel_rfl) (by decide) (fun vs w => Try.call19 vs w)
theorem c19 : C_laws_eqFloat32S Try.prog 19 := k_laws_eqFloat32S fn19 c32
theorem fn15 : Is_laws_eqState Try.prog 15 32 19 := FnIs.of Try.func15 (by kernel_rfl) (by kernel_rfl) (by kernel_rfl) (by decide) (fun vs w => Try.call15 vs w)
theorem c15 : C_laws_eqState Try.prog 15 := k_laws_eqState fn15 c32 c19
theorem fn4 : Is_laws_FnExactValidState Try.prog 4 11 13 12 14 15 := FnIs.of Try.func4 (by kernel_rfl) (by kernel_rfl) (by kernel_rfl) (by decide) (fun vs w => Try.call4 vs w)
theorem c4 : C_laws_FnExactValidState Try.prog 4 := k_laws_FnExactValidState fn4 c11 c13 c12 c14 c15
theorem law (xs : List AV) (h : ShapesT [.st [.f .f32, .f .f32, .sf .f32, .i .i64]] xs) : VCall Try.prog 4 (AV.viewL [] 0 xs) (.b true) := by
  obtain ⟨_, _, rfl, ⟨_, rfl, _, _, rfl, ⟨_, rfl, _⟩, _, _, rfl, ⟨_, rfl, _⟩, _, _, rfl, ⟨_, rfl, _, _⟩, _, _, rfl, ⟨_, rfl, _⟩, rfl⟩, rfl⟩ := h
  exact c4 _ _ _ _ (by assumption)
set_option maxRecDepth 100000 in
theorem lifted (os : Os) (started : os.Started) (H : Type) (enc : TypeId × Value → H) :
    ReturnsInHanded {} Try.checked os 4 .any (Rows.fnExactValidStateSpec.pre6 enc Try.prog Try.f4 Rows.fnExactValidStateRow.domain false) (Rows.fnExactValidStateSpec.post enc Try.prog Try.f4 false true false false) := by
  refine returnsInHanded_of_change (C := Try.checked) own started (by kernel_rfl) Try.func4
    (ChangeSpec.witness6 (enc := enc) (C := Try.checked) false ⟨#[], #[.agg #[.float .f32 0, .float .f32 0, .slice none 0 0, .int .i64 0]], []⟩ 8 (by kernel_rfl) (by kernel_rfl) (by kernel_rfl) (by kernel_rfl)) ?_
  intro W base args ds gs before hval hW _ _
  exact law_post (P := Try.prog) (fn := Try.f4) (tys := [.st [.f .f32, .f .f32, .sf .f32, .i .i64]]) (by kernel_rfl) (by kernel_rfl) (by kernel_rfl) rfl
    (fun H ds hds => by
      match ds, hds with
      | [d0], _ => rfl) (rt := 4) (by kernel_rfl) (by kernel_rfl) (fun vs w => Try.call4 vs w) law enc W base args ds gs before hval hW

theorem proved : Rows.FnExactValidStateSaid :=
  OpenClaim.holds_of_wide 4 Try.f4 rfl rfl rfl rfl rfl rfl rfl ⟨rfl, rfl, rfl, rfl, rfl⟩ rfl rfl rfl rfl rfl (by kernel_rfl) Try.func4 (by kernel_rfl)
    (of_decide_eq_true (by kernel_rfl)) (by unfold Func.isWrapper; first | (rw [if_pos (by decide +kernel)]; kernel_rfl) | (rw [if_neg (by decide +kernel)]; exact ⟨rfl, rfl⟩))
    (fun os started H enc _ => lifted os started H enc)
end Go.Proofs.Ytplfalnldkbliaa.FnExactValidState
