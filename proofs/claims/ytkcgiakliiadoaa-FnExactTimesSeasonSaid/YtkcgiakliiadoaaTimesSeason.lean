/- The statement FnExactTimesSeason, proved: whatever the input, the law returns true, and the input reads as it did. -/
import Derived.Test.YtkcgiakliiadoaaRows
import Derived.Test.YtkcgiakliiadoaaLvFnA
import Derived.Test.YtkcgiakliiadoaaLvFnB
import Derived.Test.YtkcgiakliiadoaaLvFnF
import Derived.Test.YtkcgiakliiadoaaLvFnG
import Derived.Test.YtkcgiakliiadoaaLvLawC
import Derived.JoinedOf
namespace Go.Proofs.Ytkcgiakliiadoaa.FnExactTimesSeason
open Go.Proofs.LV Go.ChangeShapes Go.WideShapes Go.ChangeAt Go.RowKit
set_option linter.unusedVariables false
set_option linter.unusedSimpArgs false
theorem own : ownKnob Try.prog.godebug = none := by kernel_rfl
theorem fn21 : Is_laws_toFloat32S Try.prog 21 := FnIs.of Try.func21 (by kernel_rfl) (by kernel_rfl) (by kernel_rfl) (by decide) (fun vs w => Try.call21 vs w)
theorem c21 : C_laws_toFloat32S Try.prog 21 := k_laws_toFloat32S fn21
theorem fn66 : Is_spec_l01Finite Try.prog 66 := FnIs.of Try.func66 (by kernel_rfl) (by kernel_rfl) (by kernel_rfl) (by decide) (fun vs w => Try.call66 vs w)
theorem c66 : C_spec_l01Finite Try.prog 66 := k_spec_l01Finite fn66
theorem fn88 : Is_spec_l02Finite Try.prog 88 66 := FnIs.of Try.func88 (by kernel_rfl) (by kernel_rfl) (by kernel_rfl) (by decide) (fun vs w => Try.call88 vs w)
theorem c88 : C_spec_l02Finite Try.prog 88 := k_spec_l02Finite fn88 c66
theorem fn54 : Is_spec_l02Series Try.prog 54 88 := FnIs.of Try.func54 (by kernel_rfl) (by kernel_rfl) (by kernel_rfl) (by decide) (fun vs w => Try.call54 vs w)
theorem c54 : C_spec_l02Series Try.prog 54 := k_spec_l02Series fn54 c88
theorem fn71 : Is_spec_l00In Try.prog 71 := FnIs.of Try.func71 (by kernel_rfl) (by kernel_rfl) (by kernel_rfl) (by decide) (fun vs w => Try.call71 vs w)
theorem c71 : C_spec_l00In Try.prog 71 := k_spec_l00In fn71
theorem fn55 : Is_spec_l02Share Try.prog 55 := FnIs.of Try.func55 (by kernel_rfl) (by kernel_rfl) (by kernel_rfl) (by decide) (fun vs w => Try.call55 vs w)
theorem c55 : C_spec_l02Share Try.prog 55 := k_spec_l02Share fn55
theorem fn99 : Is_spec_l02Above Try.prog 99 66 := FnIs.of Try.func99 (by kernel_rfl) (by kernel_rfl) (by kernel_rfl) (by decide) (fun vs w => Try.call99 vs w)
theorem c99 : C_spec_l02Above Try.prog 99 := k_spec_l02Above fn99 c66
theorem fn120 : Is_spec_l02Sum Try.prog 120 := FnIs.of Try.func120 (by kernel_rfl) (by kernel_rfl) (by kernel_rfl) (by decide) (fun vs w => Try.call120 vs w)
theorem c120 : C_spec_l02Sum Try.prog 120 := k_spec_l02Sum fn120
theorem fn100 : Is_spec_l02Mean Try.prog 100 120 := FnIs.of Try.func100 (by kernel_rfl) (by kernel_rfl) (by kernel_rfl) (by decide) (fun vs w => Try.call100 vs w)
theorem c100 : C_spec_l02Mean Try.prog 100 := k_spec_l02Mean fn100 c120
theorem fn48 : Is_spec_TimesSeason Try.prog 48 54 71 55 99 100 88 66 := FnIs.of Try.func48 (by kernel_rfl) (by kernel_rfl) (by kernel_rfl) (by decide) (fun vs w => Try.call48 vs w)
theorem c48 : C_spec_TimesSeason Try.prog 48 := k_spec_TimesSeason fn48 c54 c71 c55 c99 c100 c88 c66
theorem fn106 : Is_slices_IndexFunc___float32_float32_ Try.prog 106 := FnIs.of Try.func106 (by kernel_rfl) (by kernel_rfl) (by kernel_rfl) (by decide) (fun vs w => Try.call106 vs w)
theorem c106 : C_slices_IndexFunc___float32_float32_ Try.prog 106 := k_slices_IndexFunc___float32_float32_ fn106
theorem fn116 : Is_slices_ContainsFunc___float32_float32_ Try.prog 116 106 := FnIs.of Try.func116 (by kernel_rfl) (by kernel_rfl) (by kernel_rfl) (by decide) (fun vs w => Try.call116 vs w)
theorem c116 : C_slices_ContainsFunc___float32_float32_ Try.prog 116 := k_slices_ContainsFunc___float32_float32_ fn116 c106
theorem fn93 : Is_impl_IsFinite Try.prog 93 := FnIs.of Try.func93 (by kernel_rfl) (by kernel_rfl) (by kernel_rfl) (by decide) (fun vs w => Try.call93 vs w)
theorem c93 : C_impl_IsFinite Try.prog 93 := k_impl_IsFinite fn93
theorem fn117 : Is_impl_areFinite_1 Try.prog 117 93 := FnIs.of Try.func117 (by kernel_rfl) (by kernel_rfl) (by kernel_rfl) (by decide) (fun vs w => Try.call117 vs w)
theorem c117 : C_impl_areFinite_1 Try.prog 117 := k_impl_areFinite_1 fn117 c93
theorem fn92 : Is_impl_areFinite Try.prog 92 116 117 := FnIs.of Try.func92 (by kernel_rfl) (by kernel_rfl) (by kernel_rfl) (by decide) (fun vs w => Try.call92 vs w)
theorem c92 : C_impl_areFinite Try.prog 92 := k_impl_areFinite fn92 c116 c117
theorem fn58 : Is_impl_IsSeries Try.prog 58 92 := FnIs.of Try.func58 (by kernel_rfl) (by kernel_rfl) (by kernel_rfl) (by decide) (fun vs w => Try.call58 vs w)
theorem c58 : C_impl_IsSeries Try.prog 58 := k_impl_IsSeries fn58 c92
theorem fn86 : Is_impl_within Try.prog 86 := FnIs.of Try.func86 (by kernel_rfl) (by kernel_rfl) (by kernel_rfl) (by decide) (fun vs w => Try.call86 vs w)
theorem c86 : C_impl_within Try.prog 86 := k_impl_within fn86
theorem fn89 : Is_impl_isPeriodOf Try.prog 89 58 86 := FnIs.of Try.func89 (by kernel_rfl) (by kernel_rfl) (by kernel_rfl) (by decide) (fun vs w => Try.call89 vs w)
theorem c89 : C_impl_isPeriodOf Try.prog 89 := k_impl_isPeriodOf fn89 c58 c86
theorem fn101 : Is_impl_isPeriod Try.prog 101 89 := FnIs.of Try.func101 (by kernel_rfl) (by kernel_rfl) (by kernel_rfl) (by decide) (fun vs w => Try.call101 vs w)
theorem c101 : C_impl_isPeriod Try.prog 101 := k_impl_isPeriod fn101 c89
theorem fn121 : Is_impl_areMore_1 Try.prog 121 93 := FnIs.of Try.func121 (by kernel_rfl) (by kernel_rfl) (by kernel_rfl) (by decide) (fun vs w => Try.call121 vs w)
theorem c121 : C_impl_areMore_1 Try.prog 121 := k_impl_areMore_1 fn121 c93
theorem fn102 : Is_impl_areMore Try.prog 102 116 121 := FnIs.of Try.func102 (by kernel_rfl) (by kernel_rfl) (by kernel_rfl) (by decide) (fun vs w => Try.call102 vs w)
theorem c102 : C_impl_areMore Try.prog 102 := k_impl_areMore fn102 c116 c121
theorem fn59 : Is_impl_isShare Try.prog 59 := FnIs.of Try.func59 (by kernel_rfl) (by kernel_rfl) (by kernel_rfl) (by decide) (fun vs w => Try.call59 vs w)
theorem c59 : C_impl_isShare Try.prog 59 := k_impl_isShare fn59
theorem fn115 : Is_impl_addUp Try.prog 115 := FnIs.of Try.func115 (by kernel_rfl) (by kernel_rfl) (by kernel_rfl) (by decide) (fun vs w => Try.call115 vs w)
theorem c115 : C_impl_addUp Try.prog 115 := k_impl_addUp fn115
theorem fn78 : Is_impl_mean Try.prog 78 115 := FnIs.of Try.func78 (by kernel_rfl) (by kernel_rfl) (by kernel_rfl) (by decide) (fun vs w => Try.call78 vs w)
theorem c78 : C_impl_mean Try.prog 78 := k_impl_mean fn78 c115
theorem fn49 : Is_impl_TimesSeason Try.prog 49 101 102 59 78 92 93 := FnIs.of Try.func49 (by kernel_rfl) (by kernel_rfl) (by kernel_rfl) (by decide) (fun vs w => Try.call49 vs w)
theorem c49 : C_impl_TimesSeason Try.prog 49 := k_impl_TimesSeason fn49 c101 c102 c59 c78 c92 c93
theorem fn28 : Is_laws_sameFloat Try.prog 28 := FnIs.of Try.func28 (by kernel_rfl) (by kernel_rfl) (by kernel_rfl) (by decide) (fun vs w => Try.call28 vs w)
theorem c28 : C_laws_sameFloat Try.prog 28 := k_laws_sameFloat fn28
theorem fn23 : Is_laws_eqFloat32S Try.prog 23 28 := FnIs.of Try.func23 (by kernel_rfl) (by kernel_rfl) (by kernel_rfl) (by decide) (fun vs w => Try.call23 vs w)
theorem c23 : C_laws_eqFloat32S Try.prog 23 := k_laws_eqFloat32S fn23 c28
theorem fn24 : Is_laws_markFloat32S Try.prog 24 := FnIs.of Try.func24 (by kernel_rfl) (by kernel_rfl) (by kernel_rfl) (by decide) (fun vs w => Try.call24 vs w)
theorem c24 : C_laws_markFloat32S Try.prog 24 := k_laws_markFloat32S fn24
theorem fn25 : Is_laws_heldFloat32S Try.prog 25 := FnIs.of Try.func25 (by kernel_rfl) (by kernel_rfl) (by kernel_rfl) (by decide) (fun vs w => Try.call25 vs w)
theorem c25 : C_laws_heldFloat32S Try.prog 25 := k_laws_heldFloat32S fn25
theorem fn14 : Is_laws_FnExactTimesSeason Try.prog 14 21 48 49 23 28 24 25 := FnIs.of Try.func14 (by kernel_rfl) (by kernel_rfl) (by kernel_rfl) (by decide) (fun vs w => Try.call14 vs w)
theorem c14 : C_laws_FnExactTimesSeason Try.prog 14 := k_laws_FnExactTimesSeason fn14 c21 c48 c49 c23 c28 c24 c25
theorem law (xs : List AV) (h : ShapesT [.one (.sf .f32), .one (.i .i64), .one (.f .f32)] xs) : VCall Try.prog 14 (AV.viewL [] 0 xs) (.b true) := by
  obtain ⟨_, _, rfl, ⟨_, rfl, _, _⟩, _, _, rfl, ⟨_, rfl, _⟩, _, _, rfl, ⟨_, rfl, _⟩, rfl⟩ := h
  exact c14 _ _ _ (by assumption)
set_option maxRecDepth 100000 in
theorem lifted (os : Os) (started : os.Started) (H : Type) (enc : TypeId × Value → H) :
    ReturnsInHanded {} Try.checked os 14 .any (Rows.fnExactTimesSeasonSpec.pre6 enc Try.prog Try.f14 Rows.fnExactTimesSeasonRow.domain false) (Rows.fnExactTimesSeasonSpec.post enc Try.prog Try.f14 false true false false) := by
  refine returnsInHanded_of_change (C := Try.checked) own started (by kernel_rfl) Try.func14
    (ChangeSpec.witness6 (enc := enc) (C := Try.checked) false ⟨#[], #[.slice none 0 0, .int .i64 0, .float .f32 0], []⟩ 8 (by kernel_rfl) (by kernel_rfl) (by kernel_rfl) (by kernel_rfl)) ?_
  intro W base args ds gs before hval hW _ _
  exact law_post (P := Try.prog) (fn := Try.f14) (tys := [.one (.sf .f32), .one (.i .i64), .one (.f .f32)]) (by kernel_rfl) (by kernel_rfl) (by kernel_rfl) rfl
    (fun H ds hds => by
      match ds, hds with
      | [d0, d1, d2], _ => rfl) (rt := 4) (by kernel_rfl) (by kernel_rfl) (fun vs w => Try.call14 vs w) law enc W base args ds gs before hval hW

theorem proved : Rows.FnExactTimesSeasonSaid :=
  OpenClaim.holds_of_wide 14 Try.f14 rfl rfl rfl rfl rfl rfl rfl ⟨rfl, rfl, rfl, rfl, rfl⟩ rfl rfl rfl rfl rfl (by kernel_rfl) Try.func14 (by kernel_rfl)
    (of_decide_eq_true (by kernel_rfl)) (by unfold Func.isWrapper; first | (rw [if_pos (by decide +kernel)]; kernel_rfl) | (rw [if_neg (by decide +kernel)]; exact ⟨rfl, rfl⟩))
    (fun os started H enc _ => lifted os started H enc)
end Go.Proofs.Ytkcgiakliiadoaa.FnExactTimesSeason
