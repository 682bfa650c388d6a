/- The statement FnExactLineFit, proved: whatever the input, the law returns true, and the input reads as it did. -/
import Derived.Test.YtkcgiakliiadoaaRows
import Derived.Test.YtkcgiakliiadoaaLvFnA
import Derived.Test.YtkcgiakliiadoaaLvFnB
import Derived.Test.YtkcgiakliiadoaaLvFnD
import Derived.Test.YtkcgiakliiadoaaLvFnF
import Derived.Test.YtkcgiakliiadoaaLvLawC
import Derived.JoinedOf
namespace Go.Proofs.Ytkcgiakliiadoaa.FnExactLineFit
open Go.Proofs.LV Go.ChangeShapes Go.WideShapes Go.ChangeAt Go.RowKit
set_option linter.unusedVariables false
set_option linter.unusedSimpArgs false
theorem own : ownKnob Try.prog.godebug = none := by kernel_rfl
theorem fn21 : Is_laws_toFloat32S Try.prog 21 := FnIs.of Try.func21 (by kernel_rfl) (by kernel_rfl) (by kernel_rfl) (by decide) (fun vs w => Try.call21 vs w)
theorem c21 : C_laws_toFloat32S Try.prog 21 := k_laws_toFloat32S fn21
theorem fn66 : Is_spec_l01Finite Try.prog 66 := FnIs.of Try.func66 (by kernel_rfl) (by kernel_rfl) (by kernel_rfl) (by decide) (fun vs w => Try.call66 vs w)
theorem c66 : C_spec_l01Finite Try.prog 66 := k_spec_l01Finite fn66
theorem fn88 : Is_spec_l02Finite Try.prog 88 66 := FnIs.of Try.func88 (by kernel_rfl) (by kernel_rfl) (by kernel_rfl) (by decide) (fun vs w => Try.call88 vs w)
theorem c88 : C_spec_l02Finite Try.prog 88 := k_spec_l02Finite fn88 c66
theorem fn54 : Is_spec_l02Series Try.prog 54 88 := FnIs.of Try.func54 (by kernel_rfl) (by kernel_rfl) (by kernel_rfl) (by decide) (fun vs w => Try.call54 vs w)
theorem c54 : C_spec_l02Series Try.prog 54 := k_spec_l02Series fn54 c88
theorem fn79 : Is_spec_l03Places Try.prog 79 := FnIs.of Try.func79 (by kernel_rfl) (by kernel_rfl) (by kernel_rfl) (by decide) (fun vs w => Try.call79 vs w)
theorem c79 : C_spec_l03Places Try.prog 79 := k_spec_l03Places fn79
theorem fn80 : Is_spec_l03Mean Try.prog 80 := FnIs.of Try.func80 (by kernel_rfl) (by kernel_rfl) (by kernel_rfl) (by decide) (fun vs w => Try.call80 vs w)
theorem c80 : C_spec_l03Mean Try.prog 80 := k_spec_l03Mean fn80
theorem fn81 : Is_spec_l03Two Try.prog 81 66 := FnIs.of Try.func81 (by kernel_rfl) (by kernel_rfl) (by kernel_rfl) (by decide) (fun vs w => Try.call81 vs w)
theorem c81 : C_spec_l03Two Try.prog 81 := k_spec_l03Two fn81 c66
theorem fn39 : Is_spec_LineFit Try.prog 39 54 79 80 81 := FnIs.of Try.func39 (by kernel_rfl) (by kernel_rfl) (by kernel_rfl) (by decide) (fun vs w => Try.call39 vs w)
theorem c39 : C_spec_LineFit Try.prog 39 := k_spec_LineFit fn39 c54 c79 c80 c81
theorem fn106 : Is_slices_IndexFunc___float32_float32_ Try.prog 106 := FnIs.of Try.func106 (by kernel_rfl) (by kernel_rfl) (by kernel_rfl) (by decide) (fun vs w => Try.call106 vs w)
theorem c106 : C_slices_IndexFunc___float32_float32_ Try.prog 106 := k_slices_IndexFunc___float32_float32_ fn106
theorem fn116 : Is_slices_ContainsFunc___float32_float32_ Try.prog 116 106 := FnIs.of Try.func116 (by kernel_rfl) (by kernel_rfl) (by kernel_rfl) (by decide) (fun vs w => Try.call116 vs w)
theorem c116 : C_slices_ContainsFunc___float32_float32_ Try.prog 116 := k_slices_ContainsFunc___float32_float32_ fn116 c106
theorem fn93 : Is_impl_IsFinite Try.prog 93 := FnIs.of Try.func93 (by kernel_rfl) (by kernel_rfl) (by kernel_rfl) (by decide) (fun vs w => Try.call93 vs w)
theorem c93 : C_impl_IsFinite Try.prog 93 := k_impl_IsFinite fn93
theorem fn117 : Is_impl_areFinite_1 Try.prog 117 93 := FnIs.of Try.func117 (by kernel_rfl) (by kernel_rfl) (by kernel_rfl) (by decide) (fun vs w => Try.call117 vs w)
theorem c117 : C_impl_areFinite_1 Try.prog 117 := k_impl_areFinite_1 fn117 c93
theorem fn92 : Is_impl_areFinite Try.prog 92 116 117 := FnIs.of Try.func92 (by kernel_rfl) (by kernel_rfl) (by kernel_rfl) (by decide) (fun vs w => Try.call92 vs w)
theorem c92 : C_impl_areFinite Try.prog 92 := k_impl_areFinite fn92 c116 c117
theorem fn58 : Is_impl_IsSeries Try.prog 58 92 := FnIs.of Try.func58 (by kernel_rfl) (by kernel_rfl) (by kernel_rfl) (by decide) (fun vs w => Try.call58 vs w)
theorem c58 : C_impl_IsSeries Try.prog 58 := k_impl_IsSeries fn58 c92
theorem fn82 : Is_impl_places Try.prog 82 := FnIs.of Try.func82 (by kernel_rfl) (by kernel_rfl) (by kernel_rfl) (by decide) (fun vs w => Try.call82 vs w)
theorem c82 : C_impl_places Try.prog 82 := k_impl_places fn82
theorem fn115 : Is_impl_addUp Try.prog 115 := FnIs.of Try.func115 (by kernel_rfl) (by kernel_rfl) (by kernel_rfl) (by decide) (fun vs w => Try.call115 vs w)
theorem c115 : C_impl_addUp Try.prog 115 := k_impl_addUp fn115
theorem fn78 : Is_impl_mean Try.prog 78 115 := FnIs.of Try.func78 (by kernel_rfl) (by kernel_rfl) (by kernel_rfl) (by decide) (fun vs w => Try.call78 vs w)
theorem c78 : C_impl_mean Try.prog 78 := k_impl_mean fn78 c115
theorem fn83 : Is_impl_lessOne Try.prog 83 := FnIs.of Try.func83 (by kernel_rfl) (by kernel_rfl) (by kernel_rfl) (by decide) (fun vs w => Try.call83 vs w)
theorem c83 : C_impl_lessOne Try.prog 83 := k_impl_lessOne fn83
theorem fn84 : Is_impl_dot Try.prog 84 := FnIs.of Try.func84 (by kernel_rfl) (by kernel_rfl) (by kernel_rfl) (by decide) (fun vs w => Try.call84 vs w)
theorem c84 : C_impl_dot Try.prog 84 := k_impl_dot fn84
theorem fn67 : Is_impl_ifTwo Try.prog 67 92 := FnIs.of Try.func67 (by kernel_rfl) (by kernel_rfl) (by kernel_rfl) (by decide) (fun vs w => Try.call67 vs w)
theorem c67 : C_impl_ifTwo Try.prog 67 := k_impl_ifTwo fn67 c92
theorem fn40 : Is_impl_LineFit Try.prog 40 58 82 78 83 84 67 := FnIs.of Try.func40 (by kernel_rfl) (by kernel_rfl) (by kernel_rfl) (by decide) (fun vs w => Try.call40 vs w)
theorem c40 : C_impl_LineFit Try.prog 40 := k_impl_LineFit fn40 c58 c82 c78 c83 c84 c67
theorem fn28 : Is_laws_sameFloat Try.prog 28 := FnIs.of Try.func28 (by kernel_rfl) (by kernel_rfl) (by kernel_rfl) (by decide) (fun vs w => Try.call28 vs w)
theorem c28 : C_laws_sameFloat Try.prog 28 := k_laws_sameFloat fn28
theorem fn23 : Is_laws_eqFloat32S Try.prog 23 28 := FnIs.of Try.func23 (by kernel_rfl) (by kernel_rfl) (by kernel_rfl) (by decide) (fun vs w => Try.call23 vs w)
theorem c23 : C_laws_eqFloat32S Try.prog 23 := k_laws_eqFloat32S fn23 c28
theorem fn10 : Is_laws_FnExactLineFit Try.prog 10 21 39 40 28 23 := FnIs.of Try.func10 (by kernel_rfl) (by kernel_rfl) (by kernel_rfl) (by decide) (fun vs w => Try.call10 vs w)
theorem c10 : C_laws_FnExactLineFit Try.prog 10 := k_laws_FnExactLineFit fn10 c21 c39 c40 c28 c23
theorem law (xs : List AV) (h : ShapesT [.one (.sf .f32)] xs) : VCall Try.prog 10 (AV.viewL [] 0 xs) (.b true) := by
  obtain ⟨_, _, rfl, ⟨_, rfl, _, _⟩, rfl⟩ := h
  exact c10 _ (by assumption)
set_option maxRecDepth 100000 in
theorem lifted (os : Os) (started : os.Started) (H : Type) (enc : TypeId × Value → H) :
    ReturnsInHanded {} Try.checked os 10 .any (Rows.fnExactLineFitSpec.pre6 enc Try.prog Try.f10 Rows.fnExactLineFitRow.domain false) (Rows.fnExactLineFitSpec.post enc Try.prog Try.f10 false true false false) := by
  refine returnsInHanded_of_change (C := Try.checked) own started (by kernel_rfl) Try.func10
    (ChangeSpec.witness6 (enc := enc) (C := Try.checked) false ⟨#[], #[.slice none 0 0], []⟩ 8 (by kernel_rfl) (by kernel_rfl) (by kernel_rfl) (by kernel_rfl)) ?_
  intro W base args ds gs before hval hW _ _
  exact law_post (P := Try.prog) (fn := Try.f10) (tys := [.one (.sf .f32)]) (by kernel_rfl) (by kernel_rfl) (by kernel_rfl) rfl
    (fun H ds hds => by
      match ds, hds with
      | [d0], _ => rfl) (rt := 4) (by kernel_rfl) (by kernel_rfl) (fun vs w => Try.call10 vs w) law enc W base args ds gs before hval hW

theorem proved : Rows.FnExactLineFitSaid :=
  OpenClaim.holds_of_wide 10 Try.f10 rfl rfl rfl rfl rfl rfl rfl ⟨rfl, rfl, rfl, rfl, rfl⟩ rfl rfl rfl rfl rfl (by kernel_rfl) Try.func10 (by kernel_rfl)
    (of_decide_eq_true (by kernel_rfl)) (by unfold Func.isWrapper; first | (rw [if_pos (by decide +kernel)]; kernel_rfl) | (rw [if_neg (by decide +kernel)]; exact ⟨rfl, rfl⟩))
    (fun os started H enc _ => lifted os started H enc)
end Go.Proofs.Ytkcgiakliiadoaa.FnExactLineFit
