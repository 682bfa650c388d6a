/- The statement FnExactDoubleLine, proved: whatever the input, the law returns true, and the input reads as it did. -/
import Derived.Test.YtkcgiakliiadoaaRows
import Derived.Test.YtkcgiakliiadoaaLvFnA
import Derived.Test.YtkcgiakliiadoaaLvFnB
import Derived.Test.YtkcgiakliiadoaaLvFnD
import Derived.Test.YtkcgiakliiadoaaLvFnE
import Derived.Test.YtkcgiakliiadoaaLvLawB
import Derived.JoinedOf
namespace Go.Proofs.Ytkcgiakliiadoaa.FnExactDoubleLine
open Go.Proofs.LV Go.ChangeShapes Go.WideShapes Go.ChangeAt Go.RowKit
set_option linter.unusedVariables false
set_option linter.unusedSimpArgs false
theorem own : ownKnob Try.prog.godebug = none := by kernel_rfl
theorem fn21 : Is_laws_toFloat32S Try.prog 21 := FnIs.of Try.func21 (by kernel_rfl) (by kernel_rfl) (by kernel_rfl) (by decide) (fun vs w => Try.call21 vs w)
theorem c21 : C_laws_toFloat32S Try.prog 21 := k_laws_toFloat32S fn21
theorem fn66 : Is_spec_l01Finite Try.prog 66 := FnIs.of Try.func66 (by kernel_rfl) (by kernel_rfl) (by kernel_rfl) (by decide) (fun vs w => Try.call66 vs w)
theorem c66 : C_spec_l01Finite Try.prog 66 := k_spec_l01Finite fn66
theorem fn88 : Is_spec_l02Finite Try.prog 88 66 := FnIs.of Try.func88 (by kernel_rfl) (by kernel_rfl) (by kernel_rfl) (by decide) (fun vs w => Try.call88 vs w)
theorem c88 : C_spec_l02Finite Try.prog 88 := k_spec_l02Finite fn88 c66
theorem fn54 : Is_spec_l02Series Try.prog 54 88 := FnIs.of Try.func54 (by kernel_rfl) (by kernel_rfl) (by kernel_rfl) (by decide) (fun vs w => Try.call54 vs w)
theorem c54 : C_spec_l02Series Try.prog 54 := k_spec_l02Series fn54 c88
theorem fn55 : Is_spec_l02Share Try.prog 55 := FnIs.of Try.func55 (by kernel_rfl) (by kernel_rfl) (by kernel_rfl) (by decide) (fun vs w => Try.call55 vs w)
theorem c55 : C_spec_l02Share Try.prog 55 := k_spec_l02Share fn55
theorem fn57 : Is_spec_l04Levels Try.prog 57 := FnIs.of Try.func57 (by kernel_rfl) (by kernel_rfl) (by kernel_rfl) (by decide) (fun vs w => Try.call57 vs w)
theorem c57 : C_spec_l04Levels Try.prog 57 := k_spec_l04Levels fn57
theorem fn56 : Is_spec_l02List Try.prog 56 88 := FnIs.of Try.func56 (by kernel_rfl) (by kernel_rfl) (by kernel_rfl) (by decide) (fun vs w => Try.call56 vs w)
theorem c56 : C_spec_l02List Try.prog 56 := k_spec_l02List fn56 c88
theorem fn20 : Is_spec_SimpleLevels Try.prog 20 54 55 57 56 := FnIs.of Try.func20 (by kernel_rfl) (by kernel_rfl) (by kernel_rfl) (by decide) (fun vs w => Try.call20 vs w)
theorem c20 : C_spec_SimpleLevels Try.prog 20 := k_spec_SimpleLevels fn20 c54 c55 c57 c56
theorem fn31 : Is_spec_DoubleLine Try.prog 31 20 66 := FnIs.of Try.func31 (by kernel_rfl) (by kernel_rfl) (by kernel_rfl) (by decide) (fun vs w => Try.call31 vs w)
theorem c31 : C_spec_DoubleLine Try.prog 31 := k_spec_DoubleLine fn31 c20 c66
theorem fn106 : Is_slices_IndexFunc___float32_float32_ Try.prog 106 := FnIs.of Try.func106 (by kernel_rfl) (by kernel_rfl) (by kernel_rfl) (by decide) (fun vs w => Try.call106 vs w)
theorem c106 : C_slices_IndexFunc___float32_float32_ Try.prog 106 := k_slices_IndexFunc___float32_float32_ fn106
theorem fn116 : Is_slices_ContainsFunc___float32_float32_ Try.prog 116 106 := FnIs.of Try.func116 (by kernel_rfl) (by kernel_rfl) (by kernel_rfl) (by decide) (fun vs w => Try.call116 vs w)
theorem c116 : C_slices_ContainsFunc___float32_float32_ Try.prog 116 := k_slices_ContainsFunc___float32_float32_ fn116 c106
theorem fn93 : Is_impl_IsFinite Try.prog 93 := FnIs.of Try.func93 (by kernel_rfl) (by kernel_rfl) (by kernel_rfl) (by decide) (fun vs w => Try.call93 vs w)
theorem c93 : C_impl_IsFinite Try.prog 93 := k_impl_IsFinite fn93
theorem fn117 : Is_impl_areFinite_1 Try.prog 117 93 := FnIs.of Try.func117 (by kernel_rfl) (by kernel_rfl) (by kernel_rfl) (by decide) (fun vs w => Try.call117 vs w)
theorem c117 : C_impl_areFinite_1 Try.prog 117 := k_impl_areFinite_1 fn117 c93
theorem fn92 : Is_impl_areFinite Try.prog 92 116 117 := FnIs.of Try.func92 (by kernel_rfl) (by kernel_rfl) (by kernel_rfl) (by decide) (fun vs w => Try.call92 vs w)
theorem c92 : C_impl_areFinite Try.prog 92 := k_impl_areFinite fn92 c116 c117
theorem fn58 : Is_impl_IsSeries Try.prog 58 92 := FnIs.of Try.func58 (by kernel_rfl) (by kernel_rfl) (by kernel_rfl) (by decide) (fun vs w => Try.call58 vs w)
theorem c58 : C_impl_IsSeries Try.prog 58 := k_impl_IsSeries fn58 c92
theorem fn59 : Is_impl_isShare Try.prog 59 := FnIs.of Try.func59 (by kernel_rfl) (by kernel_rfl) (by kernel_rfl) (by decide) (fun vs w => Try.call59 vs w)
theorem c59 : C_impl_isShare Try.prog 59 := k_impl_isShare fn59
theorem fn61 : Is_impl_simpleLevels Try.prog 61 := FnIs.of Try.func61 (by kernel_rfl) (by kernel_rfl) (by kernel_rfl) (by decide) (fun vs w => Try.call61 vs w)
theorem c61 : C_impl_simpleLevels Try.prog 61 := k_impl_simpleLevels fn61
theorem fn60 : Is_impl_ifAll Try.prog 60 92 := FnIs.of Try.func60 (by kernel_rfl) (by kernel_rfl) (by kernel_rfl) (by decide) (fun vs w => Try.call60 vs w)
theorem c60 : C_impl_ifAll Try.prog 60 := k_impl_ifAll fn60 c92
theorem fn22 : Is_impl_SimpleLevels Try.prog 22 58 59 61 60 := FnIs.of Try.func22 (by kernel_rfl) (by kernel_rfl) (by kernel_rfl) (by decide) (fun vs w => Try.call22 vs w)
theorem c22 : C_impl_SimpleLevels Try.prog 22 := k_impl_SimpleLevels fn22 c58 c59 c61 c60
theorem fn67 : Is_impl_ifTwo Try.prog 67 92 := FnIs.of Try.func67 (by kernel_rfl) (by kernel_rfl) (by kernel_rfl) (by decide) (fun vs w => Try.call67 vs w)
theorem c67 : C_impl_ifTwo Try.prog 67 := k_impl_ifTwo fn67 c92
theorem fn32 : Is_impl_DoubleLine Try.prog 32 22 67 := FnIs.of Try.func32 (by kernel_rfl) (by kernel_rfl) (by kernel_rfl) (by decide) (fun vs w => Try.call32 vs w)
theorem c32 : C_impl_DoubleLine Try.prog 32 := k_impl_DoubleLine fn32 c22 c67
theorem fn28 : Is_laws_sameFloat Try.prog 28 := FnIs.of Try.func28 (by kernel_rfl) (by kernel_rfl) (by kernel_rfl) (by decide) (fun vs w => Try.call28 vs w)
theorem c28 : C_laws_sameFloat Try.prog 28 := k_laws_sameFloat fn28
theorem fn23 : Is_laws_eqFloat32S Try.prog 23 28 := FnIs.of Try.func23 (by kernel_rfl) (by kernel_rfl) (by kernel_rfl) (by decide) (fun vs w => Try.call23 vs w)
theorem c23 : C_laws_eqFloat32S Try.prog 23 := k_laws_eqFloat32S fn23 c28
theorem fn7 : Is_laws_FnExactDoubleLine Try.prog 7 21 31 32 28 23 := FnIs.of Try.func7 (by kernel_rfl) (by kernel_rfl) (by kernel_rfl) (by decide) (fun vs w => Try.call7 vs w)
theorem c7 : C_laws_FnExactDoubleLine Try.prog 7 := k_laws_FnExactDoubleLine fn7 c21 c31 c32 c28 c23
theorem law (xs : List AV) (h : ShapesT [.one (.sf .f32), .one (.f .f32)] xs) : VCall Try.prog 7 (AV.viewL [] 0 xs) (.b true) := by
  obtain ⟨_, _, rfl, ⟨_, rfl, _, _⟩, _, _, rfl, ⟨_, rfl, _⟩, rfl⟩ := h
  exact c7 _ _ (by assumption)
set_option maxRecDepth 100000 in
theorem lifted (os : Os) (started : os.Started) (H : Type) (enc : TypeId × Value → H) :
    ReturnsInHanded {} Try.checked os 7 .any (Rows.fnExactDoubleLineSpec.pre6 enc Try.prog Try.f7 Rows.fnExactDoubleLineRow.domain false) (Rows.fnExactDoubleLineSpec.post enc Try.prog Try.f7 false true false false) := by
  refine returnsInHanded_of_change (C := Try.checked) own started (by kernel_rfl) Try.func7
    (ChangeSpec.witness6 (enc := enc) (C := Try.checked) false ⟨#[], #[.slice none 0 0, .float .f32 0], []⟩ 8 (by kernel_rfl) (by kernel_rfl) (by kernel_rfl) (by kernel_rfl)) ?_
  intro W base args ds gs before hval hW _ _
  exact law_post (P := Try.prog) (fn := Try.f7) (tys := [.one (.sf .f32), .one (.f .f32)]) (by kernel_rfl) (by kernel_rfl) (by kernel_rfl) rfl
    (fun H ds hds => by
      match ds, hds with
      | [d0, d1], _ => rfl) (rt := 4) (by kernel_rfl) (by kernel_rfl) (fun vs w => Try.call7 vs w) law enc W base args ds gs before hval hW

theorem proved : Rows.FnExactDoubleLineSaid :=
  OpenClaim.holds_of_wide 7 Try.f7 rfl rfl rfl rfl rfl rfl rfl ⟨rfl, rfl, rfl, rfl, rfl⟩ rfl rfl rfl rfl rfl (by kernel_rfl) Try.func7 (by kernel_rfl)
    (of_decide_eq_true (by kernel_rfl)) (by unfold Func.isWrapper; first | (rw [if_pos (by decide +kernel)]; kernel_rfl) | (rw [if_neg (by decide +kernel)]; exact ⟨rfl, rfl⟩))
    (fun os started H enc _ => lifted os started H enc)
end Go.Proofs.Ytkcgiakliiadoaa.FnExactDoubleLine
