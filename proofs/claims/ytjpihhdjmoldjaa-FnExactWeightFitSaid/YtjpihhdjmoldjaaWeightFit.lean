/- The statement FnExactWeightFit, proved: whatever the input, the law returns true, and the input reads as it did. -/
import Derived.Test.YtjpihhdjmoldjaaRows
import Derived.Test.YtjpihhdjmoldjaaLvFnA
import Derived.Test.YtjpihhdjmoldjaaLvFnB
import Derived.Test.YtjpihhdjmoldjaaLvFnD
import Derived.Test.YtjpihhdjmoldjaaLvFnE
import Derived.Test.YtjpihhdjmoldjaaLvFnF
import Derived.Test.YtjpihhdjmoldjaaLvFnI
import Derived.Test.YtjpihhdjmoldjaaLvLawE
import Derived.JoinedOf
namespace Go.Proofs.Ytjpihhdjmoldjaa.FnExactWeightFit
open Go.Proofs.LV Go.ChangeShapes Go.WideShapes Go.ChangeAt Go.RowKit
set_option linter.unusedVariables false
set_option linter.unusedSimpArgs false
theorem own : ownKnob Try.prog.godebug = none := by kernel_rfl
theorem fn16 : Is_laws_toFloat32S Try.prog 16 := FnIs.of Try.func16 (by kernel_rfl) (by kernel_rfl) (by kernel_rfl) (by decide) (fun vs w => Try.call16 vs w)
theorem c16 : C_laws_toFloat32S Try.prog 16 := k_laws_toFloat32S fn16
theorem fn68 : Is_spec_l01Finite Try.prog 68 := FnIs.of Try.func68 (by kernel_rfl) (by kernel_rfl) (by kernel_rfl) (by decide) (fun vs w => Try.call68 vs w)
theorem c68 : C_spec_l01Finite Try.prog 68 := k_spec_l01Finite fn68
theorem fn96 : Is_spec_l02Finite Try.prog 96 68 := FnIs.of Try.func96 (by kernel_rfl) (by kernel_rfl) (by kernel_rfl) (by decide) (fun vs w => Try.call96 vs w)
theorem c96 : C_spec_l02Finite Try.prog 96 := k_spec_l02Finite fn96 c68
theorem fn58 : Is_spec_l02Series Try.prog 58 96 := FnIs.of Try.func58 (by kernel_rfl) (by kernel_rfl) (by kernel_rfl) (by decide) (fun vs w => Try.call58 vs w)
theorem c58 : C_spec_l02Series Try.prog 58 := k_spec_l02Series fn58 c96
theorem fn59 : Is_spec_l03Two Try.prog 59 68 := FnIs.of Try.func59 (by kernel_rfl) (by kernel_rfl) (by kernel_rfl) (by decide) (fun vs w => Try.call59 vs w)
theorem c59 : C_spec_l03Two Try.prog 59 := k_spec_l03Two fn59 c68
theorem fn15 : Is_spec_WeightFit Try.prog 15 58 59 := FnIs.of Try.func15 (by kernel_rfl) (by kernel_rfl) (by kernel_rfl) (by decide) (fun vs w => Try.call15 vs w)
theorem c15 : C_spec_WeightFit Try.prog 15 := k_spec_WeightFit fn15 c58 c59
theorem fn60 : Is_impl_addUp Try.prog 60 := FnIs.of Try.func60 (by kernel_rfl) (by kernel_rfl) (by kernel_rfl) (by decide) (fun vs w => Try.call60 vs w)
theorem c60 : C_impl_addUp Try.prog 60 := k_impl_addUp fn60
theorem fn130 : Is_slices_IndexFunc___float32_float32_ Try.prog 130 := FnIs.of Try.func130 (by kernel_rfl) (by kernel_rfl) (by kernel_rfl) (by decide) (fun vs w => Try.call130 vs w)
theorem c130 : C_slices_IndexFunc___float32_float32_ Try.prog 130 := k_slices_IndexFunc___float32_float32_ fn130
theorem fn113 : Is_slices_ContainsFunc___float32_float32_ Try.prog 113 130 := FnIs.of Try.func113 (by kernel_rfl) (by kernel_rfl) (by kernel_rfl) (by decide) (fun vs w => Try.call113 vs w)
theorem c113 : C_slices_ContainsFunc___float32_float32_ Try.prog 113 := k_slices_ContainsFunc___float32_float32_ fn113 c130
theorem fn73 : Is_impl_IsFinite Try.prog 73 := FnIs.of Try.func73 (by kernel_rfl) (by kernel_rfl) (by kernel_rfl) (by decide) (fun vs w => Try.call73 vs w)
theorem c73 : C_impl_IsFinite Try.prog 73 := k_impl_IsFinite fn73
theorem fn126 : Is_impl_areFinite_1 Try.prog 126 73 := FnIs.of Try.func126 (by kernel_rfl) (by kernel_rfl) (by kernel_rfl) (by decide) (fun vs w => Try.call126 vs w)
theorem c126 : C_impl_areFinite_1 Try.prog 126 := k_impl_areFinite_1 fn126 c73
theorem fn99 : Is_impl_areFinite Try.prog 99 113 126 := FnIs.of Try.func99 (by kernel_rfl) (by kernel_rfl) (by kernel_rfl) (by decide) (fun vs w => Try.call99 vs w)
theorem c99 : C_impl_areFinite Try.prog 99 := k_impl_areFinite fn99 c113 c126
theorem fn71 : Is_impl_IsSeries Try.prog 71 99 := FnIs.of Try.func71 (by kernel_rfl) (by kernel_rfl) (by kernel_rfl) (by decide) (fun vs w => Try.call71 vs w)
theorem c71 : C_impl_IsSeries Try.prog 71 := k_impl_IsSeries fn71 c99
theorem fn61 : Is_impl_areTwo Try.prog 61 71 := FnIs.of Try.func61 (by kernel_rfl) (by kernel_rfl) (by kernel_rfl) (by decide) (fun vs w => Try.call61 vs w)
theorem c61 : C_impl_areTwo Try.prog 61 := k_impl_areTwo fn61 c71
theorem fn114 : Is_impl_areNotLess_1 Try.prog 114 73 := FnIs.of Try.func114 (by kernel_rfl) (by kernel_rfl) (by kernel_rfl) (by decide) (fun vs w => Try.call114 vs w)
theorem c114 : C_impl_areNotLess_1 Try.prog 114 := k_impl_areNotLess_1 fn114 c73
theorem fn62 : Is_impl_areNotLess Try.prog 62 113 114 := FnIs.of Try.func62 (by kernel_rfl) (by kernel_rfl) (by kernel_rfl) (by decide) (fun vs w => Try.call62 vs w)
theorem c62 : C_impl_areNotLess Try.prog 62 := k_impl_areNotLess fn62 c113 c114
theorem fn63 : Is_impl_dot Try.prog 63 := FnIs.of Try.func63 (by kernel_rfl) (by kernel_rfl) (by kernel_rfl) (by decide) (fun vs w => Try.call63 vs w)
theorem c63 : C_impl_dot Try.prog 63 := k_impl_dot fn63
theorem fn64 : Is_impl_lessOne Try.prog 64 := FnIs.of Try.func64 (by kernel_rfl) (by kernel_rfl) (by kernel_rfl) (by decide) (fun vs w => Try.call64 vs w)
theorem c64 : C_impl_lessOne Try.prog 64 := k_impl_lessOne fn64
theorem fn65 : Is_impl_weighed Try.prog 65 := FnIs.of Try.func65 (by kernel_rfl) (by kernel_rfl) (by kernel_rfl) (by decide) (fun vs w => Try.call65 vs w)
theorem c65 : C_impl_weighed Try.prog 65 := k_impl_weighed fn65
theorem fn66 : Is_impl_ifTwo Try.prog 66 99 := FnIs.of Try.func66 (by kernel_rfl) (by kernel_rfl) (by kernel_rfl) (by decide) (fun vs w => Try.call66 vs w)
theorem c66 : C_impl_ifTwo Try.prog 66 := k_impl_ifTwo fn66 c99
theorem fn17 : Is_impl_WeightFit Try.prog 17 60 61 62 63 64 65 66 := FnIs.of Try.func17 (by kernel_rfl) (by kernel_rfl) (by kernel_rfl) (by decide) (fun vs w => Try.call17 vs w)
theorem c17 : C_impl_WeightFit Try.prog 17 := k_impl_WeightFit fn17 c60 c61 c62 c63 c64 c65 c66
theorem fn18 : Is_laws_sameFloat Try.prog 18 := FnIs.of Try.func18 (by kernel_rfl) (by kernel_rfl) (by kernel_rfl) (by decide) (fun vs w => Try.call18 vs w)
theorem c18 : C_laws_sameFloat Try.prog 18 := k_laws_sameFloat fn18
theorem fn19 : Is_laws_eqFloat32S Try.prog 19 18 := FnIs.of Try.func19 (by kernel_rfl) (by kernel_rfl) (by kernel_rfl) (by decide) (fun vs w => Try.call19 vs w)
theorem c19 : C_laws_eqFloat32S Try.prog 19 := k_laws_eqFloat32S fn19 c18
theorem fn3 : Is_laws_FnExactWeightFit Try.prog 3 16 15 17 18 19 := FnIs.of Try.func3 (by kernel_rfl) (by kernel_rfl) (by kernel_rfl) (by decide) (fun vs w => Try.call3 vs w)
theorem c3 : C_laws_FnExactWeightFit Try.prog 3 := k_laws_FnExactWeightFit fn3 c16 c15 c17 c18 c19
theorem law (xs : List AV) (h : ShapesT [.one (.sf .f32), .one (.sf .f32), .one (.sf .f32)] xs) : VCall Try.prog 3 (AV.viewL [] 0 xs) (.b true) := by
  obtain ⟨_, _, rfl, ⟨_, rfl, _, _⟩, _, _, rfl, ⟨_, rfl, _, _⟩, _, _, rfl, ⟨_, rfl, _, _⟩, rfl⟩ := h
  exact c3 _ _ _ (by assumption) (by assumption) (by assumption)
set_option maxRecDepth 100000 in
theorem lifted (os : Os) (started : os.Started) (H : Type) (enc : TypeId × Value → H) :
    ReturnsInHanded {} Try.checked os 3 .any (Rows.fnExactWeightFitSpec.pre6 enc Try.prog Try.f3 Rows.fnExactWeightFitRow.domain false) (Rows.fnExactWeightFitSpec.post enc Try.prog Try.f3 false true false false) := by
  refine returnsInHanded_of_change (C := Try.checked) own started (by kernel_rfl) Try.func3
    (ChangeSpec.witness6 (enc := enc) (C := Try.checked) false ⟨#[], #[.slice none 0 0, .slice none 0 0, .slice none 0 0], []⟩ 8 (by kernel_rfl) (by kernel_rfl) (by kernel_rfl) (by kernel_rfl)) ?_
  intro W base args ds gs before hval hW _ _
  exact law_post (P := Try.prog) (fn := Try.f3) (tys := [.one (.sf .f32), .one (.sf .f32), .one (.sf .f32)]) (by kernel_rfl) (by kernel_rfl) (by kernel_rfl) rfl
    (fun H ds hds => by
      match ds, hds with
      | [d0, d1, d2], _ => rfl) (rt := 4) (by kernel_rfl) (by kernel_rfl) (fun vs w => Try.call3 vs w) law enc W base args ds gs before hval hW

theorem proved : Rows.FnExactWeightFitSaid :=
  OpenClaim.holds_of_wide 3 Try.f3 rfl rfl rfl rfl rfl rfl rfl ⟨rfl, rfl, rfl, rfl, rfl⟩ rfl rfl rfl rfl rfl (by kernel_rfl) Try.func3 (by kernel_rfl)
    (of_decide_eq_true (by kernel_rfl)) (by unfold Func.isWrapper; first | (rw [if_pos (by decide +kernel)]; kernel_rfl) | (rw [if_neg (by decide +kernel)]; exact ⟨rfl, rfl⟩))
    (fun os started H enc _ => lifted os started H enc)
end Go.Proofs.Ytjpihhdjmoldjaa.FnExactWeightFit
