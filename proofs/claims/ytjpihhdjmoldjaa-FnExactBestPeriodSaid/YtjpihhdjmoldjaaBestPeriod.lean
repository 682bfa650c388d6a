/- The statement FnExactBestPeriod, proved: whatever the input, the law returns true, and the input reads as it did. -/
import Derived.Test.YtjpihhdjmoldjaaRows
import Derived.Test.YtjpihhdjmoldjaaLvFnA
import Derived.Test.YtjpihhdjmoldjaaLvFnB
import Derived.Test.YtjpihhdjmoldjaaLvFnF
import Derived.Test.YtjpihhdjmoldjaaLvFnG
import Derived.Test.YtjpihhdjmoldjaaLvFnI
import Derived.Test.YtjpihhdjmoldjaaLvLawE
import Derived.JoinedOf
namespace Go.Proofs.Ytjpihhdjmoldjaa.FnExactBestPeriod
open Go.Proofs.LV Go.ChangeShapes Go.WideShapes Go.ChangeAt Go.RowKit
set_option linter.unusedVariables false
set_option linter.unusedSimpArgs false
theorem own : ownKnob Try.prog.godebug = none := by kernel_rfl
theorem fn16 : Is_laws_toFloat32S Try.prog 16 := FnIs.of Try.func16 (by kernel_rfl) (by kernel_rfl) (by kernel_rfl) (by decide) (fun vs w => Try.call16 vs w)
theorem c16 : C_laws_toFloat32S Try.prog 16 := k_laws_toFloat32S fn16
theorem fn68 : Is_spec_l01Finite Try.prog 68 := FnIs.of Try.func68 (by kernel_rfl) (by kernel_rfl) (by kernel_rfl) (by decide) (fun vs w => Try.call68 vs w)
theorem c68 : C_spec_l01Finite Try.prog 68 := k_spec_l01Finite fn68
theorem fn96 : Is_spec_l02Finite Try.prog 96 68 := FnIs.of Try.func96 (by kernel_rfl) (by kernel_rfl) (by kernel_rfl) (by decide) (fun vs w => Try.call96 vs w)
theorem c96 : C_spec_l02Finite Try.prog 96 := k_spec_l02Finite fn96 c68
theorem fn58 : Is_spec_l02Series Try.prog 58 96 := FnIs.of Try.func58 (by kernel_rfl) (by kernel_rfl) (by kernel_rfl) (by decide) (fun vs w => Try.call58 vs w)
theorem c58 : C_spec_l02Series Try.prog 58 := k_spec_l02Series fn58 c96
theorem fn75 : Is_spec_l00In Try.prog 75 := FnIs.of Try.func75 (by kernel_rfl) (by kernel_rfl) (by kernel_rfl) (by decide) (fun vs w => Try.call75 vs w)
theorem c75 : C_spec_l00In Try.prog 75 := k_spec_l00In fn75
theorem fn118 : Is_spec_l03Fold Try.prog 118 := FnIs.of Try.func118 (by kernel_rfl) (by kernel_rfl) (by kernel_rfl) (by decide) (fun vs w => Try.call118 vs w)
theorem c118 : C_spec_l03Fold Try.prog 118 := k_spec_l03Fold fn118
theorem fn81 : Is_spec_FoldedBy Try.prog 81 58 75 118 96 68 := FnIs.of Try.func81 (by kernel_rfl) (by kernel_rfl) (by kernel_rfl) (by decide) (fun vs w => Try.call81 vs w)
theorem c81 : C_spec_FoldedBy Try.prog 81 := k_spec_FoldedBy fn81 c58 c75 c118 c96 c68
theorem fn26 : Is_spec_BestPeriod Try.prog 26 58 75 81 := FnIs.of Try.func26 (by kernel_rfl) (by kernel_rfl) (by kernel_rfl) (by decide) (fun vs w => Try.call26 vs w)
theorem c26 : C_spec_BestPeriod Try.prog 26 := k_spec_BestPeriod fn26 c58 c75 c81
theorem fn130 : Is_slices_IndexFunc___float32_float32_ Try.prog 130 := FnIs.of Try.func130 (by kernel_rfl) (by kernel_rfl) (by kernel_rfl) (by decide) (fun vs w => Try.call130 vs w)
theorem c130 : C_slices_IndexFunc___float32_float32_ Try.prog 130 := k_slices_IndexFunc___float32_float32_ fn130
theorem fn113 : Is_slices_ContainsFunc___float32_float32_ Try.prog 113 130 := FnIs.of Try.func113 (by kernel_rfl) (by kernel_rfl) (by kernel_rfl) (by decide) (fun vs w => Try.call113 vs w)
theorem c113 : C_slices_ContainsFunc___float32_float32_ Try.prog 113 := k_slices_ContainsFunc___float32_float32_ fn113 c130
theorem fn73 : Is_impl_IsFinite Try.prog 73 := FnIs.of Try.func73 (by kernel_rfl) (by kernel_rfl) (by kernel_rfl) (by decide) (fun vs w => Try.call73 vs w)
theorem c73 : C_impl_IsFinite Try.prog 73 := k_impl_IsFinite fn73
theorem fn126 : Is_impl_areFinite_1 Try.prog 126 73 := FnIs.of Try.func126 (by kernel_rfl) (by kernel_rfl) (by kernel_rfl) (by decide) (fun vs w => Try.call126 vs w)
theorem c126 : C_impl_areFinite_1 Try.prog 126 := k_impl_areFinite_1 fn126 c73
theorem fn99 : Is_impl_areFinite Try.prog 99 113 126 := FnIs.of Try.func99 (by kernel_rfl) (by kernel_rfl) (by kernel_rfl) (by decide) (fun vs w => Try.call99 vs w)
theorem c99 : C_impl_areFinite Try.prog 99 := k_impl_areFinite fn99 c113 c126
theorem fn71 : Is_impl_IsSeries Try.prog 71 99 := FnIs.of Try.func71 (by kernel_rfl) (by kernel_rfl) (by kernel_rfl) (by decide) (fun vs w => Try.call71 vs w)
theorem c71 : C_impl_IsSeries Try.prog 71 := k_impl_IsSeries fn71 c99
theorem fn82 : Is_impl_within Try.prog 82 := FnIs.of Try.func82 (by kernel_rfl) (by kernel_rfl) (by kernel_rfl) (by decide) (fun vs w => Try.call82 vs w)
theorem c82 : C_impl_within Try.prog 82 := k_impl_within fn82
theorem fn83 : Is_impl_areWorkers Try.prog 83 82 := FnIs.of Try.func83 (by kernel_rfl) (by kernel_rfl) (by kernel_rfl) (by decide) (fun vs w => Try.call83 vs w)
theorem c83 : C_impl_areWorkers Try.prog 83 := k_impl_areWorkers fn83 c82
theorem fn78 : Is_impl_isPeriodOf Try.prog 78 71 82 := FnIs.of Try.func78 (by kernel_rfl) (by kernel_rfl) (by kernel_rfl) (by decide) (fun vs w => Try.call78 vs w)
theorem c78 : C_impl_isPeriodOf Try.prog 78 := k_impl_isPeriodOf fn78 c71 c82
theorem fn60 : Is_impl_addUp Try.prog 60 := FnIs.of Try.func60 (by kernel_rfl) (by kernel_rfl) (by kernel_rfl) (by decide) (fun vs w => Try.call60 vs w)
theorem c60 : C_impl_addUp Try.prog 60 := k_impl_addUp fn60
theorem fn74 : Is_impl_mean Try.prog 74 60 := FnIs.of Try.func74 (by kernel_rfl) (by kernel_rfl) (by kernel_rfl) (by decide) (fun vs w => Try.call74 vs w)
theorem c74 : C_impl_mean Try.prog 74 := k_impl_mean fn74 c60
theorem fn117 : Is_impl_folded Try.prog 117 74 := FnIs.of Try.func117 (by kernel_rfl) (by kernel_rfl) (by kernel_rfl) (by decide) (fun vs w => Try.call117 vs w)
theorem c117 : C_impl_folded Try.prog 117 := k_impl_folded fn117 c74
theorem fn119 : Is_impl_restOfFold Try.prog 119 := FnIs.of Try.func119 (by kernel_rfl) (by kernel_rfl) (by kernel_rfl) (by decide) (fun vs w => Try.call119 vs w)
theorem c119 : C_impl_restOfFold Try.prog 119 := k_impl_restOfFold fn119
theorem fn84 : Is_impl_FoldedBy Try.prog 84 78 117 119 99 73 := FnIs.of Try.func84 (by kernel_rfl) (by kernel_rfl) (by kernel_rfl) (by decide) (fun vs w => Try.call84 vs w)
theorem c84 : C_impl_FoldedBy Try.prog 84 := k_impl_FoldedBy fn84 c78 c117 c119 c99 c73
theorem fn27 : Is_impl_BestPeriod Try.prog 27 71 82 83 84 := FnIs.of Try.func27 (by kernel_rfl) (by kernel_rfl) (by kernel_rfl) (by decide) (fun vs w => Try.call27 vs w)
theorem c27 : C_impl_BestPeriod Try.prog 27 := k_impl_BestPeriod fn27 c71 c82 c83 c84
theorem fn18 : Is_laws_sameFloat Try.prog 18 := FnIs.of Try.func18 (by kernel_rfl) (by kernel_rfl) (by kernel_rfl) (by decide) (fun vs w => Try.call18 vs w)
theorem c18 : C_laws_sameFloat Try.prog 18 := k_laws_sameFloat fn18
theorem fn19 : Is_laws_eqFloat32S Try.prog 19 18 := FnIs.of Try.func19 (by kernel_rfl) (by kernel_rfl) (by kernel_rfl) (by decide) (fun vs w => Try.call19 vs w)
theorem c19 : C_laws_eqFloat32S Try.prog 19 := k_laws_eqFloat32S fn19 c18
theorem fn6 : Is_laws_FnExactBestPeriod Try.prog 6 16 26 27 18 19 := FnIs.of Try.func6 (by kernel_rfl) (by kernel_rfl) (by kernel_rfl) (by decide) (fun vs w => Try.call6 vs w)
theorem c6 : C_laws_FnExactBestPeriod Try.prog 6 := k_laws_FnExactBestPeriod fn6 c16 c26 c27 c18 c19
theorem law (xs : List AV) (h : ShapesT [.one (.sf .f32), .one (.i .i64), .one (.i .i64), .one (.i .i64)] xs) : VCall Try.prog 6 (AV.viewL [] 0 xs) (.b true) := by
  obtain ⟨_, _, rfl, ⟨_, rfl, _, _⟩, _, _, rfl, ⟨_, rfl, _⟩, _, _, rfl, ⟨_, rfl, _⟩, _, _, rfl, ⟨_, rfl, _⟩, rfl⟩ := h
  exact c6 _ _ _ _ (by assumption)
set_option maxRecDepth 100000 in
theorem lifted (os : Os) (started : os.Started) (H : Type) (enc : TypeId × Value → H) :
    ReturnsInHanded {} Try.checked os 6 .any (Rows.fnExactBestPeriodSpec.pre6 enc Try.prog Try.f6 Rows.fnExactBestPeriodRow.domain false) (Rows.fnExactBestPeriodSpec.post enc Try.prog Try.f6 false true false false) := by
  refine returnsInHanded_of_change (C := Try.checked) own started (by kernel_rfl) Try.func6
    (ChangeSpec.witness6 (enc := enc) (C := Try.checked) false ⟨#[], #[.slice none 0 0, .int .i64 0, .int .i64 0, .int .i64 0], []⟩ 8 (by kernel_rfl) (by kernel_rfl) (by kernel_rfl) (by kernel_rfl)) ?_
  intro W base args ds gs before hval hW _ _
  exact law_post (P := Try.prog) (fn := Try.f6) (tys := [.one (.sf .f32), .one (.i .i64), .one (.i .i64), .one (.i .i64)]) (by kernel_rfl) (by kernel_rfl) (by kernel_rfl) rfl
    (fun H ds hds => by
      match ds, hds with
      | [d0, d1, d2, d3], _ => rfl) (rt := 4) (by kernel_rfl) (by kernel_rfl) (fun vs w => Try.call6 vs w) law enc W base args ds gs before hval hW

theorem proved : Rows.FnExactBestPeriodSaid :=
  OpenClaim.holds_of_wide 6 Try.f6 rfl rfl rfl rfl rfl rfl rfl ⟨rfl, rfl, rfl, rfl, rfl⟩ rfl rfl rfl rfl rfl (by kernel_rfl) Try.func6 (by kernel_rfl)
    (of_decide_eq_true (by kernel_rfl)) (by unfold Func.isWrapper; first | (rw [if_pos (by decide +kernel)]; kernel_rfl) | (rw [if_neg (by decide +kernel)]; exact ⟨rfl, rfl⟩))
    (fun os started H enc _ => lifted os started H enc)
end Go.Proofs.Ytjpihhdjmoldjaa.FnExactBestPeriod
