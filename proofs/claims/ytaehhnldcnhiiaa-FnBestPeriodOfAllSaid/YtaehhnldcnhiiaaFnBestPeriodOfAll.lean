/- The statement FnBestPeriodOfAll, proved: whatever the input, the law returns true, and the input reads as it did. -/
import Derived.Test.YtaehhnldcnhiiaaRows
import Derived.Test.YtaehhnldcnhiiaaLvFnA
import Derived.Test.YtaehhnldcnhiiaaLvFnB
import Derived.Test.YtaehhnldcnhiiaaLvFnF
import Derived.Test.YtaehhnldcnhiiaaLvFnG
import Derived.Test.YtaehhnldcnhiiaaLvFnI
import Derived.Test.YtaehhnldcnhiiaaLvLawK
import Derived.JoinedOf
namespace Go.Proofs.Ytaehhnldcnhiiaa.FnBestPeriodOfAll
open Go.Proofs.LV Go.ChangeShapes Go.WideShapes Go.ChangeAt Go.RowKit
set_option linter.unusedVariables false
set_option linter.unusedSimpArgs false
theorem own : ownKnob Try.prog.godebug = none := by kernel_rfl
theorem fn124 : Is_slices_IndexFunc___float32_float32_ Try.prog 124 := FnIs.of Try.func124 (by kernel_rfl) (by kernel_rfl) (by kernel_rfl) (by decide) (fun vs w => Try.call124 vs w)
theorem c124 : C_slices_IndexFunc___float32_float32_ Try.prog 124 := k_slices_IndexFunc___float32_float32_ fn124
theorem fn102 : Is_slices_ContainsFunc___float32_float32_ Try.prog 102 124 := FnIs.of Try.func102 (by kernel_rfl) (by kernel_rfl) (by kernel_rfl) (by decide) (fun vs w => Try.call102 vs w)
theorem c102 : C_slices_ContainsFunc___float32_float32_ Try.prog 102 := k_slices_ContainsFunc___float32_float32_ fn102 c124
theorem fn104 : Is_impl_IsFinite Try.prog 104 := FnIs.of Try.func104 (by kernel_rfl) (by kernel_rfl) (by kernel_rfl) (by decide) (fun vs w => Try.call104 vs w)
theorem c104 : C_impl_IsFinite Try.prog 104 := k_impl_IsFinite fn104
theorem fn105 : Is_impl_areFinite_1 Try.prog 105 104 := FnIs.of Try.func105 (by kernel_rfl) (by kernel_rfl) (by kernel_rfl) (by decide) (fun vs w => Try.call105 vs w)
theorem c105 : C_impl_areFinite_1 Try.prog 105 := k_impl_areFinite_1 fn105 c104
theorem fn65 : Is_impl_areFinite Try.prog 65 102 105 := FnIs.of Try.func65 (by kernel_rfl) (by kernel_rfl) (by kernel_rfl) (by decide) (fun vs w => Try.call65 vs w)
theorem c65 : C_impl_areFinite Try.prog 65 := k_impl_areFinite fn65 c102 c105
theorem fn49 : Is_impl_IsSeries Try.prog 49 65 := FnIs.of Try.func49 (by kernel_rfl) (by kernel_rfl) (by kernel_rfl) (by decide) (fun vs w => Try.call49 vs w)
theorem c49 : C_impl_IsSeries Try.prog 49 := k_impl_IsSeries fn49 c65
theorem fn75 : Is_impl_within Try.prog 75 := FnIs.of Try.func75 (by kernel_rfl) (by kernel_rfl) (by kernel_rfl) (by decide) (fun vs w => Try.call75 vs w)
theorem c75 : C_impl_within Try.prog 75 := k_impl_within fn75
theorem fn76 : Is_impl_areWorkers Try.prog 76 75 := FnIs.of Try.func76 (by kernel_rfl) (by kernel_rfl) (by kernel_rfl) (by decide) (fun vs w => Try.call76 vs w)
theorem c76 : C_impl_areWorkers Try.prog 76 := k_impl_areWorkers fn76 c75
theorem fn109 : Is_impl_isPeriodOf Try.prog 109 49 75 := FnIs.of Try.func109 (by kernel_rfl) (by kernel_rfl) (by kernel_rfl) (by decide) (fun vs w => Try.call109 vs w)
theorem c109 : C_impl_isPeriodOf Try.prog 109 := k_impl_isPeriodOf fn109 c49 c75
theorem fn141 : Is_impl_addUp Try.prog 141 := FnIs.of Try.func141 (by kernel_rfl) (by kernel_rfl) (by kernel_rfl) (by decide) (fun vs w => Try.call141 vs w)
theorem c141 : C_impl_addUp Try.prog 141 := k_impl_addUp fn141
theorem fn128 : Is_impl_mean Try.prog 128 141 := FnIs.of Try.func128 (by kernel_rfl) (by kernel_rfl) (by kernel_rfl) (by decide) (fun vs w => Try.call128 vs w)
theorem c128 : C_impl_mean Try.prog 128 := k_impl_mean fn128 c141
theorem fn110 : Is_impl_folded Try.prog 110 128 := FnIs.of Try.func110 (by kernel_rfl) (by kernel_rfl) (by kernel_rfl) (by decide) (fun vs w => Try.call110 vs w)
theorem c110 : C_impl_folded Try.prog 110 := k_impl_folded fn110 c128
theorem fn111 : Is_impl_restOfFold Try.prog 111 := FnIs.of Try.func111 (by kernel_rfl) (by kernel_rfl) (by kernel_rfl) (by decide) (fun vs w => Try.call111 vs w)
theorem c111 : C_impl_restOfFold Try.prog 111 := k_impl_restOfFold fn111
theorem fn77 : Is_impl_FoldedBy Try.prog 77 109 110 111 65 104 := FnIs.of Try.func77 (by kernel_rfl) (by kernel_rfl) (by kernel_rfl) (by decide) (fun vs w => Try.call77 vs w)
theorem c77 : C_impl_FoldedBy Try.prog 77 := k_impl_FoldedBy fn77 c109 c110 c111 c65 c104
theorem fn31 : Is_impl_BestPeriod Try.prog 31 49 75 76 77 := FnIs.of Try.func31 (by kernel_rfl) (by kernel_rfl) (by kernel_rfl) (by decide) (fun vs w => Try.call31 vs w)
theorem c31 : C_impl_BestPeriod Try.prog 31 := k_impl_BestPeriod fn31 c49 c75 c76 c77
theorem fn101 : Is_spec_l01Finite Try.prog 101 := FnIs.of Try.func101 (by kernel_rfl) (by kernel_rfl) (by kernel_rfl) (by decide) (fun vs w => Try.call101 vs w)
theorem c101 : C_spec_l01Finite Try.prog 101 := k_spec_l01Finite fn101
theorem fn90 : Is_spec_l02Finite Try.prog 90 101 := FnIs.of Try.func90 (by kernel_rfl) (by kernel_rfl) (by kernel_rfl) (by decide) (fun vs w => Try.call90 vs w)
theorem c90 : C_spec_l02Finite Try.prog 90 := k_spec_l02Finite fn90 c101
theorem fn46 : Is_spec_l02Series Try.prog 46 90 := FnIs.of Try.func46 (by kernel_rfl) (by kernel_rfl) (by kernel_rfl) (by decide) (fun vs w => Try.call46 vs w)
theorem c46 : C_spec_l02Series Try.prog 46 := k_spec_l02Series fn46 c90
theorem fn53 : Is_spec_l00In Try.prog 53 := FnIs.of Try.func53 (by kernel_rfl) (by kernel_rfl) (by kernel_rfl) (by decide) (fun vs w => Try.call53 vs w)
theorem c53 : C_spec_l00In Try.prog 53 := k_spec_l00In fn53
theorem fn112 : Is_spec_l03Fold Try.prog 112 := FnIs.of Try.func112 (by kernel_rfl) (by kernel_rfl) (by kernel_rfl) (by decide) (fun vs w => Try.call112 vs w)
theorem c112 : C_spec_l03Fold Try.prog 112 := k_spec_l03Fold fn112
theorem fn78 : Is_spec_FoldedBy Try.prog 78 46 53 112 90 101 := FnIs.of Try.func78 (by kernel_rfl) (by kernel_rfl) (by kernel_rfl) (by decide) (fun vs w => Try.call78 vs w)
theorem c78 : C_spec_FoldedBy Try.prog 78 := k_spec_FoldedBy fn78 c46 c53 c112 c90 c101
theorem fn32 : Is_spec_BestPeriod Try.prog 32 46 53 78 := FnIs.of Try.func32 (by kernel_rfl) (by kernel_rfl) (by kernel_rfl) (by decide) (fun vs w => Try.call32 vs w)
theorem c32 : C_spec_BestPeriod Try.prog 32 := k_spec_BestPeriod fn32 c46 c53 c78
theorem fn33 : Is_laws_same32 Try.prog 33 := FnIs.of Try.func33 (by kernel_rfl) (by kernel_rfl) (by kernel_rfl) (by decide) (fun vs w => Try.call33 vs w)
theorem c33 : C_laws_same32 Try.prog 33 := k_laws_same32 fn33
theorem fn8 : Is_laws_FnBestPeriodOfAll Try.prog 8 31 32 33 := FnIs.of Try.func8 (by kernel_rfl) (by kernel_rfl) (by kernel_rfl) (by decide) (fun vs w => Try.call8 vs w)
theorem c8 : C_laws_FnBestPeriodOfAll Try.prog 8 := k_laws_FnBestPeriodOfAll fn8 c31 c32 c33
theorem law (xs : List AV) (h : ShapesT [.one (.sf .f32), .one (.i .i64), .one (.i .i64), .one (.i .i64), .one (.i .i64)] xs) : VCall Try.prog 8 (AV.viewL [] 0 xs) (.b true) := by
  obtain ⟨_, _, rfl, ⟨_, rfl, _, _⟩, _, _, rfl, ⟨_, rfl, _⟩, _, _, rfl, ⟨_, rfl, _⟩, _, _, rfl, ⟨_, rfl, _⟩, _, _, rfl, ⟨_, rfl, _⟩, rfl⟩ := h
  exact c8 _ _ _ _ _ (by assumption)
set_option maxRecDepth 100000 in
theorem lifted (os : Os) (started : os.Started) (H : Type) (enc : TypeId × Value → H) :
    ReturnsInHanded {} Try.checked os 8 .any (Rows.fnBestPeriodOfAllSpec.pre6 enc Try.prog Try.f8 Rows.fnBestPeriodOfAllRow.domain false) (Rows.fnBestPeriodOfAllSpec.post enc Try.prog Try.f8 false true false false) := by
  refine returnsInHanded_of_change (C := Try.checked) own started (by kernel_rfl) Try.func8
    (ChangeSpec.witness6 (enc := enc) (C := Try.checked) false ⟨#[], #[.slice none 0 0, .int .i64 0, .int .i64 0, .int .i64 0, .int .i64 0], []⟩ 8 (by kernel_rfl) (by kernel_rfl) (by kernel_rfl) (by kernel_rfl)) ?_
  intro W base args ds gs before hval hW _ _
  exact law_post (P := Try.prog) (fn := Try.f8) (tys := [.one (.sf .f32), .one (.i .i64), .one (.i .i64), .one (.i .i64), .one (.i .i64)]) (by kernel_rfl) (by kernel_rfl) (by kernel_rfl) rfl
    (fun H ds hds => by
      match ds, hds with
      | [d0, d1, d2, d3, d4], _ => rfl) (rt := 4) (by kernel_rfl) (by kernel_rfl) (fun vs w => Try.call8 vs w) law enc W base args ds gs before hval hW

theorem proved : Rows.FnBestPeriodOfAllSaid :=
  OpenClaim.holds_of_wide 8 Try.f8 rfl rfl rfl rfl rfl rfl rfl ⟨rfl, rfl, rfl, rfl, rfl⟩ rfl rfl rfl rfl rfl (by kernel_rfl) Try.func8 (by kernel_rfl)
    (of_decide_eq_true (by kernel_rfl)) (by unfold Func.isWrapper; first | (rw [if_pos (by decide +kernel)]; kernel_rfl) | (rw [if_neg (by decide +kernel)]; exact ⟨rfl, rfl⟩))
    (fun os started H enc _ => lifted os started H enc)
end Go.Proofs.Ytaehhnldcnhiiaa.FnBestPeriodOfAll
