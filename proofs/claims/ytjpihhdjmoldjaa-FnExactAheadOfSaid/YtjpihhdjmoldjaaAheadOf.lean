/- The statement FnExactAheadOf, proved: whatever the input, the law returns true, and the input reads as it did. -/
import Derived.Test.YtjpihhdjmoldjaaRows
import Derived.Test.YtjpihhdjmoldjaaLvFnA
import Derived.Test.YtjpihhdjmoldjaaLvFnB
import Derived.Test.YtjpihhdjmoldjaaLvFnD
import Derived.Test.YtjpihhdjmoldjaaLvFnE
import Derived.Test.YtjpihhdjmoldjaaLvFnJ
import Derived.Test.YtjpihhdjmoldjaaLvLawF
import Derived.JoinedOf
namespace Go.Proofs.Ytjpihhdjmoldjaa.FnExactAheadOf
open Go.Proofs.LV Go.ChangeShapes Go.WideShapes Go.ChangeAt Go.RowKit
set_option linter.unusedVariables false
set_option linter.unusedSimpArgs false
theorem own : ownKnob Try.prog.godebug = none := by kernel_rfl
theorem fn90 : Is_laws_szFloat32S Try.prog 90 := FnIs.of Try.func90 (by kernel_rfl) (by kernel_rfl) (by kernel_rfl) (by decide) (fun vs w => Try.call90 vs w)
theorem c90 : C_laws_szFloat32S Try.prog 90 := k_laws_szFloat32S fn90
theorem fn30 : Is_laws_szState Try.prog 30 90 := FnIs.of Try.func30 (by kernel_rfl) (by kernel_rfl) (by kernel_rfl) (by decide) (fun vs w => Try.call30 vs w)
theorem c30 : C_laws_szState Try.prog 30 := k_laws_szState fn30 c90
theorem fn16 : Is_laws_toFloat32S Try.prog 16 := FnIs.of Try.func16 (by kernel_rfl) (by kernel_rfl) (by kernel_rfl) (by decide) (fun vs w => Try.call16 vs w)
theorem c16 : C_laws_toFloat32S Try.prog 16 := k_laws_toFloat32S fn16
theorem fn32 : Is_laws_toState Try.prog 32 16 := FnIs.of Try.func32 (by kernel_rfl) (by kernel_rfl) (by kernel_rfl) (by decide) (fun vs w => Try.call32 vs w)
theorem c32 : C_laws_toState Try.prog 32 := k_laws_toState fn32 c16
theorem fn33 : Is_laws_toShares Try.prog 33 := FnIs.of Try.func33 (by kernel_rfl) (by kernel_rfl) (by kernel_rfl) (by decide) (fun vs w => Try.call33 vs w)
theorem c33 : C_laws_toShares Try.prog 33 := k_laws_toShares fn33
theorem fn68 : Is_spec_l01Finite Try.prog 68 := FnIs.of Try.func68 (by kernel_rfl) (by kernel_rfl) (by kernel_rfl) (by decide) (fun vs w => Try.call68 vs w)
theorem c68 : C_spec_l01Finite Try.prog 68 := k_spec_l01Finite fn68
theorem fn75 : Is_spec_l00In Try.prog 75 := FnIs.of Try.func75 (by kernel_rfl) (by kernel_rfl) (by kernel_rfl) (by decide) (fun vs w => Try.call75 vs w)
theorem c75 : C_spec_l00In Try.prog 75 := k_spec_l00In fn75
theorem fn96 : Is_spec_l02Finite Try.prog 96 68 := FnIs.of Try.func96 (by kernel_rfl) (by kernel_rfl) (by kernel_rfl) (by decide) (fun vs w => Try.call96 vs w)
theorem c96 : C_spec_l02Finite Try.prog 96 := k_spec_l02Finite fn96 c68
theorem fn121 : Is_spec_l04Is Try.prog 121 68 75 96 := FnIs.of Try.func121 (by kernel_rfl) (by kernel_rfl) (by kernel_rfl) (by decide) (fun vs w => Try.call121 vs w)
theorem c121 : C_spec_l04Is Try.prog 121 := k_spec_l04Is fn121 c68 c75 c96
theorem fn131 : Is_spec_l02Share Try.prog 131 := FnIs.of Try.func131 (by kernel_rfl) (by kernel_rfl) (by kernel_rfl) (by decide) (fun vs w => Try.call131 vs w)
theorem c131 : C_spec_l02Share Try.prog 131 := k_spec_l02Share fn131
theorem fn122 : Is_spec_l04Shares Try.prog 122 131 := FnIs.of Try.func122 (by kernel_rfl) (by kernel_rfl) (by kernel_rfl) (by decide) (fun vs w => Try.call122 vs w)
theorem c122 : C_spec_l04Shares Try.prog 122 := k_spec_l04Shares fn122 c131
theorem fn91 : Is_spec_l04Can Try.prog 91 121 122 := FnIs.of Try.func91 (by kernel_rfl) (by kernel_rfl) (by kernel_rfl) (by decide) (fun vs w => Try.call91 vs w)
theorem c91 : C_spec_l04Can Try.prog 91 := k_spec_l04Can fn91 c121 c122
theorem fn76 : Is_spec_l02List Try.prog 76 96 := FnIs.of Try.func76 (by kernel_rfl) (by kernel_rfl) (by kernel_rfl) (by decide) (fun vs w => Try.call76 vs w)
theorem c76 : C_spec_l02List Try.prog 76 := k_spec_l02List fn76 c96
theorem fn31 : Is_spec_AheadOf Try.prog 31 91 75 76 := FnIs.of Try.func31 (by kernel_rfl) (by kernel_rfl) (by kernel_rfl) (by decide) (fun vs w => Try.call31 vs w)
theorem c31 : C_spec_AheadOf Try.prog 31 := k_spec_AheadOf fn31 c91 c75 c76
theorem fn130 : Is_slices_IndexFunc___float32_float32_ Try.prog 130 := FnIs.of Try.func130 (by kernel_rfl) (by kernel_rfl) (by kernel_rfl) (by decide) (fun vs w => Try.call130 vs w)
theorem c130 : C_slices_IndexFunc___float32_float32_ Try.prog 130 := k_slices_IndexFunc___float32_float32_ fn130
theorem fn113 : Is_slices_ContainsFunc___float32_float32_ Try.prog 113 130 := FnIs.of Try.func113 (by kernel_rfl) (by kernel_rfl) (by kernel_rfl) (by decide) (fun vs w => Try.call113 vs w)
theorem c113 : C_slices_ContainsFunc___float32_float32_ Try.prog 113 := k_slices_ContainsFunc___float32_float32_ fn113 c130
theorem fn73 : Is_impl_IsFinite Try.prog 73 := FnIs.of Try.func73 (by kernel_rfl) (by kernel_rfl) (by kernel_rfl) (by decide) (fun vs w => Try.call73 vs w)
theorem c73 : C_impl_IsFinite Try.prog 73 := k_impl_IsFinite fn73
theorem fn126 : Is_impl_areFinite_1 Try.prog 126 73 := FnIs.of Try.func126 (by kernel_rfl) (by kernel_rfl) (by kernel_rfl) (by decide) (fun vs w => Try.call126 vs w)
theorem c126 : C_impl_areFinite_1 Try.prog 126 := k_impl_areFinite_1 fn126 c73
theorem fn99 : Is_impl_areFinite Try.prog 99 113 126 := FnIs.of Try.func99 (by kernel_rfl) (by kernel_rfl) (by kernel_rfl) (by decide) (fun vs w => Try.call99 vs w)
theorem c99 : C_impl_areFinite Try.prog 99 := k_impl_areFinite fn99 c113 c126
theorem fn82 : Is_impl_within Try.prog 82 := FnIs.of Try.func82 (by kernel_rfl) (by kernel_rfl) (by kernel_rfl) (by decide) (fun vs w => Try.call82 vs w)
theorem c82 : C_impl_within Try.prog 82 := k_impl_within fn82
theorem fn92 : Is_impl_ValidState Try.prog 92 99 82 := FnIs.of Try.func92 (by kernel_rfl) (by kernel_rfl) (by kernel_rfl) (by decide) (fun vs w => Try.call92 vs w)
theorem c92 : C_impl_ValidState Try.prog 92 := k_impl_ValidState fn92 c99 c82
theorem fn123 : Is_impl_isShare Try.prog 123 := FnIs.of Try.func123 (by kernel_rfl) (by kernel_rfl) (by kernel_rfl) (by decide) (fun vs w => Try.call123 vs w)
theorem c123 : C_impl_isShare Try.prog 123 := k_impl_isShare fn123
theorem fn93 : Is_impl_ValidShares Try.prog 93 123 := FnIs.of Try.func93 (by kernel_rfl) (by kernel_rfl) (by kernel_rfl) (by decide) (fun vs w => Try.call93 vs w)
theorem c93 : C_impl_ValidShares Try.prog 93 := k_impl_ValidShares fn93 c123
theorem fn94 : Is_impl_isAhead Try.prog 94 82 := FnIs.of Try.func94 (by kernel_rfl) (by kernel_rfl) (by kernel_rfl) (by decide) (fun vs w => Try.call94 vs w)
theorem c94 : C_impl_isAhead Try.prog 94 := k_impl_isAhead fn94 c82
theorem fn79 : Is_impl_ifAll Try.prog 79 99 := FnIs.of Try.func79 (by kernel_rfl) (by kernel_rfl) (by kernel_rfl) (by decide) (fun vs w => Try.call79 vs w)
theorem c79 : C_impl_ifAll Try.prog 79 := k_impl_ifAll fn79 c99
theorem fn34 : Is_impl_AheadOf Try.prog 34 92 93 94 79 := FnIs.of Try.func34 (by kernel_rfl) (by kernel_rfl) (by kernel_rfl) (by decide) (fun vs w => Try.call34 vs w)
theorem c34 : C_impl_AheadOf Try.prog 34 := k_impl_AheadOf fn34 c92 c93 c94 c79
theorem fn18 : Is_laws_sameFloat Try.prog 18 := FnIs.of Try.func18 (by kernel_rfl) (by kernel_rfl) (by kernel_rfl) (by decide) (fun vs w => Try.call18 vs w)
theorem c18 : C_laws_sameFloat Try.prog 18 := k_laws_sameFloat fn18
theorem fn19 : Is_laws_eqFloat32S Try.prog 19 18 := FnIs.of Try.func19 (by kernel_rfl) (by kernel_rfl) (by kernel_rfl) (by decide) (fun vs w => Try.call19 vs w)
theorem c19 : C_laws_eqFloat32S Try.prog 19 := k_laws_eqFloat32S fn19 c18
theorem fn35 : Is_laws_eqState Try.prog 35 18 19 := FnIs.of Try.func35 (by kernel_rfl) (by kernel_rfl) (by kernel_rfl) (by decide) (fun vs w => Try.call35 vs w)
theorem c35 : C_laws_eqState Try.prog 35 := k_laws_eqState fn35 c18 c19
theorem fn24 : Is_laws_markFloat32S Try.prog 24 := FnIs.of Try.func24 (by kernel_rfl) (by kernel_rfl) (by kernel_rfl) (by decide) (fun vs w => Try.call24 vs w)
theorem c24 : C_laws_markFloat32S Try.prog 24 := k_laws_markFloat32S fn24
theorem fn36 : Is_laws_markState Try.prog 36 24 := FnIs.of Try.func36 (by kernel_rfl) (by kernel_rfl) (by kernel_rfl) (by decide) (fun vs w => Try.call36 vs w)
theorem c36 : C_laws_markState Try.prog 36 := k_laws_markState fn36 c24
theorem fn25 : Is_laws_heldFloat32S Try.prog 25 := FnIs.of Try.func25 (by kernel_rfl) (by kernel_rfl) (by kernel_rfl) (by decide) (fun vs w => Try.call25 vs w)
theorem c25 : C_laws_heldFloat32S Try.prog 25 := k_laws_heldFloat32S fn25
theorem fn8 : Is_laws_FnExactAheadOf Try.prog 8 30 32 33 31 34 19 35 36 24 25 := FnIs.of Try.func8 (by kernel_rfl) (by kernel_rfl) (by kernel_rfl) (by decide) (fun vs w => Try.call8 vs w)
theorem c8 : C_laws_FnExactAheadOf Try.prog 8 := k_laws_FnExactAheadOf fn8 c30 c32 c33 c31 c34 c19 c35 c36 c24 c25
theorem law (xs : List AV) (h : ShapesT [.st [.f .f32, .f .f32, .sf .f32, .i .i64], .st [.f .f32, .f .f32, .f .f32, .f .f32], .one (.i .i64)] xs) : VCall Try.prog 8 (AV.viewL [] 0 xs) (.b true) := by
  obtain ⟨_, _, rfl, ⟨_, rfl, _, _, rfl, ⟨_, rfl, _⟩, _, _, rfl, ⟨_, rfl, _⟩, _, _, rfl, ⟨_, rfl, _, _⟩, _, _, rfl, ⟨_, rfl, _⟩, rfl⟩, _, _, rfl, ⟨_, rfl, _, _, rfl, ⟨_, rfl, _⟩, _, _, rfl, ⟨_, rfl, _⟩, _, _, rfl, ⟨_, rfl, _⟩, _, _, rfl, ⟨_, rfl, _⟩, rfl⟩, _, _, rfl, ⟨_, rfl, _⟩, rfl⟩ := h
  exact c8 _ _ _ _ _ _ _ _ _ (by assumption)
set_option maxRecDepth 100000 in
theorem lifted (os : Os) (started : os.Started) (H : Type) (enc : TypeId × Value → H) :
    ReturnsInHanded {} Try.checked os 8 .any (Rows.fnExactAheadOfSpec.pre6 enc Try.prog Try.f8 Rows.fnExactAheadOfRow.domain false) (Rows.fnExactAheadOfSpec.post enc Try.prog Try.f8 false true false false) := by
  refine returnsInHanded_of_change (C := Try.checked) own started (by kernel_rfl) Try.func8
    (ChangeSpec.witness6 (enc := enc) (C := Try.checked) false ⟨#[], #[.agg #[.float .f32 0, .float .f32 0, .slice none 0 0, .int .i64 0], .agg #[.float .f32 0, .float .f32 0, .float .f32 0, .float .f32 0], .int .i64 0], []⟩ 8 (by kernel_rfl) (by kernel_rfl) (by kernel_rfl) (by kernel_rfl)) ?_
  intro W base args ds gs before hval hW _ _
  exact law_post (P := Try.prog) (fn := Try.f8) (tys := [.st [.f .f32, .f .f32, .sf .f32, .i .i64], .st [.f .f32, .f .f32, .f .f32, .f .f32], .one (.i .i64)]) (by kernel_rfl) (by kernel_rfl) (by kernel_rfl) rfl
    (fun H ds hds => by
      match ds, hds with
      | [d0, d1, d2], _ => rfl) (rt := 4) (by kernel_rfl) (by kernel_rfl) (fun vs w => Try.call8 vs w) law enc W base args ds gs before hval hW

theorem proved : Rows.FnExactAheadOfSaid :=
  OpenClaim.holds_of_wide 8 Try.f8 rfl rfl rfl rfl rfl rfl rfl ⟨rfl, rfl, rfl, rfl, rfl⟩ rfl rfl rfl rfl rfl (by kernel_rfl) Try.func8 (by kernel_rfl)
    (of_decide_eq_true (by kernel_rfl)) (by unfold Func.isWrapper; first | (rw [if_pos (by decide +kernel)]; kernel_rfl) | (rw [if_neg (by decide +kernel)]; exact ⟨rfl, rfl⟩))
    (fun os started H enc _ => lifted os started H enc)
end Go.Proofs.Ytjpihhdjmoldjaa.FnExactAheadOf
