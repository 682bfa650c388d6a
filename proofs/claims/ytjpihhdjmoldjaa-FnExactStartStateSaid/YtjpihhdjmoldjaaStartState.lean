/- The statement FnExactStartState, proved: whatever the input, the law returns true, and the input reads as it did. -/
import Derived.Test.YtjpihhdjmoldjaaRows
import Derived.Test.YtjpihhdjmoldjaaLvFnA
import Derived.Test.YtjpihhdjmoldjaaLvFnB
import Derived.Test.YtjpihhdjmoldjaaLvFnF
import Derived.Test.YtjpihhdjmoldjaaLvFnG
import Derived.Test.YtjpihhdjmoldjaaLvFnI
import Derived.Test.YtjpihhdjmoldjaaLvFnL
import Derived.Test.YtjpihhdjmoldjaaLvLawF
import Derived.Test.YtjpihhdjmoldjaaLvLawG
import Derived.JoinedOf
namespace Go.Proofs.Ytjpihhdjmoldjaa.FnExactStartState
open Go.Proofs.LV Go.ChangeShapes Go.WideShapes Go.ChangeAt Go.RowKit
set_option linter.unusedVariables false
set_option linter.unusedSimpArgs false
theorem own : ownKnob Try.prog.godebug = none := by kernel_rfl
theorem fn16 : Is_laws_toFloat32S Try.prog 16 := FnIs.of Try.func16 (by kernel_rfl) (by kernel_rfl) (by kernel_rfl) (by decide) (fun vs w => Try.call16 vs w)
theorem c16 : C_laws_toFloat32S Try.prog 16 := k_laws_toFloat32S fn16
theorem fn68 : Is_spec_l01Finite Try.prog 68 := FnIs.of Try.func68 (by kernel_rfl) (by kernel_rfl) (by kernel_rfl) (by decide) (fun vs w => Try.call68 vs w)
theorem c68 : C_spec_l01Finite Try.prog 68 := k_spec_l01Finite fn68
theorem fn96 : Is_spec_l02Finite Try.prog 96 68 := FnIs.of Try.func96 (by kernel_rfl) (by kernel_rfl) (by kernel_rfl) (by decide) (fun vs w => Try.call96 vs w)
theorem c96 : C_spec_l02Finite Try.prog 96 := k_spec_l02Finite fn96 c68
theorem fn58 : Is_spec_l02Series Try.prog 58 96 := FnIs.of Try.func58 (by kernel_rfl) (by kernel_rfl) (by kernel_rfl) (by decide) (fun vs w => Try.call58 vs w)
theorem c58 : C_spec_l02Series Try.prog 58 := k_spec_l02Series fn58 c96
theorem fn75 : Is_spec_l00In Try.prog 75 := FnIs.of Try.func75 (by kernel_rfl) (by kernel_rfl) (by kernel_rfl) (by decide) (fun vs w => Try.call75 vs w)
theorem c75 : C_spec_l00In Try.prog 75 := k_spec_l00In fn75
theorem fn116 : Is_spec_l02Sum Try.prog 116 := FnIs.of Try.func116 (by kernel_rfl) (by kernel_rfl) (by kernel_rfl) (by decide) (fun vs w => Try.call116 vs w)
theorem c116 : C_spec_l02Sum Try.prog 116 := k_spec_l02Sum fn116
theorem fn70 : Is_spec_l02Mean Try.prog 70 116 := FnIs.of Try.func70 (by kernel_rfl) (by kernel_rfl) (by kernel_rfl) (by decide) (fun vs w => Try.call70 vs w)
theorem c70 : C_spec_l02Mean Try.prog 70 := k_spec_l02Mean fn70 c116
theorem fn103 : Is_spec_l02Less Try.prog 103 := FnIs.of Try.func103 (by kernel_rfl) (by kernel_rfl) (by kernel_rfl) (by decide) (fun vs w => Try.call103 vs w)
theorem c103 : C_spec_l02Less Try.prog 103 := k_spec_l02Less fn103
theorem fn121 : Is_spec_l04Is Try.prog 121 68 75 96 := FnIs.of Try.func121 (by kernel_rfl) (by kernel_rfl) (by kernel_rfl) (by decide) (fun vs w => Try.call121 vs w)
theorem c121 : C_spec_l04Is Try.prog 121 := k_spec_l04Is fn121 c68 c75 c96
theorem fn104 : Is_spec_l04Give Try.prog 104 121 := FnIs.of Try.func104 (by kernel_rfl) (by kernel_rfl) (by kernel_rfl) (by decide) (fun vs w => Try.call104 vs w)
theorem c104 : C_spec_l04Give Try.prog 104 := k_spec_l04Give fn104 c121
theorem fn48 : Is_spec_StartState Try.prog 48 58 75 70 103 104 := FnIs.of Try.func48 (by kernel_rfl) (by kernel_rfl) (by kernel_rfl) (by decide) (fun vs w => Try.call48 vs w)
theorem c48 : C_spec_StartState Try.prog 48 := k_spec_StartState fn48 c58 c75 c70 c103 c104
theorem fn130 : Is_slices_IndexFunc___float32_float32_ Try.prog 130 := FnIs.of Try.func130 (by kernel_rfl) (by kernel_rfl) (by kernel_rfl) (by decide) (fun vs w => Try.call130 vs w)
theorem c130 : C_slices_IndexFunc___float32_float32_ Try.prog 130 := k_slices_IndexFunc___float32_float32_ fn130
theorem fn113 : Is_slices_ContainsFunc___float32_float32_ Try.prog 113 130 := FnIs.of Try.func113 (by kernel_rfl) (by kernel_rfl) (by kernel_rfl) (by decide) (fun vs w => Try.call113 vs w)
theorem c113 : C_slices_ContainsFunc___float32_float32_ Try.prog 113 := k_slices_ContainsFunc___float32_float32_ fn113 c130
theorem fn73 : Is_impl_IsFinite Try.prog 73 := FnIs.of Try.func73 (by kernel_rfl) (by kernel_rfl) (by kernel_rfl) (by decide) (fun vs w => Try.call73 vs w)
theorem c73 : C_impl_IsFinite Try.prog 73 := k_impl_IsFinite fn73
theorem fn126 : Is_impl_areFinite_1 Try.prog 126 73 := FnIs.of Try.func126 (by kernel_rfl) (by kernel_rfl) (by kernel_rfl) (by decide) (fun vs w => Try.call126 vs w)
theorem c126 : C_impl_areFinite_1 Try.prog 126 := k_impl_areFinite_1 fn126 c73
theorem fn99 : Is_impl_areFinite Try.prog 99 113 126 := FnIs.of Try.func99 (by kernel_rfl) (by kernel_rfl) (by kernel_rfl) (by decide) (fun vs w => Try.call99 vs w)
theorem c99 : C_impl_areFinite Try.prog 99 := k_impl_areFinite fn99 c113 c126
theorem fn71 : Is_impl_IsSeries Try.prog 71 99 := FnIs.of Try.func71 (by kernel_rfl) (by kernel_rfl) (by kernel_rfl) (by decide) (fun vs w => Try.call71 vs w)
theorem c71 : C_impl_IsSeries Try.prog 71 := k_impl_IsSeries fn71 c99
theorem fn82 : Is_impl_within Try.prog 82 := FnIs.of Try.func82 (by kernel_rfl) (by kernel_rfl) (by kernel_rfl) (by decide) (fun vs w => Try.call82 vs w)
theorem c82 : C_impl_within Try.prog 82 := k_impl_within fn82
theorem fn78 : Is_impl_isPeriodOf Try.prog 78 71 82 := FnIs.of Try.func78 (by kernel_rfl) (by kernel_rfl) (by kernel_rfl) (by decide) (fun vs w => Try.call78 vs w)
theorem c78 : C_impl_isPeriodOf Try.prog 78 := k_impl_isPeriodOf fn78 c71 c82
theorem fn105 : Is_impl_isPeriod Try.prog 105 78 := FnIs.of Try.func105 (by kernel_rfl) (by kernel_rfl) (by kernel_rfl) (by decide) (fun vs w => Try.call105 vs w)
theorem c105 : C_impl_isPeriod Try.prog 105 := k_impl_isPeriod fn105 c78
theorem fn60 : Is_impl_addUp Try.prog 60 := FnIs.of Try.func60 (by kernel_rfl) (by kernel_rfl) (by kernel_rfl) (by decide) (fun vs w => Try.call60 vs w)
theorem c60 : C_impl_addUp Try.prog 60 := k_impl_addUp fn60
theorem fn74 : Is_impl_mean Try.prog 74 60 := FnIs.of Try.func74 (by kernel_rfl) (by kernel_rfl) (by kernel_rfl) (by decide) (fun vs w => Try.call74 vs w)
theorem c74 : C_impl_mean Try.prog 74 := k_impl_mean fn74 c60
theorem fn64 : Is_impl_lessOne Try.prog 64 := FnIs.of Try.func64 (by kernel_rfl) (by kernel_rfl) (by kernel_rfl) (by decide) (fun vs w => Try.call64 vs w)
theorem c64 : C_impl_lessOne Try.prog 64 := k_impl_lessOne fn64
theorem fn107 : Is_impl_startState Try.prog 107 74 64 := FnIs.of Try.func107 (by kernel_rfl) (by kernel_rfl) (by kernel_rfl) (by decide) (fun vs w => Try.call107 vs w)
theorem c107 : C_impl_startState Try.prog 107 := k_impl_startState fn107 c74 c64
theorem fn92 : Is_impl_ValidState Try.prog 92 99 82 := FnIs.of Try.func92 (by kernel_rfl) (by kernel_rfl) (by kernel_rfl) (by decide) (fun vs w => Try.call92 vs w)
theorem c92 : C_impl_ValidState Try.prog 92 := k_impl_ValidState fn92 c99 c82
theorem fn106 : Is_impl_ifState Try.prog 106 92 := FnIs.of Try.func106 (by kernel_rfl) (by kernel_rfl) (by kernel_rfl) (by decide) (fun vs w => Try.call106 vs w)
theorem c106 : C_impl_ifState Try.prog 106 := k_impl_ifState fn106 c92
theorem fn49 : Is_impl_StartState Try.prog 49 105 107 106 := FnIs.of Try.func49 (by kernel_rfl) (by kernel_rfl) (by kernel_rfl) (by decide) (fun vs w => Try.call49 vs w)
theorem c49 : C_impl_StartState Try.prog 49 := k_impl_StartState fn49 c105 c107 c106
theorem fn18 : Is_laws_sameFloat Try.prog 18 := FnIs.of Try.func18 (by kernel_rfl) (by kernel_rfl) (by kernel_rfl) (by decide) (fun vs w => Try.call18 vs w)
theorem c18 : C_laws_sameFloat Try.prog 18 := k_laws_sameFloat fn18
theorem fn19 : Is_laws_eqFloat32S Try.prog 19 18 := FnIs.of Try.func19 (by kernel_rfl) (by kernel_rfl) (by kernel_rfl) (by decide) (fun vs w => Try.call19 vs w)
theorem c19 : C_laws_eqFloat32S Try.prog 19 := k_laws_eqFloat32S fn19 c18
theorem fn35 : Is_laws_eqState Try.prog 35 18 19 := FnIs.of Try.func35 (by kernel_rfl) (by kernel_rfl) (by kernel_rfl) (by decide) (fun vs w => Try.call35 vs w)
theorem c35 : C_laws_eqState Try.prog 35 := k_laws_eqState fn35 c18 c19
theorem fn24 : Is_laws_markFloat32S Try.prog 24 := FnIs.of Try.func24 (by kernel_rfl) (by kernel_rfl) (by kernel_rfl) (by decide) (fun vs w => Try.call24 vs w)
theorem c24 : C_laws_markFloat32S Try.prog 24 := k_laws_markFloat32S fn24
theorem fn36 : Is_laws_markState Try.prog 36 24 := FnIs.of Try.func36 (by kernel_rfl) (by kernel_rfl) (by kernel_rfl) (by decide) (fun vs w => Try.call36 vs w)
theorem c36 : C_laws_markState Try.prog 36 := k_laws_markState fn36 c24
theorem fn25 : Is_laws_heldFloat32S Try.prog 25 := FnIs.of Try.func25 (by kernel_rfl) (by kernel_rfl) (by kernel_rfl) (by decide) (fun vs w => Try.call25 vs w)
theorem c25 : C_laws_heldFloat32S Try.prog 25 := k_laws_heldFloat32S fn25
theorem fn50 : Is_laws_heldState Try.prog 50 25 := FnIs.of Try.func50 (by kernel_rfl) (by kernel_rfl) (by kernel_rfl) (by decide) (fun vs w => Try.call50 vs w)
theorem c50 : C_laws_heldState Try.prog 50 := k_laws_heldState fn50 c25
theorem fn11 : Is_laws_FnExactStartState Try.prog 11 16 48 49 35 19 24 36 50 := FnIs.of Try.func11 (by kernel_rfl) (by kernel_rfl) (by kernel_rfl) (by decide) (fun vs w => Try.call11 vs w)
theorem c11 : C_laws_FnExactStartState Try.prog 11 := k_laws_FnExactStartState fn11 c16 c48 c49 c35 c19 c24 c36 c50
theorem law (xs : List AV) (h : ShapesT [.one (.sf .f32), .one (.i .i64)] xs) : VCall Try.prog 11 (AV.viewL [] 0 xs) (.b true) := by
  obtain ⟨_, _, rfl, ⟨_, rfl, _, _⟩, _, _, rfl, ⟨_, rfl, _⟩, rfl⟩ := h
  exact c11 _ _ (by assumption)
set_option maxRecDepth 100000 in
theorem lifted (os : Os) (started : os.Started) (H : Type) (enc : TypeId × Value → H) :
    ReturnsInHanded {} Try.checked os 11 .any (Rows.fnExactStartStateSpec.pre6 enc Try.prog Try.f11 Rows.fnExactStartStateRow.domain false) (Rows.fnExactStartStateSpec.post enc Try.prog Try.f11 false true false false) := by
  refine returnsInHanded_of_change (C := Try.checked) own started (by kernel_rfl) Try.func11
    (ChangeSpec.witness6 (enc := enc) (C := Try.checked) false ⟨#[], #[.slice none 0 0, .int .i64 0], []⟩ 8 (by kernel_rfl) (by kernel_rfl) (by kernel_rfl) (by kernel_rfl)) ?_
  intro W base args ds gs before hval hW _ _
  exact law_post (P := Try.prog) (fn := Try.f11) (tys := [.one (.sf .f32), .one (.i .i64)]) (by kernel_rfl) (by kernel_rfl) (by kernel_rfl) rfl
    (fun H ds hds => by
      match ds, hds with
      | [d0, d1], _ => rfl) (rt := 4) (by kernel_rfl) (by kernel_rfl) (fun vs w => Try.call11 vs w) law enc W base args ds gs before hval hW

theorem proved : Rows.FnExactStartStateSaid :=
  OpenClaim.holds_of_wide 11 Try.f11 rfl rfl rfl rfl rfl rfl rfl ⟨rfl, rfl, rfl, rfl, rfl⟩ rfl rfl rfl rfl rfl (by kernel_rfl) Try.func11 (by kernel_rfl)
    (of_decide_eq_true (by kernel_rfl)) (by unfold Func.isWrapper; first | (rw [if_pos (by decide +kernel)]; kernel_rfl) | (rw [if_neg (by decide +kernel)]; exact ⟨rfl, rfl⟩))
    (fun os started H enc _ => lifted os started H enc)
end Go.Proofs.Ytjpihhdjmoldjaa.FnExactStartState
