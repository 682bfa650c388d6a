/- The statement FnExactWorkDays, proved: whatever the input, the law returns true, and the input reads as it did. -/
import Derived.Test.YtkcgiakliiadoaaRows
import Derived.Test.YtkcgiakliiadoaaLvFnA
import Derived.Test.YtkcgiakliiadoaaLvFnH
import Derived.Test.YtkcgiakliiadoaaLvLawD
import Derived.JoinedOf
namespace Go.Proofs.Ytkcgiakliiadoaa.FnExactWorkDays
open Go.Proofs.LV Go.ChangeShapes Go.WideShapes Go.ChangeAt Go.RowKit
set_option linter.unusedVariables false
set_option linter.unusedSimpArgs false
theorem own : ownKnob Try.prog.godebug = none := by kernel_rfl
theorem fn34 : Is_laws_toInt64S Try.prog 34 := FnIs.of Try.func34 (by kernel_rfl) (by kernel_rfl) (by kernel_rfl) (by decide) (fun vs w => Try.call34 vs w)
theorem c34 : C_laws_toInt64S Try.prog 34 := k_laws_toInt64S fn34
theorem fn130 : Is_spec_l02Leap Try.prog 130 := FnIs.of Try.func130 (by kernel_rfl) (by kernel_rfl) (by kernel_rfl) (by decide) (fun vs w => Try.call130 vs w)
theorem c130 : C_spec_l02Leap Try.prog 130 := k_spec_l02Leap fn130
theorem fn125 : Is_spec_l02Long Try.prog 125 130 := FnIs.of Try.func125 (by kernel_rfl) (by kernel_rfl) (by kernel_rfl) (by decide) (fun vs w => Try.call125 vs w)
theorem c125 : C_spec_l02Long Try.prog 125 := k_spec_l02Long fn125 c130
theorem fn108 : Is_spec_l02First Try.prog 108 125 := FnIs.of Try.func108 (by kernel_rfl) (by kernel_rfl) (by kernel_rfl) (by decide) (fun vs w => Try.call108 vs w)
theorem c108 : C_spec_l02First Try.prog 108 := k_spec_l02First fn108 c125
theorem fn71 : Is_spec_l00In Try.prog 71 := FnIs.of Try.func71 (by kernel_rfl) (by kernel_rfl) (by kernel_rfl) (by decide) (fun vs w => Try.call71 vs w)
theorem c71 : C_spec_l00In Try.prog 71 := k_spec_l00In fn71
theorem fn68 : Is_spec_l02Day Try.prog 68 108 71 := FnIs.of Try.func68 (by kernel_rfl) (by kernel_rfl) (by kernel_rfl) (by decide) (fun vs w => Try.call68 vs w)
theorem c68 : C_spec_l02Day Try.prog 68 := k_spec_l02Day fn68 c108 c71
theorem fn69 : Is_spec_l02Feasts Try.prog 69 68 := FnIs.of Try.func69 (by kernel_rfl) (by kernel_rfl) (by kernel_rfl) (by decide) (fun vs w => Try.call69 vs w)
theorem c69 : C_spec_l02Feasts Try.prog 69 := k_spec_l02Feasts fn69 c68
theorem fn70 : Is_spec_l02Weekday Try.prog 70 := FnIs.of Try.func70 (by kernel_rfl) (by kernel_rfl) (by kernel_rfl) (by decide) (fun vs w => Try.call70 vs w)
theorem c70 : C_spec_l02Weekday Try.prog 70 := k_spec_l02Weekday fn70
theorem fn33 : Is_spec_WorkDays Try.prog 33 68 69 70 71 := FnIs.of Try.func33 (by kernel_rfl) (by kernel_rfl) (by kernel_rfl) (by decide) (fun vs w => Try.call33 vs w)
theorem c33 : C_spec_WorkDays Try.prog 33 := k_spec_WorkDays fn33 c68 c69 c70 c71
theorem fn126 : Is_impl_leaps Try.prog 126 := FnIs.of Try.func126 (by kernel_rfl) (by kernel_rfl) (by kernel_rfl) (by decide) (fun vs w => Try.call126 vs w)
theorem c126 : C_impl_leaps Try.prog 126 := k_impl_leaps fn126
theorem fn109 : Is_impl_newYear Try.prog 109 126 := FnIs.of Try.func109 (by kernel_rfl) (by kernel_rfl) (by kernel_rfl) (by decide) (fun vs w => Try.call109 vs w)
theorem c109 : C_impl_newYear Try.prog 109 := k_impl_newYear fn109 c126
theorem fn86 : Is_impl_within Try.prog 86 := FnIs.of Try.func86 (by kernel_rfl) (by kernel_rfl) (by kernel_rfl) (by decide) (fun vs w => Try.call86 vs w)
theorem c86 : C_impl_within Try.prog 86 := k_impl_within fn86
theorem fn72 : Is_impl_isDay Try.prog 72 109 86 := FnIs.of Try.func72 (by kernel_rfl) (by kernel_rfl) (by kernel_rfl) (by decide) (fun vs w => Try.call72 vs w)
theorem c72 : C_impl_isDay Try.prog 72 := k_impl_isDay fn72 c109 c86
theorem fn127 : Is_slices_IndexFunc___int64_int64_ Try.prog 127 := FnIs.of Try.func127 (by kernel_rfl) (by kernel_rfl) (by kernel_rfl) (by decide) (fun vs w => Try.call127 vs w)
theorem c127 : C_slices_IndexFunc___int64_int64_ Try.prog 127 := k_slices_IndexFunc___int64_int64_ fn127
theorem fn110 : Is_slices_ContainsFunc___int64_int64_ Try.prog 110 127 := FnIs.of Try.func110 (by kernel_rfl) (by kernel_rfl) (by kernel_rfl) (by decide) (fun vs w => Try.call110 vs w)
theorem c110 : C_slices_ContainsFunc___int64_int64_ Try.prog 110 := k_slices_ContainsFunc___int64_int64_ fn110 c127
theorem fn111 : Is_impl_areFeasts_1 Try.prog 111 72 := FnIs.of Try.func111 (by kernel_rfl) (by kernel_rfl) (by kernel_rfl) (by decide) (fun vs w => Try.call111 vs w)
theorem c111 : C_impl_areFeasts_1 Try.prog 111 := k_impl_areFeasts_1 fn111 c72
theorem fn73 : Is_impl_areFeasts Try.prog 73 110 111 := FnIs.of Try.func73 (by kernel_rfl) (by kernel_rfl) (by kernel_rfl) (by decide) (fun vs w => Try.call73 vs w)
theorem c73 : C_impl_areFeasts Try.prog 73 := k_impl_areFeasts fn73 c110 c111
theorem fn112 : Is_impl_dayOfWeek Try.prog 112 := FnIs.of Try.func112 (by kernel_rfl) (by kernel_rfl) (by kernel_rfl) (by decide) (fun vs w => Try.call112 vs w)
theorem c112 : C_impl_dayOfWeek Try.prog 112 := k_impl_dayOfWeek fn112
theorem fn128 : Is_slices_Index___int64_int64_ Try.prog 128 := FnIs.of Try.func128 (by kernel_rfl) (by kernel_rfl) (by kernel_rfl) (by decide) (fun vs w => Try.call128 vs w)
theorem c128 : C_slices_Index___int64_int64_ Try.prog 128 := k_slices_Index___int64_int64_ fn128
theorem fn113 : Is_slices_Contains___int64_int64_ Try.prog 113 128 := FnIs.of Try.func113 (by kernel_rfl) (by kernel_rfl) (by kernel_rfl) (by decide) (fun vs w => Try.call113 vs w)
theorem c113 : C_slices_Contains___int64_int64_ Try.prog 113 := k_slices_Contains___int64_int64_ fn113 c128
theorem fn74 : Is_impl_works Try.prog 74 112 113 := FnIs.of Try.func74 (by kernel_rfl) (by kernel_rfl) (by kernel_rfl) (by decide) (fun vs w => Try.call74 vs w)
theorem c74 : C_impl_works Try.prog 74 := k_impl_works fn74 c112 c113
theorem fn35 : Is_impl_WorkDays Try.prog 35 72 73 74 := FnIs.of Try.func35 (by kernel_rfl) (by kernel_rfl) (by kernel_rfl) (by decide) (fun vs w => Try.call35 vs w)
theorem c35 : C_impl_WorkDays Try.prog 35 := k_impl_WorkDays fn35 c72 c73 c74
theorem fn36 : Is_laws_eqInt64S Try.prog 36 := FnIs.of Try.func36 (by kernel_rfl) (by kernel_rfl) (by kernel_rfl) (by decide) (fun vs w => Try.call36 vs w)
theorem c36 : C_laws_eqInt64S Try.prog 36 := k_laws_eqInt64S fn36
theorem fn8 : Is_laws_FnExactWorkDays Try.prog 8 34 33 35 36 := FnIs.of Try.func8 (by kernel_rfl) (by kernel_rfl) (by kernel_rfl) (by decide) (fun vs w => Try.call8 vs w)
theorem c8 : C_laws_FnExactWorkDays Try.prog 8 := k_laws_FnExactWorkDays fn8 c34 c33 c35 c36
theorem law (xs : List AV) (h : ShapesT [.one (.i .i64), .one (.i .i64), .one (.si .i64)] xs) : VCall Try.prog 8 (AV.viewL [] 0 xs) (.b true) := by
  obtain ⟨_, _, rfl, ⟨_, rfl, _⟩, _, _, rfl, ⟨_, rfl, _⟩, _, _, rfl, ⟨_, rfl, _, _⟩, rfl⟩ := h
  exact c8 _ _ _ (by assumption)
set_option maxRecDepth 100000 in
theorem lifted (os : Os) (started : os.Started) (H : Type) (enc : TypeId × Value → H) :
    ReturnsInHanded {} Try.checked os 8 .any (Rows.fnExactWorkDaysSpec.pre6 enc Try.prog Try.f8 Rows.fnExactWorkDaysRow.domain false) (Rows.fnExactWorkDaysSpec.post enc Try.prog Try.f8 false true false false) := by
  refine returnsInHanded_of_change (C := Try.checked) own started (by kernel_rfl) Try.func8
    (ChangeSpec.witness6 (enc := enc) (C := Try.checked) false ⟨#[], #[.int .i64 0, .int .i64 0, .slice none 0 0], []⟩ 8 (by kernel_rfl) (by kernel_rfl) (by kernel_rfl) (by kernel_rfl)) ?_
  intro W base args ds gs before hval hW _ _
  exact law_post (P := Try.prog) (fn := Try.f8) (tys := [.one (.i .i64), .one (.i .i64), .one (.si .i64)]) (by kernel_rfl) (by kernel_rfl) (by kernel_rfl) rfl
    (fun H ds hds => by
      match ds, hds with
      | [d0, d1, d2], _ => rfl) (rt := 4) (by kernel_rfl) (by kernel_rfl) (fun vs w => Try.call8 vs w) law enc W base args ds gs before hval hW

theorem proved : Rows.FnExactWorkDaysSaid :=
  OpenClaim.holds_of_wide 8 Try.f8 rfl rfl rfl rfl rfl rfl rfl ⟨rfl, rfl, rfl, rfl, rfl⟩ rfl rfl rfl rfl rfl (by kernel_rfl) Try.func8 (by kernel_rfl)
    (of_decide_eq_true (by kernel_rfl)) (by unfold Func.isWrapper; first | (rw [if_pos (by decide +kernel)]; kernel_rfl) | (rw [if_neg (by decide +kernel)]; exact ⟨rfl, rfl⟩))
    (fun os started H enc _ => lifted os started H enc)
end Go.Proofs.Ytkcgiakliiadoaa.FnExactWorkDays
