/- The statement FnDays, proved: whatever the input, the law returns true, and the input reads as it did. -/
import Derived.Test.YtjfgmnfkkehgfaaRows
import Derived.Test.YtjfgmnfkkehgfaaLvFnA
import Derived.Test.YtjfgmnfkkehgfaaLvFnEE
import Derived.Test.YtjfgmnfkkehgfaaLvFnH
import Derived.Test.YtjfgmnfkkehgfaaLvLawV
import Derived.JoinedOf
namespace Go.Proofs.Ytjfgmnfkkehgfaa.FnDays
open Go.Proofs.LV Go.ChangeShapes Go.WideShapes Go.ChangeAt Go.RowKit
set_option linter.unusedVariables false
set_option linter.unusedSimpArgs false
theorem own : ownKnob Try.prog.godebug = none := by kernel_rfl
theorem fn39 : Is_laws_r8Long Try.prog 39 := FnIs.of Try.func39 (by kernel_rfl) (by kernel_rfl) (by kernel_rfl) (by decide) (fun vs w => Try.call39 vs w)
theorem c39 : C_laws_r8Long Try.prog 39 := k_laws_r8Long fn39
theorem fn40 : Is_laws_r8At Try.prog 40 := FnIs.of Try.func40 (by kernel_rfl) (by kernel_rfl) (by kernel_rfl) (by decide) (fun vs w => Try.call40 vs w)
theorem c40 : C_laws_r8At Try.prog 40 := k_laws_r8At fn40
theorem fn125 : Is_impl_leaps Try.prog 125 := FnIs.of Try.func125 (by kernel_rfl) (by kernel_rfl) (by kernel_rfl) (by decide) (fun vs w => Try.call125 vs w)
theorem c125 : C_impl_leaps Try.prog 125 := k_impl_leaps fn125
theorem fn119 : Is_impl_newYear Try.prog 119 125 := FnIs.of Try.func119 (by kernel_rfl) (by kernel_rfl) (by kernel_rfl) (by decide) (fun vs w => Try.call119 vs w)
theorem c119 : C_impl_newYear Try.prog 119 := k_impl_newYear fn119 c125
theorem fn90 : Is_impl_within Try.prog 90 := FnIs.of Try.func90 (by kernel_rfl) (by kernel_rfl) (by kernel_rfl) (by decide) (fun vs w => Try.call90 vs w)
theorem c90 : C_impl_within Try.prog 90 := k_impl_within fn90
theorem fn117 : Is_impl_isDay Try.prog 117 119 90 := FnIs.of Try.func117 (by kernel_rfl) (by kernel_rfl) (by kernel_rfl) (by decide) (fun vs w => Try.call117 vs w)
theorem c117 : C_impl_isDay Try.prog 117 := k_impl_isDay fn117 c119 c90
theorem fn118 : Is_impl_yearOf Try.prog 118 119 := FnIs.of Try.func118 (by kernel_rfl) (by kernel_rfl) (by kernel_rfl) (by decide) (fun vs w => Try.call118 vs w)
theorem c118 : C_impl_yearOf Try.prog 118 := k_impl_yearOf fn118 c119
theorem fn120 : Is_impl_longOfMonth Try.prog 120 125 := FnIs.of Try.func120 (by kernel_rfl) (by kernel_rfl) (by kernel_rfl) (by decide) (fun vs w => Try.call120 vs w)
theorem c120 : C_impl_longOfMonth Try.prog 120 := k_impl_longOfMonth fn120 c125
theorem fn41 : Is_impl_DateOf Try.prog 41 117 118 119 120 := FnIs.of Try.func41 (by kernel_rfl) (by kernel_rfl) (by kernel_rfl) (by decide) (fun vs w => Try.call41 vs w)
theorem c41 : C_impl_DateOf Try.prog 41 := k_impl_DateOf fn41 c117 c118 c119 c120
theorem fn123 : Is_impl_isYear Try.prog 123 90 := FnIs.of Try.func123 (by kernel_rfl) (by kernel_rfl) (by kernel_rfl) (by decide) (fun vs w => Try.call123 vs w)
theorem c123 : C_impl_isYear Try.prog 123 := k_impl_isYear fn123 c90
theorem fn124 : Is_impl_isMonth Try.prog 124 90 := FnIs.of Try.func124 (by kernel_rfl) (by kernel_rfl) (by kernel_rfl) (by decide) (fun vs w => Try.call124 vs w)
theorem c124 : C_impl_isMonth Try.prog 124 := k_impl_isMonth fn124 c90
theorem fn45 : Is_impl_LongOfMonth Try.prog 45 123 124 120 := FnIs.of Try.func45 (by kernel_rfl) (by kernel_rfl) (by kernel_rfl) (by decide) (fun vs w => Try.call45 vs w)
theorem c45 : C_impl_LongOfMonth Try.prog 45 := k_impl_LongOfMonth fn45 c123 c124 c120
theorem fn121 : Is_impl_dayOf Try.prog 121 119 120 := FnIs.of Try.func121 (by kernel_rfl) (by kernel_rfl) (by kernel_rfl) (by decide) (fun vs w => Try.call121 vs w)
theorem c121 : C_impl_dayOf Try.prog 121 := k_impl_dayOf fn121 c119 c120
theorem fn42 : Is_impl_DayOf Try.prog 42 45 90 121 := FnIs.of Try.func42 (by kernel_rfl) (by kernel_rfl) (by kernel_rfl) (by decide) (fun vs w => Try.call42 vs w)
theorem c42 : C_impl_DayOf Try.prog 42 := k_impl_DayOf fn42 c45 c90 c121
theorem fn122 : Is_impl_dayOfWeek Try.prog 122 := FnIs.of Try.func122 (by kernel_rfl) (by kernel_rfl) (by kernel_rfl) (by decide) (fun vs w => Try.call122 vs w)
theorem c122 : C_impl_dayOfWeek Try.prog 122 := k_impl_dayOfWeek fn122
theorem fn43 : Is_impl_WeekdayOf Try.prog 43 117 122 := FnIs.of Try.func43 (by kernel_rfl) (by kernel_rfl) (by kernel_rfl) (by decide) (fun vs w => Try.call43 vs w)
theorem c43 : C_impl_WeekdayOf Try.prog 43 := k_impl_WeekdayOf fn43 c117 c122
theorem fn44 : Is_impl_WeekOf Try.prog 44 117 122 118 119 := FnIs.of Try.func44 (by kernel_rfl) (by kernel_rfl) (by kernel_rfl) (by decide) (fun vs w => Try.call44 vs w)
theorem c44 : C_impl_WeekOf Try.prog 44 := k_impl_WeekOf fn44 c117 c122 c118 c119
theorem fn46 : Is_impl_IsLeap Try.prog 46 123 125 := FnIs.of Try.func46 (by kernel_rfl) (by kernel_rfl) (by kernel_rfl) (by decide) (fun vs w => Try.call46 vs w)
theorem c46 : C_impl_IsLeap Try.prog 46 := k_impl_IsLeap fn46 c123 c125
theorem fn47 : Is_impl_WeekdayIn Try.prog 47 45 90 121 122 := FnIs.of Try.func47 (by kernel_rfl) (by kernel_rfl) (by kernel_rfl) (by decide) (fun vs w => Try.call47 vs w)
theorem c47 : C_impl_WeekdayIn Try.prog 47 := k_impl_WeekdayIn fn47 c45 c90 c121 c122
theorem fn48 : Is_impl_EasterOf Try.prog 48 123 121 := FnIs.of Try.func48 (by kernel_rfl) (by kernel_rfl) (by kernel_rfl) (by decide) (fun vs w => Try.call48 vs w)
theorem c48 : C_impl_EasterOf Try.prog 48 := k_impl_EasterOf fn48 c123 c121
theorem fn189 : Is_slices_IndexFunc___int64_int64_ Try.prog 189 := FnIs.of Try.func189 (by kernel_rfl) (by kernel_rfl) (by kernel_rfl) (by decide) (fun vs w => Try.call189 vs w)
theorem c189 : C_slices_IndexFunc___int64_int64_ Try.prog 189 := k_slices_IndexFunc___int64_int64_ fn189
theorem fn164 : Is_slices_ContainsFunc___int64_int64_ Try.prog 164 189 := FnIs.of Try.func164 (by kernel_rfl) (by kernel_rfl) (by kernel_rfl) (by decide) (fun vs w => Try.call164 vs w)
theorem c164 : C_slices_ContainsFunc___int64_int64_ Try.prog 164 := k_slices_ContainsFunc___int64_int64_ fn164 c189
theorem fn165 : Is_impl_areFeasts_1 Try.prog 165 117 := FnIs.of Try.func165 (by kernel_rfl) (by kernel_rfl) (by kernel_rfl) (by decide) (fun vs w => Try.call165 vs w)
theorem c165 : C_impl_areFeasts_1 Try.prog 165 := k_impl_areFeasts_1 fn165 c117
theorem fn126 : Is_impl_areFeasts Try.prog 126 164 165 := FnIs.of Try.func126 (by kernel_rfl) (by kernel_rfl) (by kernel_rfl) (by decide) (fun vs w => Try.call126 vs w)
theorem c126 : C_impl_areFeasts Try.prog 126 := k_impl_areFeasts fn126 c164 c165
theorem fn190 : Is_slices_Index___int64_int64_ Try.prog 190 := FnIs.of Try.func190 (by kernel_rfl) (by kernel_rfl) (by kernel_rfl) (by decide) (fun vs w => Try.call190 vs w)
theorem c190 : C_slices_Index___int64_int64_ Try.prog 190 := k_slices_Index___int64_int64_ fn190
theorem fn166 : Is_slices_Contains___int64_int64_ Try.prog 166 190 := FnIs.of Try.func166 (by kernel_rfl) (by kernel_rfl) (by kernel_rfl) (by decide) (fun vs w => Try.call166 vs w)
theorem c166 : C_slices_Contains___int64_int64_ Try.prog 166 := k_slices_Contains___int64_int64_ fn166 c190
theorem fn127 : Is_impl_works Try.prog 127 122 166 := FnIs.of Try.func127 (by kernel_rfl) (by kernel_rfl) (by kernel_rfl) (by decide) (fun vs w => Try.call127 vs w)
theorem c127 : C_impl_works Try.prog 127 := k_impl_works fn127 c122 c166
theorem fn49 : Is_impl_WorkDayBehind Try.prog 49 117 90 126 127 := FnIs.of Try.func49 (by kernel_rfl) (by kernel_rfl) (by kernel_rfl) (by decide) (fun vs w => Try.call49 vs w)
theorem c49 : C_impl_WorkDayBehind Try.prog 49 := k_impl_WorkDayBehind fn49 c117 c90 c126 c127
theorem fn50 : Is_impl_WorkDays Try.prog 50 117 126 127 := FnIs.of Try.func50 (by kernel_rfl) (by kernel_rfl) (by kernel_rfl) (by decide) (fun vs w => Try.call50 vs w)
theorem c50 : C_impl_WorkDays Try.prog 50 := k_impl_WorkDays fn50 c117 c126 c127
theorem fn10 : Is_laws_FnDays Try.prog 10 39 40 41 42 43 44 45 46 47 48 49 50 := FnIs.of Try.func10 (by kernel_rfl) (by kernel_rfl) (by kernel_rfl) (by decide) (fun vs w => Try.call10 vs w)
theorem c10 : C_laws_FnDays Try.prog 10 := k_laws_FnDays fn10 c39 c40 c41 c42 c43 c44 c45 c46 c47 c48 c49 c50
theorem law (xs : List AV) (h : ShapesT [.one (.si .u8), .one (.si .u8)] xs) : VCall Try.prog 10 (AV.viewL [] 0 xs) (.b true) := by
  obtain ⟨_, _, rfl, ⟨_, rfl, _, _⟩, _, _, rfl, ⟨_, rfl, _, _⟩, rfl⟩ := h
  exact c10 _ _
set_option maxRecDepth 100000 in
theorem lifted (os : Os) (started : os.Started) (H : Type) (enc : TypeId × Value → H) :
    ReturnsInHanded {} Try.checked os 10 .any (Rows.fnDaysSpec.pre6 enc Try.prog Try.f10 Rows.fnDaysRow.domain false) (Rows.fnDaysSpec.post enc Try.prog Try.f10 false true false false) := by
  refine returnsInHanded_of_change (C := Try.checked) own started (by kernel_rfl) Try.func10
    (ChangeSpec.witness6 (enc := enc) (C := Try.checked) false ⟨#[], #[.slice none 0 0, .slice none 0 0], []⟩ 8 (by kernel_rfl) (by kernel_rfl) (by kernel_rfl) (by kernel_rfl)) ?_
  intro W base args ds gs before hval hW _ _
  exact law_post (P := Try.prog) (fn := Try.f10) (tys := [.one (.si .u8), .one (.si .u8)]) (by kernel_rfl) (by kernel_rfl) (by kernel_rfl) rfl
    (fun H ds hds => by
      match ds, hds with
      | [d0, d1], _ => rfl) (rt := 4) (by kernel_rfl) (by kernel_rfl) (fun vs w => Try.call10 vs w) law enc W base args ds gs before hval hW

theorem proved : Rows.FnDaysSaid :=
  OpenClaim.holds_of_wide 10 Try.f10 rfl rfl rfl rfl rfl rfl rfl ⟨rfl, rfl, rfl, rfl, rfl⟩ rfl rfl rfl rfl rfl (by kernel_rfl) Try.func10 (by kernel_rfl)
    (of_decide_eq_true (by kernel_rfl)) (by unfold Func.isWrapper; first | (rw [if_pos (by decide +kernel)]; kernel_rfl) | (rw [if_neg (by decide +kernel)]; exact ⟨rfl, rfl⟩))
    (fun os started H enc _ => lifted os started H enc)
end Go.Proofs.Ytjfgmnfkkehgfaa.FnDays
