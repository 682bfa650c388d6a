/- The statement FnExactHarmonicFit, proved: whatever the input, the law returns true, and the input reads as it did. -/
import Derived.Test.YtjfgmnfkkehgfaaRows
import Derived.Test.YtjfgmnfkkehgfaaLvFnDX
import Derived.Test.YtjfgmnfkkehgfaaLvFnA
import Derived.Test.YtjfgmnfkkehgfaaLvFnAA
import Derived.Test.YtjfgmnfkkehgfaaLvFnB
import Derived.Test.YtjfgmnfkkehgfaaLvFnBB
import Derived.Test.YtjfgmnfkkehgfaaLvFnGX
import Derived.Test.YtjfgmnfkkehgfaaLvFnHH
import Derived.Test.YtjfgmnfkkehgfaaLvFnII
import Derived.Test.YtjfgmnfkkehgfaaLvFnJJ
import Derived.Test.YtjfgmnfkkehgfaaLvFnKK
import Derived.Test.YtjfgmnfkkehgfaaLvFnLL
import Derived.Test.YtjfgmnfkkehgfaaLvFnMX
import Derived.Test.YtjfgmnfkkehgfaaLvFnMM
import Derived.Test.YtjfgmnfkkehgfaaLvFnNN
import Derived.Test.YtjfgmnfkkehgfaaLvLawBX
import Derived.JoinedOf
namespace Go.Proofs.Ytjfgmnfkkehgfaa.FnExactHarmonicFit
open Go.Proofs.LV Go.ChangeShapes Go.WideShapes Go.ChangeAt Go.RowKit
set_option linter.unusedVariables false
set_option linter.unusedSimpArgs false
theorem own : ownKnob Try.prog.godebug = none := by kernel_rfl
theorem fn16 : Is_laws_toFloat32S Try.prog 16 := FnIs.of Try.func16 (by kernel_rfl) (by kernel_rfl) (by kernel_rfl) (by decide) (fun vs w => Try.call16 vs w)
theorem c16 : C_laws_toFloat32S Try.prog 16 := k_laws_toFloat32S fn16
theorem fn110 : Is_spec_l01Finite Try.prog 110 := FnIs.of Try.func110 (by kernel_rfl) (by kernel_rfl) (by kernel_rfl) (by decide) (fun vs w => Try.call110 vs w)
theorem c110 : C_spec_l01Finite Try.prog 110 := k_spec_l01Finite fn110
theorem fn87 : Is_spec_l02Finite Try.prog 87 110 := FnIs.of Try.func87 (by kernel_rfl) (by kernel_rfl) (by kernel_rfl) (by decide) (fun vs w => Try.call87 vs w)
theorem c87 : C_spec_l02Finite Try.prog 87 := k_spec_l02Finite fn87 c110
theorem fn81 : Is_spec_l02Series Try.prog 81 87 := FnIs.of Try.func81 (by kernel_rfl) (by kernel_rfl) (by kernel_rfl) (by decide) (fun vs w => Try.call81 vs w)
theorem c81 : C_spec_l02Series Try.prog 81 := k_spec_l02Series fn81 c87
theorem fn113 : Is_spec_l02Above Try.prog 113 110 := FnIs.of Try.func113 (by kernel_rfl) (by kernel_rfl) (by kernel_rfl) (by decide) (fun vs w => Try.call113 vs w)
theorem c113 : C_spec_l02Above Try.prog 113 := k_spec_l02Above fn113 c110
theorem fn82 : Is_spec_l00In Try.prog 82 := FnIs.of Try.func82 (by kernel_rfl) (by kernel_rfl) (by kernel_rfl) (by decide) (fun vs w => Try.call82 vs w)
theorem c82 : C_spec_l00In Try.prog 82 := k_spec_l00In fn82
theorem fn106 : Is_spec_l03Same Try.prog 106 := FnIs.of Try.func106 (by kernel_rfl) (by kernel_rfl) (by kernel_rfl) (by decide) (fun vs w => Try.call106 vs w)
theorem c106 : C_spec_l03Same Try.prog 106 := k_spec_l03Same fn106
theorem fn198 : ExtIs Try.prog 198 Extern.MathFloatBits.float32frombits := ExtIs.of Try.func198 (by kernel_rfl) (by kernel_rfl) (by kernel_rfl) (by kernel_rfl)
theorem c198 : C_math_Float32frombits Try.prog 198 := k_math_Float32frombits fn198
theorem fn181 : Is_spec_l01From Try.prog 181 198 := FnIs.of Try.func181 (by kernel_rfl) (by kernel_rfl) (by kernel_rfl) (by decide) (fun vs w => Try.call181 vs w)
theorem c181 : C_spec_l01From Try.prog 181 := k_spec_l01From fn181 c198
theorem fn199 : ExtIs Try.prog 199 Extern.MathFloatBits.float64frombits := ExtIs.of Try.func199 (by kernel_rfl) (by kernel_rfl) (by kernel_rfl) (by kernel_rfl)
theorem c199 : C_math_Float64frombits Try.prog 199 := k_math_Float64frombits fn199
theorem fn185 : Is_math_NaN Try.prog 185 199 := FnIs.of Try.func185 (by kernel_rfl) (by kernel_rfl) (by kernel_rfl) (by decide) (fun vs w => Try.call185 vs w)
theorem c185 : C_math_NaN Try.prog 185 := k_math_NaN fn185 c199
theorem fn182 : Is_spec_l01SineWide Try.prog 182 185 := FnIs.of Try.func182 (by kernel_rfl) (by kernel_rfl) (by kernel_rfl) (by decide) (fun vs w => Try.call182 vs w)
theorem c182 : C_spec_l01SineWide Try.prog 182 := k_spec_l01SineWide fn182 c185
theorem fn183 : Is_spec_l01Narrow Try.prog 183 := FnIs.of Try.func183 (by kernel_rfl) (by kernel_rfl) (by kernel_rfl) (by decide) (fun vs w => Try.call183 vs w)
theorem c183 : C_spec_l01Narrow Try.prog 183 := k_spec_l01Narrow fn183
theorem fn161 : Is_spec_l01Phasor Try.prog 161 181 182 183 := FnIs.of Try.func161 (by kernel_rfl) (by kernel_rfl) (by kernel_rfl) (by decide) (fun vs w => Try.call161 vs w)
theorem c161 : C_spec_l01Phasor Try.prog 161 := k_spec_l01Phasor fn161 c181 c182 c183
theorem fn114 : Is_spec_l03Wave Try.prog 114 161 := FnIs.of Try.func114 (by kernel_rfl) (by kernel_rfl) (by kernel_rfl) (by decide) (fun vs w => Try.call114 vs w)
theorem c114 : C_spec_l03Wave Try.prog 114 := k_spec_l03Wave fn114 c161
theorem fn98 : Is_spec_l03Columns Try.prog 98 81 := FnIs.of Try.func98 (by kernel_rfl) (by kernel_rfl) (by kernel_rfl) (by decide) (fun vs w => Try.call98 vs w)
theorem c98 : C_spec_l03Columns Try.prog 98 := k_spec_l03Columns fn98 c81
theorem fn180 : Is_spec_l03Size Try.prog 180 := FnIs.of Try.func180 (by kernel_rfl) (by kernel_rfl) (by kernel_rfl) (by decide) (fun vs w => Try.call180 vs w)
theorem c180 : C_spec_l03Size Try.prog 180 := k_spec_l03Size fn180
theorem fn160 : Is_spec_l03Solve Try.prog 160 180 87 := FnIs.of Try.func160 (by kernel_rfl) (by kernel_rfl) (by kernel_rfl) (by decide) (fun vs w => Try.call160 vs w)
theorem c160 : C_spec_l03Solve Try.prog 160 := k_spec_l03Solve fn160 c180 c87
theorem fn108 : Is_spec_l03Fit Try.prog 108 87 160 := FnIs.of Try.func108 (by kernel_rfl) (by kernel_rfl) (by kernel_rfl) (by decide) (fun vs w => Try.call108 vs w)
theorem c108 : C_spec_l03Fit Try.prog 108 := k_spec_l03Fit fn108 c87 c160
theorem fn32 : Is_spec_ColumnFit Try.prog 32 98 81 108 := FnIs.of Try.func32 (by kernel_rfl) (by kernel_rfl) (by kernel_rfl) (by decide) (fun vs w => Try.call32 vs w)
theorem c32 : C_spec_ColumnFit Try.prog 32 := k_spec_ColumnFit fn32 c98 c81 c108
theorem fn37 : Is_spec_HarmonicFit Try.prog 37 81 113 82 106 114 32 := FnIs.of Try.func37 (by kernel_rfl) (by kernel_rfl) (by kernel_rfl) (by decide) (fun vs w => Try.call37 vs w)
theorem c37 : C_spec_HarmonicFit Try.prog 37 := k_spec_HarmonicFit fn37 c81 c113 c82 c106 c114 c32
theorem fn177 : Is_slices_IndexFunc___float32_float32_ Try.prog 177 := FnIs.of Try.func177 (by kernel_rfl) (by kernel_rfl) (by kernel_rfl) (by decide) (fun vs w => Try.call177 vs w)
theorem c177 : C_slices_IndexFunc___float32_float32_ Try.prog 177 := k_slices_IndexFunc___float32_float32_ fn177
theorem fn154 : Is_slices_ContainsFunc___float32_float32_ Try.prog 154 177 := FnIs.of Try.func154 (by kernel_rfl) (by kernel_rfl) (by kernel_rfl) (by decide) (fun vs w => Try.call154 vs w)
theorem c154 : C_slices_ContainsFunc___float32_float32_ Try.prog 154 := k_slices_ContainsFunc___float32_float32_ fn154 c177
theorem fn112 : Is_impl_IsFinite Try.prog 112 := FnIs.of Try.func112 (by kernel_rfl) (by kernel_rfl) (by kernel_rfl) (by decide) (fun vs w => Try.call112 vs w)
theorem c112 : C_impl_IsFinite Try.prog 112 := k_impl_IsFinite fn112
theorem fn155 : Is_impl_areFinite_1 Try.prog 155 112 := FnIs.of Try.func155 (by kernel_rfl) (by kernel_rfl) (by kernel_rfl) (by decide) (fun vs w => Try.call155 vs w)
theorem c155 : C_impl_areFinite_1 Try.prog 155 := k_impl_areFinite_1 fn155 c112
theorem fn96 : Is_impl_areFinite Try.prog 96 154 155 := FnIs.of Try.func96 (by kernel_rfl) (by kernel_rfl) (by kernel_rfl) (by decide) (fun vs w => Try.call96 vs w)
theorem c96 : C_impl_areFinite Try.prog 96 := k_impl_areFinite fn96 c154 c155
theorem fn77 : Is_impl_IsSeries Try.prog 77 96 := FnIs.of Try.func77 (by kernel_rfl) (by kernel_rfl) (by kernel_rfl) (by decide) (fun vs w => Try.call77 vs w)
theorem c77 : C_impl_IsSeries Try.prog 77 := k_impl_IsSeries fn77 c96
theorem fn162 : Is_impl_areMore_1 Try.prog 162 112 := FnIs.of Try.func162 (by kernel_rfl) (by kernel_rfl) (by kernel_rfl) (by decide) (fun vs w => Try.call162 vs w)
theorem c162 : C_impl_areMore_1 Try.prog 162 := k_impl_areMore_1 fn162 c112
theorem fn115 : Is_impl_areMore Try.prog 115 154 162 := FnIs.of Try.func115 (by kernel_rfl) (by kernel_rfl) (by kernel_rfl) (by decide) (fun vs w => Try.call115 vs w)
theorem c115 : C_impl_areMore Try.prog 115 := k_impl_areMore fn115 c154 c162
theorem fn90 : Is_impl_within Try.prog 90 := FnIs.of Try.func90 (by kernel_rfl) (by kernel_rfl) (by kernel_rfl) (by decide) (fun vs w => Try.call90 vs w)
theorem c90 : C_impl_within Try.prog 90 := k_impl_within fn90
theorem fn184 : Is_impl_isFinite64 Try.prog 184 := FnIs.of Try.func184 (by kernel_rfl) (by kernel_rfl) (by kernel_rfl) (by decide) (fun vs w => Try.call184 vs w)
theorem c184 : C_impl_isFinite64 Try.prog 184 := k_impl_isFinite64 fn184
theorem fn200 : ExtIs Try.prog 200 Extern.MathFloatBits.float64bits := ExtIs.of Try.func200 (by kernel_rfl) (by kernel_rfl) (by kernel_rfl) (by kernel_rfl)
theorem c200 : C_math_Float64bits Try.prog 200 := k_math_Float64bits fn200
theorem fn186 : Is_math_Abs Try.prog 186 200 199 := FnIs.of Try.func186 (by kernel_rfl) (by kernel_rfl) (by kernel_rfl) (by decide) (fun vs w => Try.call186 vs w)
theorem c186 : C_math_Abs Try.prog 186 := k_math_Abs fn186 c200 c199
theorem fn187 : Is_impl_fraction Try.prog 187 := FnIs.of Try.func187 (by kernel_rfl) (by kernel_rfl) (by kernel_rfl) (by decide) (fun vs w => Try.call187 vs w)
theorem c187 : C_impl_fraction Try.prog 187 := k_impl_fraction fn187
theorem fn188 : Is_impl_sine Try.prog 188 187 := FnIs.of Try.func188 (by kernel_rfl) (by kernel_rfl) (by kernel_rfl) (by decide) (fun vs w => Try.call188 vs w)
theorem c188 : C_impl_sine Try.prog 188 := k_impl_sine fn188 c187
theorem fn163 : Is_impl_PhasorOf Try.prog 163 184 185 186 187 188 := FnIs.of Try.func163 (by kernel_rfl) (by kernel_rfl) (by kernel_rfl) (by decide) (fun vs w => Try.call163 vs w)
theorem c163 : C_impl_PhasorOf Try.prog 163 := k_impl_PhasorOf fn163 c184 c185 c186 c187 c188
theorem fn116 : Is_impl_harmonics Try.prog 116 163 := FnIs.of Try.func116 (by kernel_rfl) (by kernel_rfl) (by kernel_rfl) (by decide) (fun vs w => Try.call116 vs w)
theorem c116 : C_impl_harmonics Try.prog 116 := k_impl_harmonics fn116 c163
theorem fn157 : Is_impl_areColumns_1 Try.prog 157 77 := FnIs.of Try.func157 (by kernel_rfl) (by kernel_rfl) (by kernel_rfl) (by decide) (fun vs w => Try.call157 vs w)
theorem c157 : C_impl_areColumns_1 Try.prog 157 := k_impl_areColumns_1 fn157 c77
theorem fn178 : Is_slices_IndexFunc_____float32___float32_ Try.prog 178 := FnIs.of Try.func178 (by kernel_rfl) (by kernel_rfl) (by kernel_rfl) (by decide) (fun vs w => Try.call178 vs w)
theorem c178 : C_slices_IndexFunc_____float32___float32_ Try.prog 178 := k_slices_IndexFunc_____float32___float32_ fn178
theorem fn156 : Is_slices_ContainsFunc_____float32___float32_ Try.prog 156 178 := FnIs.of Try.func156 (by kernel_rfl) (by kernel_rfl) (by kernel_rfl) (by decide) (fun vs w => Try.call156 vs w)
theorem c156 : C_slices_ContainsFunc_____float32___float32_ Try.prog 156 := k_slices_ContainsFunc_____float32___float32_ fn156 c178
theorem fn101 : Is_impl_areColumns Try.prog 101 157 156 := FnIs.of Try.func101 (by kernel_rfl) (by kernel_rfl) (by kernel_rfl) (by decide) (fun vs w => Try.call101 vs w)
theorem c101 : C_impl_areColumns Try.prog 101 := k_impl_areColumns fn101 c157 c156
theorem fn111 : Is_impl_dot Try.prog 111 := FnIs.of Try.func111 (by kernel_rfl) (by kernel_rfl) (by kernel_rfl) (by decide) (fun vs w => Try.call111 vs w)
theorem c111 : C_impl_dot Try.prog 111 := k_impl_dot fn111
theorem fn149 : Is_impl_absolute Try.prog 149 := FnIs.of Try.func149 (by kernel_rfl) (by kernel_rfl) (by kernel_rfl) (by decide) (fun vs w => Try.call149 vs w)
theorem c149 : C_impl_absolute Try.prog 149 := k_impl_absolute fn149
theorem fn102 : Is_impl_ifAll Try.prog 102 96 := FnIs.of Try.func102 (by kernel_rfl) (by kernel_rfl) (by kernel_rfl) (by decide) (fun vs w => Try.call102 vs w)
theorem c102 : C_impl_ifAll Try.prog 102 := k_impl_ifAll fn102 c96
theorem fn109 : Is_impl_columnFit Try.prog 109 111 96 149 102 := FnIs.of Try.func109 (by kernel_rfl) (by kernel_rfl) (by kernel_rfl) (by decide) (fun vs w => Try.call109 vs w)
theorem c109 : C_impl_columnFit Try.prog 109 := k_impl_columnFit fn109 c111 c96 c149 c102
theorem fn38 : Is_impl_HarmonicFit Try.prog 38 77 115 90 116 101 109 := FnIs.of Try.func38 (by kernel_rfl) (by kernel_rfl) (by kernel_rfl) (by decide) (fun vs w => Try.call38 vs w)
theorem c38 : C_impl_HarmonicFit Try.prog 38 := k_impl_HarmonicFit fn38 c77 c115 c90 c116 c101 c109
theorem fn36 : Is_laws_sameFloat Try.prog 36 := FnIs.of Try.func36 (by kernel_rfl) (by kernel_rfl) (by kernel_rfl) (by decide) (fun vs w => Try.call36 vs w)
theorem c36 : C_laws_sameFloat Try.prog 36 := k_laws_sameFloat fn36
theorem fn18 : Is_laws_eqFloat32S Try.prog 18 36 := FnIs.of Try.func18 (by kernel_rfl) (by kernel_rfl) (by kernel_rfl) (by decide) (fun vs w => Try.call18 vs w)
theorem c18 : C_laws_eqFloat32S Try.prog 18 := k_laws_eqFloat32S fn18 c36
theorem fn19 : Is_laws_markFloat32S Try.prog 19 := FnIs.of Try.func19 (by kernel_rfl) (by kernel_rfl) (by kernel_rfl) (by decide) (fun vs w => Try.call19 vs w)
theorem c19 : C_laws_markFloat32S Try.prog 19 := k_laws_markFloat32S fn19
theorem fn20 : Is_laws_heldFloat32S Try.prog 20 := FnIs.of Try.func20 (by kernel_rfl) (by kernel_rfl) (by kernel_rfl) (by decide) (fun vs w => Try.call20 vs w)
theorem c20 : C_laws_heldFloat32S Try.prog 20 := k_laws_heldFloat32S fn20
theorem fn9 : Is_laws_FnExactHarmonicFit Try.prog 9 16 37 38 18 19 20 := FnIs.of Try.func9 (by kernel_rfl) (by kernel_rfl) (by kernel_rfl) (by decide) (fun vs w => Try.call9 vs w)
theorem c9 : C_laws_FnExactHarmonicFit Try.prog 9 := k_laws_FnExactHarmonicFit fn9 c16 c37 c38 c18 c19 c20
theorem law (xs : List AV) (h : ShapesT [.one (.sf .f32), .one (.f .f32), .one (.i .i64)] xs) : VCall Try.prog 9 (AV.viewL [] 0 xs) (.b true) := by
  obtain ⟨_, _, rfl, ⟨_, rfl, _, _⟩, _, _, rfl, ⟨_, rfl, _⟩, _, _, rfl, ⟨_, rfl, _⟩, rfl⟩ := h
  exact c9 _ _ _ (by assumption)
set_option maxRecDepth 100000 in
theorem lifted (os : Os) (started : os.Started) (H : Type) (enc : TypeId × Value → H) :
    ReturnsInHanded {} Try.checked os 9 .any (Rows.fnExactHarmonicFitSpec.pre6 enc Try.prog Try.f9 Rows.fnExactHarmonicFitRow.domain false) (Rows.fnExactHarmonicFitSpec.post enc Try.prog Try.f9 false true false false) := by
  refine returnsInHanded_of_change (C := Try.checked) own started (by kernel_rfl) Try.func9
    (ChangeSpec.witness6 (enc := enc) (C := Try.checked) false ⟨#[], #[.slice none 0 0, .float .f32 0, .int .i64 0], []⟩ 8 (by kernel_rfl) (by kernel_rfl) (by kernel_rfl) (by kernel_rfl)) ?_
  intro W base args ds gs before hval hW _ _
  exact law_post (P := Try.prog) (fn := Try.f9) (tys := [.one (.sf .f32), .one (.f .f32), .one (.i .i64)]) (by kernel_rfl) (by kernel_rfl) (by kernel_rfl) rfl
    (fun H ds hds => by
      match ds, hds with
      | [d0, d1, d2], _ => rfl) (rt := 4) (by kernel_rfl) (by kernel_rfl) (fun vs w => Try.call9 vs w) law enc W base args ds gs before hval hW

theorem proved : Rows.FnExactHarmonicFitSaid :=
  OpenClaim.holds_of_wide 9 Try.f9 rfl rfl rfl rfl rfl rfl rfl ⟨rfl, rfl, rfl, rfl, rfl⟩ rfl rfl rfl rfl rfl (by kernel_rfl) Try.func9 (by kernel_rfl)
    (of_decide_eq_true (by kernel_rfl)) (by unfold Func.isWrapper; first | (rw [if_pos (by decide +kernel)]; kernel_rfl) | (rw [if_neg (by decide +kernel)]; exact ⟨rfl, rfl⟩))
    (fun os started H enc _ => lifted os started H enc)
end Go.Proofs.Ytjfgmnfkkehgfaa.FnExactHarmonicFit
