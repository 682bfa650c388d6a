/- The statement FnColumns, proved: whatever the input, the law returns true, and the input reads as it did. -/
import Derived.Test.YtdffgjembkanoaaRows
import Derived.Test.YtdffgjembkanoaaLvAbsX
import Derived.Test.YtdffgjembkanoaaLvExtX
import Derived.Test.YtdffgjembkanoaaLvFnAA
import Derived.Test.YtdffgjembkanoaaLvFnB
import Derived.Test.YtdffgjembkanoaaLvFnBBX
import Derived.Test.YtdffgjembkanoaaLvFnCX
import Derived.Test.YtdffgjembkanoaaLvFnFFX
import Derived.Test.YtdffgjembkanoaaLvFnHH
import Derived.Test.YtdffgjembkanoaaLvFnII
import Derived.Test.YtdffgjembkanoaaLvFnJJ
import Derived.Test.YtdffgjembkanoaaLvFnKK
import Derived.Test.YtdffgjembkanoaaLvFnLL
import Derived.Test.YtdffgjembkanoaaLvFnMM
import Derived.Test.YtdffgjembkanoaaLvFnNNX
import Derived.Test.YtdffgjembkanoaaLvLawWX
import Derived.Test.YtdffgjembkanoaaLvLawJJ
import Derived.JoinedOf
namespace Go.Proofs.Ytdffgjembkanoaa.FnColumns
open Go.Proofs.LV Go.ChangeShapes Go.WideShapes Go.ChangeAt Go.RowKit
set_option linter.unusedVariables false
set_option linter.unusedSimpArgs false
theorem own : ownKnob Try.prog.godebug = none := by kernel_rfl
theorem fn7 : Is_laws_b10Long Try.prog 7 := FnIs.of Try.func7 (by kernel_rfl) (by kernel_rfl) (by kernel_rfl) (by decide) (fun vs w => Try.call7 vs w)
theorem c7 : C_laws_b10Long Try.prog 7 := k_laws_b10Long fn7
theorem fn8 : Is_laws_b10At Try.prog 8 := FnIs.of Try.func8 (by kernel_rfl) (by kernel_rfl) (by kernel_rfl) (by decide) (fun vs w => Try.call8 vs w)
theorem c8 : C_laws_b10At Try.prog 8 := k_laws_b10At fn8
theorem fn52 : Is_spec_l00From Try.prog 52 := FnIs.of Try.func52 (by kernel_rfl) (by kernel_rfl) (by kernel_rfl) (by decide) (fun vs w => Try.call52 vs w)
theorem c52 : C_spec_l00From Try.prog 52 := k_spec_l00From fn52
theorem fn138 : Is_spec_l00Src__next Try.prog 138 := FnIs.of Try.func138 (by kernel_rfl) (by kernel_rfl) (by kernel_rfl) (by decide) (fun vs w => Try.call138 vs w)
theorem c138 : C_spec_l00Src__next Try.prog 138 := k_spec_l00Src__next fn138
theorem fn103 : Is_spec_l00Src__pick Try.prog 103 138 := FnIs.of Try.func103 (by kernel_rfl) (by kernel_rfl) (by kernel_rfl) (by decide) (fun vs w => Try.call103 vs w)
theorem c103 : C_spec_l00Src__pick Try.prog 103 := k_spec_l00Src__pick fn103 c138
theorem fn53 : Is_spec_l03DrawOk Try.prog 53 103 := FnIs.of Try.func53 (by kernel_rfl) (by kernel_rfl) (by kernel_rfl) (by decide) (fun vs w => Try.call53 vs w)
theorem c53 : C_spec_l03DrawOk Try.prog 53 := k_spec_l03DrawOk fn53 c103
theorem fn12 : Is_spec_B10List Try.prog 12 52 53 := FnIs.of Try.func12 (by kernel_rfl) (by kernel_rfl) (by kernel_rfl) (by decide) (fun vs w => Try.call12 vs w)
theorem c12 : C_spec_B10List Try.prog 12 := k_spec_B10List fn12 c52 c53
theorem fn136 : Is_slices_IndexFunc___float32_float32_ Try.prog 136 := FnIs.of Try.func136 (by kernel_rfl) (by kernel_rfl) (by kernel_rfl) (by decide) (fun vs w => Try.call136 vs w)
theorem c136 : C_slices_IndexFunc___float32_float32_ Try.prog 136 := k_slices_IndexFunc___float32_float32_ fn136
theorem fn98 : Is_slices_ContainsFunc___float32_float32_ Try.prog 98 136 := FnIs.of Try.func98 (by kernel_rfl) (by kernel_rfl) (by kernel_rfl) (by decide) (fun vs w => Try.call98 vs w)
theorem c98 : C_slices_ContainsFunc___float32_float32_ Try.prog 98 := k_slices_ContainsFunc___float32_float32_ fn98 c136
theorem fn75 : Is_impl_IsFinite Try.prog 75 := FnIs.of Try.func75 (by kernel_rfl) (by kernel_rfl) (by kernel_rfl) (by decide) (fun vs w => Try.call75 vs w)
theorem c75 : C_impl_IsFinite Try.prog 75 := k_impl_IsFinite fn75
theorem fn100 : Is_impl_areFinite_1 Try.prog 100 75 := FnIs.of Try.func100 (by kernel_rfl) (by kernel_rfl) (by kernel_rfl) (by decide) (fun vs w => Try.call100 vs w)
theorem c100 : C_impl_areFinite_1 Try.prog 100 := k_impl_areFinite_1 fn100 c75
theorem fn50 : Is_impl_areFinite Try.prog 50 98 100 := FnIs.of Try.func50 (by kernel_rfl) (by kernel_rfl) (by kernel_rfl) (by decide) (fun vs w => Try.call50 vs w)
theorem c50 : C_impl_areFinite Try.prog 50 := k_impl_areFinite fn50 c98 c100
theorem fn40 : Is_impl_IsSeries Try.prog 40 50 := FnIs.of Try.func40 (by kernel_rfl) (by kernel_rfl) (by kernel_rfl) (by decide) (fun vs w => Try.call40 vs w)
theorem c40 : C_impl_IsSeries Try.prog 40 := k_impl_IsSeries fn40 c50
theorem fn110 : Is_impl_areColumns_1 Try.prog 110 40 := FnIs.of Try.func110 (by kernel_rfl) (by kernel_rfl) (by kernel_rfl) (by decide) (fun vs w => Try.call110 vs w)
theorem c110 : C_impl_areColumns_1 Try.prog 110 := k_impl_areColumns_1 fn110 c40
theorem fn140 : Is_slices_IndexFunc_____float32___float32_ Try.prog 140 := FnIs.of Try.func140 (by kernel_rfl) (by kernel_rfl) (by kernel_rfl) (by decide) (fun vs w => Try.call140 vs w)
theorem c140 : C_slices_IndexFunc_____float32___float32_ Try.prog 140 := k_slices_IndexFunc_____float32___float32_ fn140
theorem fn109 : Is_slices_ContainsFunc_____float32___float32_ Try.prog 109 140 := FnIs.of Try.func109 (by kernel_rfl) (by kernel_rfl) (by kernel_rfl) (by decide) (fun vs w => Try.call109 vs w)
theorem c109 : C_slices_ContainsFunc_____float32___float32_ Try.prog 109 := k_slices_ContainsFunc_____float32___float32_ fn109 c140
theorem fn69 : Is_impl_areColumns Try.prog 69 110 109 := FnIs.of Try.func69 (by kernel_rfl) (by kernel_rfl) (by kernel_rfl) (by decide) (fun vs w => Try.call69 vs w)
theorem c69 : C_impl_areColumns Try.prog 69 := k_impl_areColumns fn69 c110 c109
theorem fn44 : Is_impl_dot Try.prog 44 := FnIs.of Try.func44 (by kernel_rfl) (by kernel_rfl) (by kernel_rfl) (by decide) (fun vs w => Try.call44 vs w)
theorem c44 : C_impl_dot Try.prog 44 := k_impl_dot fn44
theorem fn97 : Is_impl_absolute Try.prog 97 := FnIs.of Try.func97 (by kernel_rfl) (by kernel_rfl) (by kernel_rfl) (by decide) (fun vs w => Try.call97 vs w)
theorem c97 : C_impl_absolute Try.prog 97 := k_impl_absolute fn97
theorem fn62 : Is_impl_ifAll Try.prog 62 50 := FnIs.of Try.func62 (by kernel_rfl) (by kernel_rfl) (by kernel_rfl) (by decide) (fun vs w => Try.call62 vs w)
theorem c62 : C_impl_ifAll Try.prog 62 := k_impl_ifAll fn62 c50
theorem fn70 : Is_impl_columnFit Try.prog 70 44 50 97 62 := FnIs.of Try.func70 (by kernel_rfl) (by kernel_rfl) (by kernel_rfl) (by decide) (fun vs w => Try.call70 vs w)
theorem c70 : C_impl_columnFit Try.prog 70 := k_impl_columnFit fn70 c44 c50 c97 c62
theorem fn24 : Is_impl_ColumnFit Try.prog 24 40 69 70 := FnIs.of Try.func24 (by kernel_rfl) (by kernel_rfl) (by kernel_rfl) (by decide) (fun vs w => Try.call24 vs w)
theorem c24 : C_impl_ColumnFit Try.prog 24 := k_impl_ColumnFit fn24 c40 c69 c70
theorem fn129 : Is_spec_l01Finite Try.prog 129 := FnIs.of Try.func129 (by kernel_rfl) (by kernel_rfl) (by kernel_rfl) (by decide) (fun vs w => Try.call129 vs w)
theorem c129 : C_spec_l01Finite Try.prog 129 := k_spec_l01Finite fn129
theorem fn104 : Is_spec_l02Finite Try.prog 104 129 := FnIs.of Try.func104 (by kernel_rfl) (by kernel_rfl) (by kernel_rfl) (by decide) (fun vs w => Try.call104 vs w)
theorem c104 : C_spec_l02Finite Try.prog 104 := k_spec_l02Finite fn104 c129
theorem fn54 : Is_spec_l02Series Try.prog 54 104 := FnIs.of Try.func54 (by kernel_rfl) (by kernel_rfl) (by kernel_rfl) (by decide) (fun vs w => Try.call54 vs w)
theorem c54 : C_spec_l02Series Try.prog 54 := k_spec_l02Series fn54 c104
theorem fn71 : Is_spec_l03Columns Try.prog 71 54 := FnIs.of Try.func71 (by kernel_rfl) (by kernel_rfl) (by kernel_rfl) (by decide) (fun vs w => Try.call71 vs w)
theorem c71 : C_spec_l03Columns Try.prog 71 := k_spec_l03Columns fn71 c54
theorem fn141 : Is_spec_l03Size Try.prog 141 := FnIs.of Try.func141 (by kernel_rfl) (by kernel_rfl) (by kernel_rfl) (by decide) (fun vs w => Try.call141 vs w)
theorem c141 : C_spec_l03Size Try.prog 141 := k_spec_l03Size fn141
theorem fn111 : Is_spec_l03Solve Try.prog 111 141 104 := FnIs.of Try.func111 (by kernel_rfl) (by kernel_rfl) (by kernel_rfl) (by decide) (fun vs w => Try.call111 vs w)
theorem c111 : C_spec_l03Solve Try.prog 111 := k_spec_l03Solve fn111 c141 c104
theorem fn72 : Is_spec_l03Fit Try.prog 72 104 111 := FnIs.of Try.func72 (by kernel_rfl) (by kernel_rfl) (by kernel_rfl) (by decide) (fun vs w => Try.call72 vs w)
theorem c72 : C_spec_l03Fit Try.prog 72 := k_spec_l03Fit fn72 c104 c111
theorem fn25 : Is_spec_ColumnFit Try.prog 25 71 54 72 := FnIs.of Try.func25 (by kernel_rfl) (by kernel_rfl) (by kernel_rfl) (by decide) (fun vs w => Try.call25 vs w)
theorem c25 : C_spec_ColumnFit Try.prog 25 := k_spec_ColumnFit fn25 c71 c54 c72
theorem fn74 : Is_impl_fitted Try.prog 74 := FnIs.of Try.func74 (by kernel_rfl) (by kernel_rfl) (by kernel_rfl) (by decide) (fun vs w => Try.call74 vs w)
theorem c74 : C_impl_fitted Try.prog 74 := k_impl_fitted fn74
theorem fn73 : Is_impl_less Try.prog 73 := FnIs.of Try.func73 (by kernel_rfl) (by kernel_rfl) (by kernel_rfl) (by decide) (fun vs w => Try.call73 vs w)
theorem c73 : C_impl_less Try.prog 73 := k_impl_less fn73
theorem fn26 : Is_impl_RestOfFit Try.prog 26 24 74 73 44 50 75 := FnIs.of Try.func26 (by kernel_rfl) (by kernel_rfl) (by kernel_rfl) (by decide) (fun vs w => Try.call26 vs w)
theorem c26 : C_impl_RestOfFit Try.prog 26 := k_impl_RestOfFit fn26 c24 c74 c73 c44 c50 c75
theorem fn27 : Is_impl_FittedOf Try.prog 27 69 50 74 62 := FnIs.of Try.func27 (by kernel_rfl) (by kernel_rfl) (by kernel_rfl) (by decide) (fun vs w => Try.call27 vs w)
theorem c27 : C_impl_FittedOf Try.prog 27 := k_impl_FittedOf fn27 c69 c50 c74 c62
theorem fn151 : ExtIs Try.prog 151 Extern.MathFloatBits.float32bits := ExtIs.of Try.func151 (by kernel_rfl) (by kernel_rfl) (by kernel_rfl) (by kernel_rfl)
theorem c151 : C_math_Float32bits Try.prog 151 := k_math_Float32bits fn151
theorem fn142 : Is_spec_l01Bits Try.prog 142 151 := FnIs.of Try.func142 (by kernel_rfl) (by kernel_rfl) (by kernel_rfl) (by decide) (fun vs w => Try.call142 vs w)
theorem c142 : C_spec_l01Bits Try.prog 142 := k_spec_l01Bits fn142 c151
theorem fn112 : Is_spec_l01Same Try.prog 112 142 := FnIs.of Try.func112 (by kernel_rfl) (by kernel_rfl) (by kernel_rfl) (by decide) (fun vs w => Try.call112 vs w)
theorem c112 : C_spec_l01Same Try.prog 112 := k_spec_l01Same fn112 c142
theorem fn76 : Is_spec_SameNumber Try.prog 76 112 := FnIs.of Try.func76 (by kernel_rfl) (by kernel_rfl) (by kernel_rfl) (by decide) (fun vs w => Try.call76 vs w)
theorem c76 : C_spec_SameNumber Try.prog 76 := k_spec_SameNumber fn76 c112
theorem fn28 : Is_laws_b10List Try.prog 28 76 := FnIs.of Try.func28 (by kernel_rfl) (by kernel_rfl) (by kernel_rfl) (by decide) (fun vs w => Try.call28 vs w)
theorem c28 : C_laws_b10List Try.prog 28 := k_laws_b10List fn28 c76
theorem fn13 : Is_laws_b10Gap Try.prog 13 := FnIs.of Try.func13 (by kernel_rfl) (by kernel_rfl) (by kernel_rfl) (by decide) (fun vs w => Try.call13 vs w)
theorem c13 : C_laws_b10Gap Try.prog 13 := k_laws_b10Gap fn13
theorem fn77 : Is_impl_within Try.prog 77 := FnIs.of Try.func77 (by kernel_rfl) (by kernel_rfl) (by kernel_rfl) (by decide) (fun vs w => Try.call77 vs w)
theorem c77 : C_impl_within Try.prog 77 := k_impl_within fn77
theorem fn156 : Is_bits_Mul64 Try.prog 156 := FnIs.of Try.func156 (by kernel_rfl) (by kernel_rfl) (by kernel_rfl) (by decide) (fun vs w => Try.call156 vs w)
theorem c156 : C_bits_Mul64 Try.prog 156 := k_bits_Mul64 fn156
theorem fn152 : Is_bits_Mul Try.prog 152 155 156 := FnIs.of Try.func152 (by kernel_rfl) (by kernel_rfl) (by kernel_rfl) (by decide) (fun vs w => Try.call152 vs w)
theorem c152 : C_bits_Mul Try.prog 152 := k_bits_Mul fn152 c156
theorem fn143 : Is_slices_Repeat___float32_float32_ Try.prog 143 152 := FnIs.of Try.func143 (by kernel_rfl) (by kernel_rfl) (by kernel_rfl) (by decide) (fun vs w => Try.call143 vs w)
theorem c143 : C_slices_Repeat___float32_float32_ Try.prog 143 := k_slices_Repeat___float32_float32_ fn143 c152
theorem fn113 : Is_impl_ones Try.prog 113 143 := FnIs.of Try.func113 (by kernel_rfl) (by kernel_rfl) (by kernel_rfl) (by decide) (fun vs w => Try.call113 vs w)
theorem c113 : C_impl_ones Try.prog 113 := k_impl_ones fn113 c143
theorem fn61 : Is_slices_Clone___float32_float32_ Try.prog 61 := FnIs.of Try.func61 (by kernel_rfl) (by kernel_rfl) (by kernel_rfl) (by decide) (fun vs w => Try.call61 vs w)
theorem c61 : C_slices_Clone___float32_float32_ Try.prog 61 := k_slices_Clone___float32_float32_ fn61
theorem fn78 : Is_impl_lagColumns Try.prog 78 113 61 := FnIs.of Try.func78 (by kernel_rfl) (by kernel_rfl) (by kernel_rfl) (by decide) (fun vs w => Try.call78 vs w)
theorem c78 : C_impl_lagColumns Try.prog 78 := k_impl_lagColumns fn78 c113 c61
theorem fn29 : Is_impl_LagColumns Try.prog 29 40 77 78 := FnIs.of Try.func29 (by kernel_rfl) (by kernel_rfl) (by kernel_rfl) (by decide) (fun vs w => Try.call29 vs w)
theorem c29 : C_impl_LagColumns Try.prog 29 := k_impl_LagColumns fn29 c40 c77 c78
theorem fn114 : Is_impl_areMore_1 Try.prog 114 75 := FnIs.of Try.func114 (by kernel_rfl) (by kernel_rfl) (by kernel_rfl) (by decide) (fun vs w => Try.call114 vs w)
theorem c114 : C_impl_areMore_1 Try.prog 114 := k_impl_areMore_1 fn114 c75
theorem fn79 : Is_impl_areMore Try.prog 79 98 114 := FnIs.of Try.func79 (by kernel_rfl) (by kernel_rfl) (by kernel_rfl) (by decide) (fun vs w => Try.call79 vs w)
theorem c79 : C_impl_areMore Try.prog 79 := k_impl_areMore fn79 c98 c114
theorem fn121 : Is_impl_isFinite64 Try.prog 121 := FnIs.of Try.func121 (by kernel_rfl) (by kernel_rfl) (by kernel_rfl) (by decide) (fun vs w => Try.call121 vs w)
theorem c121 : C_impl_isFinite64 Try.prog 121 := k_impl_isFinite64 fn121
theorem fn145 : ExtIs Try.prog 145 Extern.MathFloatBits.float64frombits := ExtIs.of Try.func145 (by kernel_rfl) (by kernel_rfl) (by kernel_rfl) (by kernel_rfl)
theorem c145 : C_math_Float64frombits Try.prog 145 := k_math_Float64frombits fn145
theorem fn122 : Is_math_NaN Try.prog 122 145 := FnIs.of Try.func122 (by kernel_rfl) (by kernel_rfl) (by kernel_rfl) (by decide) (fun vs w => Try.call122 vs w)
theorem c122 : C_math_NaN Try.prog 122 := k_math_NaN fn122 c145
theorem fn146 : ExtIs Try.prog 146 Extern.MathFloatBits.float64bits := ExtIs.of Try.func146 (by kernel_rfl) (by kernel_rfl) (by kernel_rfl) (by kernel_rfl)
theorem c146 : C_math_Float64bits Try.prog 146 := k_math_Float64bits fn146
theorem fn123 : Is_math_Abs Try.prog 123 146 145 := FnIs.of Try.func123 (by kernel_rfl) (by kernel_rfl) (by kernel_rfl) (by decide) (fun vs w => Try.call123 vs w)
theorem c123 : C_math_Abs Try.prog 123 := k_math_Abs fn123 c146 c145
theorem fn124 : Is_impl_fraction Try.prog 124 := FnIs.of Try.func124 (by kernel_rfl) (by kernel_rfl) (by kernel_rfl) (by decide) (fun vs w => Try.call124 vs w)
theorem c124 : C_impl_fraction Try.prog 124 := k_impl_fraction fn124
theorem fn125 : Is_impl_sine Try.prog 125 124 := FnIs.of Try.func125 (by kernel_rfl) (by kernel_rfl) (by kernel_rfl) (by decide) (fun vs w => Try.call125 vs w)
theorem c125 : C_impl_sine Try.prog 125 := k_impl_sine fn125 c124
theorem fn84 : Is_impl_PhasorOf Try.prog 84 121 122 123 124 125 := FnIs.of Try.func84 (by kernel_rfl) (by kernel_rfl) (by kernel_rfl) (by decide) (fun vs w => Try.call84 vs w)
theorem c84 : C_impl_PhasorOf Try.prog 84 := k_impl_PhasorOf fn84 c121 c122 c123 c124 c125
theorem fn80 : Is_impl_harmonics Try.prog 80 84 := FnIs.of Try.func80 (by kernel_rfl) (by kernel_rfl) (by kernel_rfl) (by decide) (fun vs w => Try.call80 vs w)
theorem c80 : C_impl_harmonics Try.prog 80 := k_impl_harmonics fn80 c84
theorem fn65 : Is_impl_ifFinite Try.prog 65 75 := FnIs.of Try.func65 (by kernel_rfl) (by kernel_rfl) (by kernel_rfl) (by decide) (fun vs w => Try.call65 vs w)
theorem c65 : C_impl_ifFinite Try.prog 65 := k_impl_ifFinite fn65 c75
theorem fn30 : Is_impl_HarmonicAt Try.prog 30 50 79 77 80 44 65 := FnIs.of Try.func30 (by kernel_rfl) (by kernel_rfl) (by kernel_rfl) (by decide) (fun vs w => Try.call30 vs w)
theorem c30 : C_impl_HarmonicAt Try.prog 30 := k_impl_HarmonicAt fn30 c50 c79 c77 c80 c44 c65
theorem fn31 : Is_impl_HarmonicFit Try.prog 31 40 79 77 80 69 70 := FnIs.of Try.func31 (by kernel_rfl) (by kernel_rfl) (by kernel_rfl) (by decide) (fun vs w => Try.call31 vs w)
theorem c31 : C_impl_HarmonicFit Try.prog 31 := k_impl_HarmonicFit fn31 c40 c79 c77 c80 c69 c70
theorem fn5 : Is_laws_FnColumns Try.prog 5 7 8 12 24 25 26 27 28 13 29 30 31 := FnIs.of Try.func5 (by kernel_rfl) (by kernel_rfl) (by kernel_rfl) (by decide) (fun vs w => Try.call5 vs w)
theorem c5 : C_laws_FnColumns Try.prog 5 := k_laws_FnColumns fn5 c7 c8 c12 c24 c25 c26 c27 c28 c13 c29 c30 c31
theorem law (xs : List AV) (h : ShapesT [.one (.si .u8), .one (.si .u8)] xs) : VCall Try.prog 5 (AV.viewL [] 0 xs) (.b true) := by
  obtain ⟨_, _, rfl, ⟨_, rfl, _, _⟩, _, _, rfl, ⟨_, rfl, _, _⟩, rfl⟩ := h
  exact c5 _ _
set_option maxRecDepth 100000 in
theorem lifted (os : Os) (started : os.Started) (H : Type) (enc : TypeId × Value → H) :
    ReturnsInHanded {} Try.checked os 5 .any (Rows.fnColumnsSpec.pre6 enc Try.prog Try.f5 Rows.fnColumnsRow.domain false) (Rows.fnColumnsSpec.post enc Try.prog Try.f5 false true false false) := by
  refine returnsInHanded_of_change (C := Try.checked) own started (by kernel_rfl) Try.func5
    (ChangeSpec.witness6 (enc := enc) (C := Try.checked) false ⟨#[], #[.slice none 0 0, .slice none 0 0], []⟩ 8 (by kernel_rfl) (by kernel_rfl) (by kernel_rfl) (by kernel_rfl)) ?_
  intro W base args ds gs before hval hW _ _
  exact law_post (P := Try.prog) (fn := Try.f5) (tys := [.one (.si .u8), .one (.si .u8)]) (by kernel_rfl) (by kernel_rfl) (by kernel_rfl) rfl
    (fun H ds hds => by
      match ds, hds with
      | [d0, d1], _ => rfl) (rt := 4) (by kernel_rfl) (by kernel_rfl) (fun vs w => Try.call5 vs w) law enc W base args ds gs before hval hW

theorem proved : Rows.FnColumnsSaid :=
  OpenClaim.holds_of_wide 5 Try.f5 rfl rfl rfl rfl rfl rfl rfl ⟨rfl, rfl, rfl, rfl, rfl⟩ rfl rfl rfl rfl rfl (by kernel_rfl) Try.func5 (by kernel_rfl)
    (of_decide_eq_true (by kernel_rfl)) (by unfold Func.isWrapper; first | (rw [if_pos (by decide +kernel)]; kernel_rfl) | (rw [if_neg (by decide +kernel)]; exact ⟨rfl, rfl⟩))
    (fun os started H enc _ => lifted os started H enc)
end Go.Proofs.Ytdffgjembkanoaa.FnColumns
