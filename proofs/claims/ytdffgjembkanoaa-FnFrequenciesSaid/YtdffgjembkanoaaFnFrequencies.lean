/- The statement FnFrequencies, proved: whatever the input, the law returns true, and the input reads as it did. -/
import Derived.Test.YtdffgjembkanoaaRows
import Derived.Test.YtdffgjembkanoaaLvFnDX
import Derived.Test.YtdffgjembkanoaaLvEvX
import Derived.Test.YtdffgjembkanoaaLvFnAA
import Derived.Test.YtdffgjembkanoaaLvFnBX
import Derived.Test.YtdffgjembkanoaaLvFnBB
import Derived.Test.YtdffgjembkanoaaLvFnCC
import Derived.Test.YtdffgjembkanoaaLvFnHX
import Derived.Test.YtdffgjembkanoaaLvCutX
import Derived.Test.YtdffgjembkanoaaLvFnTT
import Derived.Test.YtdffgjembkanoaaLvFnUU
import Derived.Test.YtdffgjembkanoaaLvFnWX
import Derived.Test.YtdffgjembkanoaaLvLawII
import Derived.JoinedOf
namespace Go.Proofs.Ytdffgjembkanoaa.FnFrequencies
open Go.Proofs.LV Go.ChangeShapes Go.WideShapes Go.ChangeAt Go.RowKit
set_option linter.unusedVariables false
set_option linter.unusedSimpArgs false
theorem own : ownKnob Try.prog.godebug = none := by kernel_rfl
theorem fn7 : Is_laws_b10Long Try.prog 7 := FnIs.of Try.func7 (by kernel_rfl) (by kernel_rfl) (by kernel_rfl) (by decide) (fun vs w => Try.call7 vs w)
theorem c7 : C_laws_b10Long Try.prog 7 := k_laws_b10Long fn7
theorem fn8 : Is_laws_b10At Try.prog 8 := FnIs.of Try.func8 (by kernel_rfl) (by kernel_rfl) (by kernel_rfl) (by decide) (fun vs w => Try.call8 vs w)
theorem c8 : C_laws_b10At Try.prog 8 := k_laws_b10At fn8
theorem fn52 : Is_spec_l00From Try.prog 52 := FnIs.of Try.func52 (by kernel_rfl) (by kernel_rfl) (by kernel_rfl) (by decide) (fun vs w => Try.call52 vs w)
theorem c52 : C_spec_l00From Try.prog 52 := k_spec_l00From fn52
theorem fn138 : Is_spec_l00Src__next Try.prog 138 := FnIs.of Try.func138 (by kernel_rfl) (by kernel_rfl) (by kernel_rfl) (by decide) (fun vs w => Try.call138 vs w)
theorem c138 : C_spec_l00Src__next Try.prog 138 := k_spec_l00Src__next fn138
theorem fn103 : Is_spec_l00Src__pick Try.prog 103 138 := FnIs.of Try.func103 (by kernel_rfl) (by kernel_rfl) (by kernel_rfl) (by decide) (fun vs w => Try.call103 vs w)
theorem c103 : C_spec_l00Src__pick Try.prog 103 := k_spec_l00Src__pick fn103 c138
theorem fn53 : Is_spec_l03DrawOk Try.prog 53 103 := FnIs.of Try.func53 (by kernel_rfl) (by kernel_rfl) (by kernel_rfl) (by decide) (fun vs w => Try.call53 vs w)
theorem c53 : C_spec_l03DrawOk Try.prog 53 := k_spec_l03DrawOk fn53 c103
theorem fn12 : Is_spec_B10List Try.prog 12 52 53 := FnIs.of Try.func12 (by kernel_rfl) (by kernel_rfl) (by kernel_rfl) (by decide) (fun vs w => Try.call12 vs w)
theorem c12 : C_spec_B10List Try.prog 12 := k_spec_B10List fn12 c52 c53
theorem fn136 : Is_slices_IndexFunc___float32_float32_ Try.prog 136 := FnIs.of Try.func136 (by kernel_rfl) (by kernel_rfl) (by kernel_rfl) (by decide) (fun vs w => Try.call136 vs w)
theorem c136 : C_slices_IndexFunc___float32_float32_ Try.prog 136 := k_slices_IndexFunc___float32_float32_ fn136
theorem fn98 : Is_slices_ContainsFunc___float32_float32_ Try.prog 98 136 := FnIs.of Try.func98 (by kernel_rfl) (by kernel_rfl) (by kernel_rfl) (by decide) (fun vs w => Try.call98 vs w)
theorem c98 : C_slices_ContainsFunc___float32_float32_ Try.prog 98 := k_slices_ContainsFunc___float32_float32_ fn98 c136
theorem fn75 : Is_impl_IsFinite Try.prog 75 := FnIs.of Try.func75 (by kernel_rfl) (by kernel_rfl) (by kernel_rfl) (by decide) (fun vs w => Try.call75 vs w)
theorem c75 : C_impl_IsFinite Try.prog 75 := k_impl_IsFinite fn75
theorem fn100 : Is_impl_areFinite_1 Try.prog 100 75 := FnIs.of Try.func100 (by kernel_rfl) (by kernel_rfl) (by kernel_rfl) (by decide) (fun vs w => Try.call100 vs w)
theorem c100 : C_impl_areFinite_1 Try.prog 100 := k_impl_areFinite_1 fn100 c75
theorem fn50 : Is_impl_areFinite Try.prog 50 98 100 := FnIs.of Try.func50 (by kernel_rfl) (by kernel_rfl) (by kernel_rfl) (by decide) (fun vs w => Try.call50 vs w)
theorem c50 : C_impl_areFinite Try.prog 50 := k_impl_areFinite fn50 c98 c100
theorem fn40 : Is_impl_IsSeries Try.prog 40 50 := FnIs.of Try.func40 (by kernel_rfl) (by kernel_rfl) (by kernel_rfl) (by decide) (fun vs w => Try.call40 vs w)
theorem c40 : C_impl_IsSeries Try.prog 40 := k_impl_IsSeries fn40 c50
theorem fn121 : Is_impl_isFinite64 Try.prog 121 := FnIs.of Try.func121 (by kernel_rfl) (by kernel_rfl) (by kernel_rfl) (by decide) (fun vs w => Try.call121 vs w)
theorem c121 : C_impl_isFinite64 Try.prog 121 := k_impl_isFinite64 fn121
theorem fn145 : ExtIs Try.prog 145 Extern.MathFloatBits.float64frombits := ExtIs.of Try.func145 (by kernel_rfl) (by kernel_rfl) (by kernel_rfl) (by kernel_rfl)
theorem c145 : C_math_Float64frombits Try.prog 145 := k_math_Float64frombits fn145
theorem fn122 : Is_math_NaN Try.prog 122 145 := FnIs.of Try.func122 (by kernel_rfl) (by kernel_rfl) (by kernel_rfl) (by decide) (fun vs w => Try.call122 vs w)
theorem c122 : C_math_NaN Try.prog 122 := k_math_NaN fn122 c145
theorem fn146 : ExtIs Try.prog 146 Extern.MathFloatBits.float64bits := ExtIs.of Try.func146 (by kernel_rfl) (by kernel_rfl) (by kernel_rfl) (by kernel_rfl)
theorem c146 : C_math_Float64bits Try.prog 146 := k_math_Float64bits fn146
theorem fn123 : Is_math_Abs Try.prog 123 146 145 := FnIs.of Try.func123 (by kernel_rfl) (by kernel_rfl) (by kernel_rfl) (by decide) (fun vs w => Try.call123 vs w)
theorem c123 : C_math_Abs Try.prog 123 := k_math_Abs fn123 c146 c145
theorem fn124 : Is_impl_fraction Try.prog 124 := FnIs.of Try.func124 (by kernel_rfl) (by kernel_rfl) (by kernel_rfl) (by decide) (fun vs w => Try.call124 vs w)
theorem c124 : C_impl_fraction Try.prog 124 := k_impl_fraction fn124
theorem fn125 : Is_impl_sine Try.prog 125 124 := FnIs.of Try.func125 (by kernel_rfl) (by kernel_rfl) (by kernel_rfl) (by decide) (fun vs w => Try.call125 vs w)
theorem c125 : C_impl_sine Try.prog 125 := k_impl_sine fn125 c124
theorem fn84 : Is_impl_PhasorOf Try.prog 84 121 122 123 124 125 := FnIs.of Try.func84 (by kernel_rfl) (by kernel_rfl) (by kernel_rfl) (by decide) (fun vs w => Try.call84 vs w)
theorem c84 : C_impl_PhasorOf Try.prog 84 := k_impl_PhasorOf fn84 c121 c122 c123 c124 c125
theorem fn115 : Is_impl_ScaleComplex Try.prog 115 := FnIs.of Try.func115 (by kernel_rfl) (by kernel_rfl) (by kernel_rfl) (by decide) (fun vs w => Try.call115 vs w)
theorem c115 : C_impl_ScaleComplex Try.prog 115 := k_impl_ScaleComplex fn115
theorem fn96 : Is_impl_plus Try.prog 96 := FnIs.of Try.func96 (by kernel_rfl) (by kernel_rfl) (by kernel_rfl) (by decide) (fun vs w => Try.call96 vs w)
theorem c96 : C_impl_plus Try.prog 96 := k_impl_plus fn96
theorem fn81 : Is_impl_lineOf Try.prog 81 84 115 96 := FnIs.of Try.func81 (by kernel_rfl) (by kernel_rfl) (by kernel_rfl) (by decide) (fun vs w => Try.call81 vs w)
theorem c81 : C_impl_lineOf Try.prog 81 := k_impl_lineOf fn81 c84 c115 c96
theorem fn144 : Is_slices_IndexFunc___complex64_complex64_ Try.prog 144 := FnIs.of Try.func144 (by kernel_rfl) (by kernel_rfl) (by kernel_rfl) (by decide) (fun vs w => Try.call144 vs w)
theorem c144 : C_slices_IndexFunc___complex64_complex64_ Try.prog 144 := k_slices_IndexFunc___complex64_complex64_ fn144
theorem fn116 : Is_slices_ContainsFunc___complex64_complex64_ Try.prog 116 144 := FnIs.of Try.func116 (by kernel_rfl) (by kernel_rfl) (by kernel_rfl) (by decide) (fun vs w => Try.call116 vs w)
theorem c116 : C_slices_ContainsFunc___complex64_complex64_ Try.prog 116 := k_slices_ContainsFunc___complex64_complex64_ fn116 c144
theorem fn118 : Is_impl_IsFiniteComplex Try.prog 118 75 := FnIs.of Try.func118 (by kernel_rfl) (by kernel_rfl) (by kernel_rfl) (by decide) (fun vs w => Try.call118 vs w)
theorem c118 : C_impl_IsFiniteComplex Try.prog 118 := k_impl_IsFiniteComplex fn118 c75
theorem fn117 : Is_impl_areLines_1 Try.prog 117 118 := FnIs.of Try.func117 (by kernel_rfl) (by kernel_rfl) (by kernel_rfl) (by decide) (fun vs w => Try.call117 vs w)
theorem c117 : C_impl_areLines_1 Try.prog 117 := k_impl_areLines_1 fn117 c118
theorem fn82 : Is_impl_areLines Try.prog 82 116 117 := FnIs.of Try.func82 (by kernel_rfl) (by kernel_rfl) (by kernel_rfl) (by decide) (fun vs w => Try.call82 vs w)
theorem c82 : C_impl_areLines Try.prog 82 := k_impl_areLines fn82 c116 c117
theorem fn32 : Is_impl_LinesOf Try.prog 32 40 81 82 := FnIs.of Try.func32 (by kernel_rfl) (by kernel_rfl) (by kernel_rfl) (by decide) (fun vs w => Try.call32 vs w)
theorem c32 : C_impl_LinesOf Try.prog 32 := k_impl_LinesOf fn32 c40 c81 c82
theorem fn77 : Is_impl_within Try.prog 77 := FnIs.of Try.func77 (by kernel_rfl) (by kernel_rfl) (by kernel_rfl) (by decide) (fun vs w => Try.call77 vs w)
theorem c77 : C_impl_within Try.prog 77 := k_impl_within fn77
theorem fn119 : Is_impl_parts Try.prog 119 := FnIs.of Try.func119 (by kernel_rfl) (by kernel_rfl) (by kernel_rfl) (by decide) (fun vs w => Try.call119 vs w)
theorem c119 : C_impl_parts Try.prog 119 := k_impl_parts fn119
theorem fn120 : Is_impl_times Try.prog 120 := FnIs.of Try.func120 (by kernel_rfl) (by kernel_rfl) (by kernel_rfl) (by decide) (fun vs w => Try.call120 vs w)
theorem c120 : C_impl_times Try.prog 120 := k_impl_times fn120
theorem fn83 : Is_impl_MulComplex Try.prog 83 119 120 := FnIs.of Try.func83 (by kernel_rfl) (by kernel_rfl) (by kernel_rfl) (by decide) (fun vs w => Try.call83 vs w)
theorem c83 : C_impl_MulComplex Try.prog 83 := k_impl_MulComplex fn83 c119 c120
theorem fn62 : Is_impl_ifAll Try.prog 62 50 := FnIs.of Try.func62 (by kernel_rfl) (by kernel_rfl) (by kernel_rfl) (by decide) (fun vs w => Try.call62 vs w)
theorem c62 : C_impl_ifAll Try.prog 62 := k_impl_ifAll fn62 c50
theorem fn33 : Is_impl_BackOfLines Try.prog 33 77 82 84 83 62 := FnIs.of Try.func33 (by kernel_rfl) (by kernel_rfl) (by kernel_rfl) (by decide) (fun vs w => Try.call33 vs w)
theorem c33 : C_impl_BackOfLines Try.prog 33 := k_impl_BackOfLines fn33 c77 c82 c84 c83 c62
theorem fn126 : Is_impl_power Try.prog 126 119 := FnIs.of Try.func126 (by kernel_rfl) (by kernel_rfl) (by kernel_rfl) (by decide) (fun vs w => Try.call126 vs w)
theorem c126 : C_impl_power Try.prog 126 := k_impl_power fn126 c119
theorem fn85 : Is_impl_PowerOf Try.prog 85 126 := FnIs.of Try.func85 (by kernel_rfl) (by kernel_rfl) (by kernel_rfl) (by decide) (fun vs w => Try.call85 vs w)
theorem c85 : C_impl_PowerOf Try.prog 85 := k_impl_PowerOf fn85 c126
theorem fn34 : Is_impl_LinePowers Try.prog 34 32 85 62 := FnIs.of Try.func34 (by kernel_rfl) (by kernel_rfl) (by kernel_rfl) (by decide) (fun vs w => Try.call34 vs w)
theorem c34 : C_impl_LinePowers Try.prog 34 := k_impl_LinePowers fn34 c32 c85 c62
theorem fn13 : Is_laws_b10Gap Try.prog 13 := FnIs.of Try.func13 (by kernel_rfl) (by kernel_rfl) (by kernel_rfl) (by decide) (fun vs w => Try.call13 vs w)
theorem c13 : C_laws_b10Gap Try.prog 13 := k_laws_b10Gap fn13
theorem fn129 : Is_spec_l01Finite Try.prog 129 := FnIs.of Try.func129 (by kernel_rfl) (by kernel_rfl) (by kernel_rfl) (by decide) (fun vs w => Try.call129 vs w)
theorem c129 : C_spec_l01Finite Try.prog 129 := k_spec_l01Finite fn129
theorem fn104 : Is_spec_l02Finite Try.prog 104 129 := FnIs.of Try.func104 (by kernel_rfl) (by kernel_rfl) (by kernel_rfl) (by decide) (fun vs w => Try.call104 vs w)
theorem c104 : C_spec_l02Finite Try.prog 104 := k_spec_l02Finite fn104 c129
theorem fn54 : Is_spec_l02Series Try.prog 54 104 := FnIs.of Try.func54 (by kernel_rfl) (by kernel_rfl) (by kernel_rfl) (by decide) (fun vs w => Try.call54 vs w)
theorem c54 : C_spec_l02Series Try.prog 54 := k_spec_l02Series fn54 c104
theorem fn68 : Is_spec_l03Pair Try.prog 68 54 := FnIs.of Try.func68 (by kernel_rfl) (by kernel_rfl) (by kernel_rfl) (by decide) (fun vs w => Try.call68 vs w)
theorem c68 : C_spec_l03Pair Try.prog 68 := k_spec_l03Pair fn68 c54
theorem fn55 : Is_spec_l00In Try.prog 55 := FnIs.of Try.func55 (by kernel_rfl) (by kernel_rfl) (by kernel_rfl) (by decide) (fun vs w => Try.call55 vs w)
theorem c55 : C_spec_l00In Try.prog 55 := k_spec_l00In fn55
theorem fn153 : ExtIs Try.prog 153 Extern.MathFloatBits.float32frombits := ExtIs.of Try.func153 (by kernel_rfl) (by kernel_rfl) (by kernel_rfl) (by kernel_rfl)
theorem c153 : C_math_Float32frombits Try.prog 153 := k_math_Float32frombits fn153
theorem fn147 : Is_spec_l01From Try.prog 147 153 := FnIs.of Try.func147 (by kernel_rfl) (by kernel_rfl) (by kernel_rfl) (by decide) (fun vs w => Try.call147 vs w)
theorem c147 : C_spec_l01From Try.prog 147 := k_spec_l01From fn147 c153
theorem fn148 : Is_spec_l01SineWide Try.prog 148 122 := FnIs.of Try.func148 (by kernel_rfl) (by kernel_rfl) (by kernel_rfl) (by decide) (fun vs w => Try.call148 vs w)
theorem c148 : C_spec_l01SineWide Try.prog 148 := k_spec_l01SineWide fn148 c122
theorem fn106 : Is_spec_l01Narrow Try.prog 106 := FnIs.of Try.func106 (by kernel_rfl) (by kernel_rfl) (by kernel_rfl) (by decide) (fun vs w => Try.call106 vs w)
theorem c106 : C_spec_l01Narrow Try.prog 106 := k_spec_l01Narrow fn106
theorem fn128 : Is_spec_l01Phasor Try.prog 128 147 148 106 := FnIs.of Try.func128 (by kernel_rfl) (by kernel_rfl) (by kernel_rfl) (by decide) (fun vs w => Try.call128 vs w)
theorem c128 : C_spec_l01Phasor Try.prog 128 := k_spec_l01Phasor fn128 c147 c148 c106
theorem fn127 : Is_spec_l01Scale Try.prog 127 := FnIs.of Try.func127 (by kernel_rfl) (by kernel_rfl) (by kernel_rfl) (by decide) (fun vs w => Try.call127 vs w)
theorem c127 : C_spec_l01Scale Try.prog 127 := k_spec_l01Scale fn127
theorem fn86 : Is_spec_l03Line Try.prog 86 128 127 := FnIs.of Try.func86 (by kernel_rfl) (by kernel_rfl) (by kernel_rfl) (by decide) (fun vs w => Try.call86 vs w)
theorem c86 : C_spec_l03Line Try.prog 86 := k_spec_l03Line fn86 c128 c127
theorem fn87 : Is_spec_l01CFinite Try.prog 87 129 := FnIs.of Try.func87 (by kernel_rfl) (by kernel_rfl) (by kernel_rfl) (by decide) (fun vs w => Try.call87 vs w)
theorem c87 : C_spec_l01CFinite Try.prog 87 := k_spec_l01CFinite fn87 c129
theorem fn89 : Is_spec_l01Conj Try.prog 89 := FnIs.of Try.func89 (by kernel_rfl) (by kernel_rfl) (by kernel_rfl) (by decide) (fun vs w => Try.call89 vs w)
theorem c89 : C_spec_l01Conj Try.prog 89 := k_spec_l01Conj fn89
theorem fn132 : Is_spec_l01Wide Try.prog 132 := FnIs.of Try.func132 (by kernel_rfl) (by kernel_rfl) (by kernel_rfl) (by decide) (fun vs w => Try.call132 vs w)
theorem c132 : C_spec_l01Wide Try.prog 132 := k_spec_l01Wide fn132
theorem fn131 : Is_spec_l01WideMul Try.prog 131 := FnIs.of Try.func131 (by kernel_rfl) (by kernel_rfl) (by kernel_rfl) (by decide) (fun vs w => Try.call131 vs w)
theorem c131 : C_spec_l01WideMul Try.prog 131 := k_spec_l01WideMul fn131
theorem fn130 : Is_spec_l01CNarrow Try.prog 130 106 := FnIs.of Try.func130 (by kernel_rfl) (by kernel_rfl) (by kernel_rfl) (by decide) (fun vs w => Try.call130 vs w)
theorem c130 : C_spec_l01CNarrow Try.prog 130 := k_spec_l01CNarrow fn130 c106
theorem fn88 : Is_spec_l01Mul Try.prog 88 132 131 130 := FnIs.of Try.func88 (by kernel_rfl) (by kernel_rfl) (by kernel_rfl) (by decide) (fun vs w => Try.call88 vs w)
theorem c88 : C_spec_l01Mul Try.prog 88 := k_spec_l01Mul fn88 c132 c131 c130
theorem fn139 : ExtIs Try.prog 139 Extern.MathSqrt.sqrt := ExtIs.of Try.func139 (by kernel_rfl) (by kernel_rfl) (by kernel_rfl) (by kernel_rfl)
theorem c139 : C_math_sqrt Try.prog 139 := k_math_sqrt fn139
theorem fn107 : Is_math_Sqrt Try.prog 107 139 := FnIs.of Try.func107 (by kernel_rfl) (by kernel_rfl) (by kernel_rfl) (by decide) (fun vs w => Try.call107 vs w)
theorem c107 : C_math_Sqrt Try.prog 107 := k_math_Sqrt fn107 c139
theorem fn133 : Is_spec_l01AngleWide Try.prog 133 122 123 107 := FnIs.of Try.func133 (by kernel_rfl) (by kernel_rfl) (by kernel_rfl) (by decide) (fun vs w => Try.call133 vs w)
theorem c133 : C_spec_l01AngleWide Try.prog 133 := k_spec_l01AngleWide fn133 c122 c123 c107
theorem fn90 : Is_spec_AngleOf Try.prog 90 133 106 := FnIs.of Try.func90 (by kernel_rfl) (by kernel_rfl) (by kernel_rfl) (by decide) (fun vs w => Try.call90 vs w)
theorem c90 : C_spec_AngleOf Try.prog 90 := k_spec_AngleOf fn90 c133 c106
theorem fn35 : Is_spec_LeadOf Try.prog 35 68 55 86 87 89 88 90 := FnIs.of Try.func35 (by kernel_rfl) (by kernel_rfl) (by kernel_rfl) (by decide) (fun vs w => Try.call35 vs w)
theorem c35 : C_spec_LeadOf Try.prog 35 := k_spec_LeadOf fn35 c68 c55 c86 c87 c89 c88 c90
theorem fn47 : Is_impl_areTwo Try.prog 47 40 := FnIs.of Try.func47 (by kernel_rfl) (by kernel_rfl) (by kernel_rfl) (by decide) (fun vs w => Try.call47 vs w)
theorem c47 : C_impl_areTwo Try.prog 47 := k_impl_areTwo fn47 c40
theorem fn91 : Is_impl_ConjugateOf Try.prog 91 := FnIs.of Try.func91 (by kernel_rfl) (by kernel_rfl) (by kernel_rfl) (by decide) (fun vs w => Try.call91 vs w)
theorem c91 : C_impl_ConjugateOf Try.prog 91 := k_impl_ConjugateOf fn91
theorem fn134 : Is_impl_AngleTurns Try.prog 134 75 122 123 107 := FnIs.of Try.func134 (by kernel_rfl) (by kernel_rfl) (by kernel_rfl) (by decide) (fun vs w => Try.call134 vs w)
theorem c134 : C_impl_AngleTurns Try.prog 134 := k_impl_AngleTurns fn134 c75 c122 c123 c107
theorem fn92 : Is_impl_AngleOf Try.prog 92 134 := FnIs.of Try.func92 (by kernel_rfl) (by kernel_rfl) (by kernel_rfl) (by decide) (fun vs w => Try.call92 vs w)
theorem c92 : C_impl_AngleOf Try.prog 92 := k_impl_AngleOf fn92 c134
theorem fn65 : Is_impl_ifFinite Try.prog 65 75 := FnIs.of Try.func65 (by kernel_rfl) (by kernel_rfl) (by kernel_rfl) (by decide) (fun vs w => Try.call65 vs w)
theorem c65 : C_impl_ifFinite Try.prog 65 := k_impl_ifFinite fn65 c75
theorem fn36 : Is_impl_LeadOf Try.prog 36 47 77 81 91 83 82 92 65 := FnIs.of Try.func36 (by kernel_rfl) (by kernel_rfl) (by kernel_rfl) (by decide) (fun vs w => Try.call36 vs w)
theorem c36 : C_impl_LeadOf Try.prog 36 := k_impl_LeadOf fn36 c47 c77 c81 c91 c83 c82 c92 c65
theorem fn135 : Is_spec_l01PowerWide Try.prog 135 := FnIs.of Try.func135 (by kernel_rfl) (by kernel_rfl) (by kernel_rfl) (by decide) (fun vs w => Try.call135 vs w)
theorem c135 : C_spec_l01PowerWide Try.prog 135 := k_spec_l01PowerWide fn135
theorem fn93 : Is_spec_l01Power Try.prog 93 135 106 := FnIs.of Try.func93 (by kernel_rfl) (by kernel_rfl) (by kernel_rfl) (by decide) (fun vs w => Try.call93 vs w)
theorem c93 : C_spec_l01Power Try.prog 93 := k_spec_l01Power fn93 c135 c106
theorem fn94 : Is_spec_l02Above Try.prog 94 129 := FnIs.of Try.func94 (by kernel_rfl) (by kernel_rfl) (by kernel_rfl) (by decide) (fun vs w => Try.call94 vs w)
theorem c94 : C_spec_l02Above Try.prog 94 := k_spec_l02Above fn94 c129
theorem fn95 : Is_spec_l02Number Try.prog 95 129 := FnIs.of Try.func95 (by kernel_rfl) (by kernel_rfl) (by kernel_rfl) (by decide) (fun vs w => Try.call95 vs w)
theorem c95 : C_spec_l02Number Try.prog 95 := k_spec_l02Number fn95 c129
theorem fn37 : Is_spec_TogetherOf Try.prog 37 68 55 86 87 89 88 93 94 95 := FnIs.of Try.func37 (by kernel_rfl) (by kernel_rfl) (by kernel_rfl) (by decide) (fun vs w => Try.call37 vs w)
theorem c37 : C_spec_TogetherOf Try.prog 37 := k_spec_TogetherOf fn37 c68 c55 c86 c87 c89 c88 c93 c94 c95
theorem fn38 : Is_impl_TogetherOf Try.prog 38 47 77 81 82 91 83 96 85 65 := FnIs.of Try.func38 (by kernel_rfl) (by kernel_rfl) (by kernel_rfl) (by decide) (fun vs w => Try.call38 vs w)
theorem c38 : C_impl_TogetherOf Try.prog 38 := k_impl_TogetherOf fn38 c47 c77 c81 c82 c91 c83 c96 c85 c65
theorem fn97 : Is_impl_absolute Try.prog 97 := FnIs.of Try.func97 (by kernel_rfl) (by kernel_rfl) (by kernel_rfl) (by decide) (fun vs w => Try.call97 vs w)
theorem c97 : C_impl_absolute Try.prog 97 := k_impl_absolute fn97
theorem fn39 : Is_impl_Tapered Try.prog 39 40 77 84 97 62 := FnIs.of Try.func39 (by kernel_rfl) (by kernel_rfl) (by kernel_rfl) (by decide) (fun vs w => Try.call39 vs w)
theorem c39 : C_impl_Tapered Try.prog 39 := k_impl_Tapered fn39 c40 c77 c84 c97 c62
theorem fn6 : Is_laws_FnFrequencies Try.prog 6 7 8 12 32 33 34 13 35 36 37 38 39 := FnIs.of Try.func6 (by kernel_rfl) (by kernel_rfl) (by kernel_rfl) (by decide) (fun vs w => Try.call6 vs w)
theorem c6 : C_laws_FnFrequencies Try.prog 6 := k_laws_FnFrequencies fn6 c7 c8 c12 c32 c33 c34 c13 c35 c36 c37 c38 c39
theorem law (xs : List AV) (h : ShapesT [.one (.si .u8), .one (.si .u8)] xs) : VCall Try.prog 6 (AV.viewL [] 0 xs) (.b true) := by
  obtain ⟨_, _, rfl, ⟨_, rfl, _, _⟩, _, _, rfl, ⟨_, rfl, _, _⟩, rfl⟩ := h
  exact c6 _ _
set_option maxRecDepth 100000 in
theorem lifted (os : Os) (started : os.Started) (H : Type) (enc : TypeId × Value → H) :
    ReturnsInHanded {} Try.checked os 6 .any (Rows.fnFrequenciesSpec.pre6 enc Try.prog Try.f6 Rows.fnFrequenciesRow.domain false) (Rows.fnFrequenciesSpec.post enc Try.prog Try.f6 false true false false) := by
  refine returnsInHanded_of_change (C := Try.checked) own started (by kernel_rfl) Try.func6
    (ChangeSpec.witness6 (enc := enc) (C := Try.checked) false ⟨#[], #[.slice none 0 0, .slice none 0 0], []⟩ 8 (by kernel_rfl) (by kernel_rfl) (by kernel_rfl) (by kernel_rfl)) ?_
  intro W base args ds gs before hval hW _ _
  exact law_post (P := Try.prog) (fn := Try.f6) (tys := [.one (.si .u8), .one (.si .u8)]) (by kernel_rfl) (by kernel_rfl) (by kernel_rfl) rfl
    (fun H ds hds => by
      match ds, hds with
      | [d0, d1], _ => rfl) (rt := 4) (by kernel_rfl) (by kernel_rfl) (fun vs w => Try.call6 vs w) law enc W base args ds gs before hval hW

theorem proved : Rows.FnFrequenciesSaid :=
  OpenClaim.holds_of_wide 6 Try.f6 rfl rfl rfl rfl rfl rfl rfl ⟨rfl, rfl, rfl, rfl, rfl⟩ rfl rfl rfl rfl rfl (by kernel_rfl) Try.func6 (by kernel_rfl)
    (of_decide_eq_true (by kernel_rfl)) (by unfold Func.isWrapper; first | (rw [if_pos (by decide +kernel)]; kernel_rfl) | (rw [if_neg (by decide +kernel)]; exact ⟨rfl, rfl⟩))
    (fun os started H enc _ => lifted os started H enc)
end Go.Proofs.Ytdffgjembkanoaa.FnFrequencies
