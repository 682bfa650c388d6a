/- The statement FnLikes, proved: whatever the input, the law returns true, and the input reads as it did. -/
import Derived.Test.YtdffgjembkanoaaRows
import Derived.Test.YtdffgjembkanoaaLvExtX
import Derived.Test.YtdffgjembkanoaaLvFnB
import Derived.Test.YtdffgjembkanoaaLvFnC
import Derived.Test.YtdffgjembkanoaaLvFnDX
import Derived.Test.YtdffgjembkanoaaLvFnF
import Derived.Test.YtdffgjembkanoaaLvFnFF
import Derived.Test.YtdffgjembkanoaaLvFnJ
import Derived.Test.YtdffgjembkanoaaLvFnM
import Derived.Test.YtdffgjembkanoaaLvFnN
import Derived.Test.YtdffgjembkanoaaLvFnO
import Derived.Test.YtdffgjembkanoaaLvFnQ
import Derived.Test.YtdffgjembkanoaaLvCutX
import Derived.Test.YtdffgjembkanoaaLvLawW
import Derived.Test.YtdffgjembkanoaaLvLawY
import Derived.JoinedOf
namespace Go.Proofs.Ytdffgjembkanoaa.FnLikes
open Go.Proofs.LV Go.ChangeShapes Go.WideShapes Go.ChangeAt Go.RowKit
set_option linter.unusedVariables false
set_option linter.unusedSimpArgs false
theorem own : ownKnob Try.prog.godebug = none := by kernel_rfl
theorem fn7 : Is_laws_b10Long Try.prog 7 := FnIs.of Try.func7 (by kernel_rfl) (by kernel_rfl) (by kernel_rfl) (by decide) (fun vs w => Try.call7 vs w)
theorem c7 : C_laws_b10Long Try.prog 7 := k_laws_b10Long fn7
theorem fn8 : Is_laws_b10At Try.prog 8 := FnIs.of Try.func8 (by kernel_rfl) (by kernel_rfl) (by kernel_rfl) (by decide) (fun vs w => Try.call8 vs w)
theorem c8 : C_laws_b10At Try.prog 8 := k_laws_b10At fn8
theorem fn52 : Is_spec_l00From Try.prog 52 := FnIs.of Try.func52 (by kernel_rfl) (by kernel_rfl) (by kernel_rfl) (by decide) (fun vs w => Try.call52 vs w)
theorem c52 : C_spec_l00From Try.prog 52 := k_spec_l00From fn52
theorem fn138 : Is_spec_l00Src__next Try.prog 138 := FnIs.of Try.func138 (by kernel_rfl) (by kernel_rfl) (by kernel_rfl) (by decide) (fun vs w => Try.call138 vs w)
theorem c138 : C_spec_l00Src__next Try.prog 138 := k_spec_l00Src__next fn138
theorem fn103 : Is_spec_l00Src__pick Try.prog 103 138 := FnIs.of Try.func103 (by kernel_rfl) (by kernel_rfl) (by kernel_rfl) (by decide) (fun vs w => Try.call103 vs w)
theorem c103 : C_spec_l00Src__pick Try.prog 103 := k_spec_l00Src__pick fn103 c138
theorem fn53 : Is_spec_l03DrawOk Try.prog 53 103 := FnIs.of Try.func53 (by kernel_rfl) (by kernel_rfl) (by kernel_rfl) (by decide) (fun vs w => Try.call53 vs w)
theorem c53 : C_spec_l03DrawOk Try.prog 53 := k_spec_l03DrawOk fn53 c103
theorem fn12 : Is_spec_B10List Try.prog 12 52 53 := FnIs.of Try.func12 (by kernel_rfl) (by kernel_rfl) (by kernel_rfl) (by decide) (fun vs w => Try.call12 vs w)
theorem c12 : C_spec_B10List Try.prog 12 := k_spec_B10List fn12 c52 c53
theorem fn129 : Is_spec_l01Finite Try.prog 129 := FnIs.of Try.func129 (by kernel_rfl) (by kernel_rfl) (by kernel_rfl) (by decide) (fun vs w => Try.call129 vs w)
theorem c129 : C_spec_l01Finite Try.prog 129 := k_spec_l01Finite fn129
theorem fn104 : Is_spec_l02Finite Try.prog 104 129 := FnIs.of Try.func104 (by kernel_rfl) (by kernel_rfl) (by kernel_rfl) (by decide) (fun vs w => Try.call104 vs w)
theorem c104 : C_spec_l02Finite Try.prog 104 := k_spec_l02Finite fn104 c129
theorem fn54 : Is_spec_l02Series Try.prog 54 104 := FnIs.of Try.func54 (by kernel_rfl) (by kernel_rfl) (by kernel_rfl) (by decide) (fun vs w => Try.call54 vs w)
theorem c54 : C_spec_l02Series Try.prog 54 := k_spec_l02Series fn54 c104
theorem fn55 : Is_spec_l00In Try.prog 55 := FnIs.of Try.func55 (by kernel_rfl) (by kernel_rfl) (by kernel_rfl) (by decide) (fun vs w => Try.call55 vs w)
theorem c55 : C_spec_l00In Try.prog 55 := k_spec_l00In fn55
theorem fn105 : Is_spec_l03Mean Try.prog 105 := FnIs.of Try.func105 (by kernel_rfl) (by kernel_rfl) (by kernel_rfl) (by decide) (fun vs w => Try.call105 vs w)
theorem c105 : C_spec_l03Mean Try.prog 105 := k_spec_l03Mean fn105
theorem fn56 : Is_spec_l03Off Try.prog 56 105 := FnIs.of Try.func56 (by kernel_rfl) (by kernel_rfl) (by kernel_rfl) (by decide) (fun vs w => Try.call56 vs w)
theorem c56 : C_spec_l03Off Try.prog 56 := k_spec_l03Off fn56 c105
theorem fn57 : Is_spec_l03Delayed Try.prog 57 := FnIs.of Try.func57 (by kernel_rfl) (by kernel_rfl) (by kernel_rfl) (by decide) (fun vs w => Try.call57 vs w)
theorem c57 : C_spec_l03Delayed Try.prog 57 := k_spec_l03Delayed fn57
theorem fn58 : Is_spec_l03Given Try.prog 58 104 := FnIs.of Try.func58 (by kernel_rfl) (by kernel_rfl) (by kernel_rfl) (by decide) (fun vs w => Try.call58 vs w)
theorem c58 : C_spec_l03Given Try.prog 58 := k_spec_l03Given fn58 c104
theorem fn14 : Is_spec_SelfLikes Try.prog 14 54 55 56 57 58 := FnIs.of Try.func14 (by kernel_rfl) (by kernel_rfl) (by kernel_rfl) (by decide) (fun vs w => Try.call14 vs w)
theorem c14 : C_spec_SelfLikes Try.prog 14 := k_spec_SelfLikes fn14 c54 c55 c56 c57 c58
theorem fn136 : Is_slices_IndexFunc___float32_float32_ Try.prog 136 := FnIs.of Try.func136 (by kernel_rfl) (by kernel_rfl) (by kernel_rfl) (by decide) (fun vs w => Try.call136 vs w)
theorem c136 : C_slices_IndexFunc___float32_float32_ Try.prog 136 := k_slices_IndexFunc___float32_float32_ fn136
theorem fn98 : Is_slices_ContainsFunc___float32_float32_ Try.prog 98 136 := FnIs.of Try.func98 (by kernel_rfl) (by kernel_rfl) (by kernel_rfl) (by decide) (fun vs w => Try.call98 vs w)
theorem c98 : C_slices_ContainsFunc___float32_float32_ Try.prog 98 := k_slices_ContainsFunc___float32_float32_ fn98 c136
theorem fn75 : Is_impl_IsFinite Try.prog 75 := FnIs.of Try.func75 (by kernel_rfl) (by kernel_rfl) (by kernel_rfl) (by decide) (fun vs w => Try.call75 vs w)
theorem c75 : C_impl_IsFinite Try.prog 75 := k_impl_IsFinite fn75
theorem fn100 : Is_impl_areFinite_1 Try.prog 100 75 := FnIs.of Try.func100 (by kernel_rfl) (by kernel_rfl) (by kernel_rfl) (by decide) (fun vs w => Try.call100 vs w)
theorem c100 : C_impl_areFinite_1 Try.prog 100 := k_impl_areFinite_1 fn100 c75
theorem fn50 : Is_impl_areFinite Try.prog 50 98 100 := FnIs.of Try.func50 (by kernel_rfl) (by kernel_rfl) (by kernel_rfl) (by decide) (fun vs w => Try.call50 vs w)
theorem c50 : C_impl_areFinite Try.prog 50 := k_impl_areFinite fn50 c98 c100
theorem fn40 : Is_impl_IsSeries Try.prog 40 50 := FnIs.of Try.func40 (by kernel_rfl) (by kernel_rfl) (by kernel_rfl) (by decide) (fun vs w => Try.call40 vs w)
theorem c40 : C_impl_IsSeries Try.prog 40 := k_impl_IsSeries fn40 c50
theorem fn77 : Is_impl_within Try.prog 77 := FnIs.of Try.func77 (by kernel_rfl) (by kernel_rfl) (by kernel_rfl) (by decide) (fun vs w => Try.call77 vs w)
theorem c77 : C_impl_within Try.prog 77 := k_impl_within fn77
theorem fn59 : Is_impl_isMost Try.prog 59 40 77 := FnIs.of Try.func59 (by kernel_rfl) (by kernel_rfl) (by kernel_rfl) (by decide) (fun vs w => Try.call59 vs w)
theorem c59 : C_impl_isMost Try.prog 59 := k_impl_isMost fn59 c40 c77
theorem fn46 : Is_impl_addUp Try.prog 46 := FnIs.of Try.func46 (by kernel_rfl) (by kernel_rfl) (by kernel_rfl) (by decide) (fun vs w => Try.call46 vs w)
theorem c46 : C_impl_addUp Try.prog 46 := k_impl_addUp fn46
theorem fn42 : Is_impl_mean Try.prog 42 46 := FnIs.of Try.func42 (by kernel_rfl) (by kernel_rfl) (by kernel_rfl) (by decide) (fun vs w => Try.call42 vs w)
theorem c42 : C_impl_mean Try.prog 42 := k_impl_mean fn42 c46
theorem fn43 : Is_impl_lessOne Try.prog 43 := FnIs.of Try.func43 (by kernel_rfl) (by kernel_rfl) (by kernel_rfl) (by decide) (fun vs w => Try.call43 vs w)
theorem c43 : C_impl_lessOne Try.prog 43 := k_impl_lessOne fn43
theorem fn44 : Is_impl_dot Try.prog 44 := FnIs.of Try.func44 (by kernel_rfl) (by kernel_rfl) (by kernel_rfl) (by decide) (fun vs w => Try.call44 vs w)
theorem c44 : C_impl_dot Try.prog 44 := k_impl_dot fn44
theorem fn62 : Is_impl_ifAll Try.prog 62 50 := FnIs.of Try.func62 (by kernel_rfl) (by kernel_rfl) (by kernel_rfl) (by decide) (fun vs w => Try.call62 vs w)
theorem c62 : C_impl_ifAll Try.prog 62 := k_impl_ifAll fn62 c50
theorem fn60 : Is_impl_selfLikes Try.prog 60 42 43 44 62 := FnIs.of Try.func60 (by kernel_rfl) (by kernel_rfl) (by kernel_rfl) (by decide) (fun vs w => Try.call60 vs w)
theorem c60 : C_impl_selfLikes Try.prog 60 := k_impl_selfLikes fn60 c42 c43 c44 c62
theorem fn15 : Is_impl_SelfLikes Try.prog 15 59 60 := FnIs.of Try.func15 (by kernel_rfl) (by kernel_rfl) (by kernel_rfl) (by decide) (fun vs w => Try.call15 vs w)
theorem c15 : C_impl_SelfLikes Try.prog 15 := k_impl_SelfLikes fn15 c59 c60
theorem fn16 : Is_spec_PartLikes Try.prog 16 14 58 := FnIs.of Try.func16 (by kernel_rfl) (by kernel_rfl) (by kernel_rfl) (by decide) (fun vs w => Try.call16 vs w)
theorem c16 : C_spec_PartLikes Try.prog 16 := k_spec_PartLikes fn16 c14 c58
theorem fn61 : Is_slices_Clone___float32_float32_ Try.prog 61 := FnIs.of Try.func61 (by kernel_rfl) (by kernel_rfl) (by kernel_rfl) (by decide) (fun vs w => Try.call61 vs w)
theorem c61 : C_slices_Clone___float32_float32_ Try.prog 61 := k_slices_Clone___float32_float32_ fn61
theorem fn17 : Is_impl_PartLikes Try.prog 17 15 61 62 := FnIs.of Try.func17 (by kernel_rfl) (by kernel_rfl) (by kernel_rfl) (by decide) (fun vs w => Try.call17 vs w)
theorem c17 : C_impl_PartLikes Try.prog 17 := k_impl_PartLikes fn17 c15 c61 c62
theorem fn139 : ExtIs Try.prog 139 Extern.MathSqrt.sqrt := ExtIs.of Try.func139 (by kernel_rfl) (by kernel_rfl) (by kernel_rfl) (by kernel_rfl)
theorem c139 : C_math_sqrt Try.prog 139 := k_math_sqrt fn139
theorem fn107 : Is_math_Sqrt Try.prog 107 139 := FnIs.of Try.func107 (by kernel_rfl) (by kernel_rfl) (by kernel_rfl) (by decide) (fun vs w => Try.call107 vs w)
theorem c107 : C_math_Sqrt Try.prog 107 := k_math_Sqrt fn107 c139
theorem fn106 : Is_spec_l01Narrow Try.prog 106 := FnIs.of Try.func106 (by kernel_rfl) (by kernel_rfl) (by kernel_rfl) (by decide) (fun vs w => Try.call106 vs w)
theorem c106 : C_spec_l01Narrow Try.prog 106 := k_spec_l01Narrow fn106
theorem fn63 : Is_spec_l01Sqrt Try.prog 63 107 106 := FnIs.of Try.func63 (by kernel_rfl) (by kernel_rfl) (by kernel_rfl) (by decide) (fun vs w => Try.call63 vs w)
theorem c63 : C_spec_l01Sqrt Try.prog 63 := k_spec_l01Sqrt fn63 c107 c106
theorem fn18 : Is_spec_CrossLikes Try.prog 18 54 55 56 57 63 58 := FnIs.of Try.func18 (by kernel_rfl) (by kernel_rfl) (by kernel_rfl) (by decide) (fun vs w => Try.call18 vs w)
theorem c18 : C_spec_CrossLikes Try.prog 18 := k_spec_CrossLikes fn18 c54 c55 c56 c57 c63 c58
theorem fn47 : Is_impl_areTwo Try.prog 47 40 := FnIs.of Try.func47 (by kernel_rfl) (by kernel_rfl) (by kernel_rfl) (by decide) (fun vs w => Try.call47 vs w)
theorem c47 : C_impl_areTwo Try.prog 47 := k_impl_areTwo fn47 c40
theorem fn64 : Is_impl_RootNumber Try.prog 64 107 := FnIs.of Try.func64 (by kernel_rfl) (by kernel_rfl) (by kernel_rfl) (by decide) (fun vs w => Try.call64 vs w)
theorem c64 : C_impl_RootNumber Try.prog 64 := k_impl_RootNumber fn64 c107
theorem fn19 : Is_impl_CrossLikes Try.prog 19 47 59 42 43 44 64 62 := FnIs.of Try.func19 (by kernel_rfl) (by kernel_rfl) (by kernel_rfl) (by decide) (fun vs w => Try.call19 vs w)
theorem c19 : C_impl_CrossLikes Try.prog 19 := k_impl_CrossLikes fn19 c47 c59 c42 c43 c44 c64 c62
theorem fn65 : Is_impl_ifFinite Try.prog 65 75 := FnIs.of Try.func65 (by kernel_rfl) (by kernel_rfl) (by kernel_rfl) (by decide) (fun vs w => Try.call65 vs w)
theorem c65 : C_impl_ifFinite Try.prog 65 := k_impl_ifFinite fn65 c75
theorem fn20 : Is_impl_LikeSum Try.prog 20 15 65 := FnIs.of Try.func20 (by kernel_rfl) (by kernel_rfl) (by kernel_rfl) (by decide) (fun vs w => Try.call20 vs w)
theorem c20 : C_impl_LikeSum Try.prog 20 := k_impl_LikeSum fn20 c15 c65
theorem fn13 : Is_laws_b10Gap Try.prog 13 := FnIs.of Try.func13 (by kernel_rfl) (by kernel_rfl) (by kernel_rfl) (by decide) (fun vs w => Try.call13 vs w)
theorem c13 : C_laws_b10Gap Try.prog 13 := k_laws_b10Gap fn13
theorem fn66 : Is_impl_sign Try.prog 66 := FnIs.of Try.func66 (by kernel_rfl) (by kernel_rfl) (by kernel_rfl) (by decide) (fun vs w => Try.call66 vs w)
theorem c66 : C_impl_sign Try.prog 66 := k_impl_sign fn66
theorem fn21 : Is_impl_PairCount Try.prog 21 47 66 := FnIs.of Try.func21 (by kernel_rfl) (by kernel_rfl) (by kernel_rfl) (by decide) (fun vs w => Try.call21 vs w)
theorem c21 : C_impl_PairCount Try.prog 21 := k_impl_PairCount fn21 c47 c66
theorem fn108 : Is_impl_around Try.prog 108 := FnIs.of Try.func108 (by kernel_rfl) (by kernel_rfl) (by kernel_rfl) (by decide) (fun vs w => Try.call108 vs w)
theorem c108 : C_impl_around Try.prog 108 := k_impl_around fn108
theorem fn67 : Is_impl_ranks Try.prog 67 108 := FnIs.of Try.func67 (by kernel_rfl) (by kernel_rfl) (by kernel_rfl) (by decide) (fun vs w => Try.call67 vs w)
theorem c67 : C_impl_ranks Try.prog 67 := k_impl_ranks fn67 c108
theorem fn22 : Is_impl_RankLike Try.prog 22 47 67 42 43 44 64 65 := FnIs.of Try.func22 (by kernel_rfl) (by kernel_rfl) (by kernel_rfl) (by decide) (fun vs w => Try.call22 vs w)
theorem c22 : C_impl_RankLike Try.prog 22 := k_impl_RankLike fn22 c47 c67 c42 c43 c44 c64 c65
theorem fn68 : Is_spec_l03Pair Try.prog 68 54 := FnIs.of Try.func68 (by kernel_rfl) (by kernel_rfl) (by kernel_rfl) (by decide) (fun vs w => Try.call68 vs w)
theorem c68 : C_spec_l03Pair Try.prog 68 := k_spec_l03Pair fn68 c54
theorem fn23 : Is_spec_PairCount Try.prog 23 68 := FnIs.of Try.func23 (by kernel_rfl) (by kernel_rfl) (by kernel_rfl) (by decide) (fun vs w => Try.call23 vs w)
theorem c23 : C_spec_PairCount Try.prog 23 := k_spec_PairCount fn23 c68
theorem fn4 : Is_laws_FnLikes Try.prog 4 7 8 12 14 15 16 17 18 19 20 13 21 22 23 := FnIs.of Try.func4 (by kernel_rfl) (by kernel_rfl) (by kernel_rfl) (by decide) (fun vs w => Try.call4 vs w)
theorem c4 : C_laws_FnLikes Try.prog 4 := k_laws_FnLikes fn4 c7 c8 c12 c14 c15 c16 c17 c18 c19 c20 c13 c21 c22 c23
theorem law (xs : List AV) (h : ShapesT [.one (.si .u8), .one (.si .u8)] xs) : VCall Try.prog 4 (AV.viewL [] 0 xs) (.b true) := by
  obtain ⟨_, _, rfl, ⟨_, rfl, _, _⟩, _, _, rfl, ⟨_, rfl, _, _⟩, rfl⟩ := h
  exact c4 _ _
set_option maxRecDepth 100000 in
theorem lifted (os : Os) (started : os.Started) (H : Type) (enc : TypeId × Value → H) :
    ReturnsInHanded {} Try.checked os 4 .any (Rows.fnLikesSpec.pre6 enc Try.prog Try.f4 Rows.fnLikesRow.domain false) (Rows.fnLikesSpec.post enc Try.prog Try.f4 false true false false) := by
  refine returnsInHanded_of_change (C := Try.checked) own started (by kernel_rfl) Try.func4
    (ChangeSpec.witness6 (enc := enc) (C := Try.checked) false ⟨#[], #[.slice none 0 0, .slice none 0 0], []⟩ 8 (by kernel_rfl) (by kernel_rfl) (by kernel_rfl) (by kernel_rfl)) ?_
  intro W base args ds gs before hval hW _ _
  exact law_post (P := Try.prog) (fn := Try.f4) (tys := [.one (.si .u8), .one (.si .u8)]) (by kernel_rfl) (by kernel_rfl) (by kernel_rfl) rfl
    (fun H ds hds => by
      match ds, hds with
      | [d0, d1], _ => rfl) (rt := 4) (by kernel_rfl) (by kernel_rfl) (fun vs w => Try.call4 vs w) law enc W base args ds gs before hval hW

theorem proved : Rows.FnLikesSaid :=
  OpenClaim.holds_of_wide 4 Try.f4 rfl rfl rfl rfl rfl rfl rfl ⟨rfl, rfl, rfl, rfl, rfl⟩ rfl rfl rfl rfl rfl (by kernel_rfl) Try.func4 (by kernel_rfl)
    (of_decide_eq_true (by kernel_rfl)) (by unfold Func.isWrapper; first | (rw [if_pos (by decide +kernel)]; kernel_rfl) | (rw [if_neg (by decide +kernel)]; exact ⟨rfl, rfl⟩))
    (fun os started H enc _ => lifted os started H enc)
end Go.Proofs.Ytdffgjembkanoaa.FnLikes
