/- The statement FnExactValidShares, proved: whatever the input, the law returns true, and the input reads as it did. -/
import Derived.Test.YtplfalnldkbliaaRows
import Derived.Test.YtplfalnldkbliaaLvFnShares
import Derived.JoinedOf
namespace Go.Proofs.Ytplfalnldkbliaa.ValidShares
open Go.Proofs.LV Go.ChangeShapes Go.WideShapes Go.ChangeAt Go.RowKit
theorem own : ownKnob Try.prog.godebug = none := by kernel_rfl
theorem fn27 : FnIs Try.prog 27 9 [.t 2] b_impl_isShare := FnIs.of Try.func27 (by kernel_rfl) (by kernel_rfl) (by kernel_rfl) (by decide) (fun vs w => Try.call27 vs w)
theorem fn41 : FnIs Try.prog 41 9 [.t 2] b_impl_isShare := FnIs.of Try.func41 (by kernel_rfl) (by kernel_rfl) (by kernel_rfl) (by decide) (fun vs w => Try.call41 vs w)
theorem fn9 : FnIs Try.prog 9 17 [.row 2 4] b_laws_toShares := FnIs.of Try.func9 (by kernel_rfl) (by kernel_rfl) (by kernel_rfl) (by decide) (fun vs w => Try.call9 vs w)
theorem fn10 : FnIs Try.prog 10 21 [.t 2] (b_impl_ValidShares 27) := FnIs.of Try.func10 (by kernel_rfl) (by kernel_rfl) (by kernel_rfl) (by decide) (fun vs w => Try.call10 vs w)
theorem fn26 : FnIs Try.prog 26 29 [.t 2] (b_spec_l04Shares 41) := FnIs.of Try.func26 (by kernel_rfl) (by kernel_rfl) (by kernel_rfl) (by decide) (fun vs w => Try.call26 vs w)
theorem fn8 : FnIs Try.prog 8 4 [.t 2] (b_spec_ValidShares 26) := FnIs.of Try.func8 (by kernel_rfl) (by kernel_rfl) (by kernel_rfl) (by decide) (fun vs w => Try.call8 vs w)
theorem fn3 : FnIs Try.prog 3 14 [.t 2] (b_laws_FnExactValidShares 9 8 10) := FnIs.of Try.func3 (by kernel_rfl) (by kernel_rfl) (by kernel_rfl) (by decide) (fun vs w => Try.call3 vs w)

theorem law (xs : List AV) (h : ShapesT [.st [.f .f32, .f .f32, .f .f32, .f .f32]] xs) : VCall Try.prog 3 (AV.viewL [] 0 xs) (.b true) := by
  obtain ⟨_, _, rfl, ⟨_, rfl, _, _, rfl, ⟨x, rfl, _⟩, _, _, rfl, ⟨y, rfl, _⟩, _, _, rfl, ⟨z, rfl, _⟩, _, _, rfl, ⟨u, rfl, _⟩, rfl⟩, rfl⟩ := h
  exact lawValidShares_ok fn3 (toShares_ok fn9) (specValidShares_ok fn8 (specShares_ok fn26 (isShare_ok fn41))) (implValidShares_ok fn10 (isShare_ok fn27)) x y z u

set_option maxRecDepth 100000 in
theorem lifted (os : Os) (started : os.Started) (H : Type) (enc : TypeId × Value → H) :
    ReturnsInHanded {} Try.checked os 3 .any (Rows.fnExactValidSharesSpec.pre6 enc Try.prog Try.f3 Rows.fnExactValidSharesRow.domain false) (Rows.fnExactValidSharesSpec.post enc Try.prog Try.f3 false true false false) := by
  refine returnsInHanded_of_change (C := Try.checked) own started (by kernel_rfl) Try.func3
    (ChangeSpec.witness6 (enc := enc) (C := Try.checked) false ⟨#[], #[.agg #[.float .f32 0, .float .f32 0, .float .f32 0, .float .f32 0]], []⟩ 8 (by kernel_rfl) (by kernel_rfl) (by kernel_rfl) (by kernel_rfl)) ?_
  intro W base args ds gs before hval hW _ _
  exact law_post (P := Try.prog) (fn := Try.f3) (tys := [.st [.f .f32, .f .f32, .f .f32, .f .f32]]) (by kernel_rfl) (by kernel_rfl) (by kernel_rfl) rfl
    (fun H ds hds => by
      match ds, hds with
      | [d], _ => rfl) (rt := 4) (by kernel_rfl) (by kernel_rfl) law enc W base args ds gs before hval hW

theorem proved : Rows.FnExactValidSharesSaid :=
  OpenClaim.holds_of_wide 3 Try.f3 rfl rfl rfl rfl rfl rfl rfl ⟨rfl, rfl, rfl, rfl, rfl⟩ rfl rfl rfl rfl rfl (by kernel_rfl) Try.func3 (by kernel_rfl)
    (of_decide_eq_true (by kernel_rfl)) (by unfold Func.isWrapper; first | (rw [if_pos (by decide +kernel)]; kernel_rfl) | (rw [if_neg (by decide +kernel)]; exact ⟨rfl, rfl⟩))
    (fun os started H enc _ => lifted os started H enc)
end Go.Proofs.Ytplfalnldkbliaa.ValidShares
