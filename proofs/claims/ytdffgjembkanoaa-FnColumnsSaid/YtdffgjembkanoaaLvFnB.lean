/- Whether all numbers of a list are finite; series; states. -/
import Derived.Test.YtdffgjembkanoaaLvExtX
namespace Go.Proofs.LV
open Go
set_option linter.unusedVariables false
set_option linter.unusedSimpArgs false

/-- an environment of n slots of which only slot s is told -/
abbrev ret1 (n s : Nat) (v : AV) : Env := anys s ++ v :: anys (n - s - 1)
/-- the first place -/
def idxM {α : Type} (p : α → Bool) (xs : List α) : Int := if xs.findIdx p < xs.length then xs.findIdx p else -1
theorem findIdx_not {α : Type} {p : α → Bool} {xs : List α} {i : Nat} (d : α) (h : i < xs.findIdx p) (hl : i < xs.length) : p (xs.getD i d) = false := by
  have := List.not_of_lt_findIdx h
  simpa [List.getD, List.getElem?_eq_getElem hl] using this
theorem findIdx_is {α : Type} {p : α → Bool} {xs : List α} (d : α) (h : xs.findIdx p < xs.length) : p (xs.getD (xs.findIdx p) d) = true := by
  have := List.findIdx_getElem (w := h)
  simpa [List.getD, List.getElem?_eq_getElem h] using this
theorem findIdx_eq {α : Type} {p : α → Bool} {xs : List α} (h : ¬ xs.findIdx p < xs.length) : xs.findIdx p = xs.length := by
  have := List.findIdx_le_length (p := p) (xs := xs); omega
theorem any_findIdx {α : Type} {p : α → Bool} {xs : List α} : xs.any p = decide (xs.findIdx p < xs.length) := by
  rw [Bool.eq_iff_iff]
  simp only [List.any_eq_true, decide_eq_true_eq, List.findIdx_lt_length]
theorem idx_any {α : Type} {p : α → Bool} {xs : List α} : decide (idxM p xs ≥ 0) = xs.any p := by
  rw [any_findIdx]
  unfold idxM
  by_cases hlt : xs.findIdx p < xs.length
  · simp [hlt]
  · simp [hlt]

open Go.IntKind (wrap)
-- FN slices_IndexFunc___float32_float32_
def ps_slices_IndexFunc___float32_float32_ : List Nat := [0, 1, 4, 5, 7, 8, 9, 16]
def lv_slices_IndexFunc___float32_float32__L0 : List Nat := [0, 1, 7, 8]
def b_slices_IndexFunc___float32_float32__L0 : VCode :=
 (.seq
 (.region false [
 ⟨some 9, (.bin .lss), [.t 8, .t 7], none⟩])
 (.seq
 (.cond (.t 9)
 .skip
 (.exit 0))
 (.seq
 (.block 1
 (.seq
 (.region false [
 ⟨some 10, .mv, [.t 8], none⟩,
 ⟨some 5, .mv, [.t 10], none⟩])
 (.seq
 (.region false [
 ⟨some 11, .mv, [.t 1], none⟩,
 ⟨some 12, .mv, [.t 0], none⟩,
 ⟨some 13, .mv, [.t 5], none⟩,
 ⟨some 14, .iaddr, [.t 12, .t 13], none⟩,
 ⟨some 15, .load, [.t 14], none⟩,
 ⟨some 16, .callv, [.t 11, .t 15], none⟩])
 (.cond (.t 16)
 (.seq
 (.region false [
 ⟨some 17, .mv, [.t 5], none⟩,
 ⟨some 4, .mv, [.t 17], none⟩])
 .ret)
 .skip))))
 (.region false [
 ⟨some 18, (.bin .add), [.t 8, .k (.i .i64 1)], none⟩,
 ⟨some 8, .mv, [.t 18], none⟩]))))

def b_slices_IndexFunc___float32_float32_ : VCode :=
 (.seq
 (.region false [
 ⟨some 4, .mv, [.k (.i .i64 0)], none⟩])
 (.seq
 (.seq
 (.region false [
 ⟨some 6, .mv, [.t 0], none⟩,
 ⟨some 7, .len, [.t 6], none⟩,
 ⟨some 8, .mv, [.k (.i .i64 0)], none⟩])
 (.block 0 (.loop b_slices_IndexFunc___float32_float32__L0)))
 (.seq
 (.region false [
 ⟨some 4, .mv, [.k (.i .i64 (-1))], none⟩])
 .ret)))

abbrev Is_slices_IndexFunc___float32_float32_ (P : Program) (g_f : FuncId) : Prop := FnIs P g_f 19 [.t 4] (b_slices_IndexFunc___float32_float32_)

abbrev C_slices_IndexFunc___float32_float32_ (P : Program) (g_f : FuncId) : Prop := ∀ (xs : List Nat) (F : FuncId) (p : Nat → Bool) (hF : ∀ x, VCall P F [.f .f32 x] (.b (p x))) (hx : xs.length ≤ maxLen), VCall P g_f [PS [0] .f32 xs, .fn F []] (.i .i64 (idxM p xs))
def oc_slices_IndexFunc___float32_float32_ (xs : List Nat) (F : FuncId) (p : Nat → Bool) (d : Nat) (as : List AV) : T AV := match d with | 16 => (match as with | [.f _ x] => .leaf (.b (p x)) | _ => .fail) | _ => .fail
def h_slices_IndexFunc___float32_float32__L0 (xs : List Nat) (F : FuncId) (p : Nat → Bool) (v8 : Int) : Env := [AV.sl (Tag.par [0]) 0 (Cont.f .f32 xs), AV.fn F []] ++ anys 5 ++ [AV.i .i64 (↑(List.length xs) : Int), .i .i64 v8] ++ anys 10

theorem q_slices_IndexFunc___float32_float32__L0 {VC : FuncId → List AV → AV → Prop} (xs : List Nat) (F : FuncId) (p : Nat → Bool) (v8 : Int) {e_ : Ex} {σ_ : Env} (ht : T.ok (fun x_ => x_ = (e_, σ_)) (
 T.ite (decide (v8 < (↑(List.length xs) : Int)))
 (T.ob (0 ≤ v8 ∧ v8 < (↑(List.length xs) : Int))
 (T.ob (VC F [AV.f .f32 (List.getD xs (Int.toNat v8) 0)] (AV.b (p (List.getD xs (Int.toNat v8) 0))))
 (T.ite (p (List.getD xs (Int.toNat v8) 0)) (T.leaf (Ex.ret, anys 4 ++ AV.i .i64 v8 :: anys 14)) (T.leaf (Ex.normal, h_slices_IndexFunc___float32_float32__L0 xs F p (wrap .i64 (v8 + 1)))))))
 (T.leaf (Ex.exit 0, h_slices_IndexFunc___float32_float32__L0 xs F p v8)))) :
 Exec VC ps_slices_IndexFunc___float32_float32_ (b_slices_IndexFunc___float32_float32__L0) (h_slices_IndexFunc___float32_float32__L0 xs F p v8) e_ σ_ := evL_of (lv := lv_slices_IndexFunc___float32_float32__L0) (rs := [4]) (O := ⟨oc_slices_IndexFunc___float32_float32_ xs F p, fun _ _ => none⟩) (by kernel_rfl) ht

theorem q_slices_IndexFunc___float32_float32_ {P : Program} {g_f : FuncId} (h_ : Is_slices_IndexFunc___float32_float32_ P g_f) (xs : List Nat) (F : FuncId) (p : Nat → Bool) (ht : T.ok (fun x_ => x_ = .i .i64 (idxM p xs)) (
 T.ite (decide (List.findIdx p xs < List.length xs))
 (T.ob
 (Exec (VCall P) ps_slices_IndexFunc___float32_float32_ (VCode.block 0 (VCode.loop b_slices_IndexFunc___float32_float32__L0)) (h_slices_IndexFunc___float32_float32__L0 xs F p 0) Ex.ret
 (anys 4 ++ AV.i .i64 (↑(List.findIdx p xs) : Int) :: anys 14))
 (T.leaf (AV.i .i64 (↑(List.findIdx p xs) : Int))))
 (T.ob
 (Exec (VCall P) ps_slices_IndexFunc___float32_float32_ (VCode.block 0 (VCode.loop b_slices_IndexFunc___float32_float32__L0)) (h_slices_IndexFunc___float32_float32__L0 xs F p 0) Ex.normal
 (h_slices_IndexFunc___float32_float32__L0 xs F p (↑(List.length xs) : Int)))
 (T.leaf (AV.i .i64 (-1)))))) :
 VCall P g_f [PS [0] .f32 xs, .fn F []] (.i .i64 (idxM p xs)) := h_.call_of ps_slices_IndexFunc___float32_float32_ ⟨oc_slices_IndexFunc___float32_float32_ xs F p, fun id σ => match id with | 0 => some (lv_slices_IndexFunc___float32_float32__L0, .ite (decide (xs.findIdx p < xs.length)) (.leaf (.ret, ret1 19 4 (.i .i64 (xs.findIdx p)))) (.leaf (.normal, h_slices_IndexFunc___float32_float32__L0 xs F p xs.length))) | _ => none⟩ (by kernel_rfl) ht

-- END slices_IndexFunc___float32_float32_

theorem k_slices_IndexFunc___float32_float32_ {P : Program} {f : FuncId} (h : Is_slices_IndexFunc___float32_float32_ P f) : C_slices_IndexFunc___float32_float32_ P f := by
  intro xs F p hF hx
  have hm := ml64 hx
  have step : ∀ i, i < xs.length → p (xs.getD i 0) = false → Exec (VCall P) ps_slices_IndexFunc___float32_float32_ b_slices_IndexFunc___float32_float32__L0 (h_slices_IndexFunc___float32_float32__L0 xs F p i) .normal (h_slices_IndexFunc___float32_float32__L0 xs F p (i + 1 : Nat)) := by
    intro i hi hp
    refine q_slices_IndexFunc___float32_float32__L0 _ _ _ _ ⟨fun _ => ⟨by omega, fun _ => ⟨hF _, fun _ => ⟨fun h => ?_, fun _ => ?_⟩⟩⟩, fun h => absurd (of_decide_eq_false h) (by omega)⟩
    · rw [getD_nat, hp] at h; cases h
    · show _ = _
      rw [wrap64_id (by omega) (by omega)]; rfl
  refine q_slices_IndexFunc___float32_float32_ h xs F p ⟨fun hlt => ⟨?_, fun _ => ?_⟩, fun hge => ⟨?_, fun _ => ?_⟩⟩
  · have hlt := of_decide_eq_true hlt
    refine for_up (e := .ret) (xs.findIdx p) (fun i => h_slices_IndexFunc___float32_float32__L0 xs F p i) rfl (fun i hi => step i (by omega) (findIdx_not 0 hi (by omega))) ?_
    refine q_slices_IndexFunc___float32_float32__L0 _ _ _ _ ⟨fun _ => ⟨by omega, fun _ => ⟨hF _, fun _ => ⟨fun _ => rfl, fun h => ?_⟩⟩⟩, fun h => absurd (of_decide_eq_false h) (by omega)⟩
    rw [getD_nat, findIdx_is 0 hlt] at h; cases h
  · have hlt := of_decide_eq_true hlt
    show _ = _
    simp [idxM, hlt]
  · have hge := of_decide_eq_false hge
    have he := findIdx_eq hge
    refine for_up (e := .exit 0) xs.length (fun i => h_slices_IndexFunc___float32_float32__L0 xs F p i) rfl (fun i hi => step i hi (findIdx_not 0 (by omega) hi)) ?_
    exact q_slices_IndexFunc___float32_float32__L0 _ _ _ _ ⟨fun h => absurd h (by simp), fun _ => rfl⟩
  · have hge := of_decide_eq_false hge
    show _ = _
    simp [idxM, hge]

-- FN slices_ContainsFunc___float32_float32_
def ps_slices_ContainsFunc___float32_float32_ : List Nat := [0, 1, 4]
def b_slices_ContainsFunc___float32_float32_ (gq0 : FuncId) : VCode :=
 (.seq
 (.region false [
 ⟨some 4, .mv, [.k (.b false)], none⟩])
 (.seq
 (.region false [
 ⟨some 5, .mv, [.t 0], none⟩,
 ⟨some 6, .mv, [.t 1], none⟩,
 ⟨some 7, (.call gq0), [.t 5, .t 6], none⟩,
 ⟨some 8, (.bin .geq), [.t 7, .k (.i .i64 0)], none⟩,
 ⟨some 4, .mv, [.t 8], none⟩])
 .ret))

abbrev Is_slices_ContainsFunc___float32_float32_ (P : Program) (g_f : FuncId) (gq0 : FuncId) : Prop := FnIs P g_f 9 [.t 4] (b_slices_ContainsFunc___float32_float32_ gq0)

abbrev C_slices_ContainsFunc___float32_float32_ (P : Program) (g_f : FuncId) : Prop := ∀ (xs : List Nat) (F : FuncId) (p : Nat → Bool) (hF : ∀ x, VCall P F [.f .f32 x] (.b (p x))) (hx : xs.length ≤ maxLen), VCall P g_f [PS [0] .f32 xs, .fn F []] (.b (xs.any p))
def oc_slices_ContainsFunc___float32_float32_ (xs : List Nat) (F : FuncId) (p : Nat → Bool) (d : Nat) (as : List AV) : T AV := match d with | 7 => .leaf (.i .i64 (idxM p xs)) | _ => .fail



theorem q_slices_ContainsFunc___float32_float32_ {P : Program} {g_f : FuncId} {gq0 : FuncId} (h_ : Is_slices_ContainsFunc___float32_float32_ P g_f gq0) (xs : List Nat) (F : FuncId) (p : Nat → Bool) (ht : T.ok (fun x_ => x_ = .b (xs.any p)) (
 T.ob ((VCall P) gq0 [AV.sl (Tag.par [0]) 0 (Cont.f .f32 xs), AV.fn F []] (AV.i .i64 (idxM p xs))) (T.leaf (AV.b (decide (idxM p xs ≥ 0)))))) :
 VCall P g_f [PS [0] .f32 xs, .fn F []] (.b (xs.any p)) := h_.call_of ps_slices_ContainsFunc___float32_float32_ ⟨oc_slices_ContainsFunc___float32_float32_ xs F p, fun _ _ => none⟩ (by kernel_rfl) ht

-- END slices_ContainsFunc___float32_float32_

theorem k_slices_ContainsFunc___float32_float32_ {P : Program} {f g : FuncId} (h : Is_slices_ContainsFunc___float32_float32_ P f g) (hg : C_slices_IndexFunc___float32_float32_ P g) : C_slices_ContainsFunc___float32_float32_ P f := by
  intro xs F p hF hx
  refine q_slices_ContainsFunc___float32_float32_ h xs F p ⟨hg xs F p hF hx, fun _ => ?_⟩
  show _ = _
  rw [idx_any]

-- FN impl_areFinite_1
def ps_impl_areFinite_1 : List Nat := [0, 2]
def b_impl_areFinite_1 (gq0 : FuncId) : VCode :=
 (.seq
 (.region false [
 ⟨some 2, .mv, [.k (.b false)], none⟩])
 (.seq
 (.region false [
 ⟨some 3, .mv, [.t 0], none⟩,
 ⟨some 4, (.call gq0), [.t 3], none⟩,
 ⟨some 5, .not, [.t 4], none⟩,
 ⟨some 2, .mv, [.t 5], none⟩])
 .ret))

abbrev Is_impl_areFinite_1 (P : Program) (g_f : FuncId) (gq0 : FuncId) : Prop := FnIs P g_f 6 [.t 2] (b_impl_areFinite_1 gq0)

abbrev C_impl_areFinite_1 (P : Program) (g_f : FuncId) : Prop := ∀ (x : Nat), VCall P g_f [.f .f32 x] (.b (!finM x))
def oc_impl_areFinite_1 (x : Nat) (d : Nat) (as : List AV) : T AV := match d with | 4 => oc1_impl_IsFinite as | _ => .fail



theorem q_impl_areFinite_1 {P : Program} {g_f : FuncId} {gq0 : FuncId} (h_ : Is_impl_areFinite_1 P g_f gq0) (x : Nat) (ht : T.ok (fun x_ => x_ = .b (!finM x)) (
 T.ob ((VCall P) gq0 [AV.f .f32 x] (AV.b (finM x))) (T.leaf (AV.b !finM x)))) :
 VCall P g_f [.f .f32 x] (.b (!finM x)) := h_.call_of ps_impl_areFinite_1 ⟨oc_impl_areFinite_1 x, fun _ _ => none⟩ (by kernel_rfl) ht

-- END impl_areFinite_1

theorem k_impl_areFinite_1 {P : Program} {f g : FuncId} (h : Is_impl_areFinite_1 P f g) (hg : C_impl_IsFinite P g) : C_impl_areFinite_1 P f := fun x => q_impl_areFinite_1 h x ⟨hg x, fun _ => rfl⟩

-- FN impl_areFinite
def ps_impl_areFinite : List Nat := [0, 2]
def b_impl_areFinite (gq0 gq1 : FuncId) : VCode :=
 (.seq
 (.region false [
 ⟨some 2, .mv, [.k (.b false)], none⟩])
 (.seq
 (.region false [
 ⟨some 3, .mv, [.t 0], none⟩,
 ⟨some 4, (.call gq0), [.t 3, .k (.fn gq1 [])], none⟩,
 ⟨some 5, .not, [.t 4], none⟩,
 ⟨some 2, .mv, [.t 5], none⟩])
 .ret))

abbrev Is_impl_areFinite (P : Program) (g_f : FuncId) (gq0 gq1 : FuncId) : Prop := FnIs P g_f 6 [.t 2] (b_impl_areFinite gq0 gq1)

abbrev C_impl_areFinite (P : Program) (g_f : FuncId) : Prop := ∀ (xs : List Nat) (hx : xs.length ≤ maxLen), VCall P g_f [PS [0] .f32 xs] (.b (finAllM xs))
def oc1_impl_areFinite (as : List AV) : T AV := match as with | [.sl _ _ (.f .f32 xs)] => .leaf (.b (finAllM xs)) | _ => .fail
def oc_impl_areFinite (xs : List Nat) (d : Nat) (as : List AV) : T AV := match d with | 4 => .leaf (.b (xs.any fun x => !finM x)) | _ => .fail



theorem q_impl_areFinite {P : Program} {g_f : FuncId} {gq0 gq1 : FuncId} (h_ : Is_impl_areFinite P g_f gq0 gq1) (xs : List Nat) (ht : T.ok (fun x_ => x_ = .b (finAllM xs)) (
 T.ob ((VCall P) gq0 [AV.sl (Tag.par [0]) 0 (Cont.f .f32 xs), AV.fn gq1 []] (AV.b (List.any xs fun (x : Nat) => !finM x)))
 (T.leaf (AV.b !List.any xs fun (x : Nat) => !finM x)))) :
 VCall P g_f [PS [0] .f32 xs] (.b (finAllM xs)) := h_.call_of ps_impl_areFinite ⟨oc_impl_areFinite xs, fun _ _ => none⟩ (by kernel_rfl) ht

-- END impl_areFinite

theorem k_impl_areFinite {P : Program} {f g F : FuncId} (h : Is_impl_areFinite P f g F) (hg : C_slices_ContainsFunc___float32_float32_ P g) (hF : C_impl_areFinite_1 P F) : C_impl_areFinite P f := by
  intro xs hx
  refine q_impl_areFinite h xs ⟨hg xs F _ hF hx, fun _ => ?_⟩
  show _ = _
  congr 1
  unfold finAllM
  rw [← List.not_all_eq_any_not, Bool.not_not]

theorem finAll_findIdx (xs : List Nat) : finAllM xs = !decide (xs.findIdx (fun x => !finM x) < xs.length) := by
  rw [← any_findIdx, ← List.not_all_eq_any_not, Bool.not_not]; rfl

-- FN spec_l02Finite
def ps_spec_l02Finite : List Nat := [0, 2, 3, 7, 15]
def lv_spec_l02Finite_L0 : List Nat := [0, 3]
def b_spec_l02Finite_L0 (gq0 : FuncId) : VCode :=
 (.seq
 (.seq
 (.region false [
 ⟨some 4, .mv, [.t 3], none⟩,
 ⟨some 5, .mv, [.t 0], none⟩,
 ⟨some 6, .len, [.t 5], none⟩,
 ⟨some 7, (.bin .lss), [.t 4, .t 6], none⟩])
 (.cond (.t 7)
 .skip
 (.exit 0)))
 (.seq
 (.block 1
 (.seq
 (.region false [
 ⟨some 10, .mv, [.t 0], none⟩,
 ⟨some 11, .mv, [.t 3], none⟩,
 ⟨some 12, .iaddr, [.t 10, .t 11], none⟩,
 ⟨some 13, .load, [.t 12], none⟩,
 ⟨some 14, (.call gq0), [.t 13], none⟩,
 ⟨some 15, .not, [.t 14], none⟩])
 (.cond (.t 15)
 (.seq
 (.region false [
 ⟨some 2, .mv, [.k (.b false)], none⟩])
 .ret)
 .skip)))
 (.region false [
 ⟨some 8, .mv, [.t 3], none⟩,
 ⟨some 9, (.bin .add), [.t 8, .k (.i .i64 1)], none⟩,
 ⟨some 3, .mv, [.t 9], none⟩])))

def b_spec_l02Finite (gq0 : FuncId) : VCode :=
 (.seq
 (.region false [
 ⟨some 2, .mv, [.k (.b false)], none⟩])
 (.seq
 (.seq
 (.region false [
 ⟨some 3, .mv, [.k (.i .i64 0)], none⟩])
 (.block 0 (.loop (b_spec_l02Finite_L0 gq0))))
 (.seq
 (.region false [
 ⟨some 2, .mv, [.k (.b true)], none⟩])
 .ret)))

abbrev Is_spec_l02Finite (P : Program) (g_f : FuncId) (gq0 : FuncId) : Prop := FnIs P g_f 16 [.t 2] (b_spec_l02Finite gq0)

abbrev C_spec_l02Finite (P : Program) (g_f : FuncId) : Prop := ∀ (xs : List Nat) (hx : xs.length ≤ maxLen), VCall P g_f [PS [0] .f32 xs] (.b (finAllM xs))
def oc1_spec_l02Finite (as : List AV) : T AV := match as with | [.sl _ _ (.f .f32 xs)] => .leaf (.b (finAllM xs)) | _ => .fail
def oc_spec_l02Finite (xs : List Nat) (d : Nat) (as : List AV) : T AV := match d with | 14 => oc1_spec_l01Finite as | _ => .fail
def h_spec_l02Finite_L0 (xs : List Nat) (i : Int) : Env := [AV.sl (Tag.par [0]) 0 (Cont.f .f32 xs), .any, .any, .i .i64 i] ++ anys 12

theorem q_spec_l02Finite_L0 {VC : FuncId → List AV → AV → Prop} {gq0 : FuncId} (xs : List Nat) (i : Int) {e_ : Ex} {σ_ : Env} (ht : T.ok (fun x_ => x_ = (e_, σ_)) (
 T.ite (decide (i < (↑(List.length xs) : Int)))
 (T.ob (0 ≤ i ∧ i < (↑(List.length xs) : Int))
 (T.ob (VC gq0 [AV.f .f32 (List.getD xs (Int.toNat i) 0)] (AV.b (finM (List.getD xs (Int.toNat i) 0))))
 (T.ite (!finM (List.getD xs (Int.toNat i) 0)) (T.leaf (Ex.ret, AV.any :: AV.any :: AV.b false :: anys 13)) (T.leaf (Ex.normal, h_spec_l02Finite_L0 xs (wrap .i64 (i + 1)))))))
 (T.leaf (Ex.exit 0, h_spec_l02Finite_L0 xs i)))) :
 Exec VC ps_spec_l02Finite (b_spec_l02Finite_L0 gq0) (h_spec_l02Finite_L0 xs i) e_ σ_ := evL_of (lv := lv_spec_l02Finite_L0) (rs := [2]) (O := ⟨oc_spec_l02Finite xs, fun _ _ => none⟩) (by kernel_rfl) ht

theorem q_spec_l02Finite {P : Program} {g_f : FuncId} {gq0 : FuncId} (h_ : Is_spec_l02Finite P g_f gq0) (xs : List Nat) (ht : T.ok (fun x_ => x_ = .b (finAllM xs)) (
 T.ite (decide (List.findIdx (fun (x : Nat) => !finM x) xs < List.length xs))
 (T.ob (Exec (VCall P) ps_spec_l02Finite (VCode.block 0 (VCode.loop (b_spec_l02Finite_L0 gq0))) (h_spec_l02Finite_L0 xs 0) Ex.ret (AV.any :: AV.any :: AV.b false :: anys 13)) (T.leaf (AV.b false)))
 (T.ob (Exec (VCall P) ps_spec_l02Finite (VCode.block 0 (VCode.loop (b_spec_l02Finite_L0 gq0))) (h_spec_l02Finite_L0 xs 0) Ex.normal (h_spec_l02Finite_L0 xs (↑(List.length xs) : Int))) (T.leaf (AV.b true))))) :
 VCall P g_f [PS [0] .f32 xs] (.b (finAllM xs)) := h_.call_of ps_spec_l02Finite ⟨oc_spec_l02Finite xs, fun id σ => match id with | 0 => some (lv_spec_l02Finite_L0, .ite (decide (xs.findIdx (fun x => !finM x) < xs.length)) (.leaf (.ret, ret1 16 2 (.b false))) (.leaf (.normal, h_spec_l02Finite_L0 xs xs.length))) | _ => none⟩ (by kernel_rfl) ht

-- END spec_l02Finite

theorem k_spec_l02Finite {P : Program} {f g : FuncId} (h : Is_spec_l02Finite P f g) (hg : C_spec_l01Finite P g) : C_spec_l02Finite P f := by
  intro xs hx
  have hm := ml64 hx
  have step : ∀ i, i < xs.length → (!finM (xs.getD i 0)) = false → Exec (VCall P) ps_spec_l02Finite (b_spec_l02Finite_L0 g) (h_spec_l02Finite_L0 xs i) .normal (h_spec_l02Finite_L0 xs (i + 1 : Nat)) := by
    intro i hi hp
    have hp : finM (xs.getD i 0) = true := by simpa using hp
    refine q_spec_l02Finite_L0 _ _ ⟨fun _ => ⟨by omega, fun _ => ⟨hg _, fun _ => ⟨fun h => ?_, fun _ => ?_⟩⟩⟩, fun h => absurd (of_decide_eq_false h) (by omega)⟩
    · rw [getD_nat, hp] at h; cases h
    · show _ = _
      rw [wrap64_id (by omega) (by omega)]; rfl
  refine q_spec_l02Finite h xs ⟨fun hlt => ⟨?_, fun _ => ?_⟩, fun hge => ⟨?_, fun _ => ?_⟩⟩
  · have hlt := of_decide_eq_true hlt
    refine for_up (e := .ret) _ (fun i => h_spec_l02Finite_L0 xs i) rfl (fun i hi => step i (by omega) (findIdx_not (p := fun x => !finM x) 0 hi (by omega))) ?_
    refine q_spec_l02Finite_L0 _ _ ⟨fun _ => ⟨by omega, fun _ => ⟨hg _, fun _ => ⟨fun _ => rfl, fun h => ?_⟩⟩⟩, fun h => absurd (of_decide_eq_false h) (by omega)⟩
    have := findIdx_is 0 hlt
    rw [getD_nat, this] at h; cases h
  · show _ = _
    rw [finAll_findIdx, hlt]; rfl
  · have hge := of_decide_eq_false hge
    have he := findIdx_eq hge
    refine for_up (e := .exit 0) xs.length (fun i => h_spec_l02Finite_L0 xs i) rfl (fun i hi => step i hi (findIdx_not (p := fun x => !finM x) 0 (by omega) hi)) ?_
    exact q_spec_l02Finite_L0 _ _ ⟨fun h => absurd h (by simp), fun _ => rfl⟩
  · show _ = _
    rw [finAll_findIdx, hge]; rfl

theorem maxLen_eq : maxLen = 9223372036854775807 := rfl
def seriesM (xs : List Nat) : Bool := decide ((xs.length : Int) ≥ 1) && (decide ((xs.length : Int) ≤ 96) && finAllM xs)
def ifAllM (xs : List Nat) : List Nat := if finAllM xs = true then xs else []
-- FN impl_IsSeries
def ps_impl_IsSeries : List Nat := [0, 2]
def b_impl_IsSeries (gq0 : FuncId) : VCode :=
 (.seq
 (.region false [
 ⟨some 2, .mv, [.k (.b false)], none⟩])
 (.seq
 (.region false [
 ⟨some 3, .mv, [.t 0], none⟩,
 ⟨some 4, .len, [.t 3], none⟩,
 ⟨some 5, (.bin .geq), [.t 4, .k (.i .i64 1)], none⟩,
 ⟨some 6, .mv, [.t 5], none⟩,
 ⟨some 7, .mv, [.t 0], some (6, true)⟩,
 ⟨some 8, .len, [.t 7], some (6, true)⟩,
 ⟨some 9, (.bin .leq), [.t 8, .k (.i .i64 96)], some (6, true)⟩,
 ⟨some 10, .pick, [.t 6, .t 9, .k (.b false)], none⟩,
 ⟨some 11, .mv, [.t 10], none⟩,
 ⟨some 12, .mv, [.t 0], some (11, true)⟩,
 ⟨some 13, (.call gq0), [.t 12], some (11, true)⟩,
 ⟨some 14, .pick, [.t 11, .t 13, .k (.b false)], none⟩,
 ⟨some 2, .mv, [.t 14], none⟩])
 .ret))

abbrev Is_impl_IsSeries (P : Program) (g_f : FuncId) (gq0 : FuncId) : Prop := FnIs P g_f 15 [.t 2] (b_impl_IsSeries gq0)

abbrev C_impl_IsSeries (P : Program) (g_f : FuncId) : Prop := ∀ (xs : List Nat) (hx : xs.length ≤ maxLen), VCall P g_f [PS [0] .f32 xs] (.b (seriesM xs))
def oc1_impl_IsSeries (as : List AV) : T AV := match as with | [.sl _ _ (.f .f32 xs)] => .leaf (.b (seriesM xs)) | _ => .fail
def oc_impl_IsSeries (xs : List Nat) (d : Nat) (as : List AV) : T AV := match d with | 13 => oc1_impl_areFinite as | _ => .fail



theorem q_impl_IsSeries {P : Program} {g_f : FuncId} {gq0 : FuncId} (h_ : Is_impl_IsSeries P g_f gq0) (xs : List Nat) (ht : T.ok (fun x_ => x_ = .b (seriesM xs)) (
 T.ite (decide ((↑(List.length xs) : Int) ≥ 1))
 (T.ite (decide ((↑(List.length xs) : Int) ≤ 96)) (T.ob ((VCall P) gq0 [AV.sl (Tag.par [0]) 0 (Cont.f .f32 xs)] (AV.b (finAllM xs))) (T.leaf (AV.b (finAllM xs)))) (T.leaf (AV.b false)))
 (T.leaf (AV.b false)))) :
 VCall P g_f [PS [0] .f32 xs] (.b (seriesM xs)) := h_.call_of ps_impl_IsSeries ⟨oc_impl_IsSeries xs, fun _ _ => none⟩ (by kernel_rfl) ht

-- END impl_IsSeries

-- FN spec_l02Series
def ps_spec_l02Series : List Nat := [0, 2]
def b_spec_l02Series (gq0 : FuncId) : VCode :=
 (.seq
 (.region false [
 ⟨some 2, .mv, [.k (.b false)], none⟩])
 (.seq
 (.region false [
 ⟨some 3, .mv, [.t 0], none⟩,
 ⟨some 4, .len, [.t 3], none⟩,
 ⟨some 5, (.bin .geq), [.t 4, .k (.i .i64 1)], none⟩,
 ⟨some 6, .mv, [.t 5], none⟩,
 ⟨some 7, .mv, [.t 0], some (6, true)⟩,
 ⟨some 8, .len, [.t 7], some (6, true)⟩,
 ⟨some 9, (.bin .leq), [.t 8, .k (.i .i64 96)], some (6, true)⟩,
 ⟨some 10, .pick, [.t 6, .t 9, .k (.b false)], none⟩,
 ⟨some 11, .mv, [.t 10], none⟩,
 ⟨some 12, .mv, [.t 0], some (11, true)⟩,
 ⟨some 13, (.call gq0), [.t 12], some (11, true)⟩,
 ⟨some 14, .pick, [.t 11, .t 13, .k (.b false)], none⟩,
 ⟨some 2, .mv, [.t 14], none⟩])
 .ret))

abbrev Is_spec_l02Series (P : Program) (g_f : FuncId) (gq0 : FuncId) : Prop := FnIs P g_f 15 [.t 2] (b_spec_l02Series gq0)

abbrev C_spec_l02Series (P : Program) (g_f : FuncId) : Prop := ∀ (xs : List Nat) (hx : xs.length ≤ maxLen), VCall P g_f [PS [0] .f32 xs] (.b (seriesM xs))
def oc1_spec_l02Series (as : List AV) : T AV := match as with | [.sl _ _ (.f .f32 xs)] => .leaf (.b (seriesM xs)) | _ => .fail
def oc_spec_l02Series (xs : List Nat) (d : Nat) (as : List AV) : T AV := match d with | 13 => oc1_spec_l02Finite as | _ => .fail



theorem q_spec_l02Series {P : Program} {g_f : FuncId} {gq0 : FuncId} (h_ : Is_spec_l02Series P g_f gq0) (xs : List Nat) (ht : T.ok (fun x_ => x_ = .b (seriesM xs)) (
 T.ite (decide ((↑(List.length xs) : Int) ≥ 1))
 (T.ite (decide ((↑(List.length xs) : Int) ≤ 96)) (T.ob ((VCall P) gq0 [AV.sl (Tag.par [0]) 0 (Cont.f .f32 xs)] (AV.b (finAllM xs))) (T.leaf (AV.b (finAllM xs)))) (T.leaf (AV.b false)))
 (T.leaf (AV.b false)))) :
 VCall P g_f [PS [0] .f32 xs] (.b (seriesM xs)) := h_.call_of ps_spec_l02Series ⟨oc_spec_l02Series xs, fun _ _ => none⟩ (by kernel_rfl) ht

-- END spec_l02Series



-- FN impl_ifAll
def ps_impl_ifAll : List Nat := [0, 2, 3, 6]
def b_impl_ifAll (gq0 : FuncId) : VCode :=
 (.seq
 (.region false [
 ⟨some 2, (.nilsl (.f .f32 [])), [], none⟩,
 ⟨some 3, .mv, [.k (.b false)], none⟩])
 (.seq
 (.seq
 (.region false [
 ⟨some 4, .mv, [.t 0], none⟩,
 ⟨some 5, (.call gq0), [.t 4], none⟩,
 ⟨some 6, .not, [.t 5], none⟩])
 (.cond (.t 6)
 (.seq
 (.region false [
 ⟨some 2, (.nilsl (.f .f32 [])), [], none⟩,
 ⟨some 3, .mv, [.k (.b false)], none⟩])
 .ret)
 .skip))
 (.seq
 (.region false [
 ⟨some 7, .mv, [.t 0], none⟩,
 ⟨some 2, .mv, [.t 7], none⟩,
 ⟨some 3, .mv, [.k (.b true)], none⟩])
 .ret)))

abbrev Is_impl_ifAll (P : Program) (g_f : FuncId) (gq0 : FuncId) : Prop := FnIs P g_f 8 [.t 2, .t 3] (b_impl_ifAll gq0)

abbrev C_impl_ifAll (P : Program) (g_f : FuncId) : Prop := ∀ (xs : List Nat) (hx : xs.length ≤ maxLen), VCall P g_f [PS [0] .f32 xs] (.tup [PS [0] .f32 (ifAllM xs), .b (finAllM xs)])
def oc1_impl_ifAll (as : List AV) : T AV := match as with | [.sl _ _ (.f .f32 xs)] => .leaf (.tup [PS [0] .f32 (ifAllM xs), .b (finAllM xs)]) | _ => .fail
def oc_impl_ifAll (xs : List Nat) (d : Nat) (as : List AV) : T AV := match d with | 5 => oc1_impl_areFinite as | _ => .fail



theorem q_impl_ifAll {P : Program} {g_f : FuncId} {gq0 : FuncId} (h_ : Is_impl_ifAll P g_f gq0) (xs : List Nat) (ht : T.ok (fun x_ => x_ = .tup [PS [0] .f32 (ifAllM xs), .b (finAllM xs)]) (
 T.ob ((VCall P) gq0 [AV.sl (Tag.par [0]) 0 (Cont.f .f32 xs)] (AV.b (finAllM xs)))
 (T.ite (!finAllM xs) (T.leaf (AV.tup [AV.sl (Tag.par [0]) 0 (Cont.f .f32 []), AV.b false])) (T.leaf (AV.tup [AV.sl (Tag.par [0]) 0 (Cont.f .f32 xs), AV.b true]))))) :
 VCall P g_f [PS [0] .f32 xs] (.tup [PS [0] .f32 (ifAllM xs), .b (finAllM xs)]) := h_.call_of ps_impl_ifAll ⟨oc_impl_ifAll xs, fun _ _ => none⟩ (by kernel_rfl) ht

-- END impl_ifAll








theorem k_impl_IsSeries {P : Program} {f g : FuncId} (h : Is_impl_IsSeries P f g) (hg : C_impl_areFinite P g) : C_impl_IsSeries P f := by
  intro xs hx
  refine q_impl_IsSeries h xs ?_
  repeat' (first | with_reducible refine T.ok_ob ?_ (fun _ => ?_) | with_reducible refine T.ok_ite (fun _ => ?_) (fun _ => ?_) | with_reducible refine T.ok_leaf ?_)
  all_goals first | exact hg _ hx | (simp only [seriesM, *]; simp; done)
theorem k_spec_l02Series {P : Program} {f g : FuncId} (h : Is_spec_l02Series P f g) (hg : C_spec_l02Finite P g) : C_spec_l02Series P f := by
  intro xs hx
  refine q_spec_l02Series h xs ?_
  repeat' (first | with_reducible refine T.ok_ob ?_ (fun _ => ?_) | with_reducible refine T.ok_ite (fun _ => ?_) (fun _ => ?_) | with_reducible refine T.ok_leaf ?_)
  all_goals first | exact hg _ hx | (simp only [seriesM, *]; simp; done)
theorem k_impl_ifAll {P : Program} {f g : FuncId} (h : Is_impl_ifAll P f g) (hg : C_impl_areFinite P g) : C_impl_ifAll P f := by
  intro xs hx
  refine q_impl_ifAll h xs ?_
  repeat' (first | with_reducible refine T.ok_ob ?_ (fun _ => ?_) | with_reducible refine T.ok_ite (fun _ => ?_) (fun _ => ?_) | with_reducible refine T.ok_leaf ?_)
  all_goals first | exact hg _ hx | (simp_all [ifAllM]; done)
end Go.Proofs.LV
