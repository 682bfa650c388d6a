/- Texts that belong together. -/
import Derived.Test.YtdffgjembkanoaaLvEvX
namespace Go.Proofs.LV
open Go
set_option linter.unusedVariables false
set_option linter.unusedSimpArgs false

/-- an environment of n slots of which only slot s is told -/
abbrev ret1 (n s : Nat) (v : AV) : Env := anys s ++ v :: anys (n - s - 1)
/-- the first place -/
def idxM {α : Type} (p : α → Bool) (xs : List α) : Int := if xs.findIdx p < xs.length then xs.findIdx p else -1
theorem findIdx_not {α : Type} {p : α → Bool} {xs : List α} {i : Nat} (d : α) (h : i < xs.findIdx p) (hl : i < xs.length) : p (xs.getD i d) = false := by
  have := List.not_of_lt_findIdx h
  simpa [List.getD, List.getElem?_eq_getElem hl] using this
theorem findIdx_is {α : Type} {p : α → Bool} {xs : List α} (d : α) (h : xs.findIdx p < xs.length) : p (xs.getD (xs.findIdx p) d) = true := by
  have := List.findIdx_getElem (w := h)
  simpa [List.getD, List.getElem?_eq_getElem h] using this
theorem findIdx_eq {α : Type} {p : α → Bool} {xs : List α} (h : ¬ xs.findIdx p < xs.length) : xs.findIdx p = xs.length := by
  have := List.findIdx_le_length (p := p) (xs := xs); omega
theorem any_findIdx {α : Type} {p : α → Bool} {xs : List α} : xs.any p = decide (xs.findIdx p < xs.length) := by
  rw [Bool.eq_iff_iff]
  simp only [List.any_eq_true, decide_eq_true_eq, List.findIdx_lt_length]
theorem idx_any {α : Type} {p : α → Bool} {xs : List α} : decide (idxM p xs ≥ 0) = xs.any p := by
  rw [any_findIdx]
  unfold idxM
  by_cases hlt : xs.findIdx p < xs.length
  · simp [hlt]
  · simp [hlt]

open Go.IntKind (wrap)
-- FN slices_IndexFunc___float32_float32_
def ps_slices_IndexFunc___float32_float32_ : List Nat := [0, 1, 4, 5, 7, 8, 9, 16]
def lv_slices_IndexFunc___float32_float32__L0 : List Nat := [0, 1, 7, 8]
def b_slices_IndexFunc___float32_float32__L0 : VCode :=
 (.seq
 (.region false [
 ⟨some 9, (.bin .lss), [.t 8, .t 7], none⟩])
 (.seq
 (.cond (.t 9)
 .skip
 (.exit 0))
 (.seq
 (.block 1
 (.seq
 (.region false [
 ⟨some 10, .mv, [.t 8], none⟩,
 ⟨some 5, .mv, [.t 10], none⟩])
 (.seq
 (.region false [
 ⟨some 11, .mv, [.t 1], none⟩,
 ⟨some 12, .mv, [.t 0], none⟩,
 ⟨some 13, .mv, [.t 5], none⟩,
 ⟨some 14, .iaddr, [.t 12, .t 13], none⟩,
 ⟨some 15, .load, [.t 14], none⟩,
 ⟨some 16, .callv, [.t 11, .t 15], none⟩])
 (.cond (.t 16)
 (.seq
 (.region false [
 ⟨some 17, .mv, [.t 5], none⟩,
 ⟨some 4, .mv, [.t 17], none⟩])
 .ret)
 .skip))))
 (.region false [
 ⟨some 18, (.bin .add), [.t 8, .k (.i .i64 1)], none⟩,
 ⟨some 8, .mv, [.t 18], none⟩]))))

def b_slices_IndexFunc___float32_float32_ : VCode :=
 (.seq
 (.region false [
 ⟨some 4, .mv, [.k (.i .i64 0)], none⟩])
 (.seq
 (.seq
 (.region false [
 ⟨some 6, .mv, [.t 0], none⟩,
 ⟨some 7, .len, [.t 6], none⟩,
 ⟨some 8, .mv, [.k (.i .i64 0)], none⟩])
 (.block 0 (.loop b_slices_IndexFunc___float32_float32__L0)))
 (.seq
 (.region false [
 ⟨some 4, .mv, [.k (.i .i64 (-1))], none⟩])
 .ret)))

abbrev Is_slices_IndexFunc___float32_float32_ (P : Program) (g_f : FuncId) : Prop := FnIs P g_f 19 [.t 4] (b_slices_IndexFunc___float32_float32_)

abbrev C_slices_IndexFunc___float32_float32_ (P : Program) (g_f : FuncId) : Prop := ∀ (xs : List Nat) (F : FuncId) (p : Nat → Bool) (hF : ∀ x, VCall P F [.f .f32 x] (.b (p x))) (hx : xs.length ≤ maxLen), VCall P g_f [PS [0] .f32 xs, .fn F []] (.i .i64 (idxM p xs))
def oc_slices_IndexFunc___float32_float32_ (xs : List Nat) (F : FuncId) (p : Nat → Bool) (d : Nat) (as : List AV) : T AV := match d with | 16 => (match as with | [.f _ x] => .leaf (.b (p x)) | _ => .fail) | _ => .fail
def h_slices_IndexFunc___float32_float32__L0 (xs : List Nat) (F : FuncId) (p : Nat → Bool) (v8 : Int) : Env := [AV.sl (Tag.par [0]) 0 (Cont.f .f32 xs), AV.fn F []] ++ anys 5 ++ [AV.i .i64 (↑(List.length xs) : Int), .i .i64 v8] ++ anys 10

theorem q_slices_IndexFunc___float32_float32__L0 {VC : FuncId → List AV → AV → Prop} (xs : List Nat) (F : FuncId) (p : Nat → Bool) (v8 : Int) {e_ : Ex} {σ_ : Env} (ht : T.ok (fun x_ => x_ = (e_, σ_)) (
 T.ite (decide (v8 < (↑(List.length xs) : Int)))
 (T.ob (0 ≤ v8 ∧ v8 < (↑(List.length xs) : Int))
 (T.ob (VC F [AV.f .f32 (List.getD xs (Int.toNat v8) 0)] (AV.b (p (List.getD xs (Int.toNat v8) 0))))
 (T.ite (p (List.getD xs (Int.toNat v8) 0)) (T.leaf (Ex.ret, anys 4 ++ AV.i .i64 v8 :: anys 14)) (T.leaf (Ex.normal, h_slices_IndexFunc___float32_float32__L0 xs F p (wrap .i64 (v8 + 1)))))))
 (T.leaf (Ex.exit 0, h_slices_IndexFunc___float32_float32__L0 xs F p v8)))) :
 Exec VC ps_slices_IndexFunc___float32_float32_ (b_slices_IndexFunc___float32_float32__L0) (h_slices_IndexFunc___float32_float32__L0 xs F p v8) e_ σ_ := evL_of (lv := lv_slices_IndexFunc___float32_float32__L0) (rs := [4]) (O := ⟨oc_slices_IndexFunc___float32_float32_ xs F p, fun _ _ => none⟩) (by kernel_rfl) ht

theorem q_slices_IndexFunc___float32_float32_ {P : Program} {g_f : FuncId} (h_ : Is_slices_IndexFunc___float32_float32_ P g_f) (xs : List Nat) (F : FuncId) (p : Nat → Bool) (ht : T.ok (fun x_ => x_ = .i .i64 (idxM p xs)) (
 T.ite (decide (List.findIdx p xs < List.length xs))
 (T.ob
 (Exec (VCall P) ps_slices_IndexFunc___float32_float32_ (VCode.block 0 (VCode.loop b_slices_IndexFunc___float32_float32__L0)) (h_slices_IndexFunc___float32_float32__L0 xs F p 0) Ex.ret
 (anys 4 ++ AV.i .i64 (↑(List.findIdx p xs) : Int) :: anys 14))
 (T.leaf (AV.i .i64 (↑(List.findIdx p xs) : Int))))
 (T.ob
 (Exec (VCall P) ps_slices_IndexFunc___float32_float32_ (VCode.block 0 (VCode.loop b_slices_IndexFunc___float32_float32__L0)) (h_slices_IndexFunc___float32_float32__L0 xs F p 0) Ex.normal
 (h_slices_IndexFunc___float32_float32__L0 xs F p (↑(List.length xs) : Int)))
 (T.leaf (AV.i .i64 (-1)))))) :
 VCall P g_f [PS [0] .f32 xs, .fn F []] (.i .i64 (idxM p xs)) := h_.call_of ps_slices_IndexFunc___float32_float32_ ⟨oc_slices_IndexFunc___float32_float32_ xs F p, fun id σ => match id with | 0 => some (lv_slices_IndexFunc___float32_float32__L0, .ite (decide (xs.findIdx p < xs.length)) (.leaf (.ret, ret1 19 4 (.i .i64 (xs.findIdx p)))) (.leaf (.normal, h_slices_IndexFunc___float32_float32__L0 xs F p xs.length))) | _ => none⟩ (by kernel_rfl) ht

-- END slices_IndexFunc___float32_float32_

theorem k_slices_IndexFunc___float32_float32_ {P : Program} {f : FuncId} (h : Is_slices_IndexFunc___float32_float32_ P f) : C_slices_IndexFunc___float32_float32_ P f := by
  intro xs F p hF hx
  have hm := ml64 hx
  have step : ∀ i, i < xs.length → p (xs.getD i 0) = false → Exec (VCall P) ps_slices_IndexFunc___float32_float32_ b_slices_IndexFunc___float32_float32__L0 (h_slices_IndexFunc___float32_float32__L0 xs F p i) .normal (h_slices_IndexFunc___float32_float32__L0 xs F p (i + 1 : Nat)) := by
    intro i hi hp
    refine q_slices_IndexFunc___float32_float32__L0 _ _ _ _ ⟨fun _ => ⟨by omega, fun _ => ⟨hF _, fun _ => ⟨fun h => ?_, fun _ => ?_⟩⟩⟩, fun h => absurd (of_decide_eq_false h) (by omega)⟩
    · rw [getD_nat, hp] at h; cases h
    · show _ = _
      rw [wrap64_id (by omega) (by omega)]; rfl
  refine q_slices_IndexFunc___float32_float32_ h xs F p ⟨fun hlt => ⟨?_, fun _ => ?_⟩, fun hge => ⟨?_, fun _ => ?_⟩⟩
  · have hlt := of_decide_eq_true hlt
    refine for_up (e := .ret) (xs.findIdx p) (fun i => h_slices_IndexFunc___float32_float32__L0 xs F p i) rfl (fun i hi => step i (by omega) (findIdx_not 0 hi (by omega))) ?_
    refine q_slices_IndexFunc___float32_float32__L0 _ _ _ _ ⟨fun _ => ⟨by omega, fun _ => ⟨hF _, fun _ => ⟨fun _ => rfl, fun h => ?_⟩⟩⟩, fun h => absurd (of_decide_eq_false h) (by omega)⟩
    rw [getD_nat, findIdx_is 0 hlt] at h; cases h
  · have hlt := of_decide_eq_true hlt
    show _ = _
    simp [idxM, hlt]
  · have hge := of_decide_eq_false hge
    have he := findIdx_eq hge
    refine for_up (e := .exit 0) xs.length (fun i => h_slices_IndexFunc___float32_float32__L0 xs F p i) rfl (fun i hi => step i hi (findIdx_not 0 (by omega) hi)) ?_
    exact q_slices_IndexFunc___float32_float32__L0 _ _ _ _ ⟨fun h => absurd h (by simp), fun _ => rfl⟩
  · have hge := of_decide_eq_false hge
    show _ = _
    simp [idxM, hge]

-- FN slices_ContainsFunc___float32_float32_
def ps_slices_ContainsFunc___float32_float32_ : List Nat := [0, 1, 4]
def b_slices_ContainsFunc___float32_float32_ (gq0 : FuncId) : VCode :=
 (.seq
 (.region false [
 ⟨some 4, .mv, [.k (.b false)], none⟩])
 (.seq
 (.region false [
 ⟨some 5, .mv, [.t 0], none⟩,
 ⟨some 6, .mv, [.t 1], none⟩,
 ⟨some 7, (.call gq0), [.t 5, .t 6], none⟩,
 ⟨some 8, (.bin .geq), [.t 7, .k (.i .i64 0)], none⟩,
 ⟨some 4, .mv, [.t 8], none⟩])
 .ret))

abbrev Is_slices_ContainsFunc___float32_float32_ (P : Program) (g_f : FuncId) (gq0 : FuncId) : Prop := FnIs P g_f 9 [.t 4] (b_slices_ContainsFunc___float32_float32_ gq0)

abbrev C_slices_ContainsFunc___float32_float32_ (P : Program) (g_f : FuncId) : Prop := ∀ (xs : List Nat) (F : FuncId) (p : Nat → Bool) (hF : ∀ x, VCall P F [.f .f32 x] (.b (p x))) (hx : xs.length ≤ maxLen), VCall P g_f [PS [0] .f32 xs, .fn F []] (.b (xs.any p))
def oc_slices_ContainsFunc___float32_float32_ (xs : List Nat) (F : FuncId) (p : Nat → Bool) (d : Nat) (as : List AV) : T AV := match d with | 7 => .leaf (.i .i64 (idxM p xs)) | _ => .fail



theorem q_slices_ContainsFunc___float32_float32_ {P : Program} {g_f : FuncId} {gq0 : FuncId} (h_ : Is_slices_ContainsFunc___float32_float32_ P g_f gq0) (xs : List Nat) (F : FuncId) (p : Nat → Bool) (ht : T.ok (fun x_ => x_ = .b (xs.any p)) (
 T.ob ((VCall P) gq0 [AV.sl (Tag.par [0]) 0 (Cont.f .f32 xs), AV.fn F []] (AV.i .i64 (idxM p xs))) (T.leaf (AV.b (decide (idxM p xs ≥ 0)))))) :
 VCall P g_f [PS [0] .f32 xs, .fn F []] (.b (xs.any p)) := h_.call_of ps_slices_ContainsFunc___float32_float32_ ⟨oc_slices_ContainsFunc___float32_float32_ xs F p, fun _ _ => none⟩ (by kernel_rfl) ht

-- END slices_ContainsFunc___float32_float32_

theorem k_slices_ContainsFunc___float32_float32_ {P : Program} {f g : FuncId} (h : Is_slices_ContainsFunc___float32_float32_ P f g) (hg : C_slices_IndexFunc___float32_float32_ P g) : C_slices_ContainsFunc___float32_float32_ P f := by
  intro xs F p hF hx
  refine q_slices_ContainsFunc___float32_float32_ h xs F p ⟨hg xs F p hF hx, fun _ => ?_⟩
  show _ = _
  rw [idx_any]

-- FN impl_areFinite_1
def ps_impl_areFinite_1 : List Nat := [0, 2]
def b_impl_areFinite_1 (gq0 : FuncId) : VCode :=
 (.seq
 (.region false [
 ⟨some 2, .mv, [.k (.b false)], none⟩])
 (.seq
 (.region false [
 ⟨some 3, .mv, [.t 0], none⟩,
 ⟨some 4, (.call gq0), [.t 3], none⟩,
 ⟨some 5, .not, [.t 4], none⟩,
 ⟨some 2, .mv, [.t 5], none⟩])
 .ret))

abbrev Is_impl_areFinite_1 (P : Program) (g_f : FuncId) (gq0 : FuncId) : Prop := FnIs P g_f 6 [.t 2] (b_impl_areFinite_1 gq0)

abbrev C_impl_areFinite_1 (P : Program) (g_f : FuncId) : Prop := ∀ (x : Nat), VCall P g_f [.f .f32 x] (.b (!finM x))
def oc_impl_areFinite_1 (x : Nat) (d : Nat) (as : List AV) : T AV := match d with | 4 => oc1_impl_IsFinite as | _ => .fail



theorem q_impl_areFinite_1 {P : Program} {g_f : FuncId} {gq0 : FuncId} (h_ : Is_impl_areFinite_1 P g_f gq0) (x : Nat) (ht : T.ok (fun x_ => x_ = .b (!finM x)) (
 T.ob ((VCall P) gq0 [AV.f .f32 x] (AV.b (finM x))) (T.leaf (AV.b !finM x)))) :
 VCall P g_f [.f .f32 x] (.b (!finM x)) := h_.call_of ps_impl_areFinite_1 ⟨oc_impl_areFinite_1 x, fun _ _ => none⟩ (by kernel_rfl) ht

-- END impl_areFinite_1

theorem k_impl_areFinite_1 {P : Program} {f g : FuncId} (h : Is_impl_areFinite_1 P f g) (hg : C_impl_IsFinite P g) : C_impl_areFinite_1 P f := fun x => q_impl_areFinite_1 h x ⟨hg x, fun _ => rfl⟩

-- FN impl_areFinite
def ps_impl_areFinite : List Nat := [0, 2]
def b_impl_areFinite (gq0 gq1 : FuncId) : VCode :=
 (.seq
 (.region false [
 ⟨some 2, .mv, [.k (.b false)], none⟩])
 (.seq
 (.region false [
 ⟨some 3, .mv, [.t 0], none⟩,
 ⟨some 4, (.call gq0), [.t 3, .k (.fn gq1 [])], none⟩,
 ⟨some 5, .not, [.t 4], none⟩,
 ⟨some 2, .mv, [.t 5], none⟩])
 .ret))

abbrev Is_impl_areFinite (P : Program) (g_f : FuncId) (gq0 gq1 : FuncId) : Prop := FnIs P g_f 6 [.t 2] (b_impl_areFinite gq0 gq1)

abbrev C_impl_areFinite (P : Program) (g_f : FuncId) : Prop := ∀ (xs : List Nat) (hx : xs.length ≤ maxLen), VCall P g_f [PS [0] .f32 xs] (.b (finAllM xs))
def oc1_impl_areFinite (as : List AV) : T AV := match as with | [.sl _ _ (.f .f32 xs)] => .leaf (.b (finAllM xs)) | _ => .fail
def oc_impl_areFinite (xs : List Nat) (d : Nat) (as : List AV) : T AV := match d with | 4 => .leaf (.b (xs.any fun x => !finM x)) | _ => .fail



theorem q_impl_areFinite {P : Program} {g_f : FuncId} {gq0 gq1 : FuncId} (h_ : Is_impl_areFinite P g_f gq0 gq1) (xs : List Nat) (ht : T.ok (fun x_ => x_ = .b (finAllM xs)) (
 T.ob ((VCall P) gq0 [AV.sl (Tag.par [0]) 0 (Cont.f .f32 xs), AV.fn gq1 []] (AV.b (List.any xs fun (x : Nat) => !finM x)))
 (T.leaf (AV.b !List.any xs fun (x : Nat) => !finM x)))) :
 VCall P g_f [PS [0] .f32 xs] (.b (finAllM xs)) := h_.call_of ps_impl_areFinite ⟨oc_impl_areFinite xs, fun _ _ => none⟩ (by kernel_rfl) ht

-- END impl_areFinite

theorem k_impl_areFinite {P : Program} {f g F : FuncId} (h : Is_impl_areFinite P f g F) (hg : C_slices_ContainsFunc___float32_float32_ P g) (hF : C_impl_areFinite_1 P F) : C_impl_areFinite P f := by
  intro xs hx
  refine q_impl_areFinite h xs ⟨hg xs F _ hF hx, fun _ => ?_⟩
  show _ = _
  congr 1
  unfold finAllM
  rw [← List.not_all_eq_any_not, Bool.not_not]

theorem finAll_findIdx (xs : List Nat) : finAllM xs = !decide (xs.findIdx (fun x => !finM x) < xs.length) := by
  rw [← any_findIdx, ← List.not_all_eq_any_not, Bool.not_not]; rfl

-- FN spec_l02Finite
def ps_spec_l02Finite : List Nat := [0, 2, 3, 7, 15]
def lv_spec_l02Finite_L0 : List Nat := [0, 3]
def b_spec_l02Finite_L0 (gq0 : FuncId) : VCode :=
 (.seq
 (.seq
 (.region false [
 ⟨some 4, .mv, [.t 3], none⟩,
 ⟨some 5, .mv, [.t 0], none⟩,
 ⟨some 6, .len, [.t 5], none⟩,
 ⟨some 7, (.bin .lss), [.t 4, .t 6], none⟩])
 (.cond (.t 7)
 .skip
 (.exit 0)))
 (.seq
 (.block 1
 (.seq
 (.region false [
 ⟨some 10, .mv, [.t 0], none⟩,
 ⟨some 11, .mv, [.t 3], none⟩,
 ⟨some 12, .iaddr, [.t 10, .t 11], none⟩,
 ⟨some 13, .load, [.t 12], none⟩,
 ⟨some 14, (.call gq0), [.t 13], none⟩,
 ⟨some 15, .not, [.t 14], none⟩])
 (.cond (.t 15)
 (.seq
 (.region false [
 ⟨some 2, .mv, [.k (.b false)], none⟩])
 .ret)
 .skip)))
 (.region false [
 ⟨some 8, .mv, [.t 3], none⟩,
 ⟨some 9, (.bin .add), [.t 8, .k (.i .i64 1)], none⟩,
 ⟨some 3, .mv, [.t 9], none⟩])))

def b_spec_l02Finite (gq0 : FuncId) : VCode :=
 (.seq
 (.region false [
 ⟨some 2, .mv, [.k (.b false)], none⟩])
 (.seq
 (.seq
 (.region false [
 ⟨some 3, .mv, [.k (.i .i64 0)], none⟩])
 (.block 0 (.loop (b_spec_l02Finite_L0 gq0))))
 (.seq
 (.region false [
 ⟨some 2, .mv, [.k (.b true)], none⟩])
 .ret)))

abbrev Is_spec_l02Finite (P : Program) (g_f : FuncId) (gq0 : FuncId) : Prop := FnIs P g_f 16 [.t 2] (b_spec_l02Finite gq0)

abbrev C_spec_l02Finite (P : Program) (g_f : FuncId) : Prop := ∀ (xs : List Nat) (hx : xs.length ≤ maxLen), VCall P g_f [PS [0] .f32 xs] (.b (finAllM xs))
def oc1_spec_l02Finite (as : List AV) : T AV := match as with | [.sl _ _ (.f .f32 xs)] => .leaf (.b (finAllM xs)) | _ => .fail
def oc_spec_l02Finite (xs : List Nat) (d : Nat) (as : List AV) : T AV := match d with | 14 => oc1_spec_l01Finite as | _ => .fail
def h_spec_l02Finite_L0 (xs : List Nat) (i : Int) : Env := [AV.sl (Tag.par [0]) 0 (Cont.f .f32 xs), .any, .any, .i .i64 i] ++ anys 12

theorem q_spec_l02Finite_L0 {VC : FuncId → List AV → AV → Prop} {gq0 : FuncId} (xs : List Nat) (i : Int) {e_ : Ex} {σ_ : Env} (ht : T.ok (fun x_ => x_ = (e_, σ_)) (
 T.ite (decide (i < (↑(List.length xs) : Int)))
 (T.ob (0 ≤ i ∧ i < (↑(List.length xs) : Int))
 (T.ob (VC gq0 [AV.f .f32 (List.getD xs (Int.toNat i) 0)] (AV.b (finM (List.getD xs (Int.toNat i) 0))))
 (T.ite (!finM (List.getD xs (Int.toNat i) 0)) (T.leaf (Ex.ret, AV.any :: AV.any :: AV.b false :: anys 13)) (T.leaf (Ex.normal, h_spec_l02Finite_L0 xs (wrap .i64 (i + 1)))))))
 (T.leaf (Ex.exit 0, h_spec_l02Finite_L0 xs i)))) :
 Exec VC ps_spec_l02Finite (b_spec_l02Finite_L0 gq0) (h_spec_l02Finite_L0 xs i) e_ σ_ := evL_of (lv := lv_spec_l02Finite_L0) (rs := [2]) (O := ⟨oc_spec_l02Finite xs, fun _ _ => none⟩) (by kernel_rfl) ht

theorem q_spec_l02Finite {P : Program} {g_f : FuncId} {gq0 : FuncId} (h_ : Is_spec_l02Finite P g_f gq0) (xs : List Nat) (ht : T.ok (fun x_ => x_ = .b (finAllM xs)) (
 T.ite (decide (List.findIdx (fun (x : Nat) => !finM x) xs < List.length xs))
 (T.ob (Exec (VCall P) ps_spec_l02Finite (VCode.block 0 (VCode.loop (b_spec_l02Finite_L0 gq0))) (h_spec_l02Finite_L0 xs 0) Ex.ret (AV.any :: AV.any :: AV.b false :: anys 13)) (T.leaf (AV.b false)))
 (T.ob (Exec (VCall P) ps_spec_l02Finite (VCode.block 0 (VCode.loop (b_spec_l02Finite_L0 gq0))) (h_spec_l02Finite_L0 xs 0) Ex.normal (h_spec_l02Finite_L0 xs (↑(List.length xs) : Int))) (T.leaf (AV.b true))))) :
 VCall P g_f [PS [0] .f32 xs] (.b (finAllM xs)) := h_.call_of ps_spec_l02Finite ⟨oc_spec_l02Finite xs, fun id σ => match id with | 0 => some (lv_spec_l02Finite_L0, .ite (decide (xs.findIdx (fun x => !finM x) < xs.length)) (.leaf (.ret, ret1 16 2 (.b false))) (.leaf (.normal, h_spec_l02Finite_L0 xs xs.length))) | _ => none⟩ (by kernel_rfl) ht

-- END spec_l02Finite

theorem k_spec_l02Finite {P : Program} {f g : FuncId} (h : Is_spec_l02Finite P f g) (hg : C_spec_l01Finite P g) : C_spec_l02Finite P f := by
  intro xs hx
  have hm := ml64 hx
  have step : ∀ i, i < xs.length → (!finM (xs.getD i 0)) = false → Exec (VCall P) ps_spec_l02Finite (b_spec_l02Finite_L0 g) (h_spec_l02Finite_L0 xs i) .normal (h_spec_l02Finite_L0 xs (i + 1 : Nat)) := by
    intro i hi hp
    have hp : finM (xs.getD i 0) = true := by simpa using hp
    refine q_spec_l02Finite_L0 _ _ ⟨fun _ => ⟨by omega, fun _ => ⟨hg _, fun _ => ⟨fun h => ?_, fun _ => ?_⟩⟩⟩, fun h => absurd (of_decide_eq_false h) (by omega)⟩
    · rw [getD_nat, hp] at h; cases h
    · show _ = _
      rw [wrap64_id (by omega) (by omega)]; rfl
  refine q_spec_l02Finite h xs ⟨fun hlt => ⟨?_, fun _ => ?_⟩, fun hge => ⟨?_, fun _ => ?_⟩⟩
  · have hlt := of_decide_eq_true hlt
    refine for_up (e := .ret) _ (fun i => h_spec_l02Finite_L0 xs i) rfl (fun i hi => step i (by omega) (findIdx_not (p := fun x => !finM x) 0 hi (by omega))) ?_
    refine q_spec_l02Finite_L0 _ _ ⟨fun _ => ⟨by omega, fun _ => ⟨hg _, fun _ => ⟨fun _ => rfl, fun h => ?_⟩⟩⟩, fun h => absurd (of_decide_eq_false h) (by omega)⟩
    have := findIdx_is 0 hlt
    rw [getD_nat, this] at h; cases h
  · show _ = _
    rw [finAll_findIdx, hlt]; rfl
  · have hge := of_decide_eq_false hge
    have he := findIdx_eq hge
    refine for_up (e := .exit 0) xs.length (fun i => h_spec_l02Finite_L0 xs i) rfl (fun i hi => step i hi (findIdx_not (p := fun x => !finM x) 0 (by omega) hi)) ?_
    exact q_spec_l02Finite_L0 _ _ ⟨fun h => absurd h (by simp), fun _ => rfl⟩
  · show _ = _
    rw [finAll_findIdx, hge]; rfl

theorem maxLen_eq : maxLen = 9223372036854775807 := rfl
def seriesM (xs : List Nat) : Bool := decide ((xs.length : Int) ≥ 1) && (decide ((xs.length : Int) ≤ 96) && finAllM xs)
def twoM (xs ys : List Nat) : Bool := seriesM xs && seriesM ys && ((xs.length : Int) == (ys.length : Int))
def ifAllM (xs : List Nat) : List Nat := if finAllM xs = true then xs else []
-- FN impl_IsSeries
def ps_impl_IsSeries : List Nat := [0, 2]
def b_impl_IsSeries (gq0 : FuncId) : VCode :=
 (.seq
 (.region false [
 ⟨some 2, .mv, [.k (.b false)], none⟩])
 (.seq
 (.region false [
 ⟨some 3, .mv, [.t 0], none⟩,
 ⟨some 4, .len, [.t 3], none⟩,
 ⟨some 5, (.bin .geq), [.t 4, .k (.i .i64 1)], none⟩,
 ⟨some 6, .mv, [.t 5], none⟩,
 ⟨some 7, .mv, [.t 0], some (6, true)⟩,
 ⟨some 8, .len, [.t 7], some (6, true)⟩,
 ⟨some 9, (.bin .leq), [.t 8, .k (.i .i64 96)], some (6, true)⟩,
 ⟨some 10, .pick, [.t 6, .t 9, .k (.b false)], none⟩,
 ⟨some 11, .mv, [.t 10], none⟩,
 ⟨some 12, .mv, [.t 0], some (11, true)⟩,
 ⟨some 13, (.call gq0), [.t 12], some (11, true)⟩,
 ⟨some 14, .pick, [.t 11, .t 13, .k (.b false)], none⟩,
 ⟨some 2, .mv, [.t 14], none⟩])
 .ret))

abbrev Is_impl_IsSeries (P : Program) (g_f : FuncId) (gq0 : FuncId) : Prop := FnIs P g_f 15 [.t 2] (b_impl_IsSeries gq0)

abbrev C_impl_IsSeries (P : Program) (g_f : FuncId) : Prop := ∀ (xs : List Nat) (hx : xs.length ≤ maxLen), VCall P g_f [PS [0] .f32 xs] (.b (seriesM xs))
def oc1_impl_IsSeries (as : List AV) : T AV := match as with | [.sl _ _ (.f .f32 xs)] => .leaf (.b (seriesM xs)) | _ => .fail
def oc_impl_IsSeries (xs : List Nat) (d : Nat) (as : List AV) : T AV := match d with | 13 => oc1_impl_areFinite as | _ => .fail



theorem q_impl_IsSeries {P : Program} {g_f : FuncId} {gq0 : FuncId} (h_ : Is_impl_IsSeries P g_f gq0) (xs : List Nat) (ht : T.ok (fun x_ => x_ = .b (seriesM xs)) (
 T.ite (decide ((↑(List.length xs) : Int) ≥ 1))
 (T.ite (decide ((↑(List.length xs) : Int) ≤ 96)) (T.ob ((VCall P) gq0 [AV.sl (Tag.par [0]) 0 (Cont.f .f32 xs)] (AV.b (finAllM xs))) (T.leaf (AV.b (finAllM xs)))) (T.leaf (AV.b false)))
 (T.leaf (AV.b false)))) :
 VCall P g_f [PS [0] .f32 xs] (.b (seriesM xs)) := h_.call_of ps_impl_IsSeries ⟨oc_impl_IsSeries xs, fun _ _ => none⟩ (by kernel_rfl) ht

-- END impl_IsSeries

-- FN spec_l02Series
def ps_spec_l02Series : List Nat := [0, 2]
def b_spec_l02Series (gq0 : FuncId) : VCode :=
 (.seq
 (.region false [
 ⟨some 2, .mv, [.k (.b false)], none⟩])
 (.seq
 (.region false [
 ⟨some 3, .mv, [.t 0], none⟩,
 ⟨some 4, .len, [.t 3], none⟩,
 ⟨some 5, (.bin .geq), [.t 4, .k (.i .i64 1)], none⟩,
 ⟨some 6, .mv, [.t 5], none⟩,
 ⟨some 7, .mv, [.t 0], some (6, true)⟩,
 ⟨some 8, .len, [.t 7], some (6, true)⟩,
 ⟨some 9, (.bin .leq), [.t 8, .k (.i .i64 96)], some (6, true)⟩,
 ⟨some 10, .pick, [.t 6, .t 9, .k (.b false)], none⟩,
 ⟨some 11, .mv, [.t 10], none⟩,
 ⟨some 12, .mv, [.t 0], some (11, true)⟩,
 ⟨some 13, (.call gq0), [.t 12], some (11, true)⟩,
 ⟨some 14, .pick, [.t 11, .t 13, .k (.b false)], none⟩,
 ⟨some 2, .mv, [.t 14], none⟩])
 .ret))

abbrev Is_spec_l02Series (P : Program) (g_f : FuncId) (gq0 : FuncId) : Prop := FnIs P g_f 15 [.t 2] (b_spec_l02Series gq0)

abbrev C_spec_l02Series (P : Program) (g_f : FuncId) : Prop := ∀ (xs : List Nat) (hx : xs.length ≤ maxLen), VCall P g_f [PS [0] .f32 xs] (.b (seriesM xs))
def oc1_spec_l02Series (as : List AV) : T AV := match as with | [.sl _ _ (.f .f32 xs)] => .leaf (.b (seriesM xs)) | _ => .fail
def oc_spec_l02Series (xs : List Nat) (d : Nat) (as : List AV) : T AV := match d with | 13 => oc1_spec_l02Finite as | _ => .fail



theorem q_spec_l02Series {P : Program} {g_f : FuncId} {gq0 : FuncId} (h_ : Is_spec_l02Series P g_f gq0) (xs : List Nat) (ht : T.ok (fun x_ => x_ = .b (seriesM xs)) (
 T.ite (decide ((↑(List.length xs) : Int) ≥ 1))
 (T.ite (decide ((↑(List.length xs) : Int) ≤ 96)) (T.ob ((VCall P) gq0 [AV.sl (Tag.par [0]) 0 (Cont.f .f32 xs)] (AV.b (finAllM xs))) (T.leaf (AV.b (finAllM xs)))) (T.leaf (AV.b false)))
 (T.leaf (AV.b false)))) :
 VCall P g_f [PS [0] .f32 xs] (.b (seriesM xs)) := h_.call_of ps_spec_l02Series ⟨oc_spec_l02Series xs, fun _ _ => none⟩ (by kernel_rfl) ht

-- END spec_l02Series

-- FN impl_areTwo
def ps_impl_areTwo : List Nat := [0, 1, 4]
def b_impl_areTwo (gq0 : FuncId) : VCode :=
 (.seq
 (.region false [
 ⟨some 4, .mv, [.k (.b false)], none⟩])
 (.seq
 (.region false [
 ⟨some 5, .mv, [.t 0], none⟩,
 ⟨some 6, (.call gq0), [.t 5], none⟩,
 ⟨some 7, .mv, [.t 6], none⟩,
 ⟨some 8, .mv, [.t 1], some (7, true)⟩,
 ⟨some 9, (.call gq0), [.t 8], some (7, true)⟩,
 ⟨some 10, .pick, [.t 7, .t 9, .k (.b false)], none⟩,
 ⟨some 11, .mv, [.t 10], none⟩,
 ⟨some 12, .mv, [.t 0], some (11, true)⟩,
 ⟨some 13, .len, [.t 12], some (11, true)⟩,
 ⟨some 14, .mv, [.t 1], some (11, true)⟩,
 ⟨some 15, .len, [.t 14], some (11, true)⟩,
 ⟨some 16, (.bin .eql), [.t 13, .t 15], some (11, true)⟩,
 ⟨some 17, .pick, [.t 11, .t 16, .k (.b false)], none⟩,
 ⟨some 4, .mv, [.t 17], none⟩])
 .ret))

abbrev Is_impl_areTwo (P : Program) (g_f : FuncId) (gq0 : FuncId) : Prop := FnIs P g_f 18 [.t 4] (b_impl_areTwo gq0)

abbrev C_impl_areTwo (P : Program) (g_f : FuncId) : Prop := ∀ (xs : List Nat) (ys : List Nat) (hx : xs.length ≤ maxLen) (hy : ys.length ≤ maxLen), VCall P g_f [PS [0] .f32 xs, PS [1] .f32 ys] (.b (twoM xs ys))
def oc1_impl_areTwo (as : List AV) : T AV := match as with | [.sl _ _ (.f .f32 xs), .sl _ _ (.f .f32 ys)] => .leaf (.b (twoM xs ys)) | _ => .fail
def oc_impl_areTwo (xs : List Nat) (ys : List Nat) (d : Nat) (as : List AV) : T AV := match d with | 6 => oc1_impl_IsSeries as | 9 => oc1_impl_IsSeries as | _ => .fail



theorem q_impl_areTwo {P : Program} {g_f : FuncId} {gq0 : FuncId} (h_ : Is_impl_areTwo P g_f gq0) (xs : List Nat) (ys : List Nat) (ht : T.ok (fun x_ => x_ = .b (twoM xs ys)) (
 T.ob ((VCall P) gq0 [AV.sl (Tag.par [0]) 0 (Cont.f .f32 xs)] (AV.b (seriesM xs)))
 (T.ite (seriesM xs)
 (T.ob ((VCall P) gq0 [AV.sl (Tag.par [0]) 0 (Cont.f .f32 ys)] (AV.b (seriesM ys))) (T.ite (seriesM ys) (T.leaf (AV.b ((↑(List.length xs) : Int) == (↑(List.length ys) : Int)))) (T.leaf (AV.b false))))
 (T.leaf (AV.b false))))) :
 VCall P g_f [PS [0] .f32 xs, PS [1] .f32 ys] (.b (twoM xs ys)) := h_.call_of ps_impl_areTwo ⟨oc_impl_areTwo xs ys, fun _ _ => none⟩ (by kernel_rfl) ht

-- END impl_areTwo

-- FN spec_l03Pair
def ps_spec_l03Pair : List Nat := [0, 1, 4]
def b_spec_l03Pair (gq0 : FuncId) : VCode :=
 (.seq
 (.region false [
 ⟨some 4, .mv, [.k (.b false)], none⟩])
 (.seq
 (.region false [
 ⟨some 5, .mv, [.t 0], none⟩,
 ⟨some 6, (.call gq0), [.t 5], none⟩,
 ⟨some 7, .mv, [.t 6], none⟩,
 ⟨some 8, .mv, [.t 1], some (7, true)⟩,
 ⟨some 9, (.call gq0), [.t 8], some (7, true)⟩,
 ⟨some 10, .pick, [.t 7, .t 9, .k (.b false)], none⟩,
 ⟨some 11, .mv, [.t 10], none⟩,
 ⟨some 12, .mv, [.t 0], some (11, true)⟩,
 ⟨some 13, .len, [.t 12], some (11, true)⟩,
 ⟨some 14, .mv, [.t 1], some (11, true)⟩,
 ⟨some 15, .len, [.t 14], some (11, true)⟩,
 ⟨some 16, (.bin .eql), [.t 13, .t 15], some (11, true)⟩,
 ⟨some 17, .pick, [.t 11, .t 16, .k (.b false)], none⟩,
 ⟨some 4, .mv, [.t 17], none⟩])
 .ret))

abbrev Is_spec_l03Pair (P : Program) (g_f : FuncId) (gq0 : FuncId) : Prop := FnIs P g_f 18 [.t 4] (b_spec_l03Pair gq0)

abbrev C_spec_l03Pair (P : Program) (g_f : FuncId) : Prop := ∀ (xs : List Nat) (ys : List Nat) (hx : xs.length ≤ maxLen) (hy : ys.length ≤ maxLen), VCall P g_f [PS [0] .f32 xs, PS [1] .f32 ys] (.b (twoM xs ys))
def oc1_spec_l03Pair (as : List AV) : T AV := match as with | [.sl _ _ (.f .f32 xs), .sl _ _ (.f .f32 ys)] => .leaf (.b (twoM xs ys)) | _ => .fail
def oc_spec_l03Pair (xs : List Nat) (ys : List Nat) (d : Nat) (as : List AV) : T AV := match d with | 6 => oc1_spec_l02Series as | 9 => oc1_spec_l02Series as | _ => .fail



theorem q_spec_l03Pair {P : Program} {g_f : FuncId} {gq0 : FuncId} (h_ : Is_spec_l03Pair P g_f gq0) (xs : List Nat) (ys : List Nat) (ht : T.ok (fun x_ => x_ = .b (twoM xs ys)) (
 T.ob ((VCall P) gq0 [AV.sl (Tag.par [0]) 0 (Cont.f .f32 xs)] (AV.b (seriesM xs)))
 (T.ite (seriesM xs)
 (T.ob ((VCall P) gq0 [AV.sl (Tag.par [0]) 0 (Cont.f .f32 ys)] (AV.b (seriesM ys))) (T.ite (seriesM ys) (T.leaf (AV.b ((↑(List.length xs) : Int) == (↑(List.length ys) : Int)))) (T.leaf (AV.b false))))
 (T.leaf (AV.b false))))) :
 VCall P g_f [PS [0] .f32 xs, PS [1] .f32 ys] (.b (twoM xs ys)) := h_.call_of ps_spec_l03Pair ⟨oc_spec_l03Pair xs ys, fun _ _ => none⟩ (by kernel_rfl) ht

-- END spec_l03Pair

-- FN impl_ifAll
def ps_impl_ifAll : List Nat := [0, 2, 3, 6]
def b_impl_ifAll (gq0 : FuncId) : VCode :=
 (.seq
 (.region false [
 ⟨some 2, (.nilsl (.f .f32 [])), [], none⟩,
 ⟨some 3, .mv, [.k (.b false)], none⟩])
 (.seq
 (.seq
 (.region false [
 ⟨some 4, .mv, [.t 0], none⟩,
 ⟨some 5, (.call gq0), [.t 4], none⟩,
 ⟨some 6, .not, [.t 5], none⟩])
 (.cond (.t 6)
 (.seq
 (.region false [
 ⟨some 2, (.nilsl (.f .f32 [])), [], none⟩,
 ⟨some 3, .mv, [.k (.b false)], none⟩])
 .ret)
 .skip))
 (.seq
 (.region false [
 ⟨some 7, .mv, [.t 0], none⟩,
 ⟨some 2, .mv, [.t 7], none⟩,
 ⟨some 3, .mv, [.k (.b true)], none⟩])
 .ret)))

abbrev Is_impl_ifAll (P : Program) (g_f : FuncId) (gq0 : FuncId) : Prop := FnIs P g_f 8 [.t 2, .t 3] (b_impl_ifAll gq0)

abbrev C_impl_ifAll (P : Program) (g_f : FuncId) : Prop := ∀ (xs : List Nat) (hx : xs.length ≤ maxLen), VCall P g_f [PS [0] .f32 xs] (.tup [PS [0] .f32 (ifAllM xs), .b (finAllM xs)])
def oc1_impl_ifAll (as : List AV) : T AV := match as with | [.sl _ _ (.f .f32 xs)] => .leaf (.tup [PS [0] .f32 (ifAllM xs), .b (finAllM xs)]) | _ => .fail
def oc_impl_ifAll (xs : List Nat) (d : Nat) (as : List AV) : T AV := match d with | 5 => oc1_impl_areFinite as | _ => .fail



theorem q_impl_ifAll {P : Program} {g_f : FuncId} {gq0 : FuncId} (h_ : Is_impl_ifAll P g_f gq0) (xs : List Nat) (ht : T.ok (fun x_ => x_ = .tup [PS [0] .f32 (ifAllM xs), .b (finAllM xs)]) (
 T.ob ((VCall P) gq0 [AV.sl (Tag.par [0]) 0 (Cont.f .f32 xs)] (AV.b (finAllM xs)))
 (T.ite (!finAllM xs) (T.leaf (AV.tup [AV.sl (Tag.par [0]) 0 (Cont.f .f32 []), AV.b false])) (T.leaf (AV.tup [AV.sl (Tag.par [0]) 0 (Cont.f .f32 xs), AV.b true]))))) :
 VCall P g_f [PS [0] .f32 xs] (.tup [PS [0] .f32 (ifAllM xs), .b (finAllM xs)]) := h_.call_of ps_impl_ifAll ⟨oc_impl_ifAll xs, fun _ _ => none⟩ (by kernel_rfl) ht

-- END impl_ifAll








theorem k_impl_IsSeries {P : Program} {f g : FuncId} (h : Is_impl_IsSeries P f g) (hg : C_impl_areFinite P g) : C_impl_IsSeries P f := by
  intro xs hx
  refine q_impl_IsSeries h xs ?_
  repeat' (first | with_reducible refine T.ok_ob ?_ (fun _ => ?_) | with_reducible refine T.ok_ite (fun _ => ?_) (fun _ => ?_) | with_reducible refine T.ok_leaf ?_)
  all_goals first | exact hg _ hx | (simp only [seriesM, *]; simp; done)
theorem k_spec_l02Series {P : Program} {f g : FuncId} (h : Is_spec_l02Series P f g) (hg : C_spec_l02Finite P g) : C_spec_l02Series P f := by
  intro xs hx
  refine q_spec_l02Series h xs ?_
  repeat' (first | with_reducible refine T.ok_ob ?_ (fun _ => ?_) | with_reducible refine T.ok_ite (fun _ => ?_) (fun _ => ?_) | with_reducible refine T.ok_leaf ?_)
  all_goals first | exact hg _ hx | (simp only [seriesM, *]; simp; done)
theorem k_impl_areTwo {P : Program} {f g : FuncId} (h : Is_impl_areTwo P f g) (hg : C_impl_IsSeries P g) : C_impl_areTwo P f := by
  intro xs ys hx hy
  refine q_impl_areTwo h xs ys ?_
  repeat' (first | with_reducible refine T.ok_ob ?_ (fun _ => ?_) | with_reducible refine T.ok_ite (fun _ => ?_) (fun _ => ?_) | with_reducible refine T.ok_leaf ?_)
  all_goals first | exact hg _ hx | exact hg _ hy | (simp_all [twoM]; done)
theorem k_spec_l03Pair {P : Program} {f g : FuncId} (h : Is_spec_l03Pair P f g) (hg : C_spec_l02Series P g) : C_spec_l03Pair P f := by
  intro xs ys hx hy
  refine q_spec_l03Pair h xs ys ?_
  repeat' (first | with_reducible refine T.ok_ob ?_ (fun _ => ?_) | with_reducible refine T.ok_ite (fun _ => ?_) (fun _ => ?_) | with_reducible refine T.ok_leaf ?_)
  all_goals first | exact hg _ hx | exact hg _ hy | (simp_all [twoM]; done)
theorem k_impl_ifAll {P : Program} {f g : FuncId} (h : Is_impl_ifAll P f g) (hg : C_impl_areFinite P g) : C_impl_ifAll P f := by
  intro xs hx
  refine q_impl_ifAll h xs ?_
  repeat' (first | with_reducible refine T.ok_ob ?_ (fun _ => ?_) | with_reducible refine T.ok_ite (fun _ => ?_) (fun _ => ?_) | with_reducible refine T.ok_leaf ?_)
  all_goals first | exact hg _ hx | (simp_all [ifAllM]; done)
end Go.Proofs.LV

namespace Go.Proofs.LV
open Go
set_option linter.unusedVariables false
set_option linter.unusedSimpArgs false

theorem series_len {xs : List Nat} (h : seriesM xs = true) : 1 ≤ xs.length ∧ xs.length ≤ 96 := by
  simp only [seriesM, Bool.and_eq_true, decide_eq_true_eq] at h
  omega
end Go.Proofs.LV

namespace Go.Proofs.LV
open Go
set_option linter.unusedVariables false
set_option linter.unusedSimpArgs false

def Cont.rng : Cont → Prop
  | .f k xs => xs.length ≤ maxLen ∧ ∀ x ∈ xs, Fw k x
  | .i k xs => xs.length ≤ maxLen ∧ ∀ x ∈ xs, Iw k x
  | .b xs => xs.length ≤ maxLen
  | .c k xs => xs.length ≤ maxLen ∧ ∀ x ∈ xs, Fw k x.1 ∧ Fw k x.2
  | .ff k xs => xs.length ≤ maxLen ∧ ∀ x ∈ xs, x.length ≤ maxLen ∧ ∀ y ∈ x, Fw k y
mutual
def AV.rng : AV → Prop
  | .i k n => Iw k n
  | .f k x => Fw k x
  | .c k x y => Fw k x ∧ Fw k y
  | .sl _ _ xs => xs.rng
  | .bx _ cells => AV.rngL cells
  | .ad _ _ x => AV.rng x
  | .agg cells => AV.rngL cells
  | .tup xs => AV.rngL xs
  | .fn _ caps => AV.rngL caps
  | _ => True
def AV.rngL : List AV → Prop
  | [] => True
  | x :: r => AV.rng x ∧ AV.rngL r
end

theorem srow_rng {G : Gh} {w : World} {g : Tag} {off n : Nat} {E : Nat → Value → Prop} {v : Value} (h : SRow G w g off n E v) : n ≤ maxLen ∧ ∀ j, j < n → ∃ u, E j u := by
  rcases h with ⟨b, o, cap, rfl, hat, hn, hm, hc, hs⟩ | ⟨hn, ha, hv⟩
  · refine ⟨Nat.le_trans hn hm, fun j hj => ?_⟩
    obtain ⟨u, hu, he⟩ := hc j hj
    exact ⟨u, he⟩
  · subst hn
    exact ⟨Nat.zero_le _, fun j hj => absurd hj (by omega)⟩
theorem mem_getD_rng {α : Type} {xs : List α} {x : α} (d : α) (h : x ∈ xs) : ∃ j, j < xs.length ∧ xs.getD j d = x := by
  obtain ⟨j, hj, rfl⟩ := List.getElem_of_mem h
  exact ⟨j, hj, by simp [List.getD, hj]⟩
theorem fr_fw {k : FloatKind} {x : Nat} {v : Value} (h : FR k x v) : Fw k x := by
  obtain ⟨b, _, h1, h2⟩ := h; exact ⟨b, h1, h2⟩
theorem cont_rng {G : Gh} {w : World} {g : Tag} {off : Nat} {xs : Cont} {v : Value} (h : SRow G w g off xs.len (Cont.ok G w xs) v) : xs.rng := by
  obtain ⟨hl, hc⟩ := srow_rng h
  cases xs with
  | f k xs =>
    refine ⟨hl, fun x hx => ?_⟩
    obtain ⟨j, hj, rfl⟩ := mem_getD_rng 0 hx
    obtain ⟨u, hu⟩ := hc j hj
    exact fr_fw hu
  | i k xs =>
    refine ⟨hl, fun x hx => ?_⟩
    obtain ⟨j, hj, rfl⟩ := mem_getD_rng 0 hx
    obtain ⟨u, hu, h1, h2⟩ := hc j hj
    exact ⟨h1, h2⟩
  | b xs => exact hl
  | c k xs =>
    refine ⟨hl, fun x hx => ?_⟩
    obtain ⟨j, hj, rfl⟩ := mem_getD_rng (0, 0) hx
    obtain ⟨u, a, b, hu, ⟨h1, h2⟩, h3, h4⟩ := hc j hj
    exact ⟨⟨a, h1, h3⟩, ⟨b, h2, h4⟩⟩
  | ff k xs =>
    refine ⟨hl, fun x hx => ?_⟩
    obtain ⟨j, hj, rfl⟩ := mem_getD_rng [] hx
    obtain ⟨u, hu⟩ := hc j hj
    obtain ⟨hl2, hc2⟩ := srow_rng hu
    refine ⟨hl2, fun y hy => ?_⟩
    obtain ⟨i, hi, rfl⟩ := mem_getD_rng 0 hy
    obtain ⟨z, hz⟩ := hc2 i hi
    exact fr_fw hz
mutual
theorem vr_rng {G : Gh} {w : World} : ∀ (x : AV) (v : Value), VR G w x v → AV.rng x
  | .any, v, _ => trivial
  | .b c, v, _ => trivial
  | .i k c, v, h => by simp only [VR] at h; exact h.2
  | .f k c, v, h => by simp only [VR] at h; exact fr_fw h
  | .c k x y, v, h => by
    simp only [VR] at h
    obtain ⟨a, b, hu, ⟨h1, h2⟩, h3, h4⟩ := h
    exact ⟨⟨a, h1, h3⟩, ⟨b, h2, h4⟩⟩
  | .sl g off xs, v, h => by simp only [VR] at h; exact cont_rng h
  | .bx g cells, v, h => by
    simp only [VR] at h
    obtain ⟨b, o, rfl, hat, hc⟩ := h
    exact cl_rng cells b o hc
  | .ad g idx x, v, h => by
    simp only [VR] at h
    obtain ⟨b, o, rfl, hat, u, hu, hc⟩ := h
    exact vr_rng x u hc
  | .nw _ _ _ _ _, v, h => trivial
  | .na _ _ _ _ _, v, h => trivial
  | .agg cells, v, h => by
    simp only [VR] at h
    obtain ⟨vs, rfl, hc⟩ := h
    exact vl_rng cells vs.toList hc
  | .tup cells, v, h => by
    simp only [VR] at h
    obtain ⟨vs, rfl, hc⟩ := h
    exact vl_rng cells vs.toList hc
  | .fn _ cells, v, h => by
    simp only [VR] at h
    obtain ⟨vs, rfl, hc⟩ := h
    exact vl_rng cells vs.toList hc
theorem vl_rng {G : Gh} {w : World} : ∀ (xs : List AV) (vs : List Value), VL G w xs vs → AV.rngL xs
  | [], vs, _ => trivial
  | x :: r, vs, h => by
    simp only [VL] at h
    obtain ⟨u, us, rfl, hx, hr⟩ := h
    exact ⟨vr_rng x u hx, vl_rng r us hr⟩
theorem cl_rng {G : Gh} {w : World} : ∀ (xs : List AV) (b o : Nat), CL G w b o xs → AV.rngL xs
  | [], b, o, _ => trivial
  | x :: r, b, o, h => by
    simp only [CL] at h
    obtain ⟨⟨u, hu, hx⟩, hr⟩ := h
    exact ⟨vr_rng x u hx, cl_rng r b (o + 1) hr⟩
end
/-- a contract need only hold of arguments that can be -/
theorem VCall.rng {P : Program} {f : FuncId} {args : List AV} {r : AV} (h : AV.rngL args → VCall P f args r) (hr : r.isM = false := by rfl) : VCall P f args r :=
  VCallN.to hr ⟨fun w I π vs h1 h2 hv => ((h (vl_rng _ _ hv)).N hr).runs w I π vs h1 h2 hv⟩
theorem Fw.lt {k : FloatKind} {x : Nat} (h : Fw k x) : x < 2 ^ k.format.width := by
  obtain ⟨b, hb, rfl⟩ := h
  unfold canon
  split
  · cases k <;> decide
  · exact hb
theorem Fw.nan {k : FloatKind} {x : Nat} (h : Fw k x) : (k.format.read x).isNaN = true → x = fnan k := by
  obtain ⟨b, hb, rfl⟩ := h
  unfold canon
  split
  · exact fun _ => rfl
  · rename_i h'; exact fun h => absurd h h'
end Go.Proofs.LV

namespace Go.Proofs.LV
open Go Ieee
set_option linter.unusedVariables false
set_option linter.unusedSimpArgs false

/-- how many of the least steps a rung stands for -/
def units (B r : Nat) : Nat := if r < B then r else (B + r % B) * 2 ^ (r / B - 1)
theorem units_succ {B : Nat} (hB : 0 < B) (r : Nat) : units B r < units B (r + 1) := by
  unfold units
  by_cases h1 : r + 1 < B
  · rw [if_pos (by omega), if_pos h1]; omega
  · by_cases h2 : r < B
    · have : r + 1 = B := by omega
      rw [if_pos h2, if_neg h1, this, Nat.mod_self, Nat.div_self hB]; simp; omega
    · rw [if_neg h2, if_neg h1]
      have hq : 1 ≤ r / B := (Nat.le_div_iff_mul_le hB).2 (by omega)
      have hr := Nat.div_add_mod r B
      have ht := Nat.mod_lt r hB
      generalize r / B = q at *
      generalize r % B = t at *
      by_cases h3 : t + 1 < B
      · have e1 : (r + 1) / B = q := by rw [← hr, Nat.add_assoc, Nat.mul_add_div hB, Nat.div_eq_of_lt h3, Nat.add_zero]
        have e2 : (r + 1) % B = t + 1 := by rw [← hr, Nat.add_assoc, Nat.mul_add_mod, Nat.mod_eq_of_lt h3]
        rw [e1, e2]
        exact Nat.mul_lt_mul_of_pos_right (by omega) (Nat.two_pow_pos _)
      · have e : r + 1 = B * (q + 1) := by rw [Nat.mul_succ]; omega
        rw [e, Nat.mul_div_cancel_left _ hB, Nat.mul_mod_right, Nat.add_zero, Nat.add_sub_cancel]
        obtain ⟨p, rfl⟩ : ∃ p, q = p + 1 := ⟨q - 1, by omega⟩
        rw [Nat.add_sub_cancel, Nat.pow_succ, Nat.mul_comm (2 ^ p) 2, ← Nat.mul_assoc]
        exact Nat.mul_lt_mul_of_pos_right (by omega) (Nat.two_pow_pos _)
theorem units_lt {B : Nat} (hB : 0 < B) {r s : Nat} (h : r < s) : units B r < units B s := by
  induction s with
  | zero => omega
  | succ s ih =>
    rcases Nat.lt_or_eq_of_le (Nat.le_of_lt_succ h) with h | rfl
    · exact Nat.lt_trans (ih h) (units_succ hB s)
    · exact units_succ hB r
theorem units_inj {B : Nat} (hB : 0 < B) {r s : Nat} (h : units B r = units B s) : r = s := by
  rcases Nat.lt_trichotomy r s with h1 | h1 | h1
  · have := units_lt hB h1; omega
  · exact h1
  · have := units_lt hB h1; omega
theorem units_le {B : Nat} (hB : 0 < B) {r s : Nat} (h : r ≤ s) : units B r ≤ units B s := by
  rcases Nat.lt_or_eq_of_le h with h | rfl
  · exact Nat.le_of_lt (units_lt hB h)
  · exact Nat.le_refl _
theorem units_zero {B : Nat} (hB : 0 < B) : units B 0 = 0 := by simp [units, hB]

def sg (neg : Bool) (n : Nat) : Int := if neg then -(n : Int) else n
def sign (f : Format) (x : Nat) : Bool := x / f.signWeight % 2 == 1
def rung (f : Format) (x : Nat) : Nat := x % f.signWeight
/-- the rung with its sign -/
def srung (k : FloatKind) (x : Nat) : Int := sg (sign k.format x) (rung k.format x)
def nanB (k : FloatKind) (x : Nat) : Bool := (k.format.read x).isNaN

theorem sg_compare {u : Nat → Nat} (h0 : u 0 = 0) (hu : ∀ {r s}, r < s → u r < u s) (s t : Bool) (r q : Nat) : compare (sg s (u r)) (sg t (u q)) = compare (sg s r) (sg t q) := by
  have key : ∀ a b c d : Int, (a < b ↔ c < d) → (a = b ↔ c = d) → compare a b = compare c d := by
    intro a b c d h1 h2
    simp only [compare, compareOfLessAndEq]
    by_cases h : a < b
    · rw [if_pos h, if_pos (h1.1 h)]
    · rw [if_neg h, if_neg (fun h' => h (h1.2 h'))]
      by_cases h' : a = b
      · rw [if_pos h', if_pos (h2.1 h')]
      · rw [if_neg h', if_neg (fun h'' => h' (h2.2 h''))]
  have p1 : ∀ {r}, 0 < r → 0 < u r := fun h => by have := hu h; omega
  have t3 := Nat.lt_trichotomy r q
  have hr := Nat.eq_zero_or_pos r
  have hq := Nat.eq_zero_or_pos q
  rcases t3 with h | h | h
  · have := hu h
    have := p1 (r := q) (by omega)
    rcases hr with rfl | hr
    · cases s <;> cases t <;> simp only [sg, h0] <;> apply key <;> simp <;> omega
    · have := p1 hr
      cases s <;> cases t <;> simp only [sg] <;> apply key <;> simp <;> omega
  · subst h
    rcases hr with rfl | hr
    · cases s <;> cases t <;> simp only [sg, h0] <;> apply key <;> simp
    · have := p1 hr
      cases s <;> cases t <;> simp only [sg] <;> apply key <;> simp <;> omega
  · have := hu h
    have := p1 (r := r) (by omega)
    rcases hq with rfl | hq
    · cases s <;> cases t <;> simp only [sg, h0] <;> apply key <;> simp <;> omega
    · have := p1 hq
      cases s <;> cases t <;> simp only [sg] <;> apply key <;> simp <;> omega

theorem compare_scale (a b : Int) (k : Nat) : compare (a * 2 ^ k) (b * 2 ^ k) = compare a b := by
  have hp : (0 : Int) < 2 ^ k := Int.pow_pos (by decide)
  simp only [compare, compareOfLessAndEq]
  have e1 : a * 2 ^ k < b * 2 ^ k ↔ a < b := ⟨fun h => Int.lt_of_mul_lt_mul_right h (Int.le_of_lt hp), fun h => Int.mul_lt_mul_of_pos_right h hp⟩
  have e2 : a * 2 ^ k = b * 2 ^ k ↔ a = b := ⟨fun h => Int.eq_of_mul_eq_mul_right (Int.ne_of_gt hp) h, fun h => by rw [h]⟩
  simp only [e1, e2]
theorem signed_eq (s : Bool) (m up : Nat) : signed s m up = sg s (m * 2 ^ up) := by
  unfold signed sg; rw [Nat.shiftLeft_eq]
theorem sg_scale (s : Bool) (n k : Nat) : sg s (n * 2 ^ k) = sg s n * 2 ^ k := by
  unfold sg; cases s <;> simp [Int.neg_mul]

/-- what a word below infinity stands for -/
theorem read_num {f : Format} {x : Nat} (h : rung f x < f.infRung) : ∃ m p, f.read x = .number (sign f x) m (f.leastPlace + (p : Nat)) ∧ m * 2 ^ p = units f.binade (rung f x) := by
  unfold rung at h
  unfold Format.read
  simp only
  split
  · rename_i h1
    exact ⟨x % f.signWeight, 0, by simp [sign], by simp [units, rung, h1]⟩
  · rename_i h1
    refine ⟨_, _, rfl, ?_⟩
    show _ = units f.binade (x % f.signWeight)
    unfold units; rw [if_neg h1]
theorem num_order (s t : Bool) (m n : Nat) (L : Int) (p q : Nat) : Datum.order (.number s m (L + p)) (.number t n (L + q)) = some (compare (sg s (m * 2 ^ p)) (sg t (n * 2 ^ q))) := by
  simp only [Datum.order, signed_eq]
  congr 1
  generalize hb : min (L + (p : Int)) (L + q) = b
  rw [← compare_scale _ _ (b - L).toNat, ← sg_scale, ← sg_scale]
  rw [Nat.mul_assoc, Nat.mul_assoc, ← Nat.pow_add, ← Nat.pow_add]
  congr 3 <;> congr 1 <;> omega
theorem read_inf {f : Format} {x : Nat} (hB : f.binade ≤ f.infRung) (h : rung f x = f.infRung) : f.read x = .infinity (sign f x) := by
  unfold rung at h
  unfold Format.read
  simp only [h]
  rw [if_neg (by omega), if_neg (by omega)]
  simp [sign]
theorem read_nan {f : Format} {x : Nat} (hB : f.binade ≤ f.infRung) (h : rung f x > f.infRung) : (f.read x).isNaN = true := by
  unfold rung at h
  unfold Format.read
  simp only
  rw [if_neg (by omega), if_neg (by omega), if_neg (by omega)]; rfl
theorem fmt_ok (k : FloatKind) : k.format.binade ≤ k.format.infRung := by cases k <;> decide
theorem nanB_iff (k : FloatKind) (x : Nat) : nanB k x = decide (k.format.infRung < rung k.format x) := by
  rcases Nat.lt_trichotomy (rung k.format x) k.format.infRung with h | h | h
  · obtain ⟨m, p, h1, _⟩ := read_num h
    have : ¬ (k.format.infRung < rung k.format x) := by omega
    simp [nanB, h1, Datum.isNaN, this]
  · have : ¬ (k.format.infRung < rung k.format x) := by omega
    simp [nanB, read_inf (fmt_ok k) h, Datum.isNaN, this]
  · simp only [nanB, read_nan (fmt_ok k) h, h]; simp
/-- THE ORDER -/
theorem order_rung {k : FloatKind} {x y : Nat} (hx : nanB k x = false) (hy : nanB k y = false) : k.format.order x y = some (compare (srung k x) (srung k y)) := by
  rw [nanB_iff] at hx hy
  have hx := of_decide_eq_false hx
  have hy := of_decide_eq_false hy
  unfold Format.order srung
  have hB := binade_pos k.format
  have inf_gt : ∀ (s t : Bool) (r : Nat), r < k.format.infRung → compare (sg s k.format.infRung) (sg t r) = (if s then .lt else .gt) ∧ compare (sg t r) (sg s k.format.infRung) = (if s then .gt else .lt) := by
    intro s t r hr
    have hb : -(r : Int) ≤ sg t r ∧ sg t r ≤ r := by cases t <;> simp [sg] <;> omega
    generalize sg t r = v at *
    cases s
    · have e : sg false k.format.infRung = (k.format.infRung : Int) := rfl
      simp only [e, compare, compareOfLessAndEq]
      refine ⟨?_, ?_⟩
      · rw [if_neg (by omega), if_neg (by omega)]; rfl
      · rw [if_pos (by omega)]; rfl
    · have e : sg true k.format.infRung = -(k.format.infRung : Int) := rfl
      simp only [e, compare, compareOfLessAndEq]
      refine ⟨?_, ?_⟩
      · rw [if_pos (by omega)]; rfl
      · rw [if_neg (by omega), if_neg (by omega)]; rfl
  by_cases h1 : rung k.format x = k.format.infRung
  · by_cases h2 : rung k.format y = k.format.infRung
    · rw [read_inf (fmt_ok k) h1, read_inf (fmt_ok k) h2, h1, h2]
      have hp : (0 : Int) < (k.format.infRung : Int) := by have := fmt_ok k; omega
      have e1 : sg false k.format.infRung = (k.format.infRung : Int) := rfl
      have e2 : sg true k.format.infRung = -(k.format.infRung : Int) := rfl
      generalize (k.format.infRung : Int) = I at *
      cases sign k.format x <;> cases sign k.format y <;> simp only [Datum.order, e1, e2, compare, compareOfLessAndEq]
      · simp
      · rw [if_neg (show ¬ I < -I by omega), if_neg (show ¬ I = -I by omega)]; rfl
      · rw [if_pos (show -I < I by omega)]; rfl
      · simp
    · obtain ⟨m, p, e, hm⟩ := read_num (f := k.format) (x := y) (by omega)
      rw [read_inf (fmt_ok k) h1, e, h1, (inf_gt _ _ _ (by omega)).1]; rfl
  · obtain ⟨m, p, e, hm⟩ := read_num (f := k.format) (x := x) (by omega)
    by_cases h2 : rung k.format y = k.format.infRung
    · rw [read_inf (fmt_ok k) h2, e, h2, (inf_gt _ _ _ (by omega)).2]; rfl
    · obtain ⟨n, q, e', hn⟩ := read_num (f := k.format) (x := y) (by omega)
      rw [e, e', num_order, hm, hn, sg_compare (units_zero hB) (units_lt hB)]
theorem order_nan' {k : FloatKind} {x y : Nat} (h : nanB k x = true ∨ nanB k y = true) : k.format.order x y = none := by
  unfold Format.order
  rcases h with h | h <;> unfold nanB Datum.isNaN at h
  · cases hr : k.format.read x <;> simp [hr] at h
    cases k.format.read y <;> rfl
  · cases hr : k.format.read y <;> simp [hr] at h
    cases k.format.read x <;> rfl
theorem flt_eq (k : FloatKind) (x y : Nat) : flt k x y = (!nanB k x && (!nanB k y && decide (srung k x < srung k y))) := by
  unfold flt
  cases hx : nanB k x with
  | true => rw [order_nan' (.inl hx)]; rfl
  | false =>
    cases hy : nanB k y with
    | true => rw [order_nan' (.inr hy)]; rfl
    | false =>
      rw [order_rung hx hy]; simp only [compare, compareOfLessAndEq]
      by_cases h : srung k x < srung k y
      · simp [h]
      · by_cases h' : srung k x = srung k y <;> simp [h, h']
theorem fgt_eq (k : FloatKind) (x y : Nat) : fgt k x y = (!nanB k x && (!nanB k y && decide (srung k y < srung k x))) := by
  unfold fgt
  cases hx : nanB k x with
  | true => rw [order_nan' (.inl hx)]; rfl
  | false =>
    cases hy : nanB k y with
    | true => rw [order_nan' (.inr hy)]; rfl
    | false =>
      rw [order_rung hx hy]; simp only [compare, compareOfLessAndEq]
      by_cases h : srung k x < srung k y
      · have : ¬ srung k y < srung k x := by omega
        simp [h, this]
      · by_cases h' : srung k x = srung k y
        · simp [h']
        · have : srung k y < srung k x := by omega
          simp [h, h', this]
theorem feq_eq (k : FloatKind) (x y : Nat) : feq k x y = (!nanB k x && (!nanB k y && decide (srung k x = srung k y))) := by
  unfold feq
  cases hx : nanB k x with
  | true => rw [order_nan' (.inl hx)]; rfl
  | false =>
    cases hy : nanB k y with
    | true => rw [order_nan' (.inr hy)]; rfl
    | false =>
      rw [order_rung hx hy]; simp only [compare, compareOfLessAndEq]
      by_cases h : srung k x < srung k y
      · have : ¬ srung k x = srung k y := by omega
        simp [h, this]
      · by_cases h' : srung k x = srung k y <;> simp [h, h']
theorem fne_eq (k : FloatKind) (x y : Nat) : fne k x y = !(feq k x y) := by
  unfold fne feq; rfl
theorem fle_eq (k : FloatKind) (x y : Nat) : fle k x y = (flt k x y || feq k x y) := rfl
theorem fge_eq (k : FloatKind) (x y : Nat) : fge k x y = (fgt k x y || feq k x y) := rfl
theorem fle_not (k : FloatKind) {x y : Nat} (hx : nanB k x = false) (hy : nanB k y = false) : fle k x y = !(fgt k x y) := by
  rw [fle_eq, flt_eq, feq_eq, fgt_eq, hx, hy]
  simp only [Bool.not_false, Bool.true_and]
  by_cases h : srung k x < srung k y
  · have : ¬ srung k y < srung k x := by omega
    simp [h, this]
  · by_cases h' : srung k x = srung k y
    · simp [h']
    · have : srung k y < srung k x := by omega
      simp [h, h', this]
theorem fge_not (k : FloatKind) {x y : Nat} (hx : nanB k x = false) (hy : nanB k y = false) : fge k x y = !(flt k x y) := by
  rw [fge_eq, flt_eq, feq_eq, fgt_eq, hx, hy]
  simp only [Bool.not_false, Bool.true_and]
  by_cases h : srung k x < srung k y
  · have : ¬ srung k y < srung k x := by omega
    have h2 : ¬ srung k x = srung k y := by omega
    simp [h, this, h2]
  · by_cases h' : srung k x = srung k y
    · simp [h']
    · have : srung k y < srung k x := by omega
      simp [h, h', this]
theorem nanB_fnan (k : FloatKind) : nanB k (fnan k) = true := by cases k <;> decide
end Go.Proofs.LV
