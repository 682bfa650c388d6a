/- Texts that belong together. -/
import Derived.Test.YtdffgjembkanoaaLvExtX
import Derived.Test.YtdffgjembkanoaaLvEv
namespace Go.Proofs.LV
open Go
set_option linter.unusedVariables false
set_option linter.unusedSimpArgs false

/-- an environment of n slots of which only slot s is told -/
abbrev ret1 (n s : Nat) (v : AV) : Env := anys s ++ v :: anys (n - s - 1)
/-- the first place -/
def idxM {α : Type} (p : α → Bool) (xs : List α) : Int := if xs.findIdx p < xs.length then xs.findIdx p else -1
theorem findIdx_not {α : Type} {p : α → Bool} {xs : List α} {i : Nat} (d : α) (h : i < xs.findIdx p) (hl : i < xs.length) : p (xs.getD i d) = false := by
  have := List.not_of_lt_findIdx h
  simpa [List.getD, List.getElem?_eq_getElem hl] using this
theorem findIdx_is {α : Type} {p : α → Bool} {xs : List α} (d : α) (h : xs.findIdx p < xs.length) : p (xs.getD (xs.findIdx p) d) = true := by
  have := List.findIdx_getElem (w := h)
  simpa [List.getD, List.getElem?_eq_getElem h] using this
theorem findIdx_eq {α : Type} {p : α → Bool} {xs : List α} (h : ¬ xs.findIdx p < xs.length) : xs.findIdx p = xs.length := by
  have := List.findIdx_le_length (p := p) (xs := xs); omega
theorem any_findIdx {α : Type} {p : α → Bool} {xs : List α} : xs.any p = decide (xs.findIdx p < xs.length) := by
  rw [Bool.eq_iff_iff]
  simp only [List.any_eq_true, decide_eq_true_eq, List.findIdx_lt_length]
theorem idx_any {α : Type} {p : α → Bool} {xs : List α} : decide (idxM p xs ≥ 0) = xs.any p := by
  rw [any_findIdx]
  unfold idxM
  by_cases hlt : xs.findIdx p < xs.length
  · simp [hlt]
  · simp [hlt]

-- FN slices_IndexFunc___float32_float32_
/-- slices.IndexFunc[[]float32,float32]: slots 19, results [.t 4]; calls [16:VALUE]; names [(s, 0), (f, 1), (s, 2), (f, 3), (i, 5)] -/
def ps_slices_IndexFunc___float32_float32_ : List Nat := [0, 1, 4, 5, 7, 8, 9, 16]
def lv_slices_IndexFunc___float32_float32__L0 : List Nat := [0, 1, 7, 8]
def b_slices_IndexFunc___float32_float32__L0 : VCode :=
  (.seq
   (.region false [
    ⟨some 9, (.bin .lss), [.t 8, .t 7], none⟩])
   (.seq
    (.cond (.t 9)
     .skip
     (.exit 0))
    (.seq
     (.block 1
      (.seq
       (.region false [
        ⟨some 10, .mv, [.t 8], none⟩,
        ⟨some 5, .mv, [.t 10], none⟩])
       (.seq
        (.region false [
         ⟨some 11, .mv, [.t 1], none⟩,
         ⟨some 12, .mv, [.t 0], none⟩,
         ⟨some 13, .mv, [.t 5], none⟩,
         ⟨some 14, .iaddr, [.t 12, .t 13], none⟩,
         ⟨some 15, .load, [.t 14], none⟩,
         ⟨some 16, .callv, [.t 11, .t 15], none⟩])
        (.cond (.t 16)
         (.seq
          (.region false [
           ⟨some 17, .mv, [.t 5], none⟩,
           ⟨some 4, .mv, [.t 17], none⟩])
          .ret)
         .skip))))
     (.region false [
      ⟨some 18, (.bin .add), [.t 8, .k (.i .i64 1)], none⟩,
      ⟨some 8, .mv, [.t 18], none⟩]))))

def b_slices_IndexFunc___float32_float32_ : VCode :=
  (.seq
   (.region false [
    ⟨some 4, .mv, [.k (.i .i64 0)], none⟩])
   (.seq
    (.seq
     (.region false [
      ⟨some 6, .mv, [.t 0], none⟩,
      ⟨some 7, .len, [.t 6], none⟩,
      ⟨some 8, .mv, [.k (.i .i64 0)], none⟩])
     (.block 0 (.loop b_slices_IndexFunc___float32_float32__L0)))
    (.seq
     (.region false [
      ⟨some 4, .mv, [.k (.i .i64 (-1))], none⟩])
     .ret)))

abbrev Is_slices_IndexFunc___float32_float32_ (P : Program) (g_f : FuncId) : Prop := FnIs P g_f 19 [.t 4] (b_slices_IndexFunc___float32_float32_)

abbrev C_slices_IndexFunc___float32_float32_ (P : Program) (g_f : FuncId) : Prop := ∀ (xs : List Nat) (F : FuncId) (p : Nat → Bool) (hF : ∀ x, VCall P F [.f .f32 x] (.b (p x))) (hx : xs.length ≤ maxLen), VCall P g_f [PS [0] .f32 xs, .fn F []] (.i .i64 (idxM p xs))
def oc_slices_IndexFunc___float32_float32_ (xs : List Nat) (F : FuncId) (p : Nat → Bool) (d : Nat) (as : List AV) : T AV := match d with | 16 => (match as with | [.f _ x] => .leaf (.b (p x)) | _ => .fail) | _ => .fail
def h_slices_IndexFunc___float32_float32__L0 (xs : List Nat) (F : FuncId) (p : Nat → Bool) (v8 : Int) : Env := [AV.sl (Tag.par [0]) 0 (Cont.f FloatKind.f32 xs), AV.fn F []] ++ anys 5 ++ [AV.i IntKind.i64 (↑(List.length xs) : Int), .i IntKind.i64 v8] ++ anys 10

theorem q_slices_IndexFunc___float32_float32__L0 {VC : FuncId → List AV → AV → Prop} (xs : List Nat) (F : FuncId) (p : Nat → Bool) (v8 : Int) {e_ : Ex} {σ_ : Env} (ht : T.ok (fun x_ => x_ = (e_, σ_)) (
      T.ite (decide (v8 < (↑(List.length xs) : Int)))
        (T.ob (0 ≤ v8 ∧ v8 < (↑(List.length xs) : Int))
          (T.ob (VC F [AV.f FloatKind.f32 (List.getD xs (Int.toNat v8) 0)] (AV.b (p (List.getD xs (Int.toNat v8) 0))))
            (T.ite (p (List.getD xs (Int.toNat v8) 0)) (T.leaf (Ex.ret, anys 4 ++ AV.i IntKind.i64 v8 :: anys 14)) (T.leaf (Ex.normal, h_slices_IndexFunc___float32_float32__L0 xs F p (IntKind.wrap IntKind.i64 (v8 + 1)))))))
        (T.leaf (Ex.exit 0, h_slices_IndexFunc___float32_float32__L0 xs F p v8)))) :
    Exec VC ps_slices_IndexFunc___float32_float32_ (b_slices_IndexFunc___float32_float32__L0) (h_slices_IndexFunc___float32_float32__L0 xs F p v8) e_ σ_ := evL_of (lv := lv_slices_IndexFunc___float32_float32__L0) (rs := [4]) (O := ⟨oc_slices_IndexFunc___float32_float32_ xs F p, fun _ _ => none⟩) (by kernel_rfl) ht

theorem q_slices_IndexFunc___float32_float32_ {P : Program} {g_f : FuncId} (h_ : Is_slices_IndexFunc___float32_float32_ P g_f) (xs : List Nat) (F : FuncId) (p : Nat → Bool) (ht : T.ok (fun x_ => x_ = .i .i64 (idxM p xs)) (
      T.ite (decide (List.findIdx p xs < List.length xs))
        (T.ob
          (Exec (VCall P) ps_slices_IndexFunc___float32_float32_ (VCode.block 0 (VCode.loop b_slices_IndexFunc___float32_float32__L0)) (h_slices_IndexFunc___float32_float32__L0 xs F p 0) Ex.ret
            (anys 4 ++ AV.i IntKind.i64 (↑(List.findIdx p xs) : Int) :: anys 14))
          (T.leaf (AV.i IntKind.i64 (↑(List.findIdx p xs) : Int))))
        (T.ob
          (Exec (VCall P) ps_slices_IndexFunc___float32_float32_ (VCode.block 0 (VCode.loop b_slices_IndexFunc___float32_float32__L0)) (h_slices_IndexFunc___float32_float32__L0 xs F p 0) Ex.normal
            (h_slices_IndexFunc___float32_float32__L0 xs F p (↑(List.length xs) : Int)))
          (T.leaf (AV.i IntKind.i64 (-1)))))) :
    VCall P g_f [PS [0] .f32 xs, .fn F []] (.i .i64 (idxM p xs)) := h_.call_of ps_slices_IndexFunc___float32_float32_ ⟨oc_slices_IndexFunc___float32_float32_ xs F p, fun id σ => match id with | 0 => some (lv_slices_IndexFunc___float32_float32__L0, .ite (decide (xs.findIdx p < xs.length)) (.leaf (.ret, ret1 19 4 (.i .i64 (xs.findIdx p)))) (.leaf (.normal, h_slices_IndexFunc___float32_float32__L0 xs F p xs.length))) | _ => none⟩ (by kernel_rfl) ht

-- END slices_IndexFunc___float32_float32_

theorem k_slices_IndexFunc___float32_float32_ {P : Program} {f : FuncId} (h : Is_slices_IndexFunc___float32_float32_ P f) : C_slices_IndexFunc___float32_float32_ P f := by
  intro xs F p hF hx
  have hm := ml64 hx
  have step : ∀ i, i < xs.length → p (xs.getD i 0) = false → Exec (VCall P) ps_slices_IndexFunc___float32_float32_ b_slices_IndexFunc___float32_float32__L0 (h_slices_IndexFunc___float32_float32__L0 xs F p i) .normal (h_slices_IndexFunc___float32_float32__L0 xs F p (i + 1 : Nat)) := by
    intro i hi hp
    refine q_slices_IndexFunc___float32_float32__L0 _ _ _ _ ⟨fun _ => ⟨by omega, fun _ => ⟨hF _, fun _ => ⟨fun h => ?_, fun _ => ?_⟩⟩⟩, fun h => absurd (of_decide_eq_false h) (by omega)⟩
    · rw [getD_nat, hp] at h; cases h
    · show _ = _
      rw [wrap64_id (by omega) (by omega)]; rfl
  refine q_slices_IndexFunc___float32_float32_ h xs F p ⟨fun hlt => ⟨?_, fun _ => ?_⟩, fun hge => ⟨?_, fun _ => ?_⟩⟩
  · have hlt := of_decide_eq_true hlt
    refine for_up (e := .ret) (xs.findIdx p) (fun i => h_slices_IndexFunc___float32_float32__L0 xs F p i) rfl (fun i hi => step i (by omega) (findIdx_not 0 hi (by omega))) ?_
    refine q_slices_IndexFunc___float32_float32__L0 _ _ _ _ ⟨fun _ => ⟨by omega, fun _ => ⟨hF _, fun _ => ⟨fun _ => rfl, fun h => ?_⟩⟩⟩, fun h => absurd (of_decide_eq_false h) (by omega)⟩
    rw [getD_nat, findIdx_is 0 hlt] at h; cases h
  · have hlt := of_decide_eq_true hlt
    show _ = _
    simp [idxM, hlt]
  · have hge := of_decide_eq_false hge
    have he := findIdx_eq hge
    refine for_up (e := .exit 0) xs.length (fun i => h_slices_IndexFunc___float32_float32__L0 xs F p i) rfl (fun i hi => step i hi (findIdx_not 0 (by omega) hi)) ?_
    exact q_slices_IndexFunc___float32_float32__L0 _ _ _ _ ⟨fun h => absurd h (by simp), fun _ => rfl⟩
  · have hge := of_decide_eq_false hge
    show _ = _
    simp [idxM, hge]

-- FN slices_ContainsFunc___float32_float32_
/-- slices.ContainsFunc[[]float32,float32]: slots 9, results [.t 4]; calls [7:g_slices_IndexFunc___float32_float32_]; names [(s, 0), (f, 1), (s, 2), (f, 3)] -/
def ps_slices_ContainsFunc___float32_float32_ : List Nat := [0, 1, 4]
def b_slices_ContainsFunc___float32_float32_ (g_slices_IndexFunc___float32_float32_ : FuncId) : VCode :=
  (.seq
   (.region false [
    ⟨some 4, .mv, [.k (.b false)], none⟩])
   (.seq
    (.region false [
     ⟨some 5, .mv, [.t 0], none⟩,
     ⟨some 6, .mv, [.t 1], none⟩,
     ⟨some 7, (.call g_slices_IndexFunc___float32_float32_), [.t 5, .t 6], none⟩,
     ⟨some 8, (.bin .geq), [.t 7, .k (.i .i64 0)], none⟩,
     ⟨some 4, .mv, [.t 8], none⟩])
    .ret))

abbrev Is_slices_ContainsFunc___float32_float32_ (P : Program) (g_f : FuncId) (g_slices_IndexFunc___float32_float32_ : FuncId) : Prop := FnIs P g_f 9 [.t 4] (b_slices_ContainsFunc___float32_float32_ g_slices_IndexFunc___float32_float32_)

abbrev C_slices_ContainsFunc___float32_float32_ (P : Program) (g_f : FuncId) : Prop := ∀ (xs : List Nat) (F : FuncId) (p : Nat → Bool) (hF : ∀ x, VCall P F [.f .f32 x] (.b (p x))) (hx : xs.length ≤ maxLen), VCall P g_f [PS [0] .f32 xs, .fn F []] (.b (xs.any p))
def oc_slices_ContainsFunc___float32_float32_ (xs : List Nat) (F : FuncId) (p : Nat → Bool) (d : Nat) (as : List AV) : T AV := match d with | 7 => .leaf (.i .i64 (idxM p xs)) | _ => .fail



theorem q_slices_ContainsFunc___float32_float32_ {P : Program} {g_f : FuncId} {g_slices_IndexFunc___float32_float32_ : FuncId} (h_ : Is_slices_ContainsFunc___float32_float32_ P g_f g_slices_IndexFunc___float32_float32_) (xs : List Nat) (F : FuncId) (p : Nat → Bool) (ht : T.ok (fun x_ => x_ = .b (xs.any p)) (
      T.ob ((VCall P) g_slices_IndexFunc___float32_float32_ [AV.sl (Tag.par [0]) 0 (Cont.f FloatKind.f32 xs), AV.fn F []] (AV.i IntKind.i64 (idxM p xs))) (T.leaf (AV.b (decide (idxM p xs ≥ 0)))))) :
    VCall P g_f [PS [0] .f32 xs, .fn F []] (.b (xs.any p)) := h_.call_of ps_slices_ContainsFunc___float32_float32_ ⟨oc_slices_ContainsFunc___float32_float32_ xs F p, fun _ _ => none⟩ (by kernel_rfl) ht

-- END slices_ContainsFunc___float32_float32_

theorem k_slices_ContainsFunc___float32_float32_ {P : Program} {f g : FuncId} (h : Is_slices_ContainsFunc___float32_float32_ P f g) (hg : C_slices_IndexFunc___float32_float32_ P g) : C_slices_ContainsFunc___float32_float32_ P f := by
  intro xs F p hF hx
  refine q_slices_ContainsFunc___float32_float32_ h xs F p ⟨hg xs F p hF hx, fun _ => ?_⟩
  show _ = _
  rw [idx_any]

-- FN impl_areFinite_1
/-- impl.areFinite$1: slots 6, results [.t 2]; calls [4:g_impl_IsFinite]; names [(x, 0), (x, 1)] -/
def ps_impl_areFinite_1 : List Nat := [0, 2]
def b_impl_areFinite_1 (g_impl_IsFinite : FuncId) : VCode :=
  (.seq
   (.region false [
    ⟨some 2, .mv, [.k (.b false)], none⟩])
   (.seq
    (.region false [
     ⟨some 3, .mv, [.t 0], none⟩,
     ⟨some 4, (.call g_impl_IsFinite), [.t 3], none⟩,
     ⟨some 5, .not, [.t 4], none⟩,
     ⟨some 2, .mv, [.t 5], none⟩])
    .ret))

abbrev Is_impl_areFinite_1 (P : Program) (g_f : FuncId) (g_impl_IsFinite : FuncId) : Prop := FnIs P g_f 6 [.t 2] (b_impl_areFinite_1 g_impl_IsFinite)

abbrev C_impl_areFinite_1 (P : Program) (g_f : FuncId) : Prop := ∀ (x : Nat), VCall P g_f [.f .f32 x] (.b (!finM x))
def oc1_impl_areFinite_1 (as : List AV) : T AV := match as with | [.f .f32 x] => .leaf (.b (!finM x)) | _ => .fail
def oc_impl_areFinite_1 (x : Nat) (d : Nat) (as : List AV) : T AV := match d with | 4 => oc1_impl_IsFinite as | _ => .fail



theorem q_impl_areFinite_1 {P : Program} {g_f : FuncId} {g_impl_IsFinite : FuncId} (h_ : Is_impl_areFinite_1 P g_f g_impl_IsFinite) (x : Nat) (ht : T.ok (fun x_ => x_ = .b (!finM x)) (
      T.ob ((VCall P) g_impl_IsFinite [AV.f FloatKind.f32 x] (AV.b (finM x))) (T.leaf (AV.b !finM x)))) :
    VCall P g_f [.f .f32 x] (.b (!finM x)) := h_.call_of ps_impl_areFinite_1 ⟨oc_impl_areFinite_1 x, fun _ _ => none⟩ (by kernel_rfl) ht

-- END impl_areFinite_1

theorem k_impl_areFinite_1 {P : Program} {f g : FuncId} (h : Is_impl_areFinite_1 P f g) (hg : C_impl_IsFinite P g) : C_impl_areFinite_1 P f := fun x => q_impl_areFinite_1 h x ⟨hg x, fun _ => rfl⟩

-- FN impl_areFinite
/-- impl.areFinite: slots 6, results [.t 2]; calls [4:g_slices_ContainsFunc___float32_float32_]; names [(list, 0), (list, 1)] -/
def ps_impl_areFinite : List Nat := [0, 2]
def b_impl_areFinite (g_slices_ContainsFunc___float32_float32_ g_impl_areFinite_1 : FuncId) : VCode :=
  (.seq
   (.region false [
    ⟨some 2, .mv, [.k (.b false)], none⟩])
   (.seq
    (.region false [
     ⟨some 3, .mv, [.t 0], none⟩,
     ⟨some 4, (.call g_slices_ContainsFunc___float32_float32_), [.t 3, .k (.fn g_impl_areFinite_1 [])], none⟩,
     ⟨some 5, .not, [.t 4], none⟩,
     ⟨some 2, .mv, [.t 5], none⟩])
    .ret))

abbrev Is_impl_areFinite (P : Program) (g_f : FuncId) (g_slices_ContainsFunc___float32_float32_ g_impl_areFinite_1 : FuncId) : Prop := FnIs P g_f 6 [.t 2] (b_impl_areFinite g_slices_ContainsFunc___float32_float32_ g_impl_areFinite_1)

abbrev C_impl_areFinite (P : Program) (g_f : FuncId) : Prop := ∀ (xs : List Nat) (hx : xs.length ≤ maxLen), VCall P g_f [PS [0] .f32 xs] (.b (finAllM xs))
def oc1_impl_areFinite (as : List AV) : T AV := match as with | [.sl _ _ (.f .f32 xs)] => .leaf (.b (finAllM xs)) | _ => .fail
def oc_impl_areFinite (xs : List Nat) (d : Nat) (as : List AV) : T AV := match d with | 4 => .leaf (.b (xs.any fun x => !finM x)) | _ => .fail



theorem q_impl_areFinite {P : Program} {g_f : FuncId} {g_slices_ContainsFunc___float32_float32_ g_impl_areFinite_1 : FuncId} (h_ : Is_impl_areFinite P g_f g_slices_ContainsFunc___float32_float32_ g_impl_areFinite_1) (xs : List Nat) (ht : T.ok (fun x_ => x_ = .b (finAllM xs)) (
      T.ob ((VCall P) g_slices_ContainsFunc___float32_float32_ [AV.sl (Tag.par [0]) 0 (Cont.f FloatKind.f32 xs), AV.fn g_impl_areFinite_1 []] (AV.b (List.any xs fun (x : Nat) => !finM x)))
        (T.leaf (AV.b !List.any xs fun (x : Nat) => !finM x)))) :
    VCall P g_f [PS [0] .f32 xs] (.b (finAllM xs)) := h_.call_of ps_impl_areFinite ⟨oc_impl_areFinite xs, fun _ _ => none⟩ (by kernel_rfl) ht

-- END impl_areFinite

theorem k_impl_areFinite {P : Program} {f g F : FuncId} (h : Is_impl_areFinite P f g F) (hg : C_slices_ContainsFunc___float32_float32_ P g) (hF : C_impl_areFinite_1 P F) : C_impl_areFinite P f := by
  intro xs hx
  refine q_impl_areFinite h xs ⟨hg xs F _ hF hx, fun _ => ?_⟩
  show _ = _
  congr 1
  unfold finAllM
  rw [← List.not_all_eq_any_not, Bool.not_not]

theorem finAll_findIdx (xs : List Nat) : finAllM xs = !decide (xs.findIdx (fun x => !finM x) < xs.length) := by
  rw [← any_findIdx, ← List.not_all_eq_any_not, Bool.not_not]; rfl


theorem maxLen_eq : maxLen = 9223372036854775807 := rfl
def seriesM (xs : List Nat) : Bool := decide ((xs.length : Int) ≥ 1) && (decide ((xs.length : Int) ≤ 96) && finAllM xs)
def twoM (xs ys : List Nat) : Bool := seriesM xs && seriesM ys && ((xs.length : Int) == (ys.length : Int))
def ifAllM (xs : List Nat) : List Nat := if finAllM xs = true then xs else []
def validStateM (l s : Nat) (xs : List Nat) (t : Int) : Bool := finM l && finM s && inM xs.length 1 24 && finAllM xs && inM t 0 (xs.length - 1)

-- FN impl_IsSeries
/-- impl.IsSeries: slots 15, results [.t 2]; calls [13:g_impl_areFinite]; names [(list, 0), (list, 1)] -/
def ps_impl_IsSeries : List Nat := [0, 2]
def b_impl_IsSeries (g_impl_areFinite : FuncId) : VCode :=
  (.seq
   (.region false [
    ⟨some 2, .mv, [.k (.b false)], none⟩])
   (.seq
    (.region false [
     ⟨some 3, .mv, [.t 0], none⟩,
     ⟨some 4, .len, [.t 3], none⟩,
     ⟨some 5, (.bin .geq), [.t 4, .k (.i .i64 1)], none⟩,
     ⟨some 6, .mv, [.t 5], none⟩,
     ⟨some 7, .mv, [.t 0], some (6, true)⟩,
     ⟨some 8, .len, [.t 7], some (6, true)⟩,
     ⟨some 9, (.bin .leq), [.t 8, .k (.i .i64 96)], some (6, true)⟩,
     ⟨some 10, .pick, [.t 6, .t 9, .k (.b false)], none⟩,
     ⟨some 11, .mv, [.t 10], none⟩,
     ⟨some 12, .mv, [.t 0], some (11, true)⟩,
     ⟨some 13, (.call g_impl_areFinite), [.t 12], some (11, true)⟩,
     ⟨some 14, .pick, [.t 11, .t 13, .k (.b false)], none⟩,
     ⟨some 2, .mv, [.t 14], none⟩])
    .ret))

abbrev Is_impl_IsSeries (P : Program) (g_f : FuncId) (g_impl_areFinite : FuncId) : Prop := FnIs P g_f 15 [.t 2] (b_impl_IsSeries g_impl_areFinite)

abbrev C_impl_IsSeries (P : Program) (g_f : FuncId) : Prop := ∀ (xs : List Nat) (hx : xs.length ≤ maxLen), VCall P g_f [PS [0] .f32 xs] (.b (seriesM xs))
def oc1_impl_IsSeries (as : List AV) : T AV := match as with | [.sl _ _ (.f .f32 xs)] => .leaf (.b (seriesM xs)) | _ => .fail
def oc_impl_IsSeries (xs : List Nat) (d : Nat) (as : List AV) : T AV := match d with | 13 => oc1_impl_areFinite as | _ => .fail



theorem q_impl_IsSeries {P : Program} {g_f : FuncId} {g_impl_areFinite : FuncId} (h_ : Is_impl_IsSeries P g_f g_impl_areFinite) (xs : List Nat) (ht : T.ok (fun x_ => x_ = .b (seriesM xs)) (
      T.ite (decide ((↑(List.length xs) : Int) ≥ 1))
        (T.ite (decide ((↑(List.length xs) : Int) ≤ 96)) (T.ob ((VCall P) g_impl_areFinite [AV.sl (Tag.par [0]) 0 (Cont.f FloatKind.f32 xs)] (AV.b (finAllM xs))) (T.leaf (AV.b (finAllM xs)))) (T.leaf (AV.b false)))
        (T.leaf (AV.b false)))) :
    VCall P g_f [PS [0] .f32 xs] (.b (seriesM xs)) := h_.call_of ps_impl_IsSeries ⟨oc_impl_IsSeries xs, fun _ _ => none⟩ (by kernel_rfl) ht

-- END impl_IsSeries


-- FN impl_areTwo
/-- impl.areTwo: slots 18, results [.t 4]; calls [6:g_impl_IsSeries, 9:g_impl_IsSeries]; names [(a, 0), (b, 1), (a, 2), (b, 3)] -/
def ps_impl_areTwo : List Nat := [0, 1, 4]
def b_impl_areTwo (g_impl_IsSeries : FuncId) : VCode :=
  (.seq
   (.region false [
    ⟨some 4, .mv, [.k (.b false)], none⟩])
   (.seq
    (.region false [
     ⟨some 5, .mv, [.t 0], none⟩,
     ⟨some 6, (.call g_impl_IsSeries), [.t 5], none⟩,
     ⟨some 7, .mv, [.t 6], none⟩,
     ⟨some 8, .mv, [.t 1], some (7, true)⟩,
     ⟨some 9, (.call g_impl_IsSeries), [.t 8], some (7, true)⟩,
     ⟨some 10, .pick, [.t 7, .t 9, .k (.b false)], none⟩,
     ⟨some 11, .mv, [.t 10], none⟩,
     ⟨some 12, .mv, [.t 0], some (11, true)⟩,
     ⟨some 13, .len, [.t 12], some (11, true)⟩,
     ⟨some 14, .mv, [.t 1], some (11, true)⟩,
     ⟨some 15, .len, [.t 14], some (11, true)⟩,
     ⟨some 16, (.bin .eql), [.t 13, .t 15], some (11, true)⟩,
     ⟨some 17, .pick, [.t 11, .t 16, .k (.b false)], none⟩,
     ⟨some 4, .mv, [.t 17], none⟩])
    .ret))

abbrev Is_impl_areTwo (P : Program) (g_f : FuncId) (g_impl_IsSeries : FuncId) : Prop := FnIs P g_f 18 [.t 4] (b_impl_areTwo g_impl_IsSeries)

abbrev C_impl_areTwo (P : Program) (g_f : FuncId) : Prop := ∀ (xs : List Nat) (ys : List Nat) (hx : xs.length ≤ maxLen) (hy : ys.length ≤ maxLen), VCall P g_f [PS [0] .f32 xs, PS [1] .f32 ys] (.b (twoM xs ys))
def oc1_impl_areTwo (as : List AV) : T AV := match as with | [.sl _ _ (.f .f32 xs), .sl _ _ (.f .f32 ys)] => .leaf (.b (twoM xs ys)) | _ => .fail
def oc_impl_areTwo (xs : List Nat) (ys : List Nat) (d : Nat) (as : List AV) : T AV := match d with | 6 => oc1_impl_IsSeries as | 9 => oc1_impl_IsSeries as | _ => .fail



theorem q_impl_areTwo {P : Program} {g_f : FuncId} {g_impl_IsSeries : FuncId} (h_ : Is_impl_areTwo P g_f g_impl_IsSeries) (xs : List Nat) (ys : List Nat) (ht : T.ok (fun x_ => x_ = .b (twoM xs ys)) (
      T.ob ((VCall P) g_impl_IsSeries [AV.sl (Tag.par [0]) 0 (Cont.f FloatKind.f32 xs)] (AV.b (seriesM xs)))
        (T.ite (seriesM xs)
          (T.ob ((VCall P) g_impl_IsSeries [AV.sl (Tag.par [0]) 0 (Cont.f FloatKind.f32 ys)] (AV.b (seriesM ys))) (T.ite (seriesM ys) (T.leaf (AV.b ((↑(List.length xs) : Int) == (↑(List.length ys) : Int)))) (T.leaf (AV.b false))))
          (T.leaf (AV.b false))))) :
    VCall P g_f [PS [0] .f32 xs, PS [1] .f32 ys] (.b (twoM xs ys)) := h_.call_of ps_impl_areTwo ⟨oc_impl_areTwo xs ys, fun _ _ => none⟩ (by kernel_rfl) ht

-- END impl_areTwo










theorem k_impl_IsSeries {P : Program} {f g : FuncId} (h : Is_impl_IsSeries P f g) (hg : C_impl_areFinite P g) : C_impl_IsSeries P f := by
  intro xs hx
  refine q_impl_IsSeries h xs ?_
  repeat' (first | with_reducible refine T.ok_ob ?_ (fun _ => ?_) | with_reducible refine T.ok_ite (fun _ => ?_) (fun _ => ?_) | with_reducible refine T.ok_leaf ?_)
  all_goals first | exact hg _ hx | (simp only [seriesM, *]; simp; done)
theorem k_impl_areTwo {P : Program} {f g : FuncId} (h : Is_impl_areTwo P f g) (hg : C_impl_IsSeries P g) : C_impl_areTwo P f := by
  intro xs ys hx hy
  refine q_impl_areTwo h xs ys ?_
  repeat' (first | with_reducible refine T.ok_ob ?_ (fun _ => ?_) | with_reducible refine T.ok_ite (fun _ => ?_) (fun _ => ?_) | with_reducible refine T.ok_leaf ?_)
  all_goals first | exact hg _ hx | exact hg _ hy | (simp_all [twoM]; done)
end Go.Proofs.LV

namespace Go.Proofs.LV
open Go
set_option linter.unusedVariables false
set_option linter.unusedSimpArgs false

/-- the sum of the first n -/
def sumN : Nat → (Nat → Int) → Int
  | 0, _ => 0
  | n + 1, f => sumN n f + f n
def signM (x y : Nat) : Int := if flt .f32 x y = true then -1 else if fgt .f32 x y = true then 1 else 0
def pairM (xs ys : List Nat) (k i : Nat) : Int := signM (xs.getD k 0) (xs.getD i 0) * signM (ys.getD k 0) (ys.getD i 0)
def pairsM (xs ys : List Nat) : Int := sumN xs.length fun k => sumN k fun i => pairM xs ys k i

theorem sumN_bound {f : Nat → Int} {B : Int} (hB : 0 ≤ B) (n : Nat) (h : ∀ i, i < n → -B ≤ f i ∧ f i ≤ B) : -(B * n) ≤ sumN n f ∧ sumN n f ≤ B * n := by
  induction n with
  | zero => simp [sumN]
  | succ n ih =>
    have := ih (fun i hi => h i (by omega))
    have := h n (by omega)
    simp only [sumN]
    rw [Int.natCast_succ, Int.mul_add]
    omega
theorem sumN_congr {f g : Nat → Int} (n : Nat) (h : ∀ i, i < n → f i = g i) : sumN n f = sumN n g := by
  induction n with
  | zero => rfl
  | succ n ih => simp only [sumN, ih (fun i hi => h i (by omega)), h n (by omega)]
theorem sumN_add (f g : Nat → Int) (n : Nat) : (sumN n fun i => f i + g i) = sumN n f + sumN n g := by
  induction n with
  | zero => rfl
  | succ n ih => simp only [sumN, ih]; omega
/-- the sums over a triangle, by rows and by columns -/
theorem triangle (t : Nat → Nat → Int) (n : Nat) : (sumN n fun k => sumN k fun i => t k i) = sumN n fun i => sumN (n - (i + 1)) fun j => t (i + 1 + j) i := by
  induction n with
  | zero => rfl
  | succ n ih =>
    have e : (sumN n fun i => sumN (n + 1 - (i + 1)) fun j => t (i + 1 + j) i) = (sumN n fun i => sumN (n - (i + 1)) fun j => t (i + 1 + j) i) + sumN n fun i => t n i := by
      rw [← sumN_add]
      refine sumN_congr n fun i hi => ?_
      rw [show n + 1 - (i + 1) = (n - (i + 1)) + 1 by omega]
      simp only [sumN]
      rw [show i + 1 + (n - (i + 1)) = n by omega]
    show (sumN n fun k => sumN k fun i => t k i) + (sumN n fun i => t n i) = (sumN n fun i => sumN (n + 1 - (i + 1)) fun j => t (i + 1 + j) i) + sumN (n + 1 - (n + 1)) fun j => t (n + 1 + j) n
    rw [e, ih, Nat.sub_self]
    simp only [sumN]; omega
theorem sign_bound (x y : Nat) : signM x y = -1 ∨ signM x y = 0 ∨ signM x y = 1 := by
  unfold signM; split
  · simp
  · split <;> simp
theorem pair_bound (xs ys : List Nat) (k i : Nat) : -1 ≤ pairM xs ys k i ∧ pairM xs ys k i ≤ 1 := by
  unfold pairM
  rcases sign_bound (xs.getD k 0) (xs.getD i 0) with h | h | h <;> rcases sign_bound (ys.getD k 0) (ys.getD i 0) with h' | h' | h' <;> rw [h, h'] <;> decide
theorem row_bound (xs ys : List Nat) (k n : Nat) : -(n : Int) ≤ sumN n (fun i => pairM xs ys k i) ∧ sumN n (fun i => pairM xs ys k i) ≤ n := by
  have := sumN_bound (B := 1) (f := fun i => pairM xs ys k i) (by omega) n (fun i _ => pair_bound xs ys k i)
  omega
theorem rows_bound (xs ys : List Nat) (k : Nat) (hk : k ≤ 96) : -9216 ≤ (sumN k fun k => sumN k fun i => pairM xs ys k i) ∧ (sumN k fun k => sumN k fun i => pairM xs ys k i) ≤ 9216 := by
  have := sumN_bound (B := 96) (f := fun k => sumN k fun i => pairM xs ys k i) (by omega) k (fun i hi => by have := row_bound xs ys i i; omega)
  omega
theorem series_len {xs : List Nat} (h : seriesM xs = true) : 1 ≤ xs.length ∧ xs.length ≤ 96 := by
  simp only [seriesM, Bool.and_eq_true, decide_eq_true_eq] at h
  omega
theorem two_len {xs ys : List Nat} (h : twoM xs ys = true) : 1 ≤ xs.length ∧ xs.length ≤ 96 ∧ ys.length = xs.length := by
  simp only [twoM, Bool.and_eq_true, beq_iff_eq] at h
  have := series_len h.1.1
  omega


theorem sign_cases (x y : Nat) : (flt .f32 x y = true ∧ fgt .f32 x y = false ∧ signM x y = -1) ∨ (flt .f32 x y = false ∧ fgt .f32 x y = true ∧ signM x y = 1) ∨ (flt .f32 x y = false ∧ fgt .f32 x y = false ∧ signM x y = 0) := by
  unfold signM flt fgt
  cases h : FloatKind.f32.format.order x y with
  | none => simp
  | some o => cases o <;> simp

def backsM (xs ys : List Nat) (n : Nat) : List Nat := (List.range n).flatMap fun i => [fadd .f32 (xs.getD i 0) (ys.getD i 0), fsub .f32 (xs.getD i 0) (ys.getD i 0)]
def backOkM (xs ys : List Nat) : Bool := twoM xs ys && (!decide ((xs.length : Int) > 48) && finAllM (backsM xs ys xs.length))

theorem backs_len (xs ys : List Nat) : ∀ n, (backsM xs ys n).length = 2 * n
  | 0 => rfl
  | n + 1 => by
    have := backs_len xs ys n
    simp only [backsM, List.range_succ, List.flatMap_append, List.length_append] at this ⊢
    simp [List.flatMap, this]; simp [List.flatMap] at this; omega
theorem backs_next (xs ys : List Nat) (n : Nat) : backsM xs ys (n + 1) = backsM xs ys n ++ [fadd .f32 (xs.getD n 0) (ys.getD n 0), fsub .f32 (xs.getD n 0) (ys.getD n 0)] := by
  simp [backsM, List.range_succ, List.flatMap_append]



theorem sz_ok {n : Nat} {i : Int} (h : decide (szM n i < 0) = false) : (n : Int) ≤ i := by
  have := of_decide_eq_false h
  unfold szM at this
  split at this <;> omega

end Go.Proofs.LV

namespace Go.Proofs.LV
open Go
set_option linter.unusedVariables false
set_option linter.unusedSimpArgs false

def Cont.rng : Cont → Prop
  | .f k xs => xs.length ≤ maxLen ∧ ∀ x ∈ xs, Fw k x
  | .i k xs => xs.length ≤ maxLen ∧ ∀ x ∈ xs, Iw k x
  | .b xs => xs.length ≤ maxLen
  | .c k xs => xs.length ≤ maxLen ∧ ∀ x ∈ xs, Fw k x.1 ∧ Fw k x.2
  | .ff k xs => xs.length ≤ maxLen ∧ ∀ x ∈ xs, x.length ≤ maxLen ∧ ∀ y ∈ x, Fw k y
mutual
def AV.rng : AV → Prop
  | .i k n => Iw k n
  | .f k x => Fw k x
  | .c k x y => Fw k x ∧ Fw k y
  | .sl _ _ xs => xs.rng
  | .bx _ cells => AV.rngL cells
  | .ad _ _ x => AV.rng x
  | .agg cells => AV.rngL cells
  | .tup xs => AV.rngL xs
  | .fn _ caps => AV.rngL caps
  | _ => True
def AV.rngL : List AV → Prop
  | [] => True
  | x :: r => AV.rng x ∧ AV.rngL r
end

theorem srow_rng {G : Gh} {w : World} {g : Tag} {off n : Nat} {E : Nat → Value → Prop} {v : Value} (h : SRow G w g off n E v) : n ≤ maxLen ∧ ∀ j, j < n → ∃ u, E j u := by
  rcases h with ⟨b, o, cap, rfl, hat, hn, hm, hc, hs⟩ | ⟨hn, ha, hv⟩
  · refine ⟨Nat.le_trans hn hm, fun j hj => ?_⟩
    obtain ⟨u, hu, he⟩ := hc j hj
    exact ⟨u, he⟩
  · subst hn
    exact ⟨Nat.zero_le _, fun j hj => absurd hj (by omega)⟩
theorem mem_getD_rng {α : Type} {xs : List α} {x : α} (d : α) (h : x ∈ xs) : ∃ j, j < xs.length ∧ xs.getD j d = x := by
  obtain ⟨j, hj, rfl⟩ := List.getElem_of_mem h
  exact ⟨j, hj, by simp [List.getD, hj]⟩
theorem fr_fw {k : FloatKind} {x : Nat} {v : Value} (h : FR k x v) : Fw k x := by
  obtain ⟨b, _, h1, h2⟩ := h; exact ⟨b, h1, h2⟩
theorem cont_rng {G : Gh} {w : World} {g : Tag} {off : Nat} {xs : Cont} {v : Value} (h : SRow G w g off xs.len (Cont.ok G w xs) v) : xs.rng := by
  obtain ⟨hl, hc⟩ := srow_rng h
  cases xs with
  | f k xs =>
    refine ⟨hl, fun x hx => ?_⟩
    obtain ⟨j, hj, rfl⟩ := mem_getD_rng 0 hx
    obtain ⟨u, hu⟩ := hc j hj
    exact fr_fw hu
  | i k xs =>
    refine ⟨hl, fun x hx => ?_⟩
    obtain ⟨j, hj, rfl⟩ := mem_getD_rng 0 hx
    obtain ⟨u, hu, h1, h2⟩ := hc j hj
    exact ⟨h1, h2⟩
  | b xs => exact hl
  | c k xs =>
    refine ⟨hl, fun x hx => ?_⟩
    obtain ⟨j, hj, rfl⟩ := mem_getD_rng (0, 0) hx
    obtain ⟨u, a, b, hu, ⟨h1, h2⟩, h3, h4⟩ := hc j hj
    exact ⟨⟨a, h1, h3⟩, ⟨b, h2, h4⟩⟩
  | ff k xs =>
    refine ⟨hl, fun x hx => ?_⟩
    obtain ⟨j, hj, rfl⟩ := mem_getD_rng [] hx
    obtain ⟨u, hu⟩ := hc j hj
    obtain ⟨hl2, hc2⟩ := srow_rng hu
    refine ⟨hl2, fun y hy => ?_⟩
    obtain ⟨i, hi, rfl⟩ := mem_getD_rng 0 hy
    obtain ⟨z, hz⟩ := hc2 i hi
    exact fr_fw hz
mutual
theorem vr_rng {G : Gh} {w : World} : ∀ (x : AV) (v : Value), VR G w x v → AV.rng x
  | .any, v, _ => trivial
  | .b c, v, _ => trivial
  | .i k c, v, h => by simp only [VR] at h; exact h.2
  | .f k c, v, h => by simp only [VR] at h; exact fr_fw h
  | .c k x y, v, h => by
    simp only [VR] at h
    obtain ⟨a, b, hu, ⟨h1, h2⟩, h3, h4⟩ := h
    exact ⟨⟨a, h1, h3⟩, ⟨b, h2, h4⟩⟩
  | .sl g off xs, v, h => by simp only [VR] at h; exact cont_rng h
  | .bx g cells, v, h => by
    simp only [VR] at h
    obtain ⟨b, o, rfl, hat, hc⟩ := h
    exact cl_rng cells b o hc
  | .ad g idx x, v, h => by
    simp only [VR] at h
    obtain ⟨b, o, rfl, hat, u, hu, hc⟩ := h
    exact vr_rng x u hc
  | .agg cells, v, h => by
    simp only [VR] at h
    obtain ⟨vs, rfl, hc⟩ := h
    exact vl_rng cells vs.toList hc
  | .tup cells, v, h => by
    simp only [VR] at h
    obtain ⟨vs, rfl, hc⟩ := h
    exact vl_rng cells vs.toList hc
  | .fn _ cells, v, h => by
    simp only [VR] at h
    obtain ⟨vs, rfl, hc⟩ := h
    exact vl_rng cells vs.toList hc
theorem vl_rng {G : Gh} {w : World} : ∀ (xs : List AV) (vs : List Value), VL G w xs vs → AV.rngL xs
  | [], vs, _ => trivial
  | x :: r, vs, h => by
    simp only [VL] at h
    obtain ⟨u, us, rfl, hx, hr⟩ := h
    exact ⟨vr_rng x u hx, vl_rng r us hr⟩
theorem cl_rng {G : Gh} {w : World} : ∀ (xs : List AV) (b o : Nat), CL G w b o xs → AV.rngL xs
  | [], b, o, _ => trivial
  | x :: r, b, o, h => by
    simp only [CL] at h
    obtain ⟨⟨u, hu, hx⟩, hr⟩ := h
    exact ⟨vr_rng x u hx, cl_rng r b (o + 1) hr⟩
end
/-- a contract need only hold of arguments that can be -/
theorem VCall.rng {P : Program} {f : FuncId} {args : List AV} {r : AV} (h : AV.rngL args → VCall P f args r) (hr : r.isM = false := by rfl) : VCall P f args r :=
  VCallN.to hr ⟨fun w I π vs h1 h2 hv => ((h (vl_rng _ _ hv)).N hr).runs w I π vs h1 h2 hv⟩
theorem Fw.lt {k : FloatKind} {x : Nat} (h : Fw k x) : x < 2 ^ k.format.width := by
  obtain ⟨b, hb, rfl⟩ := h
  unfold canon
  split
  · cases k <;> decide
  · exact hb
theorem Fw.nan {k : FloatKind} {x : Nat} (h : Fw k x) : (k.format.read x).isNaN = true → x = fnan k := by
  obtain ⟨b, hb, rfl⟩ := h
  unfold canon
  split
  · exact fun _ => rfl
  · rename_i h'; exact fun h => absurd h h'
end Go.Proofs.LV
