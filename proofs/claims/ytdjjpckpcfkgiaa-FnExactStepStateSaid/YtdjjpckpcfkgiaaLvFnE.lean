/- Smoothing: levels, needs, lines of levels, guesses. -/
import Derived.Test.YtdjjpckpcfkgiaaLvFnD
namespace Go.Proofs.LV
open Go
set_option linter.unusedVariables false
set_option linter.unusedSimpArgs false

/-! ### tables and sums -/
/-- f 0 to f (n - 1) -/
def tab {α : Type} (n : Nat) (f : Nat → α) : List α := (List.range n).map f
theorem tab_len {α : Type} (n : Nat) (f : Nat → α) : (tab n f).length = n := by simp [tab]
theorem tab_succ {α : Type} (n : Nat) (f : Nat → α) : tab (n + 1) f = tab n f ++ [f n] := by simp [tab, List.range_succ]
theorem tab_get {α : Type} (n : Nat) (f : Nat → α) (i : Nat) (d : α) (h : i < n) : (tab n f).getD i d = f i := by
  simp [tab, List.getD, h]
theorem tab_congr {α : Type} {n : Nat} {f g : Nat → α} (h : ∀ i, i < n → f i = g i) : tab n f = tab n g := by
  unfold tab
  refine List.map_congr_left fun i hi => h i (by simpa using hi)
/-- n steps, from the first -/
def accN {α : Type} (f : Nat → α → α) : Nat → α → α
  | 0, a => a
  | n + 1, a => f n (accN f n a)
theorem accN_congr {α : Type} {f g : Nat → α → α} {a : α} : ∀ {n : Nat}, (∀ i x, i < n → f i x = g i x) → accN f n a = accN g n a
  | 0, _ => rfl
  | n + 1, h => by
    simp only [accN]
    rw [accN_congr (n := n) (fun i x hi => h i x (by omega)), h n _ (by omega)]
theorem getD_drop' {α : Type} (xs : List α) (k i : Nat) (d : α) : (xs.drop k).getD i d = xs.getD (k + i) d := by
  simp [List.getD]

theorem finM_nan {x : Nat} (h : finM x = true) : nanB .f32 x = false := by
  cases hn : nanB .f32 x with
  | false => rfl
  | true =>
    have : fsub .f32 x x = fnan .f32 := by
      unfold nanB Ieee.Datum.isNaN at hn
      unfold fsub Ieee.Format.sub
      cases hr : FloatKind.f32.format.read x <;> simp [hr] at hn
      simp [Ieee.Datum.sum]
    unfold finM at h
    rw [this, feq_eq, nanB_fnan] at h
    simp at h

def stepLev (s o x : Nat) : Nat := fadd .f32 o (fmul .f32 s (fsub .f32 x o))
def levN (xs : List Nat) (s : Nat) : Nat → Nat
  | 0 => xs.getD 0 0
  | n + 1 => stepLev s (levN xs s n) (xs.getD (n + 1) 0)
def levsM (xs : List Nat) (s : Nat) : List Nat := tab xs.length (levN xs s)
def levOk (xs : List Nat) (s : Nat) : Bool := seriesM xs && (isShareM s && finAllM (levsM xs s))
def levOut (xs : List Nat) (s : Nat) : List Nat := if levOk xs s = true then levsM xs s else []





theorem drop_all {α : Type} (xs : List α) (k : Nat) : List.take (xs.length - k) (List.drop k xs) = xs.drop k := List.take_of_length_le (by simp)
theorem lev_step (xs : List Nat) (s i n : Nat) (h : i < n) : (tab n (levN xs s)).getD i 0 = levN xs s i := tab_get _ _ _ _ h
theorem levs_len (xs : List Nat) (s : Nat) : (levsM xs s).length = xs.length := tab_len _ _
def dlOk (xs : List Nat) (s : Nat) : Bool := levOk xs s && (flt .f32 s 1065353216 && levOk (levsM xs s) s)
def dlA (xs : List Nat) (s : Nat) : Nat := fsub .f32 (fmul .f32 1073741824 ((levsM xs s).getD (xs.length - 1) 0)) ((levsM (levsM xs s) s).getD (xs.length - 1) 0)
def dlB (xs : List Nat) (s : Nat) : Nat := fmul .f32 (fdiv .f32 s (fsub .f32 1065353216 s)) (fsub .f32 ((levsM xs s).getD (xs.length - 1) 0) ((levsM (levsM xs s) s).getD (xs.length - 1) 0))
def dlGood (xs : List Nat) (s : Nat) : Bool := dlOk xs s && (finM (dlA xs s) && finM (dlB xs s))



theorem lt_one {s : Nat} (h : isShareM s = true) : flt .f32 s 1065353216 = !(feq .f32 s 1065353216) := by
  have n1 : nanB .f32 1065353216 = false := by decide
  unfold isShareM at h
  simp only [Bool.and_eq_true, fge_eq, fle_eq, fgt_eq, flt_eq, feq_eq, n1] at h ⊢
  cases hs : nanB .f32 s
  · simp [hs] at h ⊢
    have e := h.2
    by_cases h1 : srung .f32 s = srung .f32 1065353216
    · simp [h1]
    · simp [h1] at e ⊢; exact e
  · simp [hs] at h
theorem levOk_out {xs : List Nat} {s : Nat} (h : levOk xs s = true) : levOut xs s = levsM xs s := by unfold levOut; rw [if_pos h]
theorem levOk_len {xs : List Nat} {s : Nat} (h : levOk xs s = true) : 1 ≤ xs.length ∧ xs.length ≤ 96 := by
  unfold levOk at h; simp at h; exact series_len h.1
theorem levOk_share {xs : List Nat} {s : Nat} (h : levOk xs s = true) : isShareM s = true := by
  unfold levOk at h; simp at h; exact h.2.1
theorem lev_nil (s : Nat) : levOk [] s = false := by simp [levOk, seriesM]
def notLessM (xs : List Nat) : Bool := xs.all fun x => finM x && fge .f32 x 0
def needM (xs : List Nat) : Int := idxM (fun x => fgt .f32 x 0) xs
def needOk (xs : List Nat) (s : Nat) : Bool := seriesM xs && notLessM xs && isShareM s
def firstM (xs : List Nat) (s : Nat) : Int := if needOk xs s = true then needM xs else -1





def someLess (xs : List Nat) : Bool := xs.any fun x => flt .f32 x 0

theorem any_allN {p : Nat → Bool} (xs : List Nat) : xs.any p = !allN xs.length fun i => !p (xs.getD i 0) := by
  rw [Bool.eq_iff_iff]
  cases h : allN xs.length (fun i => !p (xs.getD i 0)) with
  | true =>
    have h := allN_iff.1 h
    simp only [Bool.not_true, List.any_eq_true]
    refine ⟨fun ⟨x, hx, hp⟩ => ?_, fun h' => Bool.noConfusion h'⟩
    obtain ⟨j, hj, rfl⟩ := mem_getD_rng 0 hx
    have := h j hj
    rw [hp] at this; cases this
  | false =>
    obtain ⟨i, hi, h1, _⟩ := allN_not h
    simp only [Bool.not_false, List.any_eq_true, iff_true]
    refine ⟨xs.getD i 0, ?_, by simpa using h1⟩
    simp [List.getD, hi]
theorem idx_nat {α : Type} {p : α → Bool} {xs : List α} (h : 0 ≤ idxM p xs) : ∃ k : Nat, idxM p xs = k ∧ k < xs.length := by
  unfold idxM at h ⊢
  split
  · rename_i h1; exact ⟨_, rfl, h1⟩
  · rename_i h1; rw [if_neg h1] at h; omega
theorem idx_next {p : Nat → Bool} (xs : List Nat) (i : Nat) (h : i < xs.length) : idxM p (xs.take (i + 1)) = if p (xs.getD i 0) = true then (if idxM p (xs.take i) < 0 then (i : Int) else idxM p (xs.take i)) else idxM p (xs.take i) := by
  have hl : (xs.take i).length = i := by simp; omega
  rw [take_next xs i 0 h]
  unfold idxM
  rw [List.findIdx_append, hl]
  simp only [List.length_append, hl, List.length_singleton, List.findIdx_singleton]
  generalize (xs.take i).findIdx p = q
  by_cases h1 : q < i
  · have h2 : q < i + 1 := by omega
    have h3 : ¬ ((q : Int) < 0) := by omega
    simp only [h1, h2, h3, if_true, if_false]; simp
  · cases hp : p (xs.getD i 0) <;> simp [h1]
    omega
theorem series_less {xs : List Nat} (h : seriesM xs = true) : notLessM xs = !someLess xs := by
  unfold seriesM at h
  simp only [Bool.and_eq_true] at h
  have hf := h.2.2
  unfold finAllM at hf
  rw [List.all_eq_true] at hf
  unfold notLessM someLess
  rw [List.not_any_eq_all_not]
  rw [Bool.eq_iff_iff, List.all_eq_true, List.all_eq_true]
  have n0 : nanB .f32 0 = false := by decide
  refine ⟨fun h' x hx => ?_, fun h' x hx => ?_⟩
  · have := h' x hx
    rw [hf x hx, fge_not _ (finM_nan (hf x hx)) n0] at this
    simpa using this
  · have := h' x hx
    rw [hf x hx, fge_not _ (finM_nan (hf x hx)) n0]
    simpa using this
theorem needOk_len {xs : List Nat} {s : Nat} (h : needOk xs s = true) : 1 ≤ xs.length ∧ xs.length ≤ 96 := by
  unfold needOk at h; simp at h; exact series_len h.1.1

/-- size, wait and the last need, one number on -/
def seldomStep (xs : List Nat) (s : Nat) (i : Nat) (a : Nat × Nat × Int) : Nat × Nat × Int :=
  if fgt .f32 (xs.getD i 0) 0 = true then (fadd .f32 a.1 (fmul .f32 s (fsub .f32 (xs.getD i 0) a.1)), fadd .f32 a.2.1 (fmul .f32 s (fsub .f32 (fofi .f32 (i - a.2.2)) a.2.1)), i) else a
def seldomAt (xs : List Nat) (s k n : Nat) : Nat × Nat × Int := accN (fun j a => seldomStep xs s (k + 1 + j) a) n (xs.getD k 0, fofi .f32 (k + 1), (k : Int))
def seldomM (xs : List Nat) (s : Nat) : Nat := let a := seldomAt xs s (needM xs).toNat (xs.length - ((needM xs).toNat + 1)); fdiv .f32 a.1 a.2.1
def seldomOk (xs : List Nat) (s : Nat) : Bool := needOk xs s && (decide (needM xs ≥ 0) && finM (seldomM xs s))



theorem seldom_bound (xs : List Nat) (s k : Nat) : ∀ j, (k : Int) ≤ (seldomAt xs s k j).2.2 ∧ (seldomAt xs s k j).2.2 ≤ k + j
  | 0 => by simp [seldomAt, accN]
  | j + 1 => by
    have := seldom_bound xs s k j
    show (k : Int) ≤ (seldomStep xs s (k + 1 + j) (seldomAt xs s k j)).2.2 ∧ (seldomStep xs s (k + 1 + j) (seldomAt xs s k j)).2.2 ≤ k + (j + 1 : Nat)
    unfold seldomStep
    split
    · simp; omega
    · omega
def chanceStep (xs : List Nat) (s c : Nat) (i : Nat) (a : Nat × Nat) : Nat × Nat :=
  if fgt .f32 (xs.getD i 0) 0 = true then (fadd .f32 a.1 (fmul .f32 s (fsub .f32 (xs.getD i 0) a.1)), fadd .f32 a.2 (fmul .f32 c (fsub .f32 1065353216 a.2))) else (a.1, fadd .f32 a.2 (fmul .f32 c (fsub .f32 0 a.2)))
def chanceAt (xs : List Nat) (s c k n : Nat) : Nat × Nat := accN (fun j a => chanceStep xs s c (k + 1 + j) a) n (xs.getD k 0, fdiv .f32 1065353216 (fofi .f32 (k + 1)))
def chanceM (xs : List Nat) (s c : Nat) : Nat := let a := chanceAt xs s c (needM xs).toNat (xs.length - ((needM xs).toNat + 1)); fmul .f32 a.1 a.2
def chanceOk (xs : List Nat) (s c : Nat) : Bool := needOk xs s && (decide (needM xs ≥ 0) && (isShareM c && finM (chanceM xs s c)))



def guessM (l s : Nat) (xs : List Nat) (t : Int) (d : Nat) : Nat := fadd .f32 (fadd .f32 l (fmul .f32 d s)) (xs.getD t.toNat 0)
def sharesM (a b c d : Nat) : Bool := isShareM a && isShareM b && isShareM c && isShareM d
def guessOk (l s : Nat) (xs : List Nat) (t : Int) (a b c d : Nat) : Bool := validStateM l s xs t && (sharesM a b c d && finM (guessM l s xs t d))

-- FN impl_ValidShares
/-- impl.ValidShares: slots 21, results [.t 2]; calls [5:g_impl_isShare, 9:g_impl_isShare, 14:g_impl_isShare, 19:g_impl_isShare]; names [(h, 0), (h, 1)] -/
def ps_impl_ValidShares : List Nat := [0, 1, 2]
def b_impl_ValidShares (g_impl_isShare : FuncId) : VCode :=
  (.seq
   (.region false [
    ⟨some 1, .boxN, [.t 0], none⟩,
    ⟨some 2, .mv, [.k (.b false)], none⟩])
   (.seq
    (.region false [
     ⟨some 3, (.faddr 0), [.t 1], none⟩,
     ⟨some 4, .load, [.t 3], none⟩,
     ⟨some 5, (.call g_impl_isShare), [.t 4], none⟩,
     ⟨some 6, .mv, [.t 5], none⟩,
     ⟨some 7, (.faddr 1), [.t 1], some (6, true)⟩,
     ⟨some 8, .load, [.t 7], some (6, true)⟩,
     ⟨some 9, (.call g_impl_isShare), [.t 8], some (6, true)⟩,
     ⟨some 10, .pick, [.t 6, .t 9, .k (.b false)], none⟩,
     ⟨some 11, .mv, [.t 10], none⟩,
     ⟨some 12, (.faddr 2), [.t 1], some (11, true)⟩,
     ⟨some 13, .load, [.t 12], some (11, true)⟩,
     ⟨some 14, (.call g_impl_isShare), [.t 13], some (11, true)⟩,
     ⟨some 15, .pick, [.t 11, .t 14, .k (.b false)], none⟩,
     ⟨some 16, .mv, [.t 15], none⟩,
     ⟨some 17, (.faddr 3), [.t 1], some (16, true)⟩,
     ⟨some 18, .load, [.t 17], some (16, true)⟩,
     ⟨some 19, (.call g_impl_isShare), [.t 18], some (16, true)⟩,
     ⟨some 20, .pick, [.t 16, .t 19, .k (.b false)], none⟩,
     ⟨some 2, .mv, [.t 20], none⟩])
    .ret))

abbrev Is_impl_ValidShares (P : Program) (g_f : FuncId) (g_impl_isShare : FuncId) : Prop := FnIs P g_f 21 [.t 2] (b_impl_ValidShares g_impl_isShare)

abbrev C_impl_ValidShares (P : Program) (g_f : FuncId) : Prop := ∀ (a : Nat) (b : Nat) (c : Nat) (d : Nat), VCall P g_f [.agg (F4 a b c d)] (.b (sharesM a b c d))
def oc1_impl_ValidShares (as : List AV) : T AV := match as with | [.agg [.f _ a, .f _ b, .f _ c, .f _ d]] => .leaf (.b (sharesM a b c d)) | _ => .fail
def oc_impl_ValidShares (a : Nat) (b : Nat) (c : Nat) (d : Nat) (d : Nat) (as : List AV) : T AV := match d with | 5 => oc1_impl_isShare as | 9 => oc1_impl_isShare as | 14 => oc1_impl_isShare as | 19 => oc1_impl_isShare as | _ => .fail



theorem q_impl_ValidShares {P : Program} {g_f : FuncId} {g_impl_isShare : FuncId} (h_ : Is_impl_ValidShares P g_f g_impl_isShare) (a : Nat) (b : Nat) (c : Nat) (d : Nat) (ht : T.ok (fun x_ => x_ = .b (sharesM a b c d)) (
      T.ob (false = false)
        (T.ob ((VCall P) g_impl_isShare [AV.f FloatKind.f32 a] (AV.b (isShareM a)))
          (T.ite (isShareM a)
            (T.ob ((VCall P) g_impl_isShare [AV.f FloatKind.f32 b] (AV.b (isShareM b)))
              (T.ite (isShareM b)
                (T.ob ((VCall P) g_impl_isShare [AV.f FloatKind.f32 c] (AV.b (isShareM c)))
                  (T.ite (isShareM c) (T.ob ((VCall P) g_impl_isShare [AV.f FloatKind.f32 d] (AV.b (isShareM d))) (T.leaf (AV.b (isShareM d)))) (T.leaf (AV.b false))))
                (T.leaf (AV.b false))))
            (T.leaf (AV.b false)))))) :
    VCall P g_f [.agg (F4 a b c d)] (.b (sharesM a b c d)) := h_.call_of ps_impl_ValidShares ⟨oc_impl_ValidShares a b c d, fun _ _ => none⟩ (by kernel_rfl) ht

-- END impl_ValidShares

-- FN spec_l04Shares
/-- spec.l04Shares: slots 29, results [.t 2]; calls [7:g_spec_l02Share, 13:g_spec_l02Share, 20:g_spec_l02Share, 27:g_spec_l02Share]; names [(h, 0), (h, 1)] -/
def ps_spec_l04Shares : List Nat := [0, 2]
def b_spec_l04Shares (g_spec_l02Share : FuncId) : VCode :=
  (.seq
   (.region false [
    ⟨some 2, .mv, [.k (.b false)], none⟩])
   (.seq
    (.region false [
     ⟨some 3, .mv, [.t 0], none⟩,
     ⟨some 4, .nilck, [.t 3], none⟩,
     ⟨some 5, (.faddr 0), [.t 4], none⟩,
     ⟨some 6, .load, [.t 5], none⟩,
     ⟨some 7, (.call g_spec_l02Share), [.t 6], none⟩,
     ⟨some 8, .mv, [.t 7], none⟩,
     ⟨some 9, .mv, [.t 0], some (8, true)⟩,
     ⟨some 10, .nilck, [.t 9], some (8, true)⟩,
     ⟨some 11, (.faddr 1), [.t 10], some (8, true)⟩,
     ⟨some 12, .load, [.t 11], some (8, true)⟩,
     ⟨some 13, (.call g_spec_l02Share), [.t 12], some (8, true)⟩,
     ⟨some 14, .pick, [.t 8, .t 13, .k (.b false)], none⟩,
     ⟨some 15, .mv, [.t 14], none⟩,
     ⟨some 16, .mv, [.t 0], some (15, true)⟩,
     ⟨some 17, .nilck, [.t 16], some (15, true)⟩,
     ⟨some 18, (.faddr 2), [.t 17], some (15, true)⟩,
     ⟨some 19, .load, [.t 18], some (15, true)⟩,
     ⟨some 20, (.call g_spec_l02Share), [.t 19], some (15, true)⟩,
     ⟨some 21, .pick, [.t 15, .t 20, .k (.b false)], none⟩,
     ⟨some 22, .mv, [.t 21], none⟩,
     ⟨some 23, .mv, [.t 0], some (22, true)⟩,
     ⟨some 24, .nilck, [.t 23], some (22, true)⟩,
     ⟨some 25, (.faddr 3), [.t 24], some (22, true)⟩,
     ⟨some 26, .load, [.t 25], some (22, true)⟩,
     ⟨some 27, (.call g_spec_l02Share), [.t 26], some (22, true)⟩,
     ⟨some 28, .pick, [.t 22, .t 27, .k (.b false)], none⟩,
     ⟨some 2, .mv, [.t 28], none⟩])
    .ret))

abbrev Is_spec_l04Shares (P : Program) (g_f : FuncId) (g_spec_l02Share : FuncId) : Prop := FnIs P g_f 29 [.t 2] (b_spec_l04Shares g_spec_l02Share)

abbrev C_spec_l04Shares (P : Program) (g_f : FuncId) : Prop := ∀ (a : Nat) (b : Nat) (c : Nat) (d : Nat), VCall P g_f [.bx (.par [0]) (F4 a b c d)] (.b (sharesM a b c d))
def oc1_spec_l04Shares (as : List AV) : T AV := match as with | [.bx _ [.f _ a, .f _ b, .f _ c, .f _ d]] => .leaf (.b (sharesM a b c d)) | _ => .fail
def oc_spec_l04Shares (a : Nat) (b : Nat) (c : Nat) (d : Nat) (d : Nat) (as : List AV) : T AV := match d with | 7 => oc1_spec_l02Share as | 13 => oc1_spec_l02Share as | 20 => oc1_spec_l02Share as | 27 => oc1_spec_l02Share as | _ => .fail



theorem q_spec_l04Shares {P : Program} {g_f : FuncId} {g_spec_l02Share : FuncId} (h_ : Is_spec_l04Shares P g_f g_spec_l02Share) (a : Nat) (b : Nat) (c : Nat) (d : Nat) (ht : T.ok (fun x_ => x_ = .b (sharesM a b c d)) (
      T.ob ((VCall P) g_spec_l02Share [AV.f FloatKind.f32 a] (AV.b (isShareM a)))
        (T.ite (isShareM a)
          (T.ob ((VCall P) g_spec_l02Share [AV.f FloatKind.f32 b] (AV.b (isShareM b)))
            (T.ite (isShareM b)
              (T.ob ((VCall P) g_spec_l02Share [AV.f FloatKind.f32 c] (AV.b (isShareM c)))
                (T.ite (isShareM c) (T.ob ((VCall P) g_spec_l02Share [AV.f FloatKind.f32 d] (AV.b (isShareM d))) (T.leaf (AV.b (isShareM d)))) (T.leaf (AV.b false))))
              (T.leaf (AV.b false))))
          (T.leaf (AV.b false))))) :
    VCall P g_f [.bx (.par [0]) (F4 a b c d)] (.b (sharesM a b c d)) := h_.call_of ps_spec_l04Shares ⟨oc_spec_l04Shares a b c d, fun _ _ => none⟩ (by kernel_rfl) ht

-- END spec_l04Shares

-- FN laws_toShares
/-- laws.toShares: slots 17, results [.row 2 4]; calls []; names [(a, 0), (a, 1), (out, 3)] -/
def ps_laws_toShares : List Nat := [0, 1, 2, 3]
def b_laws_toShares : VCode :=
  (.seq
   (.region false [
    ⟨some 1, .boxN, [.t 0], none⟩,
    ⟨some 2, (.alloc [(.f .f32 0), (.f .f32 0), (.f .f32 0), (.f .f32 0)]), [], none⟩])
   (.seq
    (.region false [
     ⟨some 3, (.alloc [(.f .f32 0), (.f .f32 0), (.f .f32 0), (.f .f32 0)]), [], none⟩])
    (.seq
     (.region false [
      ⟨some 4, (.faddr 0), [.t 1], none⟩,
      ⟨some 5, .load, [.t 4], none⟩,
      ⟨some 6, (.faddr 0), [.t 3], none⟩,
      ⟨none, .store, [.t 6, .t 5], none⟩])
     (.seq
      (.region false [
       ⟨some 7, (.faddr 1), [.t 1], none⟩,
       ⟨some 8, .load, [.t 7], none⟩,
       ⟨some 9, (.faddr 1), [.t 3], none⟩,
       ⟨none, .store, [.t 9, .t 8], none⟩])
      (.seq
       (.region false [
        ⟨some 10, (.faddr 2), [.t 1], none⟩,
        ⟨some 11, .load, [.t 10], none⟩,
        ⟨some 12, (.faddr 2), [.t 3], none⟩,
        ⟨none, .store, [.t 12, .t 11], none⟩])
       (.seq
        (.region false [
         ⟨some 13, (.faddr 3), [.t 1], none⟩,
         ⟨some 14, .load, [.t 13], none⟩,
         ⟨some 15, (.faddr 3), [.t 3], none⟩,
         ⟨none, .store, [.t 15, .t 14], none⟩])
        (.seq
         (.region false [
          ⟨some 16, (.loadN 4), [.t 3], none⟩,
          ⟨none, (.storeN 4), [.t 2, .t 16], none⟩])
         .ret)))))))

abbrev Is_laws_toShares (P : Program) (g_f : FuncId) : Prop := FnIs P g_f 17 [.row 2 4] (b_laws_toShares)

abbrev C_laws_toShares (P : Program) (g_f : FuncId) : Prop := ∀ (a : Nat) (b : Nat) (c : Nat) (d : Nat), VCall P g_f [.agg (F4 a b c d)] (.agg (F4 a b c d))
def oc1_laws_toShares (as : List AV) : T AV := match as with | [.agg [.f _ a, .f _ b, .f _ c, .f _ d]] => .leaf (.agg (F4 a b c d)) | _ => .fail



theorem q_laws_toShares {P : Program} {g_f : FuncId} (h_ : Is_laws_toShares P g_f) (a : Nat) (b : Nat) (c : Nat) (d : Nat) (ht : T.ok (fun x_ => x_ = .agg (F4 a b c d)) (
      T.ob (false = false)
        (T.ob (false = false)
          (T.ob (false = false) (T.ob (false = false) (T.ob (false = false) (T.ob (false = false) (T.leaf (AV.agg [AV.f FloatKind.f32 a, AV.f FloatKind.f32 b, AV.f FloatKind.f32 c, AV.f FloatKind.f32 d]))))))))) :
    VCall P g_f [.agg (F4 a b c d)] (.agg (F4 a b c d)) := h_.call_of ps_laws_toShares ⟨fun _ _ => .fail, fun _ _ => none⟩ (by kernel_rfl) ht

-- END laws_toShares

-- FN impl_State__guess
/-- impl.State).guess: slots 20, results [.t 4]; calls []; names [(s, 0), (h, 1), (s, 2), (h, 3)] -/
def ps_impl_State__guess : List Nat := [0, 1, 2, 3, 4]
def b_impl_State__guess : VCode :=
  (.seq
   (.region false [
    ⟨some 2, .boxN, [.t 0], none⟩,
    ⟨some 3, .boxN, [.t 1], none⟩,
    ⟨some 4, .mv, [.k (.f .f32 0)], none⟩])
   (.seq
    (.region true [
     ⟨some 5, (.faddr 0), [.t 2], none⟩,
     ⟨some 6, .load, [.t 5], none⟩,
     ⟨some 7, (.faddr 3), [.t 3], none⟩,
     ⟨some 8, .load, [.t 7], none⟩,
     ⟨some 9, (.faddr 1), [.t 2], none⟩,
     ⟨some 10, .load, [.t 9], none⟩,
     ⟨some 11, (.bin .mul), [.t 8, .t 10], none⟩,
     ⟨some 12, (.bin .add), [.t 6, .t 11], none⟩,
     ⟨some 13, (.faddr 2), [.t 2], none⟩,
     ⟨some 14, .load, [.t 13], none⟩,
     ⟨some 15, (.faddr 3), [.t 2], none⟩,
     ⟨some 16, .load, [.t 15], none⟩,
     ⟨some 17, .iaddr, [.t 14, .t 16], none⟩,
     ⟨some 18, .load, [.t 17], none⟩,
     ⟨some 19, (.bin .add), [.t 12, .t 18], none⟩,
     ⟨some 4, .mv, [.t 19], none⟩])
    .ret))

abbrev Is_impl_State__guess (P : Program) (g_f : FuncId) : Prop := FnIs P g_f 20 [.t 4] (b_impl_State__guess)

abbrev C_impl_State__guess (P : Program) (g_f : FuncId) : Prop := ∀ (l : Nat) (s : Nat) (xs : List Nat) (t : Int) (a : Nat) (b : Nat) (c : Nat) (d : Nat) (ht : 0 ≤ t ∧ t < xs.length), VCall P g_f [.agg (ST (.par [0, 2]) l s xs t), .agg (F4 a b c d)] (.f .f32 (guessM l s xs t d))
def oc1_impl_State__guess (as : List AV) : T AV := match as with | [.agg [.f _ l, .f _ s, .sl _ _ (.f _ xs), .i _ t], .agg [.f _ a, .f _ b, .f _ c, .f _ d]] => .leaf (.f .f32 (guessM l s xs t d)) | _ => .fail



theorem q_impl_State__guess {P : Program} {g_f : FuncId} (h_ : Is_impl_State__guess P g_f) (l : Nat) (s : Nat) (xs : List Nat) (t : Int) (a : Nat) (b : Nat) (c : Nat) (d : Nat) (ht : T.ok (fun x_ => x_ = .f .f32 (guessM l s xs t d)) (
      T.ob (false = false) (T.ob (false = false) (T.ob (0 ≤ t ∧ t < (↑(List.length xs) : Int)) (T.leaf (AV.f FloatKind.f32 (fadd FloatKind.f32 (fadd FloatKind.f32 l (fmul FloatKind.f32 d s)) (List.getD xs (Int.toNat t) 0)))))))) :
    VCall P g_f [.agg (ST (.par [0, 2]) l s xs t), .agg (F4 a b c d)] (.f .f32 (guessM l s xs t d)) := h_.call_of ps_impl_State__guess ⟨fun _ _ => .fail, fun _ _ => none⟩ (by kernel_rfl) ht

-- END impl_State__guess

-- FN spec_l04Guess
/-- spec.l04Guess: slots 30, results [.t 4]; calls []; names [(s, 0), (h, 1), (s, 2), (h, 3)] -/
def ps_spec_l04Guess : List Nat := [0, 1, 4]
def b_spec_l04Guess : VCode :=
  (.seq
   (.region false [
    ⟨some 4, .mv, [.k (.f .f32 0)], none⟩])
   (.seq
    (.region true [
     ⟨some 5, .mv, [.t 0], none⟩,
     ⟨some 6, .nilck, [.t 5], none⟩,
     ⟨some 7, (.faddr 0), [.t 6], none⟩,
     ⟨some 8, .load, [.t 7], none⟩,
     ⟨some 9, .mv, [.t 1], none⟩,
     ⟨some 10, .nilck, [.t 9], none⟩,
     ⟨some 11, (.faddr 3), [.t 10], none⟩,
     ⟨some 12, .load, [.t 11], none⟩,
     ⟨some 13, .mv, [.t 0], none⟩,
     ⟨some 14, .nilck, [.t 13], none⟩,
     ⟨some 15, (.faddr 1), [.t 14], none⟩,
     ⟨some 16, .load, [.t 15], none⟩,
     ⟨some 17, (.bin .mul), [.t 12, .t 16], none⟩,
     ⟨some 18, (.bin .add), [.t 8, .t 17], none⟩,
     ⟨some 19, .mv, [.t 0], none⟩,
     ⟨some 20, .nilck, [.t 19], none⟩,
     ⟨some 21, (.faddr 2), [.t 20], none⟩,
     ⟨some 22, .load, [.t 21], none⟩,
     ⟨some 23, .mv, [.t 0], none⟩,
     ⟨some 24, .nilck, [.t 23], none⟩,
     ⟨some 25, (.faddr 3), [.t 24], none⟩,
     ⟨some 26, .load, [.t 25], none⟩,
     ⟨some 27, .iaddr, [.t 22, .t 26], none⟩,
     ⟨some 28, .load, [.t 27], none⟩,
     ⟨some 29, (.bin .add), [.t 18, .t 28], none⟩,
     ⟨some 4, .mv, [.t 29], none⟩])
    .ret))

abbrev Is_spec_l04Guess (P : Program) (g_f : FuncId) : Prop := FnIs P g_f 30 [.t 4] (b_spec_l04Guess)

abbrev C_spec_l04Guess (P : Program) (g_f : FuncId) : Prop := ∀ (l : Nat) (s : Nat) (xs : List Nat) (t : Int) (a : Nat) (b : Nat) (c : Nat) (d : Nat) (ht : 0 ≤ t ∧ t < xs.length), VCall P g_f [.bx (.par [0]) (ST (.par [0, 2]) l s xs t), .bx (.par [1]) (F4 a b c d)] (.f .f32 (guessM l s xs t d))
def oc1_spec_l04Guess (as : List AV) : T AV := match as with | [.bx _ [.f _ l, .f _ s, .sl _ _ (.f _ xs), .i _ t], .bx _ [.f _ a, .f _ b, .f _ c, .f _ d]] => .leaf (.f .f32 (guessM l s xs t d)) | _ => .fail



theorem q_spec_l04Guess {P : Program} {g_f : FuncId} (h_ : Is_spec_l04Guess P g_f) (l : Nat) (s : Nat) (xs : List Nat) (t : Int) (a : Nat) (b : Nat) (c : Nat) (d : Nat) (ht : T.ok (fun x_ => x_ = .f .f32 (guessM l s xs t d)) (
      T.ob (0 ≤ t ∧ t < (↑(List.length xs) : Int)) (T.leaf (AV.f FloatKind.f32 (fadd FloatKind.f32 (fadd FloatKind.f32 l (fmul FloatKind.f32 d s)) (List.getD xs (Int.toNat t) 0)))))) :
    VCall P g_f [.bx (.par [0]) (ST (.par [0, 2]) l s xs t), .bx (.par [1]) (F4 a b c d)] (.f .f32 (guessM l s xs t d)) := h_.call_of ps_spec_l04Guess ⟨fun _ _ => .fail, fun _ _ => none⟩ (by kernel_rfl) ht

-- END spec_l04Guess

-- FN spec_l04Can
/-- spec.l04Can: slots 11, results [.t 4]; calls [6:g_spec_l04Is, 9:g_spec_l04Shares]; names [(s, 0), (h, 1), (s, 2), (h, 3)] -/
def ps_spec_l04Can : List Nat := [0, 1, 4]
def b_spec_l04Can (g_spec_l04Is g_spec_l04Shares : FuncId) : VCode :=
  (.seq
   (.region false [
    ⟨some 4, .mv, [.k (.b false)], none⟩])
   (.seq
    (.region false [
     ⟨some 5, .mv, [.t 0], none⟩,
     ⟨some 6, (.call g_spec_l04Is), [.t 5], none⟩,
     ⟨some 7, .mv, [.t 6], none⟩,
     ⟨some 8, .mv, [.t 1], some (7, true)⟩,
     ⟨some 9, (.call g_spec_l04Shares), [.t 8], some (7, true)⟩,
     ⟨some 10, .pick, [.t 7, .t 9, .k (.b false)], none⟩,
     ⟨some 4, .mv, [.t 10], none⟩])
    .ret))

abbrev Is_spec_l04Can (P : Program) (g_f : FuncId) (g_spec_l04Is g_spec_l04Shares : FuncId) : Prop := FnIs P g_f 11 [.t 4] (b_spec_l04Can g_spec_l04Is g_spec_l04Shares)

abbrev C_spec_l04Can (P : Program) (g_f : FuncId) : Prop := ∀ (l : Nat) (s : Nat) (xs : List Nat) (t : Int) (a : Nat) (b : Nat) (c : Nat) (d : Nat) (hx : xs.length ≤ maxLen), VCall P g_f [.bx (.par [0]) (ST (.par [0, 2]) l s xs t), .bx (.par [1]) (F4 a b c d)] (.b (validStateM l s xs t && sharesM a b c d))
def oc1_spec_l04Can (as : List AV) : T AV := match as with | [.bx _ [.f _ l, .f _ s, .sl _ _ (.f _ xs), .i _ t], .bx _ [.f _ a, .f _ b, .f _ c, .f _ d]] => .leaf (.b (validStateM l s xs t && sharesM a b c d)) | _ => .fail
def oc_spec_l04Can (l : Nat) (s : Nat) (xs : List Nat) (t : Int) (a : Nat) (b : Nat) (c : Nat) (d : Nat) (d : Nat) (as : List AV) : T AV := match d with | 6 => oc1_spec_l04Is as | 9 => oc1_spec_l04Shares as | _ => .fail



theorem q_spec_l04Can {P : Program} {g_f : FuncId} {g_spec_l04Is g_spec_l04Shares : FuncId} (h_ : Is_spec_l04Can P g_f g_spec_l04Is g_spec_l04Shares) (l : Nat) (s : Nat) (xs : List Nat) (t : Int) (a : Nat) (b : Nat) (c : Nat) (d : Nat) (ht : T.ok (fun x_ => x_ = .b (validStateM l s xs t && sharesM a b c d)) (
      T.ob ((VCall P) g_spec_l04Is [AV.bx (Tag.par [0]) [AV.f FloatKind.f32 l, AV.f FloatKind.f32 s, AV.sl (Tag.par [0, 2]) 0 (Cont.f FloatKind.f32 xs), AV.i IntKind.i64 t]] (AV.b (validStateM l s xs t)))
        (T.ite (validStateM l s xs t)
          (T.ob ((VCall P) g_spec_l04Shares [AV.bx (Tag.par [0]) [AV.f FloatKind.f32 a, AV.f FloatKind.f32 b, AV.f FloatKind.f32 c, AV.f FloatKind.f32 d]] (AV.b (sharesM a b c d))) (T.leaf (AV.b (sharesM a b c d))))
          (T.leaf (AV.b false))))) :
    VCall P g_f [.bx (.par [0]) (ST (.par [0, 2]) l s xs t), .bx (.par [1]) (F4 a b c d)] (.b (validStateM l s xs t && sharesM a b c d)) := h_.call_of ps_spec_l04Can ⟨oc_spec_l04Can l s xs t a b c d, fun _ _ => none⟩ (by kernel_rfl) ht

-- END spec_l04Can



theorem k_impl_ValidShares {P : Program} {f g_impl_isShare : FuncId} (h : Is_impl_ValidShares P f g_impl_isShare) (c1 : C_impl_isShare P g_impl_isShare) : C_impl_ValidShares P f := by
  intro a b c d
  refine q_impl_ValidShares h a b c d ?_
  repeat' (first | with_reducible refine T.ok_ob ?_ (fun _ => ?_) | with_reducible refine T.ok_ite (fun _ => ?_) (fun _ => ?_) | with_reducible refine T.ok_leaf ?_)
  all_goals first | with_reducible rfl | with_reducible assumption | with_reducible exact c1 _ | contradiction | exact fconvOk_32_64 _ | assumption | exact rfl | (simp_all [sharesM]; done) | (simp_all [T.ok, sharesM]; omega)

theorem k_spec_l04Shares {P : Program} {f g_spec_l02Share : FuncId} (h : Is_spec_l04Shares P f g_spec_l02Share) (c1 : C_spec_l02Share P g_spec_l02Share) : C_spec_l04Shares P f := by
  intro a b c d
  refine q_spec_l04Shares h a b c d ?_
  repeat' (first | with_reducible refine T.ok_ob ?_ (fun _ => ?_) | with_reducible refine T.ok_ite (fun _ => ?_) (fun _ => ?_) | with_reducible refine T.ok_leaf ?_)
  all_goals first | with_reducible rfl | with_reducible assumption | with_reducible exact c1 _ | contradiction | exact fconvOk_32_64 _ | assumption | exact rfl | (simp_all [sharesM]; done) | (simp_all [T.ok, sharesM]; omega)

theorem k_laws_toShares {P : Program} {f : FuncId} (h : Is_laws_toShares P f) : C_laws_toShares P f := by
  intro a b c d
  refine q_laws_toShares h a b c d ?_
  repeat' (first | with_reducible refine T.ok_ob ?_ (fun _ => ?_) | with_reducible refine T.ok_ite (fun _ => ?_) (fun _ => ?_) | with_reducible refine T.ok_leaf ?_)
  all_goals first | with_reducible rfl | with_reducible assumption | contradiction | exact fconvOk_32_64 _ | assumption | exact rfl | (simp_all []; done) | (simp_all [T.ok]; omega)

theorem k_impl_State__guess {P : Program} {f : FuncId} (h : Is_impl_State__guess P f) : C_impl_State__guess P f := by
  intro l s xs t a b c d ht
  refine q_impl_State__guess h l s xs t a b c d ?_
  repeat' (first | with_reducible refine T.ok_ob ?_ (fun _ => ?_) | with_reducible refine T.ok_ite (fun _ => ?_) (fun _ => ?_) | with_reducible refine T.ok_leaf ?_)
  all_goals first | with_reducible rfl | with_reducible assumption | contradiction | exact fconvOk_32_64 _ | assumption | exact rfl | (simp_all []; done) | (simp_all [T.ok]; omega)

theorem k_spec_l04Guess {P : Program} {f : FuncId} (h : Is_spec_l04Guess P f) : C_spec_l04Guess P f := by
  intro l s xs t a b c d ht
  refine q_spec_l04Guess h l s xs t a b c d ?_
  repeat' (first | with_reducible refine T.ok_ob ?_ (fun _ => ?_) | with_reducible refine T.ok_ite (fun _ => ?_) (fun _ => ?_) | with_reducible refine T.ok_leaf ?_)
  all_goals first | with_reducible rfl | with_reducible assumption | contradiction | exact fconvOk_32_64 _ | assumption | exact rfl | (simp_all []; done) | (simp_all [T.ok]; omega)

theorem k_spec_l04Can {P : Program} {f g_spec_l04Is g_spec_l04Shares : FuncId} (h : Is_spec_l04Can P f g_spec_l04Is g_spec_l04Shares) (c1 : C_spec_l04Is P g_spec_l04Is) (c2 : C_spec_l04Shares P g_spec_l04Shares) : C_spec_l04Can P f := by
  intro l s xs t a b c d hx
  refine q_spec_l04Can h l s xs t a b c d ?_
  repeat' (first | with_reducible refine T.ok_ob ?_ (fun _ => ?_) | with_reducible refine T.ok_ite (fun _ => ?_) (fun _ => ?_) | with_reducible refine T.ok_leaf ?_)
  all_goals first | with_reducible rfl | with_reducible assumption | ((with_reducible refine c1 _ _ _ _ ?_) <;> (first | assumption | omega | with_reducible rfl | (simp [maxLen_eq]; done) | (simp [maxLen_eq]; omega))) | with_reducible exact c2 _ _ _ _ | contradiction | exact fconvOk_32_64 _ | assumption | exact rfl | (simp_all []; done) | (simp_all [T.ok]; omega)

theorem valid_at {l s : Nat} {xs : List Nat} {t : Int} (h : validStateM l s xs t = true) : 0 ≤ t ∧ t < xs.length ∧ 1 ≤ xs.length ∧ xs.length ≤ 24 := by
  simp [validStateM, inM] at h; omega
end Go.Proofs.LV
