/- Texts that belong together. -/
import Derived.Test.YtjfgmnfkkehgfaaLvFnCX
namespace Go.Proofs.LV
open Go
set_option linter.unusedVariables false
set_option linter.unusedSimpArgs false

section
variable (K : Nat → Int)

/-- the numbers from a up to b are in order -/
def SR (l : List Nat) (a b : Nat) : Prop := ∀ i j, a ≤ i → i < j → j < b → K (l.getD i 0) ≤ K (l.getD j 0)
/-- the same numbers, equals in the same order -/
def same (l l' : List Nat) : Prop := ∀ k : Int, l'.filter (fun x => decide (K x = k)) = l.filter (fun x => decide (K x = k))
structure Rel (a b : Nat) (l l' : List Nat) : Prop where
  len : l'.length = l.length
  out : ∀ i, i < a ∨ b ≤ i → l'.getD i 0 = l.getD i 0
  all : ∀ p : Nat → Prop, (∀ i, a ≤ i → i < b → p (l.getD i 0)) → ∀ i, a ≤ i → i < b → p (l'.getD i 0)
  cls : same K l l'
variable {K}
theorem Rel.refl (a b : Nat) (l : List Nat) : Rel K a b l l := ⟨rfl, fun _ _ => rfl, fun _ h => h, fun _ => rfl⟩
theorem Rel.trans {a b : Nat} {l m n : List Nat} (h1 : Rel K a b l m) (h2 : Rel K a b m n) : Rel K a b l n :=
  ⟨h2.len.trans h1.len, fun i hi => (h2.out i hi).trans (h1.out i hi), fun p hp => h2.all p (h1.all p hp), fun k => (h2.cls k).trans (h1.cls k)⟩
theorem Rel.widen {a b a' b' : Nat} {l m : List Nat} (h : Rel K a b l m) (h1 : a' ≤ a) (h2 : b ≤ b') : Rel K a' b' l m := by
  refine ⟨h.len, fun i hi => h.out i (by omega), fun p hp i h3 h4 => ?_, h.cls⟩
  by_cases hi : a ≤ i ∧ i < b
  · exact h.all p (fun j h5 h6 => hp j (by omega) (by omega)) i hi.1 hi.2
  · rw [h.out i (by omega)]; exact hp i h3 h4

theorem ext_getD {l m : List Nat} (hl : l.length = m.length) (h : ∀ i, i < l.length → l.getD i 0 = m.getD i 0) : l = m := by
  refine List.ext_getElem? fun i => ?_
  by_cases hi : i < l.length
  · have := h i hi
    simp only [List.getD, List.getElem?_eq_getElem hi, List.getElem?_eq_getElem (hl ▸ hi : i < m.length), Option.getD_some] at this ⊢
    rw [this]
  · rw [List.getElem?_eq_none (by omega), List.getElem?_eq_none (by omega)]
theorem getD_mem {l : List Nat} {i : Nat} (h : i < l.length) : l.getD i 0 ∈ l := by
  rw [List.getD_eq_getElem?_getD, List.getElem?_eq_getElem h]; exact List.getElem_mem h
theorem mem_getD {l : List Nat} {x : Nat} (h : x ∈ l) : ∃ i, i < l.length ∧ l.getD i 0 = x := by
  obtain ⟨i, hi, rfl⟩ := List.getElem_of_mem h
  exact ⟨i, hi, by rw [List.getD_eq_getElem?_getD, List.getElem?_eq_getElem hi]; rfl⟩
theorem getD_takeR (l : List Nat) (b i : Nat) (h : i < b) : (l.take b).getD i 0 = l.getD i 0 := by
  simp only [List.getD_eq_getElem?_getD, List.getElem?_take, h, if_true]
/-- the numbers from a up to b -/
def part (l : List Nat) (a b : Nat) : List Nat := (l.take b).drop a
theorem part_len (l : List Nat) (a b : Nat) (h : b ≤ l.length) : (part l a b).length = b - a := by simp [part]; omega
theorem part_get (l : List Nat) (a b i : Nat) (h : a + i < b) : (part l a b).getD i 0 = l.getD (a + i) 0 := by
  unfold part
  rw [getD_drop', getD_takeR _ _ _ h]
theorem split3 (l : List Nat) (a b : Nat) (h1 : a ≤ b) (h2 : b ≤ l.length) : l = l.take a ++ (part l a b ++ l.drop b) := by
  unfold part
  conv => lhs; rw [← List.take_append_drop b l]
  rw [← List.append_assoc]
  congr 1
  conv => lhs; rw [← List.take_append_drop a (l.take b)]
  rw [List.take_take, Nat.min_eq_left h1]

/-! ### in order, equals kept: there is one such list -/
theorem same_mem {l m : List Nat} (h : same K l m) {x : Nat} : x ∈ m ↔ x ∈ l := by
  have := h (K x)
  constructor
  · intro hx
    have : x ∈ m.filter (fun y => decide (K y = K x)) := by simp [hx]
    rw [h (K x)] at this
    exact (List.mem_filter.1 this).1
  · intro hx
    have : x ∈ l.filter (fun y => decide (K y = K x)) := by simp [hx]
    rw [← h (K x)] at this
    exact (List.mem_filter.1 this).1
theorem sort_unique : ∀ {l m : List Nat}, l.Pairwise (fun x y => K x ≤ K y) → m.Pairwise (fun x y => K x ≤ K y) → same K l m → l = m
  | [], m, _, _, hs => by
    cases m with
    | nil => rfl
    | cons y m => have := (same_mem hs (x := y)).1 (by simp); cases this
  | x :: l, [], _, _, hs => by have := (same_mem hs (x := x)).2 (by simp); cases this
  | x :: l, y :: m, h1, h2, hs => by
    obtain ⟨h1a, h1b⟩ := List.pairwise_cons.1 h1
    obtain ⟨h2a, h2b⟩ := List.pairwise_cons.1 h2
    have hxy : K x = K y := by
      have a1 : K x ≤ K y := by
        rcases List.mem_cons.1 ((same_mem hs (x := y)).1 (by simp)) with h | h
        · rw [h]; exact Int.le_refl _
        · exact h1a y h
      have a2 : K y ≤ K x := by
        rcases List.mem_cons.1 ((same_mem hs (x := x)).2 (by simp)) with h | h
        · rw [h]; exact Int.le_refl _
        · exact h2a x h
      omega
    have he : x = y := by
      have := hs (K x)
      rw [List.filter_cons, List.filter_cons] at this
      simp [hxy] at this
      exact this.1.symm
    subst he
    congr 1
    refine sort_unique h1b h2b fun k => ?_
    have := hs k
    rw [List.filter_cons, List.filter_cons] at this
    split at this
    · exact List.cons.inj this |>.2
    · exact this
variable (K)
def sortM : List Nat → List Nat
  | [] => []
  | x :: r => let s := sortM r; insFirst x s
where
  /-- x goes ahead of all that are not less -/
  insFirst (x : Nat) : List Nat → List Nat
  | [] => [x]
  | y :: r => if K y < K x then y :: insFirst x r else x :: y :: r
variable {K}
theorem insFirst_same (x : Nat) : ∀ l : List Nat, same K (x :: l) (sortM.insFirst K x l)
  | [] => fun _ => rfl
  | y :: r => by
    unfold sortM.insFirst
    split
    · rename_i h
      intro k
      have ih := insFirst_same x r k
      rw [List.filter_cons, ih, List.filter_cons, List.filter_cons, List.filter_cons]
      by_cases h1 : K x = k <;> by_cases h2 : K y = k <;> simp [h1, h2] <;> omega
    · exact fun _ => rfl
theorem insFirst_mem {x z : Nat} {l : List Nat} (h : z ∈ sortM.insFirst K x l) : z = x ∨ z ∈ l := by
  have := (same_mem (insFirst_same (K := K) x l)).1 h
  simpa using this
theorem insFirst_sorted (x : Nat) : ∀ l : List Nat, l.Pairwise (fun x y => K x ≤ K y) → (sortM.insFirst K x l).Pairwise (fun x y => K x ≤ K y)
  | [], _ => by simp [sortM.insFirst]
  | y :: r, h => by
    obtain ⟨ha, hb⟩ := List.pairwise_cons.1 h
    unfold sortM.insFirst
    split
    · rename_i hlt
      refine List.pairwise_cons.2 ⟨fun z hz => ?_, insFirst_sorted x r hb⟩
      rcases insFirst_mem hz with rfl | hz
      · omega
      · exact ha z hz
    · rename_i hlt
      refine List.pairwise_cons.2 ⟨fun z hz => ?_, h⟩
      rcases List.mem_cons.1 hz with rfl | hz
      · omega
      · have := ha z hz; omega
theorem sortM_same : ∀ l : List Nat, same K l (sortM K l)
  | [] => fun _ => rfl
  | x :: r => by
    intro k
    have h1 := insFirst_same (K := K) x (sortM K r) k
    have h2 := sortM_same r k
    show (sortM.insFirst K x (sortM K r)).filter _ = _
    rw [h1, List.filter_cons, List.filter_cons, h2]
theorem sortM_sorted : ∀ l : List Nat, (sortM K l).Pairwise (fun x y => K x ≤ K y)
  | [] => .nil
  | x :: r => insFirst_sorted x _ (sortM_sorted r)
theorem same_len {l m : List Nat} (h : same K l m) : m.length = l.length := by
  have key : ∀ n : Nat, ∀ l m : List Nat, l.length ≤ n → same K l m → m.length = l.length := by
    intro n
    induction n with
    | zero =>
      intro l m hn h
      have : l = [] := List.length_eq_zero_iff.1 (by omega)
      subst this
      cases m with
      | nil => rfl
      | cons y m => have := (same_mem h (x := y)).1 (by simp); cases this
    | succ n ih =>
      intro l m hn h
      cases l with
      | nil =>
        cases m with
        | nil => rfl
        | cons y m => have := (same_mem h (x := y)).1 (by simp); cases this
      | cons x l =>
        -- all of x's class go
        have e : ∀ q : List Nat, q.length = (q.filter (fun y => decide (K y = K x))).length + (q.filter (fun y => !decide (K y = K x))).length := by
          intro q
          induction q with
          | nil => rfl
          | cons y q ihq => rw [List.filter_cons, List.filter_cons]; by_cases hy : K y = K x <;> simp [hy] <;> omega
        have h1 := ih ((x :: l).filter (fun y => !decide (K y = K x))) (m.filter (fun y => !decide (K y = K x))) (by
            have hx : ((x :: l).filter (fun y => !decide (K y = K x))) = l.filter (fun y => !decide (K y = K x)) := by rw [List.filter_cons]; simp
            rw [hx]
            have := List.length_filter_le (fun y => !decide (K y = K x)) l
            simp at hn
            omega) (by
            intro k
            rw [List.filter_filter, List.filter_filter]
            have hk := h k
            have aux : ∀ q : List Nat, q.filter (fun a => decide (K a = k) && !decide (K a = K x)) = if k = K x then [] else q.filter (fun a => decide (K a = k)) := by
              intro q
              split
              · rename_i hk; subst hk
                refine List.filter_eq_nil_iff.2 fun a _ => by simp
              · rename_i hk
                refine List.filter_congr fun a _ => ?_
                by_cases ha : K a = k <;> simp [ha, hk]
            rw [aux, aux, hk])
        rw [e m, e (x :: l), h (K x), h1]
  exact key l.length l m (Nat.le_refl _) h

/-- the numbers from a up to b put in order -/
def srt (K : Nat → Int) (l : List Nat) (a b : Nat) : List Nat := l.take a ++ (sortM K (part l a b) ++ l.drop b)
theorem SR_pairwise {l : List Nat} {a b : Nat} (hb : b ≤ l.length) : SR K l a b ↔ (part l a b).Pairwise (fun x y => K x ≤ K y) := by
  rw [List.pairwise_iff_getElem]
  have hl := part_len l a b hb
  constructor
  · intro h i j hi hj hij
    have := h (a + i) (a + j) (by omega) (by omega) (by omega)
    rw [← part_get l a b i (by omega), ← part_get l a b j (by omega)] at this
    simpa [List.getD_eq_getElem?_getD, List.getElem?_eq_getElem hi, List.getElem?_eq_getElem hj] using this
  · intro h i j hi hij hj
    have := h (i - a) (j - a) (by omega) (by omega) (by omega)
    have e1 := part_get l a b (i - a) (by omega)
    have e2 := part_get l a b (j - a) (by omega)
    rw [show a + (i - a) = i by omega] at e1
    rw [show a + (j - a) = j by omega] at e2
    rw [← e1, ← e2]
    simpa [List.getD_eq_getElem?_getD, List.getElem?_eq_getElem (show i - a < (part l a b).length by omega), List.getElem?_eq_getElem (show j - a < (part l a b).length by omega)] using this
theorem same_append {l l' m m' : List Nat} (h1 : same K l l') (h2 : same K m m') : same K (l ++ m) (l' ++ m') := by
  intro k; rw [List.filter_append, List.filter_append, h1 k, h2 k]
theorem srt_unique {l m : List Nat} {a b : Nat} (hab : a ≤ b) (hb : b ≤ l.length) (h : Rel K a b l m) (hs : SR K m a b) : m = srt K l a b := by
  have hbm : b ≤ m.length := by rw [h.len]; exact hb
  have e1 : m.take a = l.take a := by
    refine ext_getD (by simp [h.len]) fun i hi => ?_
    have hi' : i < a := by simp at hi; omega
    rw [getD_takeR _ _ _ hi', getD_takeR _ _ _ hi']
    exact h.out i (.inl hi')
  have e2 : m.drop b = l.drop b := by
    refine ext_getD (by simp [h.len]) fun i hi => ?_
    rw [getD_drop', getD_drop']
    exact h.out _ (.inr (by omega))
  have hp : same K (part l a b) (part m a b) := by
    intro k
    have := h.cls k
    rw [split3 m a b hab hbm, split3 l a b hab hb, e1, e2] at this
    simp only [List.filter_append] at this
    have := List.append_cancel_left this
    exact List.append_cancel_right this
  have : part m a b = sortM K (part l a b) := by
    refine sort_unique ((SR_pairwise hbm).1 hs) (sortM_sorted _) fun k => ?_
    rw [sortM_same, hp k]
  rw [split3 m a b hab hbm, e1, e2, this]; rfl
theorem srt_rel {l : List Nat} {a b : Nat} (hab : a ≤ b) (hb : b ≤ l.length) : Rel K a b l (srt K l a b) ∧ SR K (srt K l a b) a b := by
  have hl : (sortM K (part l a b)).length = b - a := by rw [same_len (sortM_same _), part_len _ _ _ hb]
  have hlen : (srt K l a b).length = l.length := by simp [srt, hl]; omega
  have hta : (l.take a).length = a := by simp; omega
  have hg : ∀ i, a ≤ i → i < b → (srt K l a b).getD i 0 = (sortM K (part l a b)).getD (i - a) 0 := by
    intro i h1 h2
    simp only [srt, List.getD_eq_getElem?_getD]
    rw [List.getElem?_append_right (by omega), List.getElem?_append_left (by omega), hta]
  have hpart : part (srt K l a b) a b = sortM K (part l a b) := by
    refine ext_getD (by rw [part_len _ _ _ (by omega), hl]) fun i hi => ?_
    rw [part_len _ _ _ (by omega)] at hi
    rw [part_get _ _ _ _ (by omega), hg _ (by omega) (by omega), Nat.add_sub_cancel_left]
  refine ⟨⟨hlen, fun i hi => ?_, fun p hp i h1 h2 => ?_, ?_⟩, ?_⟩
  · rcases hi with hi | hi
    · simp only [srt, List.getD_eq_getElem?_getD]
      rw [List.getElem?_append_left (by omega), List.getElem?_take, if_pos hi]
    · simp only [srt, List.getD_eq_getElem?_getD]
      rw [List.getElem?_append_right (by omega), List.getElem?_append_right (by omega), List.getElem?_drop, hta, hl]
      congr 2; omega
  · rw [hg i h1 h2]
    have hm : (sortM K (part l a b)).getD (i - a) 0 ∈ part l a b := (same_mem (sortM_same _)).1 (getD_mem (by omega))
    obtain ⟨j, hj, hje⟩ := mem_getD hm
    rw [part_len _ _ _ hb] at hj
    rw [← hje, part_get _ _ _ _ (by omega)]
    exact hp _ (by omega) (by omega)
  · conv => arg 2; rw [split3 l a b hab hb]
    exact same_append (fun _ => rfl) (same_append (sortM_same _) (fun _ => rfl))
  · rw [SR_pairwise (by omega), hpart]; exact sortM_sorted _
theorem srt_len (l : List Nat) (a b : Nat) (hab : a ≤ b) (hb : b ≤ l.length) : (srt K l a b).length = l.length := (srt_rel (K := K) hab hb).1.len
theorem srt_all (l : List Nat) : srt K l 0 l.length = sortM K l := by simp [srt, part]
theorem srt_nop {l : List Nat} {a b : Nat} (hab : a ≤ b) (hb : b ≤ l.length) (h : SR K l a b) : srt K l a b = l := (srt_unique hab hb (Rel.refl a b l) h).symm
theorem srt_small (l : List Nat) (a b : Nat) (h1 : a ≤ b) (h2 : b ≤ a + 1) (hb : b ≤ l.length) : srt K l a b = l := srt_nop h1 hb fun i j h3 h4 h5 => by omega
end
end Go.Proofs.LV

namespace Go.Proofs.LV
open Go
set_option linter.unusedVariables false
set_option linter.unusedSimpArgs false

def swp (l : List Nat) (i j : Nat) : List Nat := (l.set i (l.getD j 0)).set j (l.getD i 0)
theorem set_getD (l : List Nat) (i k x : Nat) (h : i < l.length) : (l.set i x).getD k 0 = if k = i then x else l.getD k 0 := by
  simp only [List.getD_eq_getElem?_getD, List.getElem?_set]
  by_cases hk : k = i
  · subst hk; simp [h]
  · rw [if_neg (fun e => hk e.symm), if_neg hk]
theorem swp_len (l : List Nat) (i j : Nat) : (swp l i j).length = l.length := by simp [swp]
theorem swp_get (l : List Nat) (i j k : Nat) (hi : i < l.length) (hj : j < l.length) : (swp l i j).getD k 0 = if k = j then l.getD i 0 else if k = i then l.getD j 0 else l.getD k 0 := by
  unfold swp
  rw [set_getD _ _ _ _ (by simpa using hj), set_getD _ _ _ _ hi]
theorem getD_out (l : List Nat) (k : Nat) (h : l.length ≤ k) : l.getD k 0 = 0 := by
  rw [List.getD_eq_getElem?_getD, List.getElem?_eq_none h]; rfl
theorem tabG (n : Nat) (f : Nat → Nat) (k : Nat) : (tab n f).getD k 0 = if k < n then f k else 0 := by
  by_cases h : k < n
  · rw [if_pos h]; exact tab_get _ _ _ _ h
  · rw [if_neg h, getD_out _ _ (by rw [tab_len]; omega)]

section
variable {K : Nat → Int}
theorem swp_rel {l : List Nat} {a b j : Nat} (h1 : a ≤ j) (h2 : j + 1 < b) (h3 : j + 1 < l.length) (hk : K (l.getD (j + 1) 0) ≠ K (l.getD j 0)) : Rel K a b l (swp l (j + 1) j) := by
  have hg := fun k => swp_get l (j + 1) j k h3 (by omega)
  refine ⟨swp_len _ _ _, fun i hi => ?_, fun p hp i h4 h5 => ?_, ?_⟩
  · rw [hg, if_neg (by omega), if_neg (by omega)]
  · rw [hg]
    split
    · exact hp _ (by omega) h2
    · split
      · exact hp _ h1 (by omega)
      · exact hp i h4 h5
  · have e1 : l = l.take j ++ (l.getD j 0 :: l.getD (j + 1) 0 :: l.drop (j + 2)) := by
      conv => lhs; rw [← List.take_append_drop j l]
      congr 1
      rw [List.drop_eq_getElem_cons (by omega), List.drop_eq_getElem_cons (show j + 1 < l.length by omega)]
      simp [List.getD_eq_getElem?_getD, List.getElem?_eq_getElem (show j < l.length by omega), List.getElem?_eq_getElem h3]
    have e2 : swp l (j + 1) j = l.take j ++ (l.getD (j + 1) 0 :: l.getD j 0 :: l.drop (j + 2)) := by
      have lt : (l.take j).length = j := by simp; omega
      refine ext_getD (by rw [swp_len]; simp; omega) fun i hi => ?_
      rw [swp_len] at hi
      rw [hg]
      simp only [List.getD_eq_getElem?_getD]
      by_cases c1 : i < j
      · rw [if_neg (by omega), if_neg (by omega), List.getElem?_append_left (by omega), List.getElem?_take, if_pos c1]
      · rw [List.getElem?_append_right (by omega), lt]
        by_cases c2 : i = j
        · subst c2; simp
        · by_cases c3 : i = j + 1
          · subst c3; simp
          · rw [if_neg c2, if_neg c3]
            obtain ⟨d, rfl⟩ : ∃ d, i = j + (d + 2) := ⟨i - j - 2, by omega⟩
            rw [show j + (d + 2) - j = d + 2 by omega]
            simp only [List.getElem?_cons_succ, List.getElem?_drop]
            rw [show j + 2 + d = j + (d + 2) by omega]
    intro k
    rw [e2]
    conv => rhs; rw [e1]
    simp only [List.filter_append, List.filter_cons]
    congr 1
    generalize l.getD (j + 1) 0 = x at hk ⊢
    generalize l.getD j 0 = y at hk ⊢
    by_cases c1 : K y = k
    · have c2 : ¬ K x = k := by omega
      simp [c1, c2]
    · simp [c1]
theorem srt_of {l m : List Nat} {a b : Nat} (hab : a ≤ b) (hb : b ≤ l.length) (h : Rel K a b l m) : srt K m a b = srt K l a b := by
  have hm : b ≤ m.length := by rw [h.len]; exact hb
  obtain ⟨h1, h2⟩ := srt_rel (K := K) (l := m) hab hm
  exact srt_unique hab hb (h.trans h1) h2
variable (K)
/-- from place j on, down to place a, as long as it is less -/
def sink (a : Nat) : Nat → List Nat → List Nat
  | 0, l => l
  | j + 1, l => if a < j + 1 ∧ K (l.getD (j + 1) 0) < K (l.getD j 0) then sink a j (swp l (j + 1) j) else l
variable {K}
theorem sink_ok (a i : Nat) : ∀ (j : Nat) (l : List Nat), a ≤ j → j ≤ i → i < l.length →
    (∀ x y, a ≤ x → x < y → y ≤ i → x ≠ j → y ≠ j → K (l.getD x 0) ≤ K (l.getD y 0)) → (∀ y, j < y → y ≤ i → K (l.getD j 0) ≤ K (l.getD y 0)) →
    Rel K a (i + 1) l (sink K a j l) ∧ SR K (sink K a j l) a (i + 1)
  | 0, l, h1, h2, h3, h4, h5 => by
    refine ⟨Rel.refl _ _ _, fun x y hx hxy hy => ?_⟩
    show K (l.getD x 0) ≤ K (l.getD y 0)
    by_cases hx0 : x = 0
    · subst hx0; exact h5 y hxy (by omega)
    · exact h4 x y hx hxy (by omega) hx0 (by omega)
  | j + 1, l, h1, h2, h3, h4, h5 => by
    unfold sink
    split
    · rename_i hc
      have hr : Rel K a (i + 1) l (swp l (j + 1) j) := swp_rel (by omega) (by omega) (by omega) (by omega)
      have hg := fun k => swp_get l (j + 1) j k (by omega) (by omega)
      obtain ⟨r1, r2⟩ := sink_ok a i j (swp l (j + 1) j) (by omega) (by omega) (by rw [swp_len]; exact h3)
        (fun x y hx hxy hy n1 n2 => by
          rw [hg, hg, if_neg n1, if_neg n2]
          by_cases c1 : x = j + 1
          · subst c1
            rw [if_pos rfl, if_neg (by omega)]
            exact h4 j y (by omega) (by omega) hy (by omega) (by omega)
          · rw [if_neg c1]
            by_cases c2 : y = j + 1
            · subst c2
              rw [if_pos rfl]
              exact h4 x j hx (by omega) (by omega) c1 (by omega)
            · rw [if_neg c2]
              exact h4 x y hx hxy hy c1 c2)
        (fun y hy1 hy2 => by
          rw [hg, hg, if_pos rfl, if_neg (by omega)]
          by_cases c2 : y = j + 1
          · subst c2; rw [if_pos rfl]; omega
          · rw [if_neg c2]; exact h5 y (by omega) hy2)
      exact ⟨hr.trans r1, r2⟩
    · rename_i hc
      refine ⟨Rel.refl _ _ _, fun x y hx hxy hy => ?_⟩
      by_cases c1 : x = j + 1
      · subst c1; exact h5 y hxy (by omega)
      · by_cases c2 : y = j + 1
        · subst c2
          have c3 : K (l.getD j 0) ≤ K (l.getD (j + 1) 0) := by omega
          by_cases c4 : x = j
          · subst c4; exact c3
          · have := h4 x j hx (by omega) (by omega) c1 (by omega)
            omega
        · exact h4 x y hx hxy (by omega) c1 c2
theorem sink_srt {l : List Nat} {a i : Nat} (h1 : a ≤ i) (h2 : i < l.length) (hs : SR K l a i) : sink K a i l = srt K l a (i + 1) := by
  obtain ⟨r1, r2⟩ := sink_ok (K := K) a i i l h1 (Nat.le_refl _) h2 (fun x y hx hxy hy n1 n2 => hs x y hx hxy (by omega)) (fun y h3 h4 => by omega)
  exact srt_unique (by omega) (by omega) r1 r2
/-- one more number -/
theorem sink_next {l : List Nat} {a i : Nat} (h1 : a ≤ i) (h2 : i < l.length) : sink K a i (srt K l a i) = srt K l a (i + 1) := by
  obtain ⟨r1, r2⟩ := srt_rel (K := K) (l := l) h1 (Nat.le_of_lt h2)
  rw [sink_srt h1 (by rw [r1.len]; exact h2) r2, srt_of (by omega) (by omega) (r1.widen (Nat.le_refl _) (by omega))]
end

/-! ### two parts change places -/
def swpR (l : List Nat) (a b n : Nat) : List Nat := tab l.length fun k => if a ≤ k ∧ k < a + n then l.getD (k - a + b) 0 else if b ≤ k ∧ k < b + n then l.getD (k - b + a) 0 else l.getD k 0
theorem swpR_len (l : List Nat) (a b n : Nat) : (swpR l a b n).length = l.length := tab_len _ _
theorem swpR_zero (l : List Nat) (a b : Nat) : swpR l a b 0 = l := by
  refine ext_getD (swpR_len _ _ _ _) fun i hi => ?_
  rw [swpR_len] at hi
  rw [swpR, tabG, if_pos hi, if_neg (by omega), if_neg (by omega)]
theorem swpR_succ {l : List Nat} {a b n N : Nat} (h1 : a + N ≤ b) (h2 : b + N ≤ l.length) (hn : n < N) : swp (swpR l a b n) (a + n) (b + n) = swpR l a b (n + 1) := by
  have hl := swpR_len l a b n
  refine ext_getD (by rw [swp_len, hl, swpR_len]) fun i hi => ?_
  rw [swp_len, hl] at hi
  rw [swp_get _ _ _ _ (by omega) (by omega)]
  simp only [swpR, tabG, hi, if_true, show a + n < l.length by omega, show b + n < l.length by omega]
  repeat' split
  all_goals first | rfl | omega | (congr 1; omega)
def rotM (l : List Nat) (s m e : Nat) : List Nat := tab l.length fun k => if s ≤ k ∧ k < s + (e - m) then l.getD (k - s + m) 0 else if s + (e - m) ≤ k ∧ k < e then l.getD (k - (e - m)) 0 else l.getD k 0
theorem rot_len (l : List Nat) (s m e : Nat) : (rotM l s m e).length = l.length := tab_len _ _
theorem rot_get (l : List Nat) (s m e k : Nat) (hk : k < l.length) : (rotM l s m e).getD k 0 = if s ≤ k ∧ k < s + (e - m) then l.getD (k - s + m) 0 else if s + (e - m) ≤ k ∧ k < e then l.getD (k - (e - m)) 0 else l.getD k 0 := by
  rw [rotM, tabG, if_pos hk]
theorem rot_gt {l : List Nat} {s m e : Nat} (h1 : e - m < m - s) (h2 : m ≤ e) (h3 : e ≤ l.length) : rotM (swpR l s m (e - m)) (s + (e - m)) m e = rotM l s m e := by
  refine ext_getD (by rw [rot_len, rot_len, swpR_len]) fun i hi => ?_
  rw [rot_len, swpR_len] at hi
  rw [rot_get _ _ _ _ _ (by rw [swpR_len]; exact hi), rot_get _ _ _ _ _ hi]
  simp only [swpR, tabG, hi, if_true]
  repeat' split
  all_goals first | rfl | omega | (congr 1; omega)
theorem rot_lt {l : List Nat} {s m e : Nat} (h1 : m - s < e - m) (h2 : s ≤ m) (h3 : e ≤ l.length) : rotM (swpR l s (e - (m - s)) (m - s)) s m (e - (m - s)) = rotM l s m e := by
  refine ext_getD (by rw [rot_len, rot_len, swpR_len]) fun i hi => ?_
  rw [rot_len, swpR_len] at hi
  rw [rot_get _ _ _ _ _ (by rw [swpR_len]; exact hi), rot_get _ _ _ _ _ hi]
  simp only [swpR, tabG, hi, if_true]
  repeat' split
  all_goals first | rfl | omega | (congr 1; omega)
theorem rot_eq {l : List Nat} {s m e : Nat} (h1 : m - s = e - m) (h2 : s ≤ m) (h3 : m ≤ e) (h4 : e ≤ l.length) : swpR l s m (m - s) = rotM l s m e := by
  refine ext_getD (by rw [rot_len, swpR_len]) fun i hi => ?_
  rw [swpR_len] at hi
  rw [rot_get _ _ _ _ _ hi]
  simp only [swpR, tabG, hi, if_true]
  repeat' split
  all_goals first | rfl | omega | (congr 1; omega)
theorem rot_none (l : List Nat) (s m e : Nat) (h : s = m ∨ m = e) (h1 : s ≤ m) (h2 : m ≤ e) : rotM l s m e = l := by
  refine ext_getD (rot_len _ _ _ _) fun i hi => ?_
  rw [rot_len] at hi
  rw [rot_get _ _ _ _ _ hi]
  repeat' split
  all_goals first | rfl | omega | (congr 1; omega)
theorem rot_up {l : List Nat} {a k : Nat} (h1 : a ≤ k) (h2 : k + 1 < l.length) : swp (rotM l a (a + 1) (k + 1)) k (k + 1) = rotM l a (a + 1) (k + 2) := by
  refine ext_getD (by rw [swp_len, rot_len, rot_len]) fun i hi => ?_
  rw [swp_len, rot_len] at hi
  rw [swp_get _ _ _ _ (by rw [rot_len]; omega) (by rw [rot_len]; omega)]
  rw [rot_get _ _ _ _ _ (show k < l.length by omega), rot_get _ _ _ _ _ h2, rot_get _ _ _ _ _ hi, rot_get _ _ _ _ _ hi]
  repeat' split
  all_goals first | rfl | omega | (congr 1; omega)
theorem rot_down {l : List Nat} {m k : Nat} (h1 : k + 1 ≤ m) (h2 : m < l.length) : swp (rotM l (k + 1) m (m + 1)) (k + 1) k = rotM l k m (m + 1) := by
  refine ext_getD (by rw [swp_len, rot_len, rot_len]) fun i hi => ?_
  rw [swp_len, rot_len] at hi
  rw [swp_get _ _ _ _ (by rw [rot_len]; omega) (by rw [rot_len]; omega)]
  rw [rot_get _ _ _ _ _ (show k < l.length by omega), rot_get _ _ _ _ _ (show k + 1 < l.length by omega), rot_get _ _ _ _ _ hi, rot_get _ _ _ _ _ hi]
  repeat' split
  all_goals first | rfl | omega | (congr 1; omega)

section
variable {K : Nat → Int}
theorem rot_rel {l : List Nat} {a s m e b : Nat} (h1 : a ≤ s) (h2 : s ≤ m) (h3 : m ≤ e) (h4 : e ≤ b) (h5 : b ≤ l.length) (hc : ∀ i j, s ≤ i → i < m → m ≤ j → j < e → K (l.getD j 0) < K (l.getD i 0)) : Rel K a b l (rotM l s m e) := by
  refine ⟨rot_len _ _ _ _, fun i hi => ?_, fun p hp i h6 h7 => ?_, ?_⟩
  · by_cases hl : i < l.length
    · rw [rot_get _ _ _ _ _ hl, if_neg (by omega), if_neg (by omega)]
    · rw [getD_out _ _ (by rw [rot_len]; omega), getD_out _ _ (by omega)]
  · rw [rot_get _ _ _ _ _ (by omega)]
    repeat' split
    · exact hp _ (by omega) (by omega)
    · exact hp _ (by omega) (by omega)
    · exact hp i h6 h7
  · have e1 : l = l.take s ++ (part l s m ++ (part l m e ++ l.drop e)) := by
      have := split3 l m e h3 (by omega)
      have h8 := split3 (l.take m) s m h2 (by simp; omega)
      have h9 : part (l.take m) s m = part l s m := by simp [part, List.take_take]
      rw [List.drop_eq_nil_of_le (by simp; omega), List.append_nil, List.take_take, Nat.min_eq_left h2, h9] at h8
      rw [h8, List.append_assoc] at this
      exact this
    have ps := part_len l s m (by omega)
    have pm := part_len l m e (by omega)
    have ts : (l.take s).length = s := by simp; omega
    have e2 : rotM l s m e = l.take s ++ (part l m e ++ (part l s m ++ l.drop e)) := by
      refine ext_getD (by rw [rot_len]; simp [ps, pm]; omega) fun i hi => ?_
      rw [rot_len] at hi
      rw [rot_get _ _ _ _ _ hi]
      simp only [List.getD_eq_getElem?_getD]
      by_cases c1 : i < s
      · rw [if_neg (by omega), if_neg (by omega), List.getElem?_append_left (by omega), List.getElem?_take, if_pos c1]
      · rw [List.getElem?_append_right (by omega), ts]
        by_cases c2 : i < s + (e - m)
        · rw [if_pos ⟨by omega, c2⟩, List.getElem?_append_left (by omega)]
          have := part_get l m e (i - s) (by omega)
          simp only [List.getD_eq_getElem?_getD] at this
          rw [this, show m + (i - s) = i - s + m by omega]
        · rw [if_neg (by omega), List.getElem?_append_right (by omega), pm]
          by_cases c3 : i < e
          · rw [if_pos ⟨by omega, c3⟩, List.getElem?_append_left (by omega)]
            have := part_get l s m (i - s - (e - m)) (by omega)
            simp only [List.getD_eq_getElem?_getD] at this
            rw [this, show s + (i - s - (e - m)) = i - (e - m) by omega]
          · rw [if_neg (by omega), List.getElem?_append_right (by omega), ps, List.getElem?_drop, show e + (i - s - (e - m) - (m - s)) = i by omega]
    intro k
    rw [e2]
    conv => rhs; rw [e1]
    simp only [List.filter_append]
    congr 1
    have hor : (part l s m).filter (fun x => decide (K x = k)) = [] ∨ (part l m e).filter (fun x => decide (K x = k)) = [] := by
      by_cases hx : ∃ x, x ∈ part l s m ∧ K x = k
      · obtain ⟨x, hx, hxk⟩ := hx
        right
        refine List.filter_eq_nil_iff.2 fun y hy => ?_
        obtain ⟨i, hi, rfl⟩ := mem_getD hx
        obtain ⟨j, hj, rfl⟩ := mem_getD hy
        rw [ps] at hi; rw [pm] at hj
        have := hc (s + i) (m + j) (by omega) (by omega) (by omega) (by omega)
        rw [← part_get l s m i (by omega), ← part_get l m e j (by omega)] at this
        generalize (part l m e).getD j 0 = y at this ⊢
        generalize (part l s m).getD i 0 = x at this hxk ⊢
        simp; omega
      · left
        refine List.filter_eq_nil_iff.2 fun y hy => ?_
        simp
        exact fun h => hx ⟨y, hy, h⟩
    rcases hor with h | h <;> rw [h] <;> simp
/-- both halves in order, the first one nowhere greater: all is in order -/
theorem SR_join {l : List Nat} {a c b : Nat} (h1 : SR K l a c) (h2 : SR K l c b) (hc : ∀ i j, a ≤ i → i < c → c ≤ j → j < b → K (l.getD i 0) ≤ K (l.getD j 0)) : SR K l a b := by
  intro i j hi hij hj
  by_cases c1 : j < c
  · exact h1 i j hi hij c1
  · by_cases c2 : i < c
    · exact hc i j hi c2 (by omega) hj
    · exact h2 i j (by omega) hij hj
theorem merge_step {l : List Nat} {a s m e b : Nat} (h1 : a ≤ s) (h2 : s ≤ m) (h3 : m ≤ e) (h4 : e ≤ b) (h5 : b ≤ l.length) (s1 : SR K l a m) (s2 : SR K l m b)
    (c1 : ∀ i j, a ≤ i → i < s → e ≤ j → j < b → K (l.getD i 0) ≤ K (l.getD j 0)) (c2 : ∀ i j, s ≤ i → i < m → m ≤ j → j < e → K (l.getD j 0) < K (l.getD i 0)) :
    srt K (srt K (rotM l s m e) a (s + (e - m))) (s + (e - m)) b = srt K l a b ∧
      SR K (rotM l s m e) a s ∧ SR K (rotM l s m e) s (s + (e - m)) ∧ SR K (rotM l s m e) (s + (e - m)) e ∧ SR K (rotM l s m e) e b := by
  have hr := rot_rel (K := K) h1 h2 h3 h4 h5 c2
  have hl := rot_len l s m e
  have hg := fun k (hk : k < b) => rot_get l s m e k (by omega)
  have q1 : SR K (rotM l s m e) a s := fun i j hi hij hj => by
    rw [hg i (by omega), hg j (by omega), if_neg (by omega), if_neg (by omega), if_neg (by omega), if_neg (by omega)]
    exact s1 i j hi hij (by omega)
  have q2 : SR K (rotM l s m e) s (s + (e - m)) := fun i j hi hij hj => by
    rw [hg i (by omega), hg j (by omega), if_pos (by omega), if_pos (by omega)]
    exact s2 _ _ (by omega) (by omega) (by omega)
  have q3 : SR K (rotM l s m e) (s + (e - m)) e := fun i j hi hij hj => by
    rw [hg i (by omega), hg j (by omega), if_neg (by omega), if_pos (by omega), if_neg (by omega), if_pos (by omega)]
    exact s1 _ _ (by omega) (by omega) (by omega)
  have q4 : SR K (rotM l s m e) e b := fun i j hi hij hj => by
    rw [hg i (by omega), hg j (by omega), if_neg (by omega), if_neg (by omega), if_neg (by omega), if_neg (by omega)]
    exact s2 i j (by omega) hij hj
  refine ⟨?_, q1, q2, q3, q4⟩
  have cross : ∀ i j, a ≤ i → i < s + (e - m) → s + (e - m) ≤ j → j < b → K ((rotM l s m e).getD i 0) ≤ K ((rotM l s m e).getD j 0) := by
    intro i j hi1 hi2 hj1 hj2
    rw [hg i (by omega), hg j hj2]
    by_cases i1 : s ≤ i
    · rw [if_pos ⟨i1, hi2⟩]
      by_cases j1 : j < e
      · rw [if_neg (by omega), if_pos ⟨hj1, j1⟩]
        exact Int.le_of_lt (c2 _ _ (by omega) (by omega) (by omega) (by omega))
      · rw [if_neg (by omega), if_neg (by omega)]
        exact s2 _ _ (by omega) (by omega) hj2
    · rw [if_neg (by omega), if_neg (by omega)]
      by_cases j1 : j < e
      · rw [if_neg (by omega), if_pos ⟨hj1, j1⟩]
        exact s1 _ _ hi1 (by omega) (by omega)
      · rw [if_neg (by omega), if_neg (by omega)]
        exact c1 _ _ hi1 (by omega) (by omega) hj2
  obtain ⟨r1, t1⟩ := srt_rel (K := K) (l := rotM l s m e) (a := a) (b := s + (e - m)) (by omega) (by omega)
  obtain ⟨r2, t2⟩ := srt_rel (K := K) (l := srt K (rotM l s m e) a (s + (e - m))) (a := s + (e - m)) (b := b) (by omega) (by rw [r1.len]; omega)
  refine srt_unique (by omega) h5 ((hr.trans (r1.widen (Nat.le_refl _) (by omega))).trans (r2.widen (by omega) (Nat.le_refl _))) (SR_join (c := s + (e - m)) ?_ t2 ?_)
  · intro i j hi hij hj
    rw [r2.out i (.inl (by omega)), r2.out j (.inl hj)]
    exact t1 i j hi hij hj
  · intro i j hi1 hi2 hj1 hj2
    rw [r2.out i (.inl hi2)]
    refine r2.all (fun x => K ((srt K (rotM l s m e) a (s + (e - m))).getD i 0) ≤ K x) (fun j hj1 hj2 => ?_) j hj1 hj2
    rw [r1.out j (.inr hj1)]
    exact r1.all (fun x => K x ≤ K ((rotM l s m e).getD j 0)) (fun i hi1 hi2 => cross i j hi1 hi2 hj1 hj2) i hi1 hi2
/-- the turned list is the one in order, where both its halves are -/
theorem merge_done {l : List Nat} {a s m e b : Nat} (h1 : a ≤ s) (h2 : s ≤ m) (h3 : m ≤ e) (h4 : e ≤ b) (h5 : b ≤ l.length) (s1 : SR K l a m) (s2 : SR K l m b)
    (c1 : ∀ i j, a ≤ i → i < s → e ≤ j → j < b → K (l.getD i 0) ≤ K (l.getD j 0)) (c2 : ∀ i j, s ≤ i → i < m → m ≤ j → j < e → K (l.getD j 0) < K (l.getD i 0))
    (d1 : ∀ i j, a ≤ i → i < s → m ≤ j → j < e → K (l.getD i 0) ≤ K (l.getD j 0)) (d2 : ∀ i j, s ≤ i → i < m → e ≤ j → j < b → K (l.getD i 0) ≤ K (l.getD j 0)) : rotM l s m e = srt K l a b := by
  obtain ⟨h, q1, q2, q3, q4⟩ := merge_step h1 h2 h3 h4 h5 s1 s2 c1 c2
  have hl := rot_len l s m e
  have hg := fun k (hk : k < b) => rot_get l s m e k (by omega)
  rw [srt_nop (l := rotM l s m e) (a := a) (b := s + (e - m)) (by omega) (by omega) (SR_join q1 q2 (fun i j hi1 hi2 hj1 hj2 => by
      rw [hg i (by omega), hg j (by omega), if_neg (by omega), if_neg (by omega), if_pos (by omega)]
      exact d1 _ _ hi1 hi2 (by omega) (by omega))), srt_nop (by omega) (by omega) (SR_join q3 q4 (fun i j hi1 hi2 hj1 hj2 => by
      rw [hg i (by omega), hg j (by omega), if_neg (by omega), if_pos (by omega), if_neg (by omega), if_neg (by omega)]
      exact d2 _ _ (by omega) (by omega) hj1 hj2))] at h
  exact h
end

/-! ### halving -/
def bsM (p : Nat → Bool) : Nat → Nat → Nat → Nat
  | 0, i, _ => i
  | n + 1, i, j => if i < j then (if p ((i + j) / 2) = true then bsM p n i ((i + j) / 2) else bsM p n ((i + j) / 2 + 1) j) else i
theorem bs_ok (p : Nat → Bool) : ∀ (n i j : Nat), j - i ≤ n → i ≤ j → (∀ x y, i ≤ x → x ≤ y → y < j → p x = true → p y = true) →
    i ≤ bsM p n i j ∧ bsM p n i j ≤ j ∧ (∀ x, i ≤ x → x < bsM p n i j → p x = false) ∧ (∀ x, bsM p n i j ≤ x → x < j → p x = true)
  | 0, i, j, h, hij, _ => ⟨Nat.le_refl _, hij, fun x h1 h2 => by simp only [bsM] at h2; omega, fun x h1 h2 => by simp only [bsM] at h1; omega⟩
  | n + 1, i, j, h, hij, hm => by
    unfold bsM
    split
    · rename_i hlt
      split
      · rename_i hp
        obtain ⟨a1, a2, a3, a4⟩ := bs_ok p n i ((i + j) / 2) (by omega) (by omega) (fun x y h1 h2 h3 => hm x y h1 h2 (by omega))
        refine ⟨a1, by omega, a3, fun x h1 h2 => ?_⟩
        by_cases hx : x < (i + j) / 2
        · exact a4 x h1 hx
        · exact hm _ x (by omega) (by omega) h2 hp
      · rename_i hp
        obtain ⟨a1, a2, a3, a4⟩ := bs_ok p n ((i + j) / 2 + 1) j (by omega) (by omega) (fun x y h1 h2 h3 => hm x y (by omega) h2 h3)
        refine ⟨by omega, a2, fun x h1 h2 => ?_, a4⟩
        by_cases hx : (i + j) / 2 < x
        · exact a3 x (by omega) h2
        · cases hpx : p x with
          | false => rfl
          | true => exact absurd (hm x ((i + j) / 2) h1 (by omega) (by omega) hpx) hp
    · rename_i hlt
      exact ⟨Nat.le_refl _, by omega, fun x h1 h2 => by omega, fun x h1 h2 => by omega⟩
end Go.Proofs.LV
