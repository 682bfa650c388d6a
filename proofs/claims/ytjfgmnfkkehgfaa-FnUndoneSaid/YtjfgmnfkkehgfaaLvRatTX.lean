/- Texts that belong together. -/
import Derived.Test.YtjfgmnfkkehgfaaLvRatS
import Derived.Test.YtjfgmnfkkehgfaaLvFnPP
import Derived.Test.YtjfgmnfkkehgfaaLvFnCX
namespace Go.Proofs.LV
open Go Ieee
set_option linter.unusedVariables false

/-! ### sums of fractions -/
theorem nat_rat (n : Nat) : (0 : Rat) ≤ (n : Rat) := by have := nat_le_rat (Nat.zero_le n); simpa using this
theorem nat_succ (n : Nat) : ((n + 1 : Nat) : Rat) = (n : Rat) + 1 := Rat.natCast_add n 1
/-! ### sums from the left of numbers that are nearly told -/
/-! ### the gap -/
theorem c001 : df 4562254508917369340 ∧ 9 / 10000 ≤ dv 4562254508917369340 ∧ dv 4562254508917369340 ≤ 1 / 500 := by
  have h : df 4562254508917369340 := by unfold df fnt; decide +kernel
  refine ⟨h, ?_⟩
  have : dv 4562254508917369340 = 1152921504606847 / 1152921504606846976 := lit_neg h (m := 4611686018427388) (n := 62) (by decide +kernel) (by decide +kernel)
  rw [this]; decide +kernel
end Go.Proofs.LV

namespace Go.Proofs.LV
open Go Ieee
set_option linter.unusedVariables false
set_option linter.unusedSimpArgs false

/-- a number on the half grid -/
def Hg (b x : Nat) : Prop := sf x ∧ Gr (-1) b (sv x)
theorem half_zp : (2 : Rat) ^ (-1 : Int) = 1 / 2 := by decide +kernel
theorem two_sf : sf 1073741824 ∧ sv 1073741824 = 2 := by
  have hf : fnt single 1073741824 := by unfold fnt; decide
  refine ⟨hf, ?_⟩
  exact lit_neg (n := 22) (m := 8388608) hf (by decide) (by decide +kernel)
theorem s2F_val {x : Int} (h : x.natAbs ≤ 100) : Hg 100 (s2F x) ∧ sv (s2F x) = (x : Rat) / 2 := by
  obtain ⟨f1, f2⟩ := fofi_rv .f32 (n := x) (Nat.lt_of_le_of_lt h (by decide))
  obtain ⟨t1, t2⟩ := two_sf
  have t2 : rv single 1073741824 = 2 := t2
  have f2 : rv single (fofi .f32 x) = x := f2
  have hG : Gr (-1) 100 ((x : Rat) / 2) := ⟨x, by rw [half_zp]; grind, h⟩
  have hd := div_gr .f32 (q := (x : Rat) / 2) (j := -1) (b := 100) f1 t1 (by show rv single 1073741824 ≠ 0; rw [t2]; decide) (by show (x : Rat) / 2 * rv single 1073741824 = rv single (fofi .f32 x); rw [t2, f2]; grind) hG (by decide) (by decide) (by decide)
  have e : sv (s2F x) = (x : Rat) / 2 := hd.2
  exact ⟨⟨hd.1, by rw [e]; exact hG⟩, e⟩
theorem s2X_le {cs : List Int} (hc : Byt cs) (i : Nat) (hi : i ≤ 21) : (s2X cs 0 0 i).natAbs ≤ 100 := by
  have hV := s2V_le hc 0 0
  have hW := s2W_le hc 0 0
  have hE := s2E_le hc 0 0 (s2P cs 0 0) (i % s2P cs 0 0)
  have hv := vl_mod hc 0 0 (3 + s2P cs 0 0 + i) (n := 5) (by omega)
  have hWi : -42 ≤ s2W cs 0 0 * (i : Int) ∧ s2W cs 0 0 * (i : Int) ≤ 42 := by
    have h1 : (i : Int) ≤ 21 := by omega
    rcases (show s2W cs 0 0 = -2 ∨ s2W cs 0 0 = -1 ∨ s2W cs 0 0 = 0 ∨ s2W cs 0 0 = 1 ∨ s2W cs 0 0 = 2 by omega) with e | e | e | e | e <;> rw [e] <;> omega
  have hd : -42 ≤ (s2W cs 0 0 * (i : Int)).tdiv 2 ∧ (s2W cs 0 0 * (i : Int)).tdiv 2 ≤ 42 := by
    generalize s2W cs 0 0 * (i : Int) = x at hWi
    rcases Int.le_total 0 x with h0 | h0
    · rw [Int.tdiv_eq_ediv_of_nonneg h0]; omega
    · obtain ⟨y, rfl⟩ : ∃ y, x = -y := ⟨-x, by omega⟩
      rw [Int.neg_tdiv, Int.tdiv_eq_ediv_of_nonneg (by omega)]; omega
  unfold s2X
  omega
/-- all numbers of a list lie on the half grid -/
def HL (b : Nat) (xs : List Nat) : Prop := ∀ i, i < xs.length → Hg b (xs.getD i 0)
theorem HL.mono {b c : Nat} {xs : List Nat} (h : HL b xs) (hb : b ≤ c) : HL c xs := fun i hi => ⟨(h i hi).1, (h i hi).2.mono hb⟩
theorem s2L_HL {cs : List Int} (hc : Byt cs) {n : Nat} (hn : n ≤ 21) : HL 100 (s2L cs 0 0 n) := fun i hi => by
  rw [s2L_len] at hi
  unfold s2L
  rw [tab_get _ _ _ _ hi]
  exact (s2F_val (s2X_le hc i (by omega))).1
theorem HL.fin {b : Nat} {xs : List Nat} (h : HL b xs) : finAllM xs = true := finAll_of fun i hi => (h i hi).1
theorem HL.series {b : Nat} {xs : List Nat} (h : HL b xs) (h1 : 1 ≤ xs.length ∧ xs.length ≤ 96) : seriesM xs = true := by
  unfold seriesM
  rw [h.fin, decide_eq_true (by omega), decide_eq_true (by omega)]; rfl
theorem Hg.sub {a b x y : Nat} (hx : Hg a x) (hy : Hg b y) (hb : a + b < 2 ^ 24) : Hg (a + b) (fsub .f32 x y) ∧ sv (fsub .f32 x y) = sv x - sv y := by
  have := sub_gr .f32 hx.1 hy.1 hx.2 hy.2 hb (by decide) (by decide)
  have e : sv (fsub .f32 x y) = sv x - sv y := this.2
  exact ⟨⟨this.1, by rw [e]; exact hx.2.sub hy.2⟩, e⟩
theorem Hg.add {a b x y : Nat} (hx : Hg a x) (hy : Hg b y) (hb : a + b < 2 ^ 24) : Hg (a + b) (fadd .f32 x y) ∧ sv (fadd .f32 x y) = sv x + sv y := by
  have := add_gr .f32 hx.1 hy.1 hx.2 hy.2 hb (by decide) (by decide)
  have e : sv (fadd .f32 x y) = sv x + sv y := this.2
  exact ⟨⟨this.1, by rw [e]; exact hx.2.add hy.2⟩, e⟩
theorem getD_dropN (xs : List Nat) (a m : Nat) : (xs.drop a).getD m 0 = xs.getD (a + m) 0 := by
  simp [List.getD, List.getElem?_drop]
theorem getD_takeN (xs : List Nat) (a m : Nat) (h : m < a) : (xs.take a).getD m 0 = xs.getD m 0 := by
  simp [List.getD, List.getElem?_take, h]
theorem ldM_val {b : Nat} {xs : List Nat} (h : HL b xs) (hb : 2 * b < 2 ^ 24) (l i : Nat) (hi : i < xs.length - l) : Hg (2 * b) ((ldM xs l).getD i 0) ∧ sv ((ldM xs l).getD i 0) = sv (xs.getD (l + i) 0) - sv (xs.getD i 0) := by
  have e : (ldM xs l).getD i 0 = fsub .f32 (xs.getD (l + i) 0) (xs.getD i 0) := by
    unfold ldM lessM
    rw [tab_get _ _ _ _ (by rw [List.length_drop]; exact hi), getD_dropN]
  rw [e, Nat.two_mul] at *
  exact (h (l + i) (by omega)).sub (h i (by omega)) hb
theorem ldM_HL {b : Nat} {xs : List Nat} (h : HL b xs) (hb : 2 * b < 2 ^ 24) (l : Nat) : HL (2 * b) (ldM xs l) := fun i hi => by
  rw [ldM_len] at hi
  exact (ldM_val h hb l i hi).1
/-- differences are undone -/
theorem udM_val {b : Nat} {xs : List Nat} (h : HL b xs) (hb : 3 * b < 2 ^ 24) {l : Nat} (hl : 1 ≤ l ∧ l ≤ xs.length) : ∀ m, m ≤ xs.length - l → ∀ i, i < l + m → Hg b ((udM (xs.take l) (ldM xs l) m).getD i 0) ∧ sv ((udM (xs.take l) (ldM xs l) m).getD i 0) = sv (xs.getD i 0)
  | 0, _, i, hi => by
    show Hg b ((xs.take l).getD i 0) ∧ sv ((xs.take l).getD i 0) = _
    rw [getD_takeN _ _ _ (by omega)]
    exact ⟨h i (by omega), rfl⟩
  | m + 1, hm, i, hi => by
    have ih := udM_val h hb hl m (by omega)
    have hlen := udM_len (xs.take l) (ldM xs l) m
    rw [List.length_take, Nat.min_eq_left hl.2] at hlen
    have e : udM (xs.take l) (ldM xs l) (m + 1) = udM (xs.take l) (ldM xs l) m ++ [fadd .f32 ((ldM xs l).getD m 0) ((udM (xs.take l) (ldM xs l) m).getD m 0)] := rfl
    rw [e]
    by_cases hi2 : i < l + m
    · have : (udM (xs.take l) (ldM xs l) m ++ [fadd .f32 ((ldM xs l).getD m 0) ((udM (xs.take l) (ldM xs l) m).getD m 0)]).getD i 0 = (udM (xs.take l) (ldM xs l) m).getD i 0 := by
        simp only [List.getD]; rw [List.getElem?_append_left (by omega)]
      rw [this]; exact ih i hi2
    · have hie : i = l + m := by omega
      subst hie
      have : (udM (xs.take l) (ldM xs l) m ++ [fadd .f32 ((ldM xs l).getD m 0) ((udM (xs.take l) (ldM xs l) m).getD m 0)]).getD (l + m) 0 = fadd .f32 ((ldM xs l).getD m 0) ((udM (xs.take l) (ldM xs l) m).getD m 0) := by
        rw [← hlen]; simp
      rw [this]
      obtain ⟨d1, d2⟩ := ldM_val h (by omega) l m (by omega)
      obtain ⟨u1, u2⟩ := ih m (by omega)
      obtain ⟨a1, a2⟩ := d1.add u1 (by omega)
      have e2 : sv (fadd .f32 ((ldM xs l).getD m 0) ((udM (xs.take l) (ldM xs l) m).getD m 0)) = sv (xs.getD (l + m) 0) := by rw [a2, d2, u2]; grind
      exact ⟨⟨a1.1, by rw [e2]; exact (h (l + m) (by omega)).2⟩, e2⟩
/-- sums of steps -/
theorem rsS_val {b : Nat} {xs : List Nat} (h : HL b xs) (n : Nat) (hn : n ≤ xs.length) (hb : b * n < 2 ^ 24) : Hg (b * n) (rsS xs n) ∧ sv (rsS xs n) = sumQ n fun i => sv (xs.getD i 0) := by
  obtain ⟨h1, h2, h3⟩ := acc_gr (g := fun i => xs.getD i 0) (j := -1) (b := b) (by omega) (by omega) n hb (fun i hi => h i (by omega))
  exact ⟨⟨h1, h2⟩, h3⟩
theorem rsM_HL {b : Nat} {xs : List Nat} (h : HL b xs) (hb : b * xs.length < 2 ^ 24) : HL (b * xs.length) (rsM xs xs.length) := fun i hi => by
  rw [rsM_len] at hi
  unfold rsM
  rw [tab_get _ _ _ _ hi]
  have hm : b * (i + 1) ≤ b * xs.length := Nat.mul_le_mul_left b (by omega)
  obtain ⟨h1, _⟩ := rsS_val h (i + 1) (by omega) (by omega)
  exact ⟨h1.1, h1.2.mono hm⟩
theorem back_val {b : Nat} {xs : List Nat} (h : HL b xs) (hb : 2 * (b * xs.length) < 2 ^ 24) {i : Nat} (hi : i + 1 < xs.length) : sf ((ldM (rsM xs xs.length) 1).getD i 0) ∧ sv ((ldM (rsM xs xs.length) 1).getD i 0) = sv (xs.getD (i + 1) 0) := by
  have hR := rsM_HL h (by omega)
  obtain ⟨h1, h2⟩ := ldM_val hR hb 1 i (by rw [rsM_len]; omega)
  refine ⟨h1.1, ?_⟩
  rw [h2]
  have e1 : (rsM xs xs.length).getD (1 + i) 0 = rsS xs (i + 1 + 1) := by unfold rsM; rw [tab_get _ _ _ _ (by omega), Nat.add_comm 1 i]
  have e2 : (rsM xs xs.length).getD i 0 = rsS xs (i + 1) := by unfold rsM; rw [tab_get _ _ _ _ (by omega)]
  have m1 : b * (i + 1 + 1) ≤ b * xs.length := Nat.mul_le_mul_left b (by omega)
  have m2 : b * (i + 1) ≤ b * xs.length := Nat.mul_le_mul_left b (by omega)
  rw [e1, e2, (rsS_val h (i + 1 + 1) (by omega) (by omega)).2, (rsS_val h (i + 1) (by omega) (by omega)).2]
  show (sumQ (i + 1) fun i => sv (xs.getD i 0)) + sv (xs.getD (i + 1) 0) - _ = _
  grind
end Go.Proofs.LV

namespace Go.Proofs.LV
open Go
set_option linter.unusedVariables false
set_option linter.unusedSimpArgs false

section
variable (K : Nat → Int)

/-- the numbers from a up to b are in order -/
def SR (l : List Nat) (a b : Nat) : Prop := ∀ i j, a ≤ i → i < j → j < b → K (l.getD i 0) ≤ K (l.getD j 0)
/-- the same numbers, equals in the same order -/
def same (l l' : List Nat) : Prop := ∀ k : Int, l'.filter (fun x => decide (K x = k)) = l.filter (fun x => decide (K x = k))
structure Rel (a b : Nat) (l l' : List Nat) : Prop where
  len : l'.length = l.length
  out : ∀ i, i < a ∨ b ≤ i → l'.getD i 0 = l.getD i 0
  all : ∀ p : Nat → Prop, (∀ i, a ≤ i → i < b → p (l.getD i 0)) → ∀ i, a ≤ i → i < b → p (l'.getD i 0)
  cls : same K l l'
variable {K}
theorem Rel.refl (a b : Nat) (l : List Nat) : Rel K a b l l := ⟨rfl, fun _ _ => rfl, fun _ h => h, fun _ => rfl⟩
theorem Rel.trans {a b : Nat} {l m n : List Nat} (h1 : Rel K a b l m) (h2 : Rel K a b m n) : Rel K a b l n :=
  ⟨h2.len.trans h1.len, fun i hi => (h2.out i hi).trans (h1.out i hi), fun p hp => h2.all p (h1.all p hp), fun k => (h2.cls k).trans (h1.cls k)⟩
theorem Rel.widen {a b a' b' : Nat} {l m : List Nat} (h : Rel K a b l m) (h1 : a' ≤ a) (h2 : b ≤ b') : Rel K a' b' l m := by
  refine ⟨h.len, fun i hi => h.out i (by omega), fun p hp i h3 h4 => ?_, h.cls⟩
  by_cases hi : a ≤ i ∧ i < b
  · exact h.all p (fun j h5 h6 => hp j (by omega) (by omega)) i hi.1 hi.2
  · rw [h.out i (by omega)]; exact hp i h3 h4

theorem ext_getD {l m : List Nat} (hl : l.length = m.length) (h : ∀ i, i < l.length → l.getD i 0 = m.getD i 0) : l = m := by
  refine List.ext_getElem? fun i => ?_
  by_cases hi : i < l.length
  · have := h i hi
    simp only [List.getD, List.getElem?_eq_getElem hi, List.getElem?_eq_getElem (hl ▸ hi : i < m.length), Option.getD_some] at this ⊢
    rw [this]
  · rw [List.getElem?_eq_none (by omega), List.getElem?_eq_none (by omega)]
theorem getD_mem {l : List Nat} {i : Nat} (h : i < l.length) : l.getD i 0 ∈ l := by
  rw [List.getD_eq_getElem?_getD, List.getElem?_eq_getElem h]; exact List.getElem_mem h
theorem mem_getD {l : List Nat} {x : Nat} (h : x ∈ l) : ∃ i, i < l.length ∧ l.getD i 0 = x := by
  obtain ⟨i, hi, rfl⟩ := List.getElem_of_mem h
  exact ⟨i, hi, by rw [List.getD_eq_getElem?_getD, List.getElem?_eq_getElem hi]; rfl⟩
theorem getD_takeR (l : List Nat) (b i : Nat) (h : i < b) : (l.take b).getD i 0 = l.getD i 0 := by
  simp only [List.getD_eq_getElem?_getD, List.getElem?_take, h, if_true]
/-- the numbers from a up to b -/
def part (l : List Nat) (a b : Nat) : List Nat := (l.take b).drop a
theorem part_len (l : List Nat) (a b : Nat) (h : b ≤ l.length) : (part l a b).length = b - a := by simp [part]; omega
theorem part_get (l : List Nat) (a b i : Nat) (h : a + i < b) : (part l a b).getD i 0 = l.getD (a + i) 0 := by
  unfold part
  rw [getD_drop', getD_takeR _ _ _ h]
theorem split3 (l : List Nat) (a b : Nat) (h1 : a ≤ b) (h2 : b ≤ l.length) : l = l.take a ++ (part l a b ++ l.drop b) := by
  unfold part
  conv => lhs; rw [← List.take_append_drop b l]
  rw [← List.append_assoc]
  congr 1
  conv => lhs; rw [← List.take_append_drop a (l.take b)]
  rw [List.take_take, Nat.min_eq_left h1]

/-! ### in order, equals kept: there is one such list -/
theorem same_mem {l m : List Nat} (h : same K l m) {x : Nat} : x ∈ m ↔ x ∈ l := by
  have := h (K x)
  constructor
  · intro hx
    have : x ∈ m.filter (fun y => decide (K y = K x)) := by simp [hx]
    rw [h (K x)] at this
    exact (List.mem_filter.1 this).1
  · intro hx
    have : x ∈ l.filter (fun y => decide (K y = K x)) := by simp [hx]
    rw [← h (K x)] at this
    exact (List.mem_filter.1 this).1
theorem sort_unique : ∀ {l m : List Nat}, l.Pairwise (fun x y => K x ≤ K y) → m.Pairwise (fun x y => K x ≤ K y) → same K l m → l = m
  | [], m, _, _, hs => by
    cases m with
    | nil => rfl
    | cons y m => have := (same_mem hs (x := y)).1 (by simp); cases this
  | x :: l, [], _, _, hs => by have := (same_mem hs (x := x)).2 (by simp); cases this
  | x :: l, y :: m, h1, h2, hs => by
    obtain ⟨h1a, h1b⟩ := List.pairwise_cons.1 h1
    obtain ⟨h2a, h2b⟩ := List.pairwise_cons.1 h2
    have hxy : K x = K y := by
      have a1 : K x ≤ K y := by
        rcases List.mem_cons.1 ((same_mem hs (x := y)).1 (by simp)) with h | h
        · rw [h]; exact Int.le_refl _
        · exact h1a y h
      have a2 : K y ≤ K x := by
        rcases List.mem_cons.1 ((same_mem hs (x := x)).2 (by simp)) with h | h
        · rw [h]; exact Int.le_refl _
        · exact h2a x h
      omega
    have he : x = y := by
      have := hs (K x)
      rw [List.filter_cons, List.filter_cons] at this
      simp [hxy] at this
      exact this.1.symm
    subst he
    congr 1
    refine sort_unique h1b h2b fun k => ?_
    have := hs k
    rw [List.filter_cons, List.filter_cons] at this
    split at this
    · exact List.cons.inj this |>.2
    · exact this
variable (K)
def sortM : List Nat → List Nat
  | [] => []
  | x :: r => let s := sortM r; insFirst x s
where
  /-- x goes ahead of all that are not less -/
  insFirst (x : Nat) : List Nat → List Nat
  | [] => [x]
  | y :: r => if K y < K x then y :: insFirst x r else x :: y :: r
variable {K}
theorem insFirst_same (x : Nat) : ∀ l : List Nat, same K (x :: l) (sortM.insFirst K x l)
  | [] => fun _ => rfl
  | y :: r => by
    unfold sortM.insFirst
    split
    · rename_i h
      intro k
      have ih := insFirst_same x r k
      rw [List.filter_cons, ih, List.filter_cons, List.filter_cons, List.filter_cons]
      by_cases h1 : K x = k <;> by_cases h2 : K y = k <;> simp [h1, h2] <;> omega
    · exact fun _ => rfl
theorem insFirst_mem {x z : Nat} {l : List Nat} (h : z ∈ sortM.insFirst K x l) : z = x ∨ z ∈ l := by
  have := (same_mem (insFirst_same (K := K) x l)).1 h
  simpa using this
theorem insFirst_sorted (x : Nat) : ∀ l : List Nat, l.Pairwise (fun x y => K x ≤ K y) → (sortM.insFirst K x l).Pairwise (fun x y => K x ≤ K y)
  | [], _ => by simp [sortM.insFirst]
  | y :: r, h => by
    obtain ⟨ha, hb⟩ := List.pairwise_cons.1 h
    unfold sortM.insFirst
    split
    · rename_i hlt
      refine List.pairwise_cons.2 ⟨fun z hz => ?_, insFirst_sorted x r hb⟩
      rcases insFirst_mem hz with rfl | hz
      · omega
      · exact ha z hz
    · rename_i hlt
      refine List.pairwise_cons.2 ⟨fun z hz => ?_, h⟩
      rcases List.mem_cons.1 hz with rfl | hz
      · omega
      · have := ha z hz; omega
theorem sortM_same : ∀ l : List Nat, same K l (sortM K l)
  | [] => fun _ => rfl
  | x :: r => by
    intro k
    have h1 := insFirst_same (K := K) x (sortM K r) k
    have h2 := sortM_same r k
    show (sortM.insFirst K x (sortM K r)).filter _ = _
    rw [h1, List.filter_cons, List.filter_cons, h2]
theorem sortM_sorted : ∀ l : List Nat, (sortM K l).Pairwise (fun x y => K x ≤ K y)
  | [] => .nil
  | x :: r => insFirst_sorted x _ (sortM_sorted r)
theorem same_len {l m : List Nat} (h : same K l m) : m.length = l.length := by
  have key : ∀ n : Nat, ∀ l m : List Nat, l.length ≤ n → same K l m → m.length = l.length := by
    intro n
    induction n with
    | zero =>
      intro l m hn h
      have : l = [] := List.length_eq_zero_iff.1 (by omega)
      subst this
      cases m with
      | nil => rfl
      | cons y m => have := (same_mem h (x := y)).1 (by simp); cases this
    | succ n ih =>
      intro l m hn h
      cases l with
      | nil =>
        cases m with
        | nil => rfl
        | cons y m => have := (same_mem h (x := y)).1 (by simp); cases this
      | cons x l =>
        -- all of x's class go
        have e : ∀ q : List Nat, q.length = (q.filter (fun y => decide (K y = K x))).length + (q.filter (fun y => !decide (K y = K x))).length := by
          intro q
          induction q with
          | nil => rfl
          | cons y q ihq => rw [List.filter_cons, List.filter_cons]; by_cases hy : K y = K x <;> simp [hy] <;> omega
        have h1 := ih ((x :: l).filter (fun y => !decide (K y = K x))) (m.filter (fun y => !decide (K y = K x))) (by
            have hx : ((x :: l).filter (fun y => !decide (K y = K x))) = l.filter (fun y => !decide (K y = K x)) := by rw [List.filter_cons]; simp
            rw [hx]
            have := List.length_filter_le (fun y => !decide (K y = K x)) l
            simp at hn
            omega) (by
            intro k
            rw [List.filter_filter, List.filter_filter]
            have hk := h k
            have aux : ∀ q : List Nat, q.filter (fun a => decide (K a = k) && !decide (K a = K x)) = if k = K x then [] else q.filter (fun a => decide (K a = k)) := by
              intro q
              split
              · rename_i hk; subst hk
                refine List.filter_eq_nil_iff.2 fun a _ => by simp
              · rename_i hk
                refine List.filter_congr fun a _ => ?_
                by_cases ha : K a = k <;> simp [ha, hk]
            rw [aux, aux, hk])
        rw [e m, e (x :: l), h (K x), h1]
  exact key l.length l m (Nat.le_refl _) h

/-- the numbers from a up to b put in order -/
def srt (K : Nat → Int) (l : List Nat) (a b : Nat) : List Nat := l.take a ++ (sortM K (part l a b) ++ l.drop b)
theorem SR_pairwise {l : List Nat} {a b : Nat} (hb : b ≤ l.length) : SR K l a b ↔ (part l a b).Pairwise (fun x y => K x ≤ K y) := by
  rw [List.pairwise_iff_getElem]
  have hl := part_len l a b hb
  constructor
  · intro h i j hi hj hij
    have := h (a + i) (a + j) (by omega) (by omega) (by omega)
    rw [← part_get l a b i (by omega), ← part_get l a b j (by omega)] at this
    simpa [List.getD_eq_getElem?_getD, List.getElem?_eq_getElem hi, List.getElem?_eq_getElem hj] using this
  · intro h i j hi hij hj
    have := h (i - a) (j - a) (by omega) (by omega) (by omega)
    have e1 := part_get l a b (i - a) (by omega)
    have e2 := part_get l a b (j - a) (by omega)
    rw [show a + (i - a) = i by omega] at e1
    rw [show a + (j - a) = j by omega] at e2
    rw [← e1, ← e2]
    simpa [List.getD_eq_getElem?_getD, List.getElem?_eq_getElem (show i - a < (part l a b).length by omega), List.getElem?_eq_getElem (show j - a < (part l a b).length by omega)] using this
theorem same_append {l l' m m' : List Nat} (h1 : same K l l') (h2 : same K m m') : same K (l ++ m) (l' ++ m') := by
  intro k; rw [List.filter_append, List.filter_append, h1 k, h2 k]
theorem srt_unique {l m : List Nat} {a b : Nat} (hab : a ≤ b) (hb : b ≤ l.length) (h : Rel K a b l m) (hs : SR K m a b) : m = srt K l a b := by
  have hbm : b ≤ m.length := by rw [h.len]; exact hb
  have e1 : m.take a = l.take a := by
    refine ext_getD (by simp [h.len]) fun i hi => ?_
    have hi' : i < a := by simp at hi; omega
    rw [getD_takeR _ _ _ hi', getD_takeR _ _ _ hi']
    exact h.out i (.inl hi')
  have e2 : m.drop b = l.drop b := by
    refine ext_getD (by simp [h.len]) fun i hi => ?_
    rw [getD_drop', getD_drop']
    exact h.out _ (.inr (by omega))
  have hp : same K (part l a b) (part m a b) := by
    intro k
    have := h.cls k
    rw [split3 m a b hab hbm, split3 l a b hab hb, e1, e2] at this
    simp only [List.filter_append] at this
    have := List.append_cancel_left this
    exact List.append_cancel_right this
  have : part m a b = sortM K (part l a b) := by
    refine sort_unique ((SR_pairwise hbm).1 hs) (sortM_sorted _) fun k => ?_
    rw [sortM_same, hp k]
  rw [split3 m a b hab hbm, e1, e2, this]; rfl
theorem srt_rel {l : List Nat} {a b : Nat} (hab : a ≤ b) (hb : b ≤ l.length) : Rel K a b l (srt K l a b) ∧ SR K (srt K l a b) a b := by
  have hl : (sortM K (part l a b)).length = b - a := by rw [same_len (sortM_same _), part_len _ _ _ hb]
  have hlen : (srt K l a b).length = l.length := by simp [srt, hl]; omega
  have hta : (l.take a).length = a := by simp; omega
  have hg : ∀ i, a ≤ i → i < b → (srt K l a b).getD i 0 = (sortM K (part l a b)).getD (i - a) 0 := by
    intro i h1 h2
    simp only [srt, List.getD_eq_getElem?_getD]
    rw [List.getElem?_append_right (by omega), List.getElem?_append_left (by omega), hta]
  have hpart : part (srt K l a b) a b = sortM K (part l a b) := by
    refine ext_getD (by rw [part_len _ _ _ (by omega), hl]) fun i hi => ?_
    rw [part_len _ _ _ (by omega)] at hi
    rw [part_get _ _ _ _ (by omega), hg _ (by omega) (by omega), Nat.add_sub_cancel_left]
  refine ⟨⟨hlen, fun i hi => ?_, fun p hp i h1 h2 => ?_, ?_⟩, ?_⟩
  · rcases hi with hi | hi
    · simp only [srt, List.getD_eq_getElem?_getD]
      rw [List.getElem?_append_left (by omega), List.getElem?_take, if_pos hi]
    · simp only [srt, List.getD_eq_getElem?_getD]
      rw [List.getElem?_append_right (by omega), List.getElem?_append_right (by omega), List.getElem?_drop, hta, hl]
      congr 2; omega
  · rw [hg i h1 h2]
    have hm : (sortM K (part l a b)).getD (i - a) 0 ∈ part l a b := (same_mem (sortM_same _)).1 (getD_mem (by omega))
    obtain ⟨j, hj, hje⟩ := mem_getD hm
    rw [part_len _ _ _ hb] at hj
    rw [← hje, part_get _ _ _ _ (by omega)]
    exact hp _ (by omega) (by omega)
  · conv => arg 2; rw [split3 l a b hab hb]
    exact same_append (fun _ => rfl) (same_append (sortM_same _) (fun _ => rfl))
  · rw [SR_pairwise (by omega), hpart]; exact sortM_sorted _
theorem srt_len (l : List Nat) (a b : Nat) (hab : a ≤ b) (hb : b ≤ l.length) : (srt K l a b).length = l.length := (srt_rel (K := K) hab hb).1.len
theorem srt_all (l : List Nat) : srt K l 0 l.length = sortM K l := by simp [srt, part]
theorem srt_nop {l : List Nat} {a b : Nat} (hab : a ≤ b) (hb : b ≤ l.length) (h : SR K l a b) : srt K l a b = l := (srt_unique hab hb (Rel.refl a b l) h).symm
theorem srt_small (l : List Nat) (a b : Nat) (h1 : a ≤ b) (h2 : b ≤ a + 1) (hb : b ≤ l.length) : srt K l a b = l := srt_nop h1 hb fun i j h3 h4 h5 => by omega
end
end Go.Proofs.LV
