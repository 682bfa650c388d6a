/- The stable sort as a whole: blocks put in order, then merged by twos: the one list in order. -/
import Derived.Test.YtjfgmnfkkehgfaaLvSortX
namespace Go.Proofs.LV
open Go
set_option linter.unusedVariables false
set_option linter.unusedSimpArgs false

section
variable (K : Nat → Int)
/-- the first k blocks of 20 put in order -/
def insB (xs : List Nat) : Nat → List Nat
  | 0 => xs
  | k + 1 => srt K (insB xs k) (20 * k) (20 * k + 20)
/-- the first k pairs of blocks merged -/
def mrgB (s : Nat) (D : List Nat) : Nat → List Nat
  | 0 => D
  | k + 1 => srt K (mrgB s D k) (2 * s * k) (2 * s * k + 2 * s)
/-- all pairs of blocks merged, and what is left -/
def pass (s : Nat) (D : List Nat) : List Nat :=
  if 2 * s * (D.length / (2 * s)) + s < D.length then srt K (mrgB K s D (D.length / (2 * s))) (2 * s * (D.length / (2 * s))) D.length else mrgB K s D (D.length / (2 * s))
def passes : Nat → Nat → List Nat → List Nat
  | 0, s, D => D
  | f + 1, s, D => if s < D.length then passes f (2 * s) (pass K s D) else D
/-- blocks of s are in order -/
def Blk (s : Nat) (D : List Nat) : Prop := ∀ j, SR K D (s * j) (min (s * j + s) D.length)
variable {K}

theorem SR_keep {l m : List Nat} {a b x y : Nat} (h : Rel K a b l m) (hd : y ≤ a ∨ b ≤ x) (hs : SR K l x y) : SR K m x y := by
  intro i j hi hij hj
  rw [h.out i (by omega), h.out j (by omega)]
  exact hs i j hi hij hj
theorem insB_ok (xs : List Nat) : ∀ k, 20 * k ≤ xs.length → Rel K 0 xs.length xs (insB K xs k) ∧ ∀ j, j < k → SR K (insB K xs k) (20 * j) (20 * j + 20)
  | 0, h => ⟨Rel.refl _ _ _, fun j hj => by omega⟩
  | k + 1, h => by
    obtain ⟨r, s⟩ := insB_ok xs k (by omega)
    obtain ⟨q, t⟩ := srt_rel (K := K) (l := insB K xs k) (a := 20 * k) (b := 20 * k + 20) (by omega) (by rw [r.len]; omega)
    refine ⟨r.trans (q.widen (by omega) (by omega)), fun j hj => ?_⟩
    by_cases hk : j = k
    · subst hk; exact t
    · exact SR_keep q (by omega) (s j (by omega))
theorem mrgB_ok {s : Nat} {D : List Nat} (hs : 0 < s) (hb : Blk K s D) : ∀ k, 2 * s * k ≤ D.length → Rel K 0 D.length D (mrgB K s D k) ∧ (∀ j, j < k → SR K (mrgB K s D k) (2 * s * j) (2 * s * j + 2 * s)) ∧
    (∀ j, 2 * k ≤ j → SR K (mrgB K s D k) (s * j) (min (s * j + s) D.length))
  | 0, h => ⟨Rel.refl _ _ _, fun j hj => by omega, fun j hj => hb j⟩
  | k + 1, h => by
    have e : 2 * s * (k + 1) = 2 * s * k + 2 * s := Nat.mul_succ _ _
    rw [e] at h
    obtain ⟨r, t, u⟩ := mrgB_ok hs hb k (by omega)
    obtain ⟨q, t2⟩ := srt_rel (K := K) (l := mrgB K s D k) (a := 2 * s * k) (b := 2 * s * k + 2 * s) (by omega) (by rw [r.len]; omega)
    refine ⟨r.trans (q.widen (by omega) (by omega)), fun j hj => ?_, fun j hj => ?_⟩
    · by_cases hk : j = k
      · subst hk; exact t2
      · refine SR_keep q (.inl ?_) (t j (by omega))
        have : 2 * s * (j + 1) ≤ 2 * s * k := Nat.mul_le_mul_left _ (by omega)
        rw [Nat.mul_succ] at this
        exact this
    · refine SR_keep q (.inr ?_) (u j (by omega))
      have : s * (2 * k + 2) ≤ s * j := Nat.mul_le_mul_left _ (by omega)
      have e2 : s * (2 * k + 2) = 2 * s * k + 2 * s := by rw [Nat.mul_add, ← Nat.mul_assoc, Nat.mul_comm s 2]
      omega
/-- what the two halves of pair k are, ahead of its merge -/
theorem mrgB_pair {s k : Nat} {D : List Nat} (hs : 0 < s) (hb : Blk K s D) (h : 2 * s * k + 2 * s ≤ D.length) : SR K (mrgB K s D k) (2 * s * k) (2 * s * k + s) ∧ SR K (mrgB K s D k) (2 * s * k + s) (2 * s * k + 2 * s) := by
  obtain ⟨r, t, u⟩ := mrgB_ok hs hb k (by omega)
  have u1 := u (2 * k) (Nat.le_refl _)
  have u2 := u (2 * k + 1) (by omega)
  have e1 : s * (2 * k) = 2 * s * k := by rw [← Nat.mul_assoc, Nat.mul_comm s 2]
  have e2 : s * (2 * k + 1) = 2 * s * k + s := by rw [Nat.mul_succ, e1]
  rw [e1, Nat.min_eq_left (by omega)] at u1
  rw [e2, Nat.min_eq_left (by omega)] at u2
  exact ⟨u1, by rw [show 2 * s * k + 2 * s = 2 * s * k + s + s by omega]; exact u2⟩
/-- the pair at the end, whose second half is short -/
theorem mrgB_tail {s k : Nat} {D : List Nat} (hs : 0 < s) (hb : Blk K s D) (h : 2 * s * k + s < D.length) (h2 : D.length < 2 * s * k + 2 * s) : SR K (mrgB K s D k) (2 * s * k) (2 * s * k + s) ∧ SR K (mrgB K s D k) (2 * s * k + s) D.length := by
  obtain ⟨r, t, u⟩ := mrgB_ok hs hb k (by omega)
  have u1 := u (2 * k) (Nat.le_refl _)
  have u2 := u (2 * k + 1) (by omega)
  have e1 : s * (2 * k) = 2 * s * k := by rw [← Nat.mul_assoc, Nat.mul_comm s 2]
  have e2 : s * (2 * k + 1) = 2 * s * k + s := by rw [Nat.mul_succ, e1]
  rw [e1, Nat.min_eq_left (by omega)] at u1
  rw [e2, Nat.min_eq_right (by omega)] at u2
  exact ⟨u1, u2⟩
theorem div_bounds {n s : Nat} (hs : 0 < s) : 2 * s * (n / (2 * s)) ≤ n ∧ n < 2 * s * (n / (2 * s)) + 2 * s := by
  have h1 := Nat.div_add_mod n (2 * s)
  have h2 := Nat.mod_lt n (show 0 < 2 * s by omega)
  omega
theorem pass_ok {s : Nat} {D : List Nat} (hs : 0 < s) (hb : Blk K s D) : Rel K 0 D.length D (pass K s D) ∧ Blk K (2 * s) (pass K s D) := by
  obtain ⟨d1, d2⟩ := div_bounds (n := D.length) hs
  unfold pass
  generalize D.length / (2 * s) = k at *
  obtain ⟨r, t, u⟩ := mrgB_ok hs hb k d1
  split
  · rename_i h
    obtain ⟨q, t2⟩ := srt_rel (K := K) (l := mrgB K s D k) (a := 2 * s * k) (b := D.length) (by omega) (by rw [r.len]; omega)
    refine ⟨r.trans (q.widen (by omega) (by omega)), fun j => ?_⟩
    rw [q.len, r.len]
    rcases Nat.lt_trichotomy j k with hj | hj | hj
    · have : 2 * s * (j + 1) ≤ 2 * s * k := Nat.mul_le_mul_left _ (by omega)
      rw [Nat.mul_succ] at this
      rw [Nat.min_eq_left (by omega)]
      exact SR_keep q (.inl this) (t j hj)
    · subst hj
      rw [Nat.min_eq_right (by omega)]
      exact t2
    · have : 2 * s * (k + 1) ≤ 2 * s * j := Nat.mul_le_mul_left _ (by omega)
      rw [Nat.mul_succ] at this
      intro i i2 h1 h2 h3
      omega
  · rename_i h
    refine ⟨r, fun j => ?_⟩
    rw [r.len]
    rcases Nat.lt_trichotomy j k with hj | hj | hj
    · have : 2 * s * (j + 1) ≤ 2 * s * k := Nat.mul_le_mul_left _ (by omega)
      rw [Nat.mul_succ] at this
      rw [Nat.min_eq_left (by omega)]
      exact t j hj
    · subst hj
      have u1 := u (2 * j) (Nat.le_refl _)
      have e1 : s * (2 * j) = 2 * s * j := by rw [← Nat.mul_assoc, Nat.mul_comm s 2]
      rw [e1, Nat.min_eq_right (by omega)] at u1
      rw [Nat.min_eq_right (by omega)]
      exact u1
    · have : 2 * s * (k + 1) ≤ 2 * s * j := Nat.mul_le_mul_left _ (by omega)
      rw [Nat.mul_succ] at this
      intro i i2 h1 h2 h3
      omega
theorem passes_ok : ∀ (f s : Nat) (D : List Nat), 0 < s → Blk K s D → D.length ≤ s * 2 ^ f → Rel K 0 D.length D (passes K f s D) ∧ SR K (passes K f s D) 0 D.length
  | 0, s, D, hs, hb, hl => by
    refine ⟨Rel.refl _ _ _, ?_⟩
    have := hb 0
    rw [Nat.mul_zero, Nat.zero_add, Nat.min_eq_right (by omega)] at this
    exact this
  | f + 1, s, D, hs, hb, hl => by
    unfold passes
    split
    · obtain ⟨r, t⟩ := pass_ok hs hb
      obtain ⟨r2, t2⟩ := passes_ok f (2 * s) (pass K s D) (by omega) t (by rw [r.len]; rw [Nat.pow_succ] at hl; rw [Nat.mul_comm 2 s, Nat.mul_assoc, Nat.mul_comm 2]; exact hl)
      rw [r.len] at r2 t2
      exact ⟨r.trans r2, t2⟩
    · rename_i h
      refine ⟨Rel.refl _ _ _, ?_⟩
      have := hb 0
      rw [Nat.mul_zero, Nat.zero_add, Nat.min_eq_right (by omega)] at this
      exact this
/-- blocks of 20, all in order -/
def blocks (K : Nat → Int) (xs : List Nat) : List Nat := srt K (insB K xs (xs.length / 20)) (20 * (xs.length / 20)) xs.length
theorem blocks_ok (xs : List Nat) : Rel K 0 xs.length xs (blocks K xs) ∧ Blk K 20 (blocks K xs) := by
  have h1 : 20 * (xs.length / 20) ≤ xs.length := by omega
  have h2 : xs.length < 20 * (xs.length / 20) + 20 := by omega
  unfold blocks
  generalize xs.length / 20 = k at *
  obtain ⟨r, s⟩ := insB_ok (K := K) xs k h1
  obtain ⟨q, t⟩ := srt_rel (K := K) (l := insB K xs k) (a := 20 * k) (b := xs.length) (by omega) (by rw [r.len]; omega)
  refine ⟨r.trans (q.widen (by omega) (by omega)), fun j => ?_⟩
  rw [q.len, r.len]
  rcases Nat.lt_trichotomy j k with hj | hj | hj
  · rw [Nat.min_eq_left (by omega)]
    exact SR_keep q (by omega) (s j hj)
  · subst hj
    rw [Nat.min_eq_right (by omega)]
    exact t
  · intro i i2 h3 h4 h5
    omega
/-- THE SORT -/
theorem stable_ok (xs : List Nat) (f : Nat) (hf : xs.length ≤ 20 * 2 ^ f) : passes K f 20 (blocks K xs) = sortM K xs := by
  obtain ⟨r, b⟩ := blocks_ok (K := K) xs
  obtain ⟨r2, s⟩ := passes_ok f 20 (blocks K xs) (by omega) b (by rw [r.len]; exact hf)
  rw [r.len] at r2 s
  rw [← srt_all]
  exact srt_unique (by omega) (Nat.le_refl _) (r.trans r2) s
end
end Go.Proofs.LV
