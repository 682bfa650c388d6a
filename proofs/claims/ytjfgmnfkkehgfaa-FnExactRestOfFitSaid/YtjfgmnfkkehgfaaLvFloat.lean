/- Floats with one not-a-number: the operations of the model on words, seen through 'canon'. -/
import Derived.Test.YtjfgmnfkkehgfaaLvDefs
import Derived.Laws.FloatBits
import Derived.Laws.FloatArith
namespace Go.Proofs.LV
open Go Ieee
set_option linter.unusedVariables false
set_option linter.unusedSimpArgs false

theorem nan_fnan (k : FloatKind) : (k.format.read (fnan k)).isNaN = true := by cases k <;> decide +kernel
theorem fnan_lt (k : FloatKind) : fnan k < 2 ^ k.format.width := by cases k <;> decide +kernel

theorem read_canon (k : FloatKind) (b : Nat) : (k.format.read b).isNaN = true ∧ (k.format.read (canon k b)).isNaN = true ∨ canon k b = b := by
  unfold canon
  split
  · rename_i h; exact .inl ⟨h, nan_fnan k⟩
  · exact .inr rfl

theorem canon_lt {k : FloatKind} {b : Nat} (h : b < 2 ^ k.format.width) : canon k b < 2 ^ k.format.width := by
  unfold canon; split
  · exact fnan_lt k
  · exact h

theorem canon_canon (k : FloatKind) (b : Nat) : canon k (canon k b) = canon k b := by
  unfold canon
  split
  · simp [nan_fnan]
  · rename_i h; simp [h]

/-! ### a not-a-number among the operands -/
theorem sum_nan {x y : Datum} (h : x.isNaN = true ∨ y.isNaN = true) : x.sum y = none := by
  cases x <;> cases y <;> simp_all [Datum.isNaN, Datum.sum]
theorem product_nan {x y : Datum} (h : x.isNaN = true ∨ y.isNaN = true) : x.product y = none := by
  cases x <;> cases y <;> simp_all [Datum.isNaN, Datum.product]
theorem quotient_nan {n : Nat} {x y : Datum} (h : x.isNaN = true ∨ y.isNaN = true) : x.quotient n y = none := by
  cases x <;> cases y <;> simp_all [Datum.isNaN, Datum.quotient]
theorem order_nan {x y : Datum} (h : x.isNaN = true ∨ y.isNaN = true) : x.order y = none := by
  cases x <;> cases y <;> simp_all [Datum.isNaN, Datum.order]
theorem opposite_nan (x : Datum) : x.opposite.isNaN = x.isNaN := by cases x <;> rfl

theorem lift2 {β : Type} (D : Datum → Datum → Option β) (hD : ∀ x y, x.isNaN = true ∨ y.isNaN = true → D x y = none) (k : FloatKind) (a b : Nat) :
    D (k.format.read (canon k a)) (k.format.read (canon k b)) = D (k.format.read a) (k.format.read b) := by
  rcases read_canon k a with ⟨h1, h2⟩ | h1
  · rw [hD _ _ (.inl h1), hD _ _ (.inl h2)]
  · rw [h1]
    rcases read_canon k b with ⟨h3, h4⟩ | h3
    · rw [hD _ _ (.inr h3), hD _ _ (.inr h4)]
    · rw [h3]

theorem add_canon (k : FloatKind) (a b : Nat) : k.format.add (canon k a) (canon k b) = k.format.add a b := by
  unfold Format.add; rw [lift2 (fun x y => x.sum y) (fun x y h => sum_nan h)]
theorem sub_canon (k : FloatKind) (a b : Nat) : k.format.sub (canon k a) (canon k b) = k.format.sub a b := by
  unfold Format.sub; rw [lift2 (fun x y => x.sum y.opposite) (fun x y h => sum_nan (by rw [opposite_nan]; exact h))]
theorem mul_canon (k : FloatKind) (a b : Nat) : k.format.mul (canon k a) (canon k b) = k.format.mul a b := by
  unfold Format.mul; rw [lift2 (fun x y => x.product y) (fun x y h => product_nan h)]
theorem div_canon (k : FloatKind) (a b : Nat) : k.format.div (canon k a) (canon k b) = k.format.div a b := by
  unfold Format.div; rw [lift2 (fun x y => x.quotient _ y) (fun x y h => quotient_nan h)]
theorem order_canon (k : FloatKind) (a b : Nat) : k.format.order (canon k a) (canon k b) = k.format.order a b := by
  unfold Format.order; rw [lift2 (fun x y => x.order y) (fun x y h => order_nan h)]

/-! ### what is written is no not-a-number -/
theorem signWeight_pos (f : Format) : 0 < f.signWeight := Nat.two_pow_pos _
theorem binade_pos (f : Format) : 0 < f.binade := Nat.two_pow_pos _

theorem read_word (f : Format) (neg : Bool) (r : Nat) (h : r ≤ f.infRung) : (f.read (f.word neg r)).isNaN = false := by
  have hlt : r < f.signWeight := Nat.lt_of_le_of_lt h f.infRung_lt
  have hm : f.word neg r % f.signWeight = r := by
    unfold Format.word
    split
    · rw [Nat.add_mod_left, Nat.mod_eq_of_lt hlt]
    · exact Nat.mod_eq_of_lt hlt
  unfold Format.read
  simp only [hm]
  split
  · rfl
  · split
    · rfl
    · split
      · rfl
      · omega

theorem read_write (f : Format) (d : Datum) (h : d.isNaN = false) : (f.read (f.write d)).isNaN = false := by
  cases d with
  | number s m e =>
    simp only [Format.write, Format.nearest]
    split
    · exact read_word f _ 0 (Nat.zero_le _)
    · exact read_word f _ _ (Nat.min_le_right _ _)
  | infinity s => exact read_word f _ _ (Nat.le_refl _)
  | nan s t => simp [Datum.isNaN] at h

theorem canon_write (k : FloatKind) (d : Datum) (h : d.isNaN = false) : canon k (k.format.write d) = k.format.write d := by
  unfold canon; rw [if_neg (by simp [read_write _ d h])]

theorem sum_some {x y d : Datum} (h : x.sum y = some d) : d.isNaN = false := by
  cases x <;> cases y <;> simp only [Datum.sum] at h
  all_goals first | (cases h; rfl) | (split at h <;> cases h; rfl) | cases h
theorem product_some {x y d : Datum} (h : x.product y = some d) : d.isNaN = false := by
  cases x <;> cases y <;> simp only [Datum.product] at h
  all_goals first | (cases h; rfl) | (split at h <;> cases h; rfl) | cases h
theorem quotient_some {n : Nat} {x y d : Datum} (h : x.quotient n y = some d) : d.isNaN = false := by
  cases x <;> cases y <;> simp only [Datum.quotient] at h
  all_goals first | (cases h; rfl) | cases h | skip
  split at h
  · split at h <;> cases h; rfl
  · cases h; rfl

theorem map_write_canon {k : FloatKind} {D : Option Datum} {r : Nat} (hD : ∀ d, D = some d → d.isNaN = false) (h : D.map k.format.write = some r) : canon k r = r ∧ r < 2 ^ k.format.width := by
  cases D with
  | none => cases h
  | some d => cases h; exact ⟨canon_write k d (hD d rfl), k.format.write_lt d⟩

theorem add_some {k : FloatKind} {a b r : Nat} (h : k.format.add a b = some r) : canon k r = r ∧ r < 2 ^ k.format.width := map_write_canon (fun d hd => sum_some hd) h
theorem sub_some {k : FloatKind} {a b r : Nat} (h : k.format.sub a b = some r) : canon k r = r ∧ r < 2 ^ k.format.width := map_write_canon (fun d hd => sum_some hd) h
theorem mul_some {k : FloatKind} {a b r : Nat} (h : k.format.mul a b = some r) : canon k r = r ∧ r < 2 ^ k.format.width := map_write_canon (fun d hd => product_some hd) h
theorem div_some {k : FloatKind} {a b r : Nat} (h : k.format.div a b = some r) : canon k r = r ∧ r < 2 ^ k.format.width := map_write_canon (fun d hd => quotient_some hd) h

/-- the not-a-number that the tape gives -/
theorem cut_nan (k : FloatKind) (x y t : Nat) : (k.format.read ((Question.nanBits k x y).cut t)).isNaN = true ∧ (Question.nanBits k x y).cut t < 2 ^ k.format.width := by
  cases k
  · simp only [Question.cut]
    have h1 : t % 2 < 2 := Nat.mod_lt _ (by decide)
    have h2 : t / 2 % (2 ^ 23 - 1) < 2 ^ 23 - 1 := Nat.mod_lt _ (by decide)
    generalize t % 2 = a at *
    generalize t / 2 % (2 ^ 23 - 1) = b at *
    have hw : FloatKind.f32.format.width = 32 := by decide
    refine ⟨?_, by rw [hw]; omega⟩
    have hs : FloatKind.f32.format.signWeight = 2 ^ 31 := by decide
    have hb : FloatKind.f32.format.binade = 2 ^ 23 := by decide
    have hi : FloatKind.f32.format.infRung = 255 * 2 ^ 23 := by decide
    unfold Format.read
    simp only [hs, hb, hi]
    have hm : (a * 2 ^ 31 + 2139095040 + 1 + b) % 2 ^ 31 = 2139095040 + 1 + b := by omega
    rw [hm]
    rw [if_neg (by omega), if_neg (by omega), if_neg (by omega)]
    rfl
  · simp only [Question.cut]
    have h1 : t % 2 < 2 := Nat.mod_lt _ (by decide)
    have h2 : t / 2 % (2 ^ 52 - 1) < 2 ^ 52 - 1 := Nat.mod_lt _ (by decide)
    generalize t % 2 = a at *
    generalize t / 2 % (2 ^ 52 - 1) = b at *
    have hw : FloatKind.f64.format.width = 64 := by decide
    refine ⟨?_, by rw [hw]; omega⟩
    have hs : FloatKind.f64.format.signWeight = 2 ^ 63 := by decide
    have hb : FloatKind.f64.format.binade = 2 ^ 52 := by decide
    have hi : FloatKind.f64.format.infRung = 2047 * 2 ^ 52 := by decide
    unfold Format.read
    simp only [hs, hb, hi]
    have hm : (a * 2 ^ 63 + 9218868437227405312 + 1 + b) % 2 ^ 63 = 9218868437227405312 + 1 + b := by omega
    rw [hm]
    rw [if_neg (by omega), if_neg (by omega), if_neg (by omega)]
    rfl
theorem canon_cut (k : FloatKind) (x y t : Nat) : canon k ((Question.nanBits k x y).cut t) = fnan k := by
  unfold canon; rw [if_pos (cut_nan k x y t).1]

end Go.Proofs.LV
