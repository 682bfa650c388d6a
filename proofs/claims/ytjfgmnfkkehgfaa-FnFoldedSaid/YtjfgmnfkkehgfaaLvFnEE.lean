/- Dates, weeks, Easter. -/
import Derived.Test.YtjfgmnfkkehgfaaLvFnH
namespace Go.Proofs.LV
open Go
set_option linter.unusedVariables false
set_option linter.unusedSimpArgs false

abbrev PU (p : List Nat) (xs : List Int) : AV := .sl (.par p) 0 (.i .u8 xs)
/-- bytes -/
def Byt (xs : List Int) : Prop := ∀ i, 0 ≤ xs.getD i 0 ∧ xs.getD i 0 ≤ 255


def atM (cs : List Int) (k n : Int) : Int := if n ≤ 1 ∨ (cs.length : Int) ≤ k then 0 else (cs.getD k.toNat 0).tmod n




def moB (m : Int) : Int := [31, 28, 31, 30, 31, 30, 31, 31, 30, 31, 30, 31].getD (m - 1).toNat 0
def moM (y m : Int) : Int := if m = 2 ∧ leapM y = true then moB m + 1 else moB m


/-- the days of the first k months -/
def cumM (y : Int) (k : Nat) : Int := sumN k fun i => moM y (1 + i)
def dayM (y m d : Int) : Int := yearM y + d - 1 + cumM y (m - 1).toNat


/-- the year of a day -/
def yoK (n : Int) : Nat := (List.range 299).findIdx fun (k : Nat) => decide (n < yearM (1901 + (k : Int)))
def yoM (n : Int) : Int := 1900 + (yoK n : Int)
def yaM (n : Int) : Int := if 2000 + n.tdiv 366 ≤ yoM n then 2000 + n.tdiv 366 else yoM n

/-- the month, less 1, in which day d of a year is -/
def mfM (y d : Int) : Nat := (List.range 11).findIdx fun (k : Nat) => decide (d ≤ cumM y (k + 1))


def thuM (n : Int) : Int := n - weekM n + 3

def eaH (y : Int) : Int := (19 * y.tmod 19 + y.tdiv 100 - (y.tdiv 100).tdiv 4 - (y.tdiv 100 - (y.tdiv 100 + 8).tdiv 25 + 1).tdiv 3 + 15).tmod 30
def eaL (y : Int) : Int := (32 + 2 * (y.tdiv 100).tmod 4 + 2 * (y.tmod 100).tdiv 4 - eaH y - (y.tmod 100).tmod 4).tmod 7
def eaM (y : Int) : Int := (y.tmod 19 + 11 * eaH y + 22 * eaL y).tdiv 451
def eaS (y : Int) : Int := eaH y + eaL y - 7 * eaM y + 114

def wiM (y m w c : Int) : Int := dayM y m 1 + (w - weekM (dayM y m 1) + 7).tmod 7 + 7 * (c - 1)

theorem in_true {n a b : Int} (h : a ≤ n ∧ n ≤ b) : inM n a b = true := by simp [inM]; exact h
theorem moB_le (m : Int) (hm : 1 ≤ m ∧ m ≤ 12) : 28 ≤ moB m ∧ moB m ≤ 31 ∧ moB m ≠ 29 ∧ (m = 2 → moB m = 28) := by
  have : m = 1 ∨ m = 2 ∨ m = 3 ∨ m = 4 ∨ m = 5 ∨ m = 6 ∨ m = 7 ∨ m = 8 ∨ m = 9 ∨ m = 10 ∨ m = 11 ∨ m = 12 := by omega
  rcases this with rfl | rfl | rfl | rfl | rfl | rfl | rfl | rfl | rfl | rfl | rfl | rfl <;> decide
theorem moM_le (y m : Int) (hm : 1 ≤ m ∧ m ≤ 12) : 28 ≤ moM y m ∧ moM y m ≤ 31 ∧ (moM y m = 29 ↔ m = 2 ∧ leapM y = true) := by
  obtain ⟨h1, h2, h3, h4⟩ := moB_le m hm
  unfold moM
  split
  · rename_i h; have := h4 h.1; refine ⟨by omega, by omega, ⟨fun _ => h, fun _ => by omega⟩⟩
  · rename_i h; exact ⟨h1, h2, ⟨fun e => absurd e h3, fun e => absurd e h⟩⟩
theorem year_step {y : Int} (hy : 1900 ≤ y ∧ y ≤ 2199) : yearM (y + 1) = yearM y + longM y := by
  unfold yearM
  rcases Int.lt_or_le y 2000 with h | h
  · obtain ⟨k, hk⟩ : ∃ k : Nat, (2000 - y).toNat = k + 1 := ⟨(1999 - y).toNat, by omega⟩
    rw [show (y + 1 - 2000).toNat = 0 by omega, show (y - 2000).toNat = 0 by omega, hk, show (2000 - (y + 1)).toNat = k by omega]
    have : (sumN (k + 1) fun i => longM (1999 - (i : Int))) = (sumN k fun i => longM (1999 - (i : Int))) + longM (1999 - k) := rfl
    rw [this, show (1999 : Int) - k = y by omega]
    omega
  · obtain ⟨k, hk⟩ : ∃ k : Nat, (y - 2000).toNat = k := ⟨_, rfl⟩
    rw [show (y + 1 - 2000).toNat = k + 1 by omega, hk, show (2000 - (y + 1)).toNat = 0 by omega, show (2000 - y).toNat = 0 by omega]
    have : (sumN (k + 1) fun i => longM (2000 + (i : Int))) = (sumN k fun i => longM (2000 + (i : Int))) + longM (2000 + k) := rfl
    rw [this, show (2000 : Int) + k = y by omega]
    omega
theorem longM_le (y : Int) : 365 ≤ longM y ∧ longM y ≤ 366 := by unfold longM; split <;> omega
/-- years come one behind the other -/
theorem year_far {y : Int} (hy : 1900 ≤ y) : ∀ j : Nat, y + j ≤ 2200 → yearM y + 365 * j ≤ yearM (y + j) ∧ yearM (y + j) ≤ yearM y + 366 * j
  | 0, _ => by simp
  | j + 1, h => by
    obtain ⟨h1, h2⟩ := year_far hy j (by omega)
    have := year_step (y := y + j) (by omega)
    have := longM_le (y + j)
    rw [show y + ((j + 1 : Nat) : Int) = y + j + 1 by omega]
    omega
theorem year_far' {y z : Int} (hy : 1900 ≤ y) (hz : z ≤ 2200) (h : y ≤ z) : yearM y + 365 * (z - y) ≤ yearM z ∧ yearM z ≤ yearM y + 366 * (z - y) := by
  have := year_far hy (z - y).toNat (by omega)
  rw [show y + ((z - y).toNat : Int) = z by omega, show ((z - y).toNat : Int) = z - y by omega] at this
  exact this
theorem year_1900 : yearM 1900 = -36524 := by decide +kernel
theorem year_2200 : yearM 2200 = 73049 := by decide +kernel
theorem year_2000 : yearM 2000 = 0 := by decide +kernel
theorem yo_spec {n : Int} (hn : -36524 ≤ n ∧ n ≤ 73048) : 1900 ≤ yoM n ∧ yoM n ≤ 2199 ∧ yearM (yoM n) ≤ n ∧ n < yearM (yoM n + 1) := by
  have hl : yoK n ≤ 299 := by
    have := List.findIdx_le_length (p := fun (k : Nat) => decide (n < yearM (1901 + (k : Int)))) (xs := List.range 299)
    simpa [yoK] using this
  have h1 : ∀ k, k < yoK n → yearM (1901 + (k : Int)) ≤ n := by
    intro k hk
    have := findIdx_not (p := fun (k : Nat) => decide (n < yearM (1901 + (k : Int)))) (xs := List.range 299) 0 hk (by simp; omega)
    rw [range_getD _ _ (by omega)] at this
    have := of_decide_eq_false this
    omega
  unfold yoM
  refine ⟨by omega, by omega, ?_, ?_⟩
  · rcases Nat.eq_zero_or_pos (yoK n) with h | h
    · rw [h]; simp [year_1900]; omega
    · have := h1 (yoK n - 1) (by omega)
      rw [show (1900 : Int) + yoK n = 1901 + (yoK n - 1 : Nat) by omega]
      exact this
  · rcases Nat.lt_or_ge (yoK n) 299 with h | h
    · have := findIdx_is (p := fun (k : Nat) => decide (n < yearM (1901 + (k : Int)))) (xs := List.range 299) 0 (by simpa [yoK] using h)
      have e : (List.range 299).findIdx (fun (k : Nat) => decide (n < yearM (1901 + (k : Int)))) = yoK n := rfl
      rw [e, range_getD _ _ h] at this
      have := of_decide_eq_true this
      rw [show (1900 : Int) + yoK n + 1 = 1901 + yoK n by omega]
      exact this
    · rw [show yoK n = 299 by omega]
      show n < yearM 2200
      rw [year_2200]; omega
/-- the year of a day is what it is between -/
theorem yo_le {n y : Int} (hn : -36524 ≤ n ∧ n ≤ 73048) (hy : 1900 ≤ y ∧ y ≤ 2200) : yearM y ≤ n ↔ y ≤ yoM n := by
  obtain ⟨h1, h2, h3, h4⟩ := yo_spec hn
  constructor
  · intro h
    rcases Int.lt_or_le (yoM n) y with h5 | h5
    · have := year_far' (y := yoM n + 1) (z := y) (by omega) (by omega) (by omega)
      omega
    · exact h5
  · intro h
    have := year_far' (y := y) (z := yoM n) (by omega) (by omega) h
    omega
theorem yo_is {n y : Int} (hn : -36524 ≤ n ∧ n ≤ 73048) (hy : 1900 ≤ y ∧ y ≤ 2199) (h1 : yearM y ≤ n) (h2 : n < yearM (y + 1)) : yoM n = y := by
  have h3 := (yo_le hn (y := y) (by omega)).1 h1
  have h4 := mt (yo_le hn (y := y + 1) (by omega)).2 (by omega)
  omega
theorem cum_eq (y : Int) (k : Nat) (hk : k ≤ 12) : cumM y k = [0, 31, 59, 90, 120, 151, 181, 212, 243, 273, 304, 334, 365].getD k 0 + (if 2 ≤ k ∧ leapM y = true then 1 else 0) := by
  have : k = 0 ∨ k = 1 ∨ k = 2 ∨ k = 3 ∨ k = 4 ∨ k = 5 ∨ k = 6 ∨ k = 7 ∨ k = 8 ∨ k = 9 ∨ k = 10 ∨ k = 11 ∨ k = 12 := by omega
  rcases this with rfl | rfl | rfl | rfl | rfl | rfl | rfl | rfl | rfl | rfl | rfl | rfl | rfl <;> cases hl : leapM y <;> simp [cumM, sumN, moM, moB, hl]
theorem cum_next (y : Int) (k : Nat) : cumM y (k + 1) = cumM y k + moM y (1 + k) := rfl
theorem cum_12 (y : Int) : cumM y 12 = longM y := by
  rw [cum_eq y 12 (by omega)]; unfold longM; cases leapM y <;> simp
theorem cum_bound (y : Int) (k : Nat) (hk : k ≤ 12) : 0 ≤ cumM y k ∧ cumM y k ≤ 31 * k := by
  induction k with
  | zero => simp [cumM, sumN]
  | succ k ih =>
    have := ih (by omega)
    have := moM_le y (1 + k) (by omega)
    rw [cum_next]; omega
theorem year_bound {y : Int} (hy : 1900 ≤ y ∧ y ≤ 2200) : -36524 ≤ yearM y ∧ yearM y ≤ 73049 := by
  have h1 := year_far' (y := 1900) (z := y) (by omega) (by omega) (by omega)
  have h2 := year_far' (y := y) (z := 2200) (by omega) (by omega) (by omega)
  rw [year_1900] at h1
  rw [year_2200] at h2
  omega
theorem mf_spec {y d : Int} (hd : 1 ≤ d ∧ d ≤ longM y) : mfM y d ≤ 11 ∧ (∀ k, k < mfM y d → cumM y (k + 1) < d) ∧ d ≤ cumM y (mfM y d + 1) ∧ 1 ≤ d - cumM y (mfM y d) := by
  have hl : mfM y d ≤ 11 := by
    have := List.findIdx_le_length (p := fun (k : Nat) => decide (d ≤ cumM y (k + 1))) (xs := List.range 11)
    simpa [mfM] using this
  have h1 : ∀ k, k < mfM y d → cumM y (k + 1) < d := by
    intro k hk
    have := findIdx_not (p := fun (k : Nat) => decide (d ≤ cumM y (k + 1))) (xs := List.range 11) 0 hk (by simp; omega)
    rw [range_getD _ _ (by omega)] at this
    have := of_decide_eq_false this
    omega
  refine ⟨hl, h1, ?_, ?_⟩
  · rcases Nat.lt_or_ge (mfM y d) 11 with h | h
    · have := findIdx_is (p := fun (k : Nat) => decide (d ≤ cumM y (k + 1))) (xs := List.range 11) 0 (by simpa [mfM] using h)
      have e : (List.range 11).findIdx (fun (k : Nat) => decide (d ≤ cumM y (k + 1))) = mfM y d := rfl
      rw [e, range_getD _ _ h] at this
      exact of_decide_eq_true this
    · rw [show mfM y d = 11 by omega, cum_12]; exact hd.2
  · rcases Nat.eq_zero_or_pos (mfM y d) with h | h
    · rw [h]; simp [cumM, sumN]; omega
    · have := h1 (mfM y d - 1) (by omega)
      rw [show mfM y d - 1 + 1 = mfM y d by omega] at this
      omega
theorem week_le (n : Int) : 0 ≤ weekM n ∧ weekM n ≤ 6 := by rw [week_eq]; omega
theorem all_years {p : Int → Prop} (h : ∀ k : Nat, k < 300 → p (1900 + (k : Int))) : ∀ y, 1900 ≤ y ∧ y ≤ 2199 → p y := by
  intro y hy
  have := h (y - 1900).toNat (by omega)
  rwa [show (1900 : Int) + ((y - 1900).toNat : Nat) = y by omega] at this
theorem tup_day {y A B A' B' : Int} (h1 : A = A') (h2 : B = B') : AV.tup [.i .i64 (dayM y A B), .b true] = AV.tup [.i .i64 (dayM y A' B'), .b true] := by rw [h1, h2]
end Go.Proofs.LV
