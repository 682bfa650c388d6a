/- Texts that belong together. -/
import Derived.Test.YtdffgjembkanoaaLvFnDX
namespace Go.Proofs.LV
open Go
set_option linter.unusedVariables false
set_option linter.unusedSimpArgs false

abbrev PI (p : List Nat) (xs : List Int) : AV := .sl (.par p) 0 (.i .i64 xs)
abbrev OI (n : Nat) (xs : List Int) : AV := .sl (.own n) 0 (.i .i64 xs)
def leapM (y : Int) : Bool := (y.tmod 4 == 0 && y.tmod 100 != 0) || y.tmod 400 == 0
def longM (y : Int) : Int := if leapM y = true then 366 else 365
/-- the number of the first day of a year -/
def yearM (y : Int) : Int := sumN (y - 2000).toNat (fun i => longM (2000 + i)) - sumN (2000 - y).toNat (fun i => longM (1999 - i))
def isDayM (n : Int) : Bool := inM n (-36524) 73048
def weekM (n : Int) : Int := ((n + 5).tmod 7 + 7).tmod 7














def upM (xs : List Int) : Bool := allN (xs.length - 1) fun i => decide (xs.getD i 0 < xs.getD (i + 1) 0)
def feastM (xs : List Int) : Bool := decide (xs.length ≤ 32) && (xs.all isDayM && upM xs)




def workM (xs : List Int) (n : Int) : Bool := decide (weekM n < 5) && !(xs.any fun x => n == x)



def one (b : Bool) : Int := if b = true then 1 else 0
/-- the work days among n days from a on -/
def wdM (xs : List Int) (a : Int) (n : Nat) : Int := sumN n fun i => one (workM xs (a + i))
def wdOk (xs : List Int) (a b : Int) : Bool := isDayM a && (isDayM b && (decide (a ≤ b) && feastM xs))
def wdLen (a b : Int) : Nat := (b - a + 1).toNat
def wdWeeks (a b : Int) : Int := (b - a).tdiv 7
/-- weekdays behind the weeks -/
def wdTail (a b : Int) : Int := sumN (b + 1 - (a + 7 * wdWeeks a b)).toNat fun i => one (decide (weekM (a + 7 * wdWeeks a b + i) < 5))
def wdFeast (xs : List Int) (a b : Int) (n : Nat) : Int := sumN n fun j => one (inM (xs.getD j 0) a b && decide (weekM (xs.getD j 0) < 5))



/-- how many days on -/
def wbJ (xs : List Int) (n c : Int) : Nat := (List.range 2101).findIdx fun j => decide (c ≤ wdM xs (n + 1) j)
def wbOk (xs : List Int) (n c : Int) : Bool := isDayM n && (inM c 1 1000 && (feastM xs && isDayM (n + wbJ xs n c)))





theorem leap_ite (y : Int) : (T.ite (leapM y) (T.leaf (AV.i .i64 366)) (T.leaf (AV.i .i64 365))).ok (fun x => x = .i .i64 (longM y)) := ⟨fun h => by simp [T.ok, longM, h], fun h => by simp [T.ok, longM, h]⟩
theorem long_bound (y : Int) : -366 ≤ longM y ∧ longM y ≤ 366 := by unfold longM; split <;> omega
theorem long_sum (f : Nat → Int) (n : Nat) (h : n ≤ 300) : -109800 ≤ sumN n (fun i => longM (f i)) ∧ sumN n (fun i => longM (f i)) ≤ 109800 := by
  have := sumN_bound (B := 366) (f := fun i => longM (f i)) (by omega) n (fun i _ => long_bound _)
  omega
theorem sumN_rev (g : Nat → Int) : ∀ m, (sumN m fun j => g (m - 1 - j)) = sumN m g := by
  have sh : ∀ (g : Nat → Int) m, sumN (m + 1) g = g 0 + sumN m (fun i => g (i + 1)) := by
    intro g m
    induction m with
    | zero => simp [sumN]
    | succ m ih => rw [sumN, ih]; simp only [sumN]; omega
  intro m
  induction m with
  | zero => rfl
  | succ m ih =>
    rw [sh]
    show g (m + 1 - 1 - 0) + (sumN m fun j => g (m + 1 - 1 - (j + 1))) = sumN m g + g m
    rw [← ih, show m + 1 - 1 - 0 = m by omega]
    have : (sumN m fun j => g (m + 1 - 1 - (j + 1))) = sumN m fun j => g (m - 1 - j) := sumN_congr m fun i hi => by rw [show m + 1 - 1 - (i + 1) = m - 1 - i by omega]
    omega
theorem tmod7 (m : Int) : -7 < m.tmod 7 ∧ m.tmod 7 < 7 ∧ m.tmod 7 + 7 * m.tdiv 7 = m := by
  have h1 := Int.tmod_add_mul_tdiv m 7
  have h2 := Int.tmod_lt_of_pos m (show (0 : Int) < 7 by omega)
  have h3 := Int.tmod_lt_of_pos (-m) (show (0 : Int) < 7 by omega)
  rw [Int.neg_tmod] at h3
  omega
theorem week_eq (n : Int) : weekM n = (n + 5) % 7 := by
  unfold weekM
  obtain ⟨h1, h2, h3⟩ := tmod7 (n + 5)
  generalize (n + 5).tmod 7 = t at *
  rw [Int.tmod_eq_emod_of_nonneg (by omega)]
  omega
theorem any_allNI {p : Int → Bool} (xs : List Int) : xs.any p = !allN xs.length fun i => !p (xs.getD i 0) := by
  rw [Bool.eq_iff_iff]
  cases h : allN xs.length (fun i => !p (xs.getD i 0)) with
  | true =>
    have h := allN_iff.1 h
    simp only [Bool.not_true, List.any_eq_true]
    refine ⟨fun ⟨x, hx, hp⟩ => ?_, fun h' => Bool.noConfusion h'⟩
    obtain ⟨j, hj, rfl⟩ := mem_getD_rng 0 hx
    have := h j hj
    rw [hp] at this; cases this
  | false =>
    obtain ⟨i, hi, h1, _⟩ := allN_not h
    simp only [Bool.not_false, List.any_eq_true, iff_true]
    refine ⟨xs.getD i 0, ?_, by simpa using h1⟩
    simp [List.getD, hi]
theorem all_allNI {p : Int → Bool} (xs : List Int) : xs.all p = allN xs.length fun i => p (xs.getD i 0) := by
  have := any_allNI (p := fun x => !p x) xs
  rw [← List.not_all_eq_any_not] at this
  simpa using this
theorem feast_allN (xs : List Int) : (xs.all isDayM && upM xs) = allN xs.length fun i => isDayM (xs.getD i 0) && (!decide (0 < i) || decide (xs.getD (i - 1) 0 < xs.getD i 0)) := by
  rw [Bool.eq_iff_iff, Bool.and_eq_true, all_allNI, allN_iff, allN_iff]
  unfold upM
  rw [allN_iff]
  constructor
  · intro ⟨h1, h2⟩ i hi
    rw [h1 i hi, Bool.true_and]
    by_cases h0 : 0 < i
    · have := h2 (i - 1) (by omega)
      rw [show i - 1 + 1 = i by omega] at this
      rw [this]; simp
    · simp [h0]
  · intro h
    refine ⟨fun i hi => ?_, fun i hi => ?_⟩
    · have := h i hi
      simp only [Bool.and_eq_true] at this
      exact this.1
    · have := h (i + 1) (by omega)
      simp only [Bool.and_eq_true] at this
      have h2 := this.2
      rw [show i + 1 - 1 = i by omega] at h2
      have h3 : decide (0 < i + 1) = true := by simp
      rw [h3] at h2
      simpa using h2
theorem week_five (d : Int) : (sumN 7 fun k => one (decide (weekM (d + k) < 5))) = 5 := by
  obtain ⟨r, hr, hr2⟩ : ∃ r : Nat, (d + 5) % 7 = r ∧ r < 7 := ⟨((d + 5) % 7).toNat, by omega, by omega⟩
  have e : (sumN 7 fun k => one (decide (weekM (d + k) < 5))) = sumN 7 fun k => if (r + k) % 7 < 5 then 1 else 0 := sumN_congr 7 fun k hk => by
    rw [week_eq]; unfold one
    have e2 : (d + (k : Int) + 5) % 7 = ((r + k) % 7 : Nat) := by omega
    rw [e2]
    by_cases h : (r + k) % 7 < 5
    · have : (((r + k) % 7 : Nat) : Int) < 5 := by omega
      simp only [this, h, decide_true, if_true]
    · have : ¬ (((r + k) % 7 : Nat) : Int) < 5 := by omega
      simp only [this, h, decide_false, if_false, Bool.false_eq_true]
  rw [e]
  have all : ∀ r : Fin 7, (sumN 7 fun k => if (r.val + k) % 7 < 5 then (1 : Int) else 0) = 5 := by decide
  exact all ⟨r, hr2⟩
theorem sumN_append (f : Nat → Int) (m : Nat) : ∀ n, sumN (m + n) f = sumN m f + sumN n fun i => f (m + i)
  | 0 => by simp [sumN]
  | n + 1 => by
    show sumN (m + n) f + f (m + n) = _
    rw [sumN_append f m n]; simp only [sumN]; omega
theorem weeks_sum (a : Int) : ∀ w : Nat, (sumN (7 * w) fun i => one (decide (weekM (a + i) < 5))) = 5 * w
  | 0 => rfl
  | w + 1 => by
    rw [show 7 * (w + 1) = 7 * w + 7 by omega, sumN_append, weeks_sum a w]
    have : (sumN 7 fun i => one (decide (weekM (a + (7 * w + i : Nat)) < 5))) = sumN 7 fun i => one (decide (weekM ((a + 7 * w) + i) < 5)) := sumN_congr 7 fun i _ => by
      rw [show a + ((7 * w + i : Nat) : Int) = (a + 7 * w) + i by omega]
    rw [this, week_five]; omega
theorem sumN_swap (t : Nat → Nat → Int) (m : Nat) : ∀ n, (sumN n fun i => sumN m fun j => t i j) = sumN m fun j => sumN n fun i => t i j
  | 0 => by
    have : ∀ m, (sumN m fun _ => (0 : Int)) = 0 := fun m => by induction m with | zero => rfl | succ m ih => simp only [sumN, ih]; rfl
    exact (this m).symm
  | n + 1 => by
    have e : (sumN m fun j => sumN (n + 1) fun i => t i j) = sumN m fun j => (sumN n fun i => t i j) + t n j := rfl
    rw [e, sumN_add, ← sumN_swap t m n]; rfl
theorem sumN_sub (f g : Nat → Int) (n : Nat) : (sumN n fun i => f i - g i) = sumN n f - sumN n g := by
  induction n with
  | zero => rfl
  | succ n ih => simp only [sumN, ih]; omega
theorem sum_hit (p : Int → Bool) (a x : Int) : ∀ n : Nat, (sumN n fun i => one (p (a + i) && (a + i == x))) = one (p x && (decide (a ≤ x) && decide (x < a + n)))
  | 0 => by
    have : ¬ (a ≤ x ∧ x < a + (0 : Nat)) := by omega
    by_cases h : a ≤ x
    · have h2 : ¬ (x < a + (0 : Nat)) := by omega
      simp only [sumN, h2, decide_false, Bool.and_false]; rfl
    · simp only [sumN, h, decide_false, Bool.false_and, Bool.and_false]; rfl
  | n + 1 => by
    show (sumN n fun i => one (p (a + i) && (a + i == x))) + one (p (a + n) && (a + n == x)) = _
    rw [sum_hit p a x n]
    by_cases h : a + (n : Int) = x
    · subst h
      have h1 : ¬ (a + (n : Int) < a + n) := by omega
      have h2 : a ≤ a + (n : Int) := by omega
      have h3 : a + (n : Int) < a + (n + 1 : Nat) := by omega
      simp only [h1, h2, h3, decide_false, decide_true, Bool.and_false, Bool.and_true, beq_self_eq_true]
      simp [one]
    · have h1 : (a + (n : Int) == x) = false := by simpa using h
      rw [h1, Bool.and_false]
      have h2 : decide (x < a + (n : Int)) = decide (x < a + (n + 1 : Nat)) := by
        rw [Bool.eq_iff_iff, decide_eq_true_eq, decide_eq_true_eq]; omega
      rw [h2]; simp [one]
theorem up_lt {xs : List Int} (h : upM xs = true) : ∀ {i j : Nat}, i < j → j < xs.length → xs.getD i 0 < xs.getD j 0 := by
  intro i j hij
  induction j with
  | zero => omega
  | succ j ih =>
    intro hj
    unfold upM at h
    have h1 := of_decide_eq_true (allN_iff.1 h j (by omega))
    rcases Nat.lt_or_eq_of_le (Nat.le_of_lt_succ hij) with h2 | rfl
    · have := ih h2 (by omega); omega
    · exact h1
theorem any_sum {xs : List Int} (h : upM xs = true) (d : Int) : one (xs.any fun x => d == x) = sumN xs.length fun j => one (d == xs.getD j 0) := by
  rw [any_allNI]
  have gen : ∀ m, m ≤ xs.length → (sumN m fun j => one (d == xs.getD j 0)) = one (!allN m fun i => !(d == xs.getD i 0)) := by
    intro m
    induction m with
    | zero => intro _; rfl
    | succ m ih =>
      intro hm
      show (sumN m fun j => one (d == xs.getD j 0)) + one (d == xs.getD m 0) = _
      rw [ih (by omega)]
      show _ = one (!(allN m (fun i => !(d == xs.getD i 0)) && !(d == xs.getD m 0)))
      cases hd : (d == xs.getD m 0) with
      | false => simp [one]
      | true =>
        have hd : d = xs.getD m 0 := by simpa using hd
        have : allN m (fun i => !(d == xs.getD i 0)) = true := allN_iff.2 fun i hi => by
          have := up_lt h hi (by omega)
          simp only [Bool.not_eq_true', beq_eq_false_iff_ne]; omega
        rw [this]; simp [one]
  exact (gen _ (Nat.le_refl _)).symm
/-- the work days are the weekdays less the feasts on weekdays -/
theorem wd_split {xs : List Int} (h : upM xs = true) (a : Int) (n : Nat) : wdM xs a n = (sumN n fun i => one (decide (weekM (a + i) < 5))) - sumN xs.length fun j => one (decide (weekM (xs.getD j 0) < 5) && (decide (a ≤ xs.getD j 0) && decide (xs.getD j 0 < a + n))) := by
  have e1 : wdM xs a n = sumN n fun i => one (decide (weekM (a + i) < 5)) - sumN xs.length fun j => one (decide (weekM (a + i) < 5) && (a + i == xs.getD j 0)) := by
    unfold wdM
    refine sumN_congr n fun i _ => ?_
    unfold workM
    cases hw : decide (weekM (a + i) < 5) with
    | false =>
      have : (sumN xs.length fun j => one (false && (a + (i : Int) == xs.getD j 0))) = 0 := by
        simp only [Bool.false_and]
        induction xs.length with | zero => rfl | succ m ih => simp only [sumN, ih]; rfl
      rw [this]; rfl
    | true =>
      simp only [Bool.true_and]
      rw [← any_sum h]
      cases xs.any fun x => a + (i : Int) == x <;> rfl
  rw [e1, sumN_sub, sumN_swap]
  congr 1
  exact sumN_congr _ fun j _ => sum_hit (fun d => decide (weekM d < 5)) a (xs.getD j 0) n
theorem one_bound (b : Bool) : 0 ≤ one b ∧ one b ≤ 1 := by cases b <;> simp [one]
theorem ones_bound (f : Nat → Bool) : ∀ n : Nat, 0 ≤ (sumN n fun i => one (f i)) ∧ (sumN n fun i => one (f i)) ≤ n
  | 0 => by simp [sumN]
  | n + 1 => by
    have := ones_bound f n
    have := one_bound (f n)
    show 0 ≤ (sumN n fun i => one (f i)) + one (f n) ∧ (sumN n fun i => one (f i)) + one (f n) ≤ (n + 1 : Nat)
    omega
theorem weeks_eq {a b : Int} (h : a ≤ b) : wdWeeks a b = (b - a) / 7 := by
  unfold wdWeeks; rw [Int.tdiv_eq_ediv_of_nonneg (by omega)]
theorem wd_total {xs : List Int} {a b : Int} (h : upM xs = true) (hab : a ≤ b) : wdM xs a (wdLen a b) = 5 * wdWeeks a b + wdTail a b - wdFeast xs a b xs.length := by
  have hw := weeks_eq hab
  obtain ⟨w, hw2⟩ : ∃ w : Nat, wdWeeks a b = w := ⟨(wdWeeks a b).toNat, by omega⟩
  rw [wd_split h]
  congr 1
  · unfold wdTail
    rw [hw2]
    have : wdLen a b = 7 * w + (b + 1 - (a + 7 * (w : Int))).toNat := by unfold wdLen; omega
    rw [this, sumN_append, weeks_sum]
    congr 1
    exact sumN_congr _ fun i _ => by rw [show a + ((7 * w + i : Nat) : Int) = a + 7 * (w : Int) + i by omega]
  · unfold wdFeast
    refine sumN_congr _ fun j _ => ?_
    rw [Bool.and_comm]
    congr 2
    have : (wdLen a b : Int) = b - a + 1 := by unfold wdLen; omega
    rw [this]
    unfold inM
    congr 1
    rw [Bool.eq_iff_iff, decide_eq_true_eq, decide_eq_true_eq]; omega
theorem feast_up {xs : List Int} (h : feastM xs = true) : upM xs = true ∧ xs.length ≤ 32 ∧ ∀ i, i < xs.length → isDayM (xs.getD i 0) = true := by
  unfold feastM at h
  simp only [Bool.and_eq_true, decide_eq_true_eq] at h
  rw [all_allNI] at h
  exact ⟨h.2.2, h.1, allN_iff.1 h.2.1⟩
theorem day_bound {n : Int} (h : isDayM n = true) : -36524 ≤ n ∧ n ≤ 73048 := by simpa [isDayM, inM] using h
theorem wd_next (xs : List Int) (a : Int) (j : Nat) : wdM xs a (j + 1) = wdM xs a j + one (workM xs (a + j)) := rfl
theorem range_getD (n i : Nat) (h : i < n) : (List.range n).getD i 0 = i := by simp [List.getD, h]
theorem wb_spec {xs : List Int} {n c : Int} (h : upM xs = true) (hl : xs.length ≤ 32) (hc : 1 ≤ c ∧ c ≤ 1000) : wbJ xs n c ≤ 2100 ∧ wdM xs (n + 1) (wbJ xs n c) = c ∧ ∀ j, j < wbJ xs n c → wdM xs (n + 1) j < c := by
  have big : c ≤ wdM xs (n + 1) 2100 := by
    rw [wd_split h, show 2100 = 7 * 300 by rfl, weeks_sum]
    have := ones_bound (fun j => decide (weekM (xs.getD j 0) < 5) && (decide (n + 1 ≤ xs.getD j 0) && decide (xs.getD j 0 < n + 1 + (7 * 300 : Nat)))) xs.length
    omega
  have hlt : wbJ xs n c < 2101 := by
    have : (List.range 2101).findIdx (fun j => decide (c ≤ wdM xs (n + 1) j)) < (List.range 2101).length := List.findIdx_lt_length.2 ⟨2100, by simp, by simpa using big⟩
    simpa [wbJ] using this
  have hj : ∀ j, j < wbJ xs n c → wdM xs (n + 1) j < c := by
    intro j hj
    have := findIdx_not (p := fun j => decide (c ≤ wdM xs (n + 1) j)) (xs := List.range 2101) 0 hj (by simp; omega)
    rw [range_getD _ _ (by omega)] at this
    have := of_decide_eq_false this
    omega
  have hJ : c ≤ wdM xs (n + 1) (wbJ xs n c) := by
    have this : decide (c ≤ wdM xs (n + 1) ((List.range 2101).getD (wbJ xs n c) 0)) = true := findIdx_is (p := fun j => decide (c ≤ wdM xs (n + 1) j)) (xs := List.range 2101) 0 (by simpa [wbJ] using hlt)
    rw [range_getD _ _ (show wbJ xs n c < 2101 from hlt)] at this
    exact of_decide_eq_true this
  refine ⟨by omega, ?_, hj⟩
  have : wbJ xs n c ≠ 0 := by
    intro e
    rw [e] at hJ
    have : wdM xs (n + 1) 0 = 0 := rfl
    omega
  have h1 := hj (wbJ xs n c - 1) (by omega)
  have h2 := wd_next xs (n + 1) (wbJ xs n c - 1)
  rw [show wbJ xs n c - 1 + 1 = wbJ xs n c by omega] at h2
  have := one_bound (workM xs (n + 1 + (wbJ xs n c - 1 : Nat)))
  omega
end Go.Proofs.LV

namespace Go.Proofs.LV
open Go
set_option linter.unusedVariables false
set_option linter.unusedSimpArgs false

abbrev PU (p : List Nat) (xs : List Int) : AV := .sl (.par p) 0 (.i .u8 xs)
/-- bytes -/
def Byt (xs : List Int) : Prop := ∀ i, 0 ≤ xs.getD i 0 ∧ xs.getD i 0 ≤ 255


def atM (cs : List Int) (k n : Int) : Int := if n ≤ 1 ∨ (cs.length : Int) ≤ k then 0 else (cs.getD k.toNat 0).tmod n




def moB (m : Int) : Int := [31, 28, 31, 30, 31, 30, 31, 31, 30, 31, 30, 31].getD (m - 1).toNat 0
def moM (y m : Int) : Int := if m = 2 ∧ leapM y = true then moB m + 1 else moB m


/-- the days of the first k months -/
def cumM (y : Int) (k : Nat) : Int := sumN k fun i => moM y (1 + i)
def dayM (y m d : Int) : Int := yearM y + d - 1 + cumM y (m - 1).toNat


/-- the year of a day -/
def yoK (n : Int) : Nat := (List.range 299).findIdx fun (k : Nat) => decide (n < yearM (1901 + (k : Int)))
def yoM (n : Int) : Int := 1900 + (yoK n : Int)
def yaM (n : Int) : Int := if 2000 + n.tdiv 366 ≤ yoM n then 2000 + n.tdiv 366 else yoM n

/-- the month, less 1, in which day d of a year is -/
def mfM (y d : Int) : Nat := (List.range 11).findIdx fun (k : Nat) => decide (d ≤ cumM y (k + 1))


def thuM (n : Int) : Int := n - weekM n + 3

def eaH (y : Int) : Int := (19 * y.tmod 19 + y.tdiv 100 - (y.tdiv 100).tdiv 4 - (y.tdiv 100 - (y.tdiv 100 + 8).tdiv 25 + 1).tdiv 3 + 15).tmod 30
def eaL (y : Int) : Int := (32 + 2 * (y.tdiv 100).tmod 4 + 2 * (y.tmod 100).tdiv 4 - eaH y - (y.tmod 100).tmod 4).tmod 7
def eaM (y : Int) : Int := (y.tmod 19 + 11 * eaH y + 22 * eaL y).tdiv 451
def eaS (y : Int) : Int := eaH y + eaL y - 7 * eaM y + 114

def wiM (y m w c : Int) : Int := dayM y m 1 + (w - weekM (dayM y m 1) + 7).tmod 7 + 7 * (c - 1)

theorem in_true {n a b : Int} (h : a ≤ n ∧ n ≤ b) : inM n a b = true := by simp [inM]; exact h
theorem moB_le (m : Int) (hm : 1 ≤ m ∧ m ≤ 12) : 28 ≤ moB m ∧ moB m ≤ 31 ∧ moB m ≠ 29 ∧ (m = 2 → moB m = 28) := by
  have : m = 1 ∨ m = 2 ∨ m = 3 ∨ m = 4 ∨ m = 5 ∨ m = 6 ∨ m = 7 ∨ m = 8 ∨ m = 9 ∨ m = 10 ∨ m = 11 ∨ m = 12 := by omega
  rcases this with rfl | rfl | rfl | rfl | rfl | rfl | rfl | rfl | rfl | rfl | rfl | rfl <;> decide
theorem moM_le (y m : Int) (hm : 1 ≤ m ∧ m ≤ 12) : 28 ≤ moM y m ∧ moM y m ≤ 31 ∧ (moM y m = 29 ↔ m = 2 ∧ leapM y = true) := by
  obtain ⟨h1, h2, h3, h4⟩ := moB_le m hm
  unfold moM
  split
  · rename_i h; have := h4 h.1; refine ⟨by omega, by omega, ⟨fun _ => h, fun _ => by omega⟩⟩
  · rename_i h; exact ⟨h1, h2, ⟨fun e => absurd e h3, fun e => absurd e h⟩⟩
theorem year_step {y : Int} (hy : 1900 ≤ y ∧ y ≤ 2199) : yearM (y + 1) = yearM y + longM y := by
  unfold yearM
  rcases Int.lt_or_le y 2000 with h | h
  · obtain ⟨k, hk⟩ : ∃ k : Nat, (2000 - y).toNat = k + 1 := ⟨(1999 - y).toNat, by omega⟩
    rw [show (y + 1 - 2000).toNat = 0 by omega, show (y - 2000).toNat = 0 by omega, hk, show (2000 - (y + 1)).toNat = k by omega]
    have : (sumN (k + 1) fun i => longM (1999 - (i : Int))) = (sumN k fun i => longM (1999 - (i : Int))) + longM (1999 - k) := rfl
    rw [this, show (1999 : Int) - k = y by omega]
    omega
  · obtain ⟨k, hk⟩ : ∃ k : Nat, (y - 2000).toNat = k := ⟨_, rfl⟩
    rw [show (y + 1 - 2000).toNat = k + 1 by omega, hk, show (2000 - (y + 1)).toNat = 0 by omega, show (2000 - y).toNat = 0 by omega]
    have : (sumN (k + 1) fun i => longM (2000 + (i : Int))) = (sumN k fun i => longM (2000 + (i : Int))) + longM (2000 + k) := rfl
    rw [this, show (2000 : Int) + k = y by omega]
    omega
theorem longM_le (y : Int) : 365 ≤ longM y ∧ longM y ≤ 366 := by unfold longM; split <;> omega
/-- years come one behind the other -/
theorem year_far {y : Int} (hy : 1900 ≤ y) : ∀ j : Nat, y + j ≤ 2200 → yearM y + 365 * j ≤ yearM (y + j) ∧ yearM (y + j) ≤ yearM y + 366 * j
  | 0, _ => by simp
  | j + 1, h => by
    obtain ⟨h1, h2⟩ := year_far hy j (by omega)
    have := year_step (y := y + j) (by omega)
    have := longM_le (y + j)
    rw [show y + ((j + 1 : Nat) : Int) = y + j + 1 by omega]
    omega
theorem year_far' {y z : Int} (hy : 1900 ≤ y) (hz : z ≤ 2200) (h : y ≤ z) : yearM y + 365 * (z - y) ≤ yearM z ∧ yearM z ≤ yearM y + 366 * (z - y) := by
  have := year_far hy (z - y).toNat (by omega)
  rw [show y + ((z - y).toNat : Int) = z by omega, show ((z - y).toNat : Int) = z - y by omega] at this
  exact this
theorem year_1900 : yearM 1900 = -36524 := by decide +kernel
theorem year_2200 : yearM 2200 = 73049 := by decide +kernel
theorem year_2000 : yearM 2000 = 0 := by decide +kernel
theorem yo_spec {n : Int} (hn : -36524 ≤ n ∧ n ≤ 73048) : 1900 ≤ yoM n ∧ yoM n ≤ 2199 ∧ yearM (yoM n) ≤ n ∧ n < yearM (yoM n + 1) := by
  have hl : yoK n ≤ 299 := by
    have := List.findIdx_le_length (p := fun (k : Nat) => decide (n < yearM (1901 + (k : Int)))) (xs := List.range 299)
    simpa [yoK] using this
  have h1 : ∀ k, k < yoK n → yearM (1901 + (k : Int)) ≤ n := by
    intro k hk
    have := findIdx_not (p := fun (k : Nat) => decide (n < yearM (1901 + (k : Int)))) (xs := List.range 299) 0 hk (by simp; omega)
    rw [range_getD _ _ (by omega)] at this
    have := of_decide_eq_false this
    omega
  unfold yoM
  refine ⟨by omega, by omega, ?_, ?_⟩
  · rcases Nat.eq_zero_or_pos (yoK n) with h | h
    · rw [h]; simp [year_1900]; omega
    · have := h1 (yoK n - 1) (by omega)
      rw [show (1900 : Int) + yoK n = 1901 + (yoK n - 1 : Nat) by omega]
      exact this
  · rcases Nat.lt_or_ge (yoK n) 299 with h | h
    · have := findIdx_is (p := fun (k : Nat) => decide (n < yearM (1901 + (k : Int)))) (xs := List.range 299) 0 (by simpa [yoK] using h)
      have e : (List.range 299).findIdx (fun (k : Nat) => decide (n < yearM (1901 + (k : Int)))) = yoK n := rfl
      rw [e, range_getD _ _ h] at this
      have := of_decide_eq_true this
      rw [show (1900 : Int) + yoK n + 1 = 1901 + yoK n by omega]
      exact this
    · rw [show yoK n = 299 by omega]
      show n < yearM 2200
      rw [year_2200]; omega
/-- the year of a day is what it is between -/
theorem yo_le {n y : Int} (hn : -36524 ≤ n ∧ n ≤ 73048) (hy : 1900 ≤ y ∧ y ≤ 2200) : yearM y ≤ n ↔ y ≤ yoM n := by
  obtain ⟨h1, h2, h3, h4⟩ := yo_spec hn
  constructor
  · intro h
    rcases Int.lt_or_le (yoM n) y with h5 | h5
    · have := year_far' (y := yoM n + 1) (z := y) (by omega) (by omega) (by omega)
      omega
    · exact h5
  · intro h
    have := year_far' (y := y) (z := yoM n) (by omega) (by omega) h
    omega
theorem yo_is {n y : Int} (hn : -36524 ≤ n ∧ n ≤ 73048) (hy : 1900 ≤ y ∧ y ≤ 2199) (h1 : yearM y ≤ n) (h2 : n < yearM (y + 1)) : yoM n = y := by
  have h3 := (yo_le hn (y := y) (by omega)).1 h1
  have h4 := mt (yo_le hn (y := y + 1) (by omega)).2 (by omega)
  omega
theorem cum_eq (y : Int) (k : Nat) (hk : k ≤ 12) : cumM y k = [0, 31, 59, 90, 120, 151, 181, 212, 243, 273, 304, 334, 365].getD k 0 + (if 2 ≤ k ∧ leapM y = true then 1 else 0) := by
  have : k = 0 ∨ k = 1 ∨ k = 2 ∨ k = 3 ∨ k = 4 ∨ k = 5 ∨ k = 6 ∨ k = 7 ∨ k = 8 ∨ k = 9 ∨ k = 10 ∨ k = 11 ∨ k = 12 := by omega
  rcases this with rfl | rfl | rfl | rfl | rfl | rfl | rfl | rfl | rfl | rfl | rfl | rfl | rfl <;> cases hl : leapM y <;> simp [cumM, sumN, moM, moB, hl]
theorem cum_next (y : Int) (k : Nat) : cumM y (k + 1) = cumM y k + moM y (1 + k) := rfl
theorem cum_12 (y : Int) : cumM y 12 = longM y := by
  rw [cum_eq y 12 (by omega)]; unfold longM; cases leapM y <;> simp
theorem cum_bound (y : Int) (k : Nat) (hk : k ≤ 12) : 0 ≤ cumM y k ∧ cumM y k ≤ 31 * k := by
  induction k with
  | zero => simp [cumM, sumN]
  | succ k ih =>
    have := ih (by omega)
    have := moM_le y (1 + k) (by omega)
    rw [cum_next]; omega
theorem year_bound {y : Int} (hy : 1900 ≤ y ∧ y ≤ 2200) : -36524 ≤ yearM y ∧ yearM y ≤ 73049 := by
  have h1 := year_far' (y := 1900) (z := y) (by omega) (by omega) (by omega)
  have h2 := year_far' (y := y) (z := 2200) (by omega) (by omega) (by omega)
  rw [year_1900] at h1
  rw [year_2200] at h2
  omega
theorem mf_spec {y d : Int} (hd : 1 ≤ d ∧ d ≤ longM y) : mfM y d ≤ 11 ∧ (∀ k, k < mfM y d → cumM y (k + 1) < d) ∧ d ≤ cumM y (mfM y d + 1) ∧ 1 ≤ d - cumM y (mfM y d) := by
  have hl : mfM y d ≤ 11 := by
    have := List.findIdx_le_length (p := fun (k : Nat) => decide (d ≤ cumM y (k + 1))) (xs := List.range 11)
    simpa [mfM] using this
  have h1 : ∀ k, k < mfM y d → cumM y (k + 1) < d := by
    intro k hk
    have := findIdx_not (p := fun (k : Nat) => decide (d ≤ cumM y (k + 1))) (xs := List.range 11) 0 hk (by simp; omega)
    rw [range_getD _ _ (by omega)] at this
    have := of_decide_eq_false this
    omega
  refine ⟨hl, h1, ?_, ?_⟩
  · rcases Nat.lt_or_ge (mfM y d) 11 with h | h
    · have := findIdx_is (p := fun (k : Nat) => decide (d ≤ cumM y (k + 1))) (xs := List.range 11) 0 (by simpa [mfM] using h)
      have e : (List.range 11).findIdx (fun (k : Nat) => decide (d ≤ cumM y (k + 1))) = mfM y d := rfl
      rw [e, range_getD _ _ h] at this
      exact of_decide_eq_true this
    · rw [show mfM y d = 11 by omega, cum_12]; exact hd.2
  · rcases Nat.eq_zero_or_pos (mfM y d) with h | h
    · rw [h]; simp [cumM, sumN]; omega
    · have := h1 (mfM y d - 1) (by omega)
      rw [show mfM y d - 1 + 1 = mfM y d by omega] at this
      omega
theorem week_le (n : Int) : 0 ≤ weekM n ∧ weekM n ≤ 6 := by rw [week_eq]; omega
theorem all_years {p : Int → Prop} (h : ∀ k : Nat, k < 300 → p (1900 + (k : Int))) : ∀ y, 1900 ≤ y ∧ y ≤ 2199 → p y := by
  intro y hy
  have := h (y - 1900).toNat (by omega)
  rwa [show (1900 : Int) + ((y - 1900).toNat : Nat) = y by omega] at this
theorem tup_day {y A B A' B' : Int} (h1 : A = A') (h2 : B = B') : AV.tup [.i .i64 (dayM y A B), .b true] = AV.tup [.i .i64 (dayM y A' B'), .b true] := by rw [h1, h2]
end Go.Proofs.LV
