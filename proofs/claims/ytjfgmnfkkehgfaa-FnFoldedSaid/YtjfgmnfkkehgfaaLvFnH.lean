/- Days, feasts, work days. -/
import Derived.Test.YtjfgmnfkkehgfaaLvFnE
namespace Go.Proofs.LV
open Go
set_option linter.unusedVariables false
set_option linter.unusedSimpArgs false

abbrev PI (p : List Nat) (xs : List Int) : AV := .sl (.par p) 0 (.i .i64 xs)
abbrev OI (n : Nat) (xs : List Int) : AV := .sl (.own n) 0 (.i .i64 xs)
def leapM (y : Int) : Bool := (y.tmod 4 == 0 && y.tmod 100 != 0) || y.tmod 400 == 0
def longM (y : Int) : Int := if leapM y = true then 366 else 365
/-- the number of the first day of a year -/
def yearM (y : Int) : Int := sumN (y - 2000).toNat (fun i => longM (2000 + i)) - sumN (2000 - y).toNat (fun i => longM (1999 - i))
def isDayM (n : Int) : Bool := inM n (-36524) 73048
def weekM (n : Int) : Int := ((n + 5).tmod 7 + 7).tmod 7














def upM (xs : List Int) : Bool := allN (xs.length - 1) fun i => decide (xs.getD i 0 < xs.getD (i + 1) 0)
def feastM (xs : List Int) : Bool := decide (xs.length ≤ 32) && (xs.all isDayM && upM xs)




def workM (xs : List Int) (n : Int) : Bool := decide (weekM n < 5) && !(xs.any fun x => n == x)



def one (b : Bool) : Int := if b = true then 1 else 0
/-- the work days among n days from a on -/
def wdM (xs : List Int) (a : Int) (n : Nat) : Int := sumN n fun i => one (workM xs (a + i))
def wdOk (xs : List Int) (a b : Int) : Bool := isDayM a && (isDayM b && (decide (a ≤ b) && feastM xs))
def wdLen (a b : Int) : Nat := (b - a + 1).toNat
def wdWeeks (a b : Int) : Int := (b - a).tdiv 7
/-- weekdays behind the weeks -/
def wdTail (a b : Int) : Int := sumN (b + 1 - (a + 7 * wdWeeks a b)).toNat fun i => one (decide (weekM (a + 7 * wdWeeks a b + i) < 5))
def wdFeast (xs : List Int) (a b : Int) (n : Nat) : Int := sumN n fun j => one (inM (xs.getD j 0) a b && decide (weekM (xs.getD j 0) < 5))



/-- how many days on -/
def wbJ (xs : List Int) (n c : Int) : Nat := (List.range 2101).findIdx fun j => decide (c ≤ wdM xs (n + 1) j)
def wbOk (xs : List Int) (n c : Int) : Bool := isDayM n && (inM c 1 1000 && (feastM xs && isDayM (n + wbJ xs n c)))





theorem leap_ite (y : Int) : (T.ite (leapM y) (T.leaf (AV.i .i64 366)) (T.leaf (AV.i .i64 365))).ok (fun x => x = .i .i64 (longM y)) := ⟨fun h => by simp [T.ok, longM, h], fun h => by simp [T.ok, longM, h]⟩
theorem long_bound (y : Int) : -366 ≤ longM y ∧ longM y ≤ 366 := by unfold longM; split <;> omega
theorem long_sum (f : Nat → Int) (n : Nat) (h : n ≤ 300) : -109800 ≤ sumN n (fun i => longM (f i)) ∧ sumN n (fun i => longM (f i)) ≤ 109800 := by
  have := sumN_bound (B := 366) (f := fun i => longM (f i)) (by omega) n (fun i _ => long_bound _)
  omega
theorem sumN_rev (g : Nat → Int) : ∀ m, (sumN m fun j => g (m - 1 - j)) = sumN m g := by
  have sh : ∀ (g : Nat → Int) m, sumN (m + 1) g = g 0 + sumN m (fun i => g (i + 1)) := by
    intro g m
    induction m with
    | zero => simp [sumN]
    | succ m ih => rw [sumN, ih]; simp only [sumN]; omega
  intro m
  induction m with
  | zero => rfl
  | succ m ih =>
    rw [sh]
    show g (m + 1 - 1 - 0) + (sumN m fun j => g (m + 1 - 1 - (j + 1))) = sumN m g + g m
    rw [← ih, show m + 1 - 1 - 0 = m by omega]
    have : (sumN m fun j => g (m + 1 - 1 - (j + 1))) = sumN m fun j => g (m - 1 - j) := sumN_congr m fun i hi => by rw [show m + 1 - 1 - (i + 1) = m - 1 - i by omega]
    omega
theorem tmod7 (m : Int) : -7 < m.tmod 7 ∧ m.tmod 7 < 7 ∧ m.tmod 7 + 7 * m.tdiv 7 = m := by
  have h1 := Int.tmod_add_mul_tdiv m 7
  have h2 := Int.tmod_lt_of_pos m (show (0 : Int) < 7 by omega)
  have h3 := Int.tmod_lt_of_pos (-m) (show (0 : Int) < 7 by omega)
  rw [Int.neg_tmod] at h3
  omega
theorem week_eq (n : Int) : weekM n = (n + 5) % 7 := by
  unfold weekM
  obtain ⟨h1, h2, h3⟩ := tmod7 (n + 5)
  generalize (n + 5).tmod 7 = t at *
  rw [Int.tmod_eq_emod_of_nonneg (by omega)]
  omega
theorem any_allNI {p : Int → Bool} (xs : List Int) : xs.any p = !allN xs.length fun i => !p (xs.getD i 0) := by
  rw [Bool.eq_iff_iff]
  cases h : allN xs.length (fun i => !p (xs.getD i 0)) with
  | true =>
    have h := allN_iff.1 h
    simp only [Bool.not_true, List.any_eq_true]
    refine ⟨fun ⟨x, hx, hp⟩ => ?_, fun h' => Bool.noConfusion h'⟩
    obtain ⟨j, hj, rfl⟩ := mem_getD_rng 0 hx
    have := h j hj
    rw [hp] at this; cases this
  | false =>
    obtain ⟨i, hi, h1, _⟩ := allN_not h
    simp only [Bool.not_false, List.any_eq_true, iff_true]
    refine ⟨xs.getD i 0, ?_, by simpa using h1⟩
    simp [List.getD, hi]
theorem all_allNI {p : Int → Bool} (xs : List Int) : xs.all p = allN xs.length fun i => p (xs.getD i 0) := by
  have := any_allNI (p := fun x => !p x) xs
  rw [← List.not_all_eq_any_not] at this
  simpa using this
theorem feast_allN (xs : List Int) : (xs.all isDayM && upM xs) = allN xs.length fun i => isDayM (xs.getD i 0) && (!decide (0 < i) || decide (xs.getD (i - 1) 0 < xs.getD i 0)) := by
  rw [Bool.eq_iff_iff, Bool.and_eq_true, all_allNI, allN_iff, allN_iff]
  unfold upM
  rw [allN_iff]
  constructor
  · intro ⟨h1, h2⟩ i hi
    rw [h1 i hi, Bool.true_and]
    by_cases h0 : 0 < i
    · have := h2 (i - 1) (by omega)
      rw [show i - 1 + 1 = i by omega] at this
      rw [this]; simp
    · simp [h0]
  · intro h
    refine ⟨fun i hi => ?_, fun i hi => ?_⟩
    · have := h i hi
      simp only [Bool.and_eq_true] at this
      exact this.1
    · have := h (i + 1) (by omega)
      simp only [Bool.and_eq_true] at this
      have h2 := this.2
      rw [show i + 1 - 1 = i by omega] at h2
      have h3 : decide (0 < i + 1) = true := by simp
      rw [h3] at h2
      simpa using h2
theorem week_five (d : Int) : (sumN 7 fun k => one (decide (weekM (d + k) < 5))) = 5 := by
  obtain ⟨r, hr, hr2⟩ : ∃ r : Nat, (d + 5) % 7 = r ∧ r < 7 := ⟨((d + 5) % 7).toNat, by omega, by omega⟩
  have e : (sumN 7 fun k => one (decide (weekM (d + k) < 5))) = sumN 7 fun k => if (r + k) % 7 < 5 then 1 else 0 := sumN_congr 7 fun k hk => by
    rw [week_eq]; unfold one
    have e2 : (d + (k : Int) + 5) % 7 = ((r + k) % 7 : Nat) := by omega
    rw [e2]
    by_cases h : (r + k) % 7 < 5
    · have : (((r + k) % 7 : Nat) : Int) < 5 := by omega
      simp only [this, h, decide_true, if_true]
    · have : ¬ (((r + k) % 7 : Nat) : Int) < 5 := by omega
      simp only [this, h, decide_false, if_false, Bool.false_eq_true]
  rw [e]
  have all : ∀ r : Fin 7, (sumN 7 fun k => if (r.val + k) % 7 < 5 then (1 : Int) else 0) = 5 := by decide
  exact all ⟨r, hr2⟩
theorem sumN_append (f : Nat → Int) (m : Nat) : ∀ n, sumN (m + n) f = sumN m f + sumN n fun i => f (m + i)
  | 0 => by simp [sumN]
  | n + 1 => by
    show sumN (m + n) f + f (m + n) = _
    rw [sumN_append f m n]; simp only [sumN]; omega
theorem weeks_sum (a : Int) : ∀ w : Nat, (sumN (7 * w) fun i => one (decide (weekM (a + i) < 5))) = 5 * w
  | 0 => rfl
  | w + 1 => by
    rw [show 7 * (w + 1) = 7 * w + 7 by omega, sumN_append, weeks_sum a w]
    have : (sumN 7 fun i => one (decide (weekM (a + (7 * w + i : Nat)) < 5))) = sumN 7 fun i => one (decide (weekM ((a + 7 * w) + i) < 5)) := sumN_congr 7 fun i _ => by
      rw [show a + ((7 * w + i : Nat) : Int) = (a + 7 * w) + i by omega]
    rw [this, week_five]; omega
theorem sumN_swap (t : Nat → Nat → Int) (m : Nat) : ∀ n, (sumN n fun i => sumN m fun j => t i j) = sumN m fun j => sumN n fun i => t i j
  | 0 => by
    have : ∀ m, (sumN m fun _ => (0 : Int)) = 0 := fun m => by induction m with | zero => rfl | succ m ih => simp only [sumN, ih]; rfl
    exact (this m).symm
  | n + 1 => by
    have e : (sumN m fun j => sumN (n + 1) fun i => t i j) = sumN m fun j => (sumN n fun i => t i j) + t n j := rfl
    rw [e, sumN_add, ← sumN_swap t m n]; rfl
theorem sumN_sub (f g : Nat → Int) (n : Nat) : (sumN n fun i => f i - g i) = sumN n f - sumN n g := by
  induction n with
  | zero => rfl
  | succ n ih => simp only [sumN, ih]; omega
theorem sum_hit (p : Int → Bool) (a x : Int) : ∀ n : Nat, (sumN n fun i => one (p (a + i) && (a + i == x))) = one (p x && (decide (a ≤ x) && decide (x < a + n)))
  | 0 => by
    have : ¬ (a ≤ x ∧ x < a + (0 : Nat)) := by omega
    by_cases h : a ≤ x
    · have h2 : ¬ (x < a + (0 : Nat)) := by omega
      simp only [sumN, h2, decide_false, Bool.and_false]; rfl
    · simp only [sumN, h, decide_false, Bool.false_and, Bool.and_false]; rfl
  | n + 1 => by
    show (sumN n fun i => one (p (a + i) && (a + i == x))) + one (p (a + n) && (a + n == x)) = _
    rw [sum_hit p a x n]
    by_cases h : a + (n : Int) = x
    · subst h
      have h1 : ¬ (a + (n : Int) < a + n) := by omega
      have h2 : a ≤ a + (n : Int) := by omega
      have h3 : a + (n : Int) < a + (n + 1 : Nat) := by omega
      simp only [h1, h2, h3, decide_false, decide_true, Bool.and_false, Bool.and_true, beq_self_eq_true]
      simp [one]
    · have h1 : (a + (n : Int) == x) = false := by simpa using h
      rw [h1, Bool.and_false]
      have h2 : decide (x < a + (n : Int)) = decide (x < a + (n + 1 : Nat)) := by
        rw [Bool.eq_iff_iff, decide_eq_true_eq, decide_eq_true_eq]; omega
      rw [h2]; simp [one]
theorem up_lt {xs : List Int} (h : upM xs = true) : ∀ {i j : Nat}, i < j → j < xs.length → xs.getD i 0 < xs.getD j 0 := by
  intro i j hij
  induction j with
  | zero => omega
  | succ j ih =>
    intro hj
    unfold upM at h
    have h1 := of_decide_eq_true (allN_iff.1 h j (by omega))
    rcases Nat.lt_or_eq_of_le (Nat.le_of_lt_succ hij) with h2 | rfl
    · have := ih h2 (by omega); omega
    · exact h1
theorem any_sum {xs : List Int} (h : upM xs = true) (d : Int) : one (xs.any fun x => d == x) = sumN xs.length fun j => one (d == xs.getD j 0) := by
  rw [any_allNI]
  have gen : ∀ m, m ≤ xs.length → (sumN m fun j => one (d == xs.getD j 0)) = one (!allN m fun i => !(d == xs.getD i 0)) := by
    intro m
    induction m with
    | zero => intro _; rfl
    | succ m ih =>
      intro hm
      show (sumN m fun j => one (d == xs.getD j 0)) + one (d == xs.getD m 0) = _
      rw [ih (by omega)]
      show _ = one (!(allN m (fun i => !(d == xs.getD i 0)) && !(d == xs.getD m 0)))
      cases hd : (d == xs.getD m 0) with
      | false => simp [one]
      | true =>
        have hd : d = xs.getD m 0 := by simpa using hd
        have : allN m (fun i => !(d == xs.getD i 0)) = true := allN_iff.2 fun i hi => by
          have := up_lt h hi (by omega)
          simp only [Bool.not_eq_true', beq_eq_false_iff_ne]; omega
        rw [this]; simp [one]
  exact (gen _ (Nat.le_refl _)).symm
/-- the work days are the weekdays less the feasts on weekdays -/
theorem wd_split {xs : List Int} (h : upM xs = true) (a : Int) (n : Nat) : wdM xs a n = (sumN n fun i => one (decide (weekM (a + i) < 5))) - sumN xs.length fun j => one (decide (weekM (xs.getD j 0) < 5) && (decide (a ≤ xs.getD j 0) && decide (xs.getD j 0 < a + n))) := by
  have e1 : wdM xs a n = sumN n fun i => one (decide (weekM (a + i) < 5)) - sumN xs.length fun j => one (decide (weekM (a + i) < 5) && (a + i == xs.getD j 0)) := by
    unfold wdM
    refine sumN_congr n fun i _ => ?_
    unfold workM
    cases hw : decide (weekM (a + i) < 5) with
    | false =>
      have : (sumN xs.length fun j => one (false && (a + (i : Int) == xs.getD j 0))) = 0 := by
        simp only [Bool.false_and]
        induction xs.length with | zero => rfl | succ m ih => simp only [sumN, ih]; rfl
      rw [this]; rfl
    | true =>
      simp only [Bool.true_and]
      rw [← any_sum h]
      cases xs.any fun x => a + (i : Int) == x <;> rfl
  rw [e1, sumN_sub, sumN_swap]
  congr 1
  exact sumN_congr _ fun j _ => sum_hit (fun d => decide (weekM d < 5)) a (xs.getD j 0) n
theorem one_bound (b : Bool) : 0 ≤ one b ∧ one b ≤ 1 := by cases b <;> simp [one]
theorem ones_bound (f : Nat → Bool) : ∀ n : Nat, 0 ≤ (sumN n fun i => one (f i)) ∧ (sumN n fun i => one (f i)) ≤ n
  | 0 => by simp [sumN]
  | n + 1 => by
    have := ones_bound f n
    have := one_bound (f n)
    show 0 ≤ (sumN n fun i => one (f i)) + one (f n) ∧ (sumN n fun i => one (f i)) + one (f n) ≤ (n + 1 : Nat)
    omega
theorem weeks_eq {a b : Int} (h : a ≤ b) : wdWeeks a b = (b - a) / 7 := by
  unfold wdWeeks; rw [Int.tdiv_eq_ediv_of_nonneg (by omega)]
theorem wd_total {xs : List Int} {a b : Int} (h : upM xs = true) (hab : a ≤ b) : wdM xs a (wdLen a b) = 5 * wdWeeks a b + wdTail a b - wdFeast xs a b xs.length := by
  have hw := weeks_eq hab
  obtain ⟨w, hw2⟩ : ∃ w : Nat, wdWeeks a b = w := ⟨(wdWeeks a b).toNat, by omega⟩
  rw [wd_split h]
  congr 1
  · unfold wdTail
    rw [hw2]
    have : wdLen a b = 7 * w + (b + 1 - (a + 7 * (w : Int))).toNat := by unfold wdLen; omega
    rw [this, sumN_append, weeks_sum]
    congr 1
    exact sumN_congr _ fun i _ => by rw [show a + ((7 * w + i : Nat) : Int) = a + 7 * (w : Int) + i by omega]
  · unfold wdFeast
    refine sumN_congr _ fun j _ => ?_
    rw [Bool.and_comm]
    congr 2
    have : (wdLen a b : Int) = b - a + 1 := by unfold wdLen; omega
    rw [this]
    unfold inM
    congr 1
    rw [Bool.eq_iff_iff, decide_eq_true_eq, decide_eq_true_eq]; omega
theorem feast_up {xs : List Int} (h : feastM xs = true) : upM xs = true ∧ xs.length ≤ 32 ∧ ∀ i, i < xs.length → isDayM (xs.getD i 0) = true := by
  unfold feastM at h
  simp only [Bool.and_eq_true, decide_eq_true_eq] at h
  rw [all_allNI] at h
  exact ⟨h.2.2, h.1, allN_iff.1 h.2.1⟩
theorem day_bound {n : Int} (h : isDayM n = true) : -36524 ≤ n ∧ n ≤ 73048 := by simpa [isDayM, inM] using h
theorem wd_next (xs : List Int) (a : Int) (j : Nat) : wdM xs a (j + 1) = wdM xs a j + one (workM xs (a + j)) := rfl
theorem range_getD (n i : Nat) (h : i < n) : (List.range n).getD i 0 = i := by simp [List.getD, h]
theorem wb_spec {xs : List Int} {n c : Int} (h : upM xs = true) (hl : xs.length ≤ 32) (hc : 1 ≤ c ∧ c ≤ 1000) : wbJ xs n c ≤ 2100 ∧ wdM xs (n + 1) (wbJ xs n c) = c ∧ ∀ j, j < wbJ xs n c → wdM xs (n + 1) j < c := by
  have big : c ≤ wdM xs (n + 1) 2100 := by
    rw [wd_split h, show 2100 = 7 * 300 by rfl, weeks_sum]
    have := ones_bound (fun j => decide (weekM (xs.getD j 0) < 5) && (decide (n + 1 ≤ xs.getD j 0) && decide (xs.getD j 0 < n + 1 + (7 * 300 : Nat)))) xs.length
    omega
  have hlt : wbJ xs n c < 2101 := by
    have : (List.range 2101).findIdx (fun j => decide (c ≤ wdM xs (n + 1) j)) < (List.range 2101).length := List.findIdx_lt_length.2 ⟨2100, by simp, by simpa using big⟩
    simpa [wbJ] using this
  have hj : ∀ j, j < wbJ xs n c → wdM xs (n + 1) j < c := by
    intro j hj
    have := findIdx_not (p := fun j => decide (c ≤ wdM xs (n + 1) j)) (xs := List.range 2101) 0 hj (by simp; omega)
    rw [range_getD _ _ (by omega)] at this
    have := of_decide_eq_false this
    omega
  have hJ : c ≤ wdM xs (n + 1) (wbJ xs n c) := by
    have this : decide (c ≤ wdM xs (n + 1) ((List.range 2101).getD (wbJ xs n c) 0)) = true := findIdx_is (p := fun j => decide (c ≤ wdM xs (n + 1) j)) (xs := List.range 2101) 0 (by simpa [wbJ] using hlt)
    rw [range_getD _ _ (show wbJ xs n c < 2101 from hlt)] at this
    exact of_decide_eq_true this
  refine ⟨by omega, ?_, hj⟩
  have : wbJ xs n c ≠ 0 := by
    intro e
    rw [e] at hJ
    have : wdM xs (n + 1) 0 = 0 := rfl
    omega
  have h1 := hj (wbJ xs n c - 1) (by omega)
  have h2 := wd_next xs (n + 1) (wbJ xs n c - 1)
  rw [show wbJ xs n c - 1 + 1 = wbJ xs n c by omega] at h2
  have := one_bound (workM xs (n + 1 + (wbJ xs n c - 1 : Nat)))
  omega
end Go.Proofs.LV
