/- Sums of harmonics at a place; series that go down to both sides. -/
import Derived.Test.YtaehhnldcnhiiaaLvFnAA
import Derived.Test.YtaehhnldcnhiiaaLvFnG
import Derived.Test.YtaehhnldcnhiiaaLvFnJ
namespace Go.Proofs.LV
open Go
set_option linter.unusedVariables false
set_option linter.unusedSimpArgs false

/-- a phase -/
def wvM (g at0 : Int) (p : Nat) : Nat × Nat := phM (fdiv .f64 (fofi .f64 (g * at0)) (fconv .f32 .f64 p))
def hmL (p : Nat) (at0 : Int) : Nat → List Nat
  | 0 => [1065353216]
  | n + 1 => hmL p at0 n ++ [(wvM ((n + 1 : Nat) : Int) at0 p).1, (wvM ((n + 1 : Nat) : Int) at0 p).2]
def haV (ts : List Nat) (p : Nat) (at0 : Int) : Nat := dotM ts (hmL p at0 (ts.length / 2))
def haOk0 (ts : List Nat) (p : Nat) (at0 : Int) : Bool := decide (ts.length % 2 = 1) && (decide (ts.length ≤ 5) && (finAllM ts && ((finM p && fgt .f32 p 0) && inM at0 (-1000) 1000)))
def haOk (ts : List Nat) (p : Nat) (at0 : Int) : Bool := haOk0 ts p at0 && finM (haV ts p at0)


def absF (x : Nat) : Nat := fmax .f32 x (fneg .f32 x)
def sizF (x : Nat) : Nat := if flt .f32 x 0 = true then fneg .f32 x else x
def tpT (n i : Nat) : Nat := fdiv .f32 (fadd .f32 (fofi .f32 i) 1056964608) (fofi .f32 n)
def tpW (kind : Int) (n i : Nat) : Nat :=
  if kind = 1 then fsub .f32 1056964608 (fmul .f32 1056964608 (phM (fconv .f32 .f64 (tpT n i))).1)
  else if kind = 2 then fsub .f32 1065353216 (absF (fsub .f32 (fmul .f32 1073741824 (tpT n i)) 1065353216)) else 1065353216
def tpM (a : List Nat) (kind : Int) (n : Nat) : List Nat := tab n fun i => fmul .f32 (a.getD i 0) (tpW kind a.length i)
def tpOk (a : List Nat) (kind : Int) : Bool := (seriesM a && inM kind 0 2) && finAllM (tpM a kind a.length)


/-! ### tapers -/
theorem fsub_fw (k : FloatKind) (x y : Nat) : Fw k (fsub k x y) := by
  unfold fsub
  cases h : k.format.sub x y with
  | none => exact ⟨fnan k, by cases k <;> decide, by cases k <;> decide⟩
  | some r => exact ⟨r, (sub_some h).2, (sub_some h).1⟩
theorem neg_srung {x : Nat} (h : nanB .f32 x = false) : srung .f32 (fneg .f32 x) = - srung .f32 x ∧ nanB .f32 (fneg .f32 x) = false := by
  have h1 : (FloatKind.f32.format.read x).isNaN = false := h
  have e : fneg .f32 x = x ^^^ 2 ^ 31 := by
    unfold fneg; rw [h1]; simp only [Bool.false_eq_true, if_false]
    unfold Op.negFloat
    rw [show FloatKind.f32.format.exponentBits + FloatKind.f32.format.fractionBits = 31 by decide]
  have hS : Ieee.single.signWeight = 2 ^ 31 := by decide
  have h2 : rung Ieee.single (fneg .f32 x) = rung Ieee.single x := by
    rw [e]; unfold rung; rw [hS, Nat.xor_mod_two_pow, Nat.mod_self, Nat.xor_zero]
  have h3 : sign Ieee.single (fneg .f32 x) = !(sign Ieee.single x) := by
    rw [e]; unfold sign; rw [hS, Nat.xor_div_two_pow, Nat.div_self (by decide)]
    generalize x / 2 ^ 31 = d
    have h4 : (d ^^^ 1) % 2 = d % 2 ^^^ 1 % 2 := Nat.xor_mod_two_pow (n := 1)
    rw [h4]
    rcases Nat.mod_two_eq_zero_or_one d with h5 | h5 <;> rw [h5] <;> rfl
  refine ⟨?_, ?_⟩
  · show sg (sign Ieee.single _) (rung Ieee.single _) = - sg (sign Ieee.single x) (rung Ieee.single x)
    rw [h2, h3]
    cases sign Ieee.single x <;> simp [sg]
  · rw [nanB_iff] at h ⊢
    show decide (Ieee.single.infRung < rung Ieee.single (fneg .f32 x)) = false
    rw [h2]; exact h
/-- less an absolute value: both ways -/
theorem less_size {x : Nat} (h : Fw .f32 x) : fsub .f32 1065353216 (absF x) = fsub .f32 1065353216 (sizF x) := by
  by_cases hn : nanB .f32 x = true
  · have hx : x = fnan .f32 := by have := nanB_eq h; rw [hn] at this; exact beq_iff_eq.1 this.symm
    rw [hx]; decide +kernel
  have hn : nanB .f32 x = false := by simpa using hn
  obtain ⟨n1, n2⟩ := neg_srung hn
  have ho := order_rung hn n2
  rw [n1] at ho
  have hl := flt_eq .f32 x 0
  rw [hn, show nanB .f32 0 = false by decide, show srung .f32 0 = 0 by decide] at hl
  simp only [Bool.not_false, Bool.true_and] at hl
  have ec : ∀ a b : Int, compare a b = if a < b then .lt else if a = b then .eq else .gt := fun a b => rfl
  rw [ec] at ho
  rcases Int.lt_trichotomy (srung .f32 x) 0 with hz | hz | hz
  · rw [if_pos (by omega)] at ho
    have e1 : absF x = fneg .f32 x := by unfold absF fmax; rw [ho]
    have e2 : sizF x = fneg .f32 x := by unfold sizF; rw [hl, if_pos (by simpa using hz)]
    rw [e1, e2]
  · have hx : x = 0 ∨ x = 2147483648 := by
      have hw := h.lt
      have h5 : ∀ y, y < 2 ^ 32 → srung .f32 y = 0 → y = 0 ∨ y = 2147483648 := by
        intro y hy h0
        have hS : Ieee.single.signWeight = 2147483648 := by decide
        have h0 : sg (sign Ieee.single y) (rung Ieee.single y) = 0 := h0
        have h6 := sg_abs (sign Ieee.single y) (rung Ieee.single y)
        rw [h0] at h6
        have h6 : 0 = y % Ieee.single.signWeight := h6
        rw [hS] at h6
        omega
      exact h5 x hw hz
    rcases hx with rfl | rfl <;> decide +kernel
  · rw [if_neg (by omega), if_neg (by omega)] at ho
    have e1 : absF x = x := by unfold absF fmax; rw [ho]
    have e2 : sizF x = x := by unfold sizF; rw [hl, if_neg (by simp; omega)]
    rw [e1, e2]
theorem tp_1 {kind : Int} (h : kind = 1) (n i : Nat) : tpW kind n i = fsub .f32 1056964608 (fmul .f32 1056964608 (phM (fconv .f32 .f64 (tpT n i))).1) := by unfold tpW; rw [if_pos h]
theorem tp_2 {kind : Int} (h : kind = 2) (n i : Nat) : tpW kind n i = fsub .f32 1065353216 (absF (fsub .f32 (fmul .f32 1073741824 (tpT n i)) 1065353216)) := by unfold tpW; rw [if_neg (by omega), if_pos h]
theorem tp_3 {kind : Int} (h1 : kind ≠ 1) (h2 : kind ≠ 2) (n i : Nat) : tpW kind n i = 1065353216 := by unfold tpW; rw [if_neg h1, if_neg h2]
theorem tp_len (a : List Nat) (kind : Int) (n : Nat) : (tpM a kind n).length = n := tab_len _ _
theorem tp_succ (a : List Nat) (kind : Int) (n : Nat) : tpM a kind (n + 1) = tpM a kind n ++ [fmul .f32 (a.getD n 0) (tpW kind a.length n)] := tab_succ _ _
theorem read_place {x m : Nat} {s : Bool} {e : Int} (h : rung Ieee.single x < Ieee.single.infRung) (hr : Ieee.single.read x = .number s m e) : (e - Ieee.single.leastPlace).toNat ≤ 253 ∧ Ieee.single.leastPlace ≤ e := by
  unfold Ieee.Format.read at hr
  unfold rung at h
  simp only at hr
  have hB : Ieee.single.binade = 2 ^ 23 := by decide
  have hI : Ieee.single.infRung = 255 * 2 ^ 23 := by decide
  split at hr
  · cases hr; omega
  · cases hr
    have h2 : x % Ieee.single.signWeight / Ieee.single.binade < 255 := Nat.div_lt_of_lt_mul (by rw [hB, Nat.mul_comm]; omega)
    omega
theorem word_self {x : Nat} (h : x < 2 ^ 32) : Ieee.single.word (sign Ieee.single x) (rung Ieee.single x) = x := by
  have hS : Ieee.single.signWeight = 2 ^ 31 := by decide
  unfold Ieee.Format.word sign rung
  rw [hS]
  have h1 : x / 2 ^ 31 < 2 := by omega
  rcases (show x / 2 ^ 31 = 0 ∨ x / 2 ^ 31 = 1 by omega) with h2 | h2
  · rw [h2]; simp; omega
  · rw [h2]; simp; omega
theorem read_one : Ieee.single.read 1065353216 = .number false (2 ^ 23) (-23) := by decide +kernel
theorem mul_near {x y m n : Nat} {s t : Bool} {i j : Int} (e : Ieee.single.read x = .number s m i) (e2 : Ieee.single.read y = .number t n j) : fmul .f32 x y = Ieee.single.nearest (s ^^ t) (m * n) (i + j) := by
  unfold fmul Ieee.Format.mul
  simp only [FloatKind.format]
  rw [e, e2]
  rfl
/-- times one -/
theorem mul_one' {x : Nat} (hw : x < 2 ^ 32) (hf : finM x = true) : fmul .f32 x 1065353216 = x := by
  rw [finM_iff] at hf
  have hf := of_decide_eq_true hf
  obtain ⟨m, p, e, hu⟩ := read_num (f := Ieee.single) hf
  obtain ⟨h1, _⟩ := read_place hf e
  have hm := (read32_bounds e).1
  have ep := mul_near e read_one
  rw [ep, Bool.xor_false]
  have es := nearest_shift Ieee.single (sign Ieee.single x) m (Ieee.single.leastPlace + (p : Nat)) 23
  rw [show Ieee.single.leastPlace + (p : Int) + -23 = Ieee.single.leastPlace + (p : Int) - ((23 : Nat) : Int) by omega, es]
  have hB : Ieee.single.binade = 2 ^ 23 := by decide
  have hI : Ieee.single.infRung = 255 * 2 ^ 23 := by decide
  have hB0 := binade_pos Ieee.single
  have fin : ∀ r, Ieee.single.nearest (sign Ieee.single x) m (Ieee.single.leastPlace + (p : Nat)) = Ieee.single.word (sign Ieee.single x) r → units Ieee.single.binade r = units Ieee.single.binade (rung Ieee.single x) → Ieee.single.nearest (sign Ieee.single x) m (Ieee.single.leastPlace + (p : Nat)) = x := by
    intro r h2 h3
    rw [h2, units_inj hB0 h3]; exact word_self hw
  by_cases h0 : m = 0
  · subst h0
    refine fin 0 (by unfold Ieee.Format.nearest; rw [if_pos rfl]) ?_
    rw [← hu, units_zero hB0, Nat.zero_mul]
  · rw [show (Ieee.single.leastPlace + (p : Int) - Ieee.single.leastPlace).toNat = p by omega] at h1
    obtain ⟨r, h2, _, h3⟩ := nearest_exact Ieee.single (sign Ieee.single x) m (Ieee.single.leastPlace + (p : Nat)) h0 (by rw [hB]; omega) (by omega) (by rw [show (Ieee.single.leastPlace + (p : Int) - Ieee.single.leastPlace).toNat = p by omega, hB, hI]; omega)
    rw [show (Ieee.single.leastPlace + (p : Int) - Ieee.single.leastPlace).toNat = p by omega, hu] at h3
    exact fin r h2 h3

theorem hm_len (p : Nat) (at0 : Int) : ∀ n, (hmL p at0 n).length = 2 * n + 1
  | 0 => rfl
  | n + 1 => by show (hmL p at0 n ++ [_, _]).length = _; rw [List.length_append, hm_len p at0 n]; simp; omega
theorem mul_in {g at0 : Int} (h1 : 0 ≤ g) (h2 : g ≤ 100) (h3 : -1000 ≤ at0) (h4 : at0 ≤ 1000) : -100000 ≤ g * at0 ∧ g * at0 ≤ 100000 := by
  have a := Int.mul_le_mul_of_nonneg_left h4 h1
  have b := Int.mul_le_mul_of_nonneg_left h3 h1
  omega
theorem tmod_zero (n : Nat) : (Int.tmod (n : Int) 2 == 0) = !(decide (n % 2 = 1)) := by
  rw [Int.tmod_eq_emod_of_nonneg (by omega)]
  by_cases h : n % 2 = 1
  · rw [decide_eq_true h, show ((n : Int) % 2) = 1 by omega]; rfl
  · rw [decide_eq_false h, show ((n : Int) % 2) = 0 by omega]; rfl
def haP (ts : List Nat) (p : Nat) (at0 : Int) : Nat → Nat
  | 0 => fadd .f32 0 (ts.getD 0 0)
  | n + 1 => fadd .f32 (fadd .f32 (haP ts p at0 n) (fmul .f32 (wvM ((n + 1 : Nat) : Int) at0 p).1 (ts.getD (2 * (n + 1) - 1) 0))) (fmul .f32 (wvM ((n + 1 : Nat) : Int) at0 p).2 (ts.getD (2 * (n + 1)) 0))
theorem getD_l {xs ys : List Nat} {i : Nat} (h : i < xs.length) : (xs ++ ys).getD i 0 = xs.getD i 0 := by
  rw [List.getD_eq_getElem?_getD, List.getD_eq_getElem?_getD, List.getElem?_append_left h]
theorem getD_r {xs ys : List Nat} {i : Nat} (h : xs.length ≤ i) : (xs ++ ys).getD i 0 = ys.getD (i - xs.length) 0 := by
  rw [List.getD_eq_getElem?_getD, List.getD_eq_getElem?_getD, List.getElem?_append_right h]
theorem hm_get (p : Nat) (at0 : Int) : ∀ (n k : Nat), k < n → (hmL p at0 n).getD (2 * k + 1) 0 = (wvM ((k + 1 : Nat) : Int) at0 p).1 ∧ (hmL p at0 n).getD (2 * k + 2) 0 = (wvM ((k + 1 : Nat) : Int) at0 p).2
  | n + 1, k, h => by
    have hl := hm_len p at0 n
    have e : hmL p at0 (n + 1) = hmL p at0 n ++ [(wvM ((n + 1 : Nat) : Int) at0 p).1, (wvM ((n + 1 : Nat) : Int) at0 p).2] := rfl
    rw [e]
    by_cases hk : k < n
    · rw [getD_l (by omega), getD_l (by omega)]
      exact hm_get p at0 n k hk
    · have hk : k = n := by omega
      subst hk
      rw [getD_r (by omega), getD_r (by omega), hl, show 2 * k + 1 - (2 * k + 1) = 0 by omega, show 2 * k + 2 - (2 * k + 1) = 1 by omega]
      exact ⟨rfl, rfl⟩
theorem ha_sum {ts : List Nat} {p : Nat} {at0 : Int} (h0 : fmul .f32 (ts.getD 0 0) 1065353216 = ts.getD 0 0) (m : Nat) : ∀ n, n ≤ m → accN (fun i s => fadd .f32 s (fmul .f32 (ts.getD i 0) ((hmL p at0 m).getD i 0))) (2 * n + 1) 0 = haP ts p at0 n
  | 0, _ => by
    have e : (hmL p at0 m).getD 0 0 = 1065353216 := by
      induction m with
      | zero => rfl
      | succ m ih => show (hmL p at0 m ++ _).getD 0 0 = _; rw [getD_l (by rw [hm_len]; omega)]; exact ih (by omega)
    show fadd .f32 0 (fmul .f32 (ts.getD 0 0) ((hmL p at0 m).getD 0 0)) = _
    rw [e, h0]; rfl
  | n + 1, hn => by
    obtain ⟨g1, g2⟩ := hm_get p at0 m n (by omega)
    have ih := ha_sum (p := p) (at0 := at0) h0 m n (by omega)
    rw [show 2 * (n + 1) + 1 = 2 * n + 1 + 1 + 1 by omega]
    generalize hF : (fun i s => fadd .f32 s (fmul .f32 (ts.getD i 0) ((hmL p at0 m).getD i 0))) = F at ih ⊢
    have e : accN F (2 * n + 1 + 1 + 1) 0 = F (2 * n + 1 + 1) (F (2 * n + 1) (accN F (2 * n + 1) 0)) := rfl
    rw [e, ih, ← hF]
    simp only
    rw [g1, show 2 * n + 1 + 1 = 2 * n + 2 by omega, g2, fmul_comm .f32 (ts.getD (2 * n + 1) 0), fmul_comm .f32 (ts.getD (2 * n + 2) 0)]
    rfl

end Go.Proofs.LV
