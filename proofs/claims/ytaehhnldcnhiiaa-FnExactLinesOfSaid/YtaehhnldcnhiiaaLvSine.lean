/- Sines: what they are, and how great. -/
import Derived.Test.YtaehhnldcnhiiaaLvVal
import Derived.Test.YtaehhnldcnhiiaaLvFnC
namespace Go.Proofs.LV
open Go Ieee
set_option linter.unusedVariables false
set_option linter.unusedSimpArgs false

abbrev d25 : Nat := 4598175219545276416
abbrev d5 : Nat := 4602678819172646912
abbrev d1 : Nat := 4607182418800017408
abbrev dtau : Nat := 4618760256179416344
abbrev d52 : Nat := 4841369599423283200
abbrev dm52 : Nat := 14064741636278059008

/-- the part of a number that is not whole, from 0 on -/
def fracM (x : Nat) : Nat :=
  if flt .f64 (fsub .f64 x (fofi .f64 ((ftoi .f64 .i64 x).getD 0))) 0 = true then fadd .f64 (fsub .f64 x (fofi .f64 ((ftoi .f64 .i64 x).getD 0))) d1
  else fsub .f64 x (fofi .f64 ((ftoi .f64 .i64 x).getD 0))
def sinT (x : Nat) : Bool := fge .f64 (fracM x) d5
def sinG (x : Nat) : Nat := if sinT x = true then fsub .f64 (fracM x) d5 else fracM x
def sinF (x : Nat) : Nat := if fgt .f64 (sinG x) d25 = true then fsub .f64 d5 (sinG x) else sinG x
def sinD (i : Nat) : Nat := fofi .f64 (((2 * (8 - i) * (2 * (8 - i) + 1) : Nat)) : Int)
def sinK (i : Nat) : Nat := fofi .f64 ((8 - i : Nat) : Int)
def sinP (u n : Nat) : Nat := accN (fun i p => fsub .f64 d1 (fdiv .f64 (fmul .f64 u p) (sinD i))) n d1
def sinZ (x : Nat) : Nat := fmul .f64 (sinF x) dtau
def sinM (x : Nat) : Nat := if sinT x = true then fneg .f64 (fmul .f64 (sinZ x) (sinP (fmul .f64 (sinZ x) (sinZ x)) 8)) else fmul .f64 (sinZ x) (sinP (fmul .f64 (sinZ x) (sinZ x)) 8)
def absM (x : Nat) : Nat := canon .f64 (x % 2 ^ 63)
/-- quarters are taken off -/
def qloop : Nat → Nat → Int → Nat × Int
  | 0, f, q => (f, q)
  | n + 1, f, q => if fge .f64 f d25 = true then qloop n (fsub .f64 f d25) (q + 1) else (f, q)
abbrev nar (x : Nat) : Nat := fconv .f64 .f32 x
def phC (f : Nat) : Nat := sinM (fsub .f64 d25 f)
def phQ (f : Nat) (q : Int) : Nat × Nat :=
  if q = 1 then (nar (fsub .f64 0 (sinM f)), nar (phC f)) else if q = 2 then (nar (fsub .f64 0 (phC f)), nar (fsub .f64 0 (sinM f)))
  else if q = 3 then (nar (sinM f), nar (fsub .f64 0 (phC f))) else (nar (phC f), nar (sinM f))
def phM (x : Nat) : Nat × Nat :=
  if feq .f64 (fsub .f64 x x) 0 = true then
    (if (fge .f64 x d52 || fle .f64 x dm52) = true then (1065353216, 0) else phQ (qloop 5 (fracM x) 0).1 (qloop 5 (fracM x) 0).2)
  else (2143289344, 2143289344)

/-! ### constants -/
def uexp : Nat := 1074
def UN : Nat := 2 ^ uexp
theorem un_eq : 2 ^ 1074 = UN := by simp only [UN, uexp]
theorem un_pos : 0 < UN := Nat.two_pow_pos uexp
theorem un52 : 2 ^ 1126 = UN * 2 ^ 52 := by rw [show (1126 : Nat) = uexp + 52 from rfl, Nat.pow_add]; unfold UN; exact Eq.refl _
theorem c25 : fin64 d25 ∧ 4 * val d25 = (UN : Int) := by refine ⟨by unfold fin64; decide, by decide +kernel⟩
theorem c5 : fin64 d5 ∧ 2 * val d5 = (UN : Int) := by refine ⟨by unfold fin64; decide, by decide +kernel⟩
theorem c1 : fin64 d1 ∧ val d1 = (UN : Int) := by refine ⟨by unfold fin64; decide, by decide +kernel⟩
theorem c0 : fin64 0 ∧ val 0 = 0 := by refine ⟨by unfold fin64; decide, by decide +kernel⟩
theorem ctau : bd 1077 dtau := by refine ⟨by unfold fin64; decide, by decide +kernel⟩
theorem c52 : fin64 d52 ∧ val d52 = ((2 ^ 1126 : Nat) : Int) := by refine ⟨by unfold fin64; decide, by decide +kernel⟩
theorem cm52 : fin64 dm52 ∧ val dm52 = -((2 ^ 1126 : Nat) : Int) := by refine ⟨by unfold fin64; decide, by decide +kernel⟩
theorem p72 : 4 * 2 ^ 1072 = UN := by decide +kernel
theorem p73 : 2 * 2 ^ 1073 = UN := by decide +kernel

/-! ### integers -/
theorem fofi_val {n : Int} (h : n.natAbs < 2 ^ 53) : fin64 (fofi .f64 n) ∧ val (fofi .f64 n) = n * (UN : Int) := by
  have e0 : fofi .f64 n = double.nearest (decide (n < 0)) n.natAbs 0 := rfl
  have e := nearest_shift double (decide (n < 0)) n.natAbs 0 1074
  rw [show (0 : Int) - ((1074 : Nat) : Int) = double.leastPlace by decide] at e
  obtain ⟨h1, h2⟩ := near_exact (decide (n < 0)) h (show 1074 ≤ 2000 by omega)
  rw [e0, ← e]
  refine ⟨h1, ?_⟩
  rw [h2, un_eq, ]
  by_cases hn : n < 0
  · rw [decide_eq_true hn]
    simp only [sg, if_true]
    rw [Int.natCast_mul, ← Int.neg_mul, show -((n.natAbs : Nat) : Int) = n by omega]
  · rw [decide_eq_false hn]
    simp only [sg, Bool.false_eq_true, if_false]
    rw [Int.natCast_mul, show ((n.natAbs : Nat) : Int) = n by omega]
theorem ftoi_val {x : Nat} (h : bd 1126 x) : ∃ t : Int, ftoi .f64 .i64 x = some t ∧ t.natAbs < 2 ^ 53 ∧ (val x - t * (UN : Int)).natAbs < UN := by
  obtain ⟨s, m, p, e1, v1, u1⟩ := read_val h.1
  have hm := h.2
  rw [← v1, sg_abs] at hm
  have e2 := toInt_num s m 1074 p
  rw [un_eq, show -((1074 : Nat) : Int) = double.leastPlace by decide] at e2
  have hq : m * 2 ^ p / UN ≤ 2 ^ 52 := by
    refine Nat.div_le_of_le_mul ?_
    rw [← un52]; exact hm
  have hmod := Nat.div_add_mod (m * 2 ^ p) UN
  have hlt := Nat.mod_lt (m * 2 ^ p) un_pos
  refine ⟨sg s (m * 2 ^ p / UN), ?_, by rw [sg_abs]; omega, ?_⟩
  · unfold ftoi
    simp only [FloatKind.decode, FloatKind.format]
    rw [e1, e2]
    have h1 : IntKind.min .i64 = -9223372036854775808 := by decide
    have h2 : IntKind.max .i64 = 9223372036854775807 := by decide
    have h3 : -(2 : Int) ^ 52 ≤ sg s (m * 2 ^ p / UN) ∧ sg s (m * 2 ^ p / UN) ≤ 2 ^ 52 := by
      generalize m * 2 ^ p / UN = k at *
      cases s <;> simp only [sg, if_true, Bool.false_eq_true, if_false] <;> omega
    simp only
    rw [if_pos (by rw [h1, h2]; omega)]
  · rw [← v1]
    generalize m * 2 ^ p = n at *
    have e3 : sg s n - sg s (n / UN) * (UN : Int) = sg s (n % UN) := by
      have e4 : (n : Int) = (UN : Int) * ((n / UN : Nat) : Int) + ((n % UN : Nat) : Int) := by rw [← Int.natCast_mul, ← Int.natCast_add, hmod]
      generalize n / UN = a at *
      generalize n % UN = b at *
      rw [Int.mul_comm] at e4
      cases s <;> simp only [sg, if_true, Bool.false_eq_true, if_false, Int.neg_mul] <;> omega
    rw [e3, sg_abs]; exact hlt
/-- from 0 to 1 -/
def unit (x : Nat) : Prop := fin64 x ∧ 0 ≤ val x ∧ val x ≤ (UN : Int)
theorem frac_ok {x : Nat} (h : bd 1126 x) : (ftoi .f64 .i64 x).isSome = true ∧ unit (fracM x) := by
  obtain ⟨t, e, ht, hd⟩ := ftoi_val h
  refine ⟨by rw [e]; rfl, ?_⟩
  obtain ⟨f1, f2⟩ := fofi_val ht
  have hw := fsub_within (J := 1074) h.1 f1 (by omega) (by omega) (by rw [f2, un_eq]; omega)
  rw [f2] at hw
  obtain ⟨w1, w2, w3, w4⟩ := hw
  rw [un_eq] at w4
  unfold fracM
  rw [e, Option.getD_some, flt_val w1 c0.1, c0.2]
  generalize fsub .f64 x (fofi .f64 t) = f at *
  by_cases hn : val f < 0
  · rw [decide_eq_true hn, if_pos rfl]
    have ha := fadd_within (J := 1074) w1 c1.1 (by omega) (by omega) (by rw [c1.2, un_eq]; omega)
    rw [c1.2] at ha
    obtain ⟨a1, a2, a3, a4⟩ := ha
    rw [un_eq] at a4
    have := a2 (by omega)
    exact ⟨a1, this, by omega⟩
  · rw [decide_eq_false hn, if_neg (by decide)]
    exact ⟨w1, by omega, by omega⟩

/-! ### quarters -/
theorem quarter_step {f : Nat} (h : unit f) (hq : val d25 ≤ val f) : fin64 (fsub .f64 f d25) ∧ val (fsub .f64 f d25) = val f - val d25 := by
  obtain ⟨s, m, p, e1, v1, u1⟩ := read_val h.1
  have hb : bd 1074 f := ⟨h.1, by rw [un_eq]; have := h.2; omega⟩
  have hr := bd_rung (by omega) hb
  obtain ⟨b1, b2, _⟩ := read_small (f := double) (q := 1074 - 51) (by omega) e1 (by rw [dbl.2.2]; exact hr)
  rw [dbl.2.2] at b1
  have hp : p ≤ 1022 := by omega
  have hv : ((m * 2 ^ p : Nat) : Int) = val f := by
    have h2 := h.2.1
    rw [← v1] at h2 ⊢
    cases s
    · rfl
    · simp only [sg, if_true] at h2 ⊢; omega
  have e25 : val d25 = ((2 ^ 1072 : Nat) : Int) := by have := c25.2; have := p72; omega
  have e4 : 2 ^ 1072 = 2 ^ (1072 - p) * 2 ^ p := by rw [← Nat.pow_add]; congr 1; omega
  obtain ⟨s', hn, hs'⟩ := fsub_near h.1 c25.1
  have hD : (val f - val d25).natAbs = (m - 2 ^ (1072 - p)) * 2 ^ p := by
    rw [← hv, e25, Nat.sub_mul, ← e4]
    rw [← hv, e25] at hq
    omega
  rw [hD] at hn
  obtain ⟨g1, g2⟩ := near_exact s' (m := m - 2 ^ (1072 - p)) (a := p) (Nat.lt_of_le_of_lt (Nat.sub_le _ _) (by omega)) (by omega)
  rw [← hn, ← hD] at *
  refine ⟨g1, ?_⟩
  rw [g2]
  by_cases h0 : val f - val d25 = 0
  · rw [h0]; cases s' <;> rfl
  · rw [hs' h0, decide_eq_false (by omega)]
    simp only [sg, Bool.false_eq_true, if_false]; omega
/-- what is left when the quarters are taken off, and how many they were -/
theorem qloop_ok {V : Int} (hV : val d25 = V) (hU : 4 * V = (UN : Int)) : ∀ (n : Nat) (f : Nat) (q : Int), unit f → val f < (n : Int) * V → unit (qloop n f q).1 ∧ val (qloop n f q).1 < V ∧ q ≤ (qloop n f q).2 ∧ (qloop n f q).2 ≤ q + n
  | 0, f, q, h, hn => by
    have := h.2.1
    generalize val f = v at *
    omega
  | n + 1, f, q, h, hn => by
    have hf := fge_val h.1 c25.1
    rw [hV] at hf
    by_cases hc : V ≤ val f
    · obtain ⟨s1, s2⟩ := quarter_step h (by rw [hV]; exact hc)
      rw [hV] at s2
      rw [decide_eq_true hc] at hf
      have hq : qloop (n + 1) f q = qloop n (fsub .f64 f d25) (q + 1) := by show (if fge .f64 f d25 = true then _ else _) = _; rw [hf, if_pos rfl]
      rw [hq]
      have hup := un_pos
      have h23 := h.2
      have hu : unit (fsub .f64 f d25) := ⟨s1, by rw [s2]; generalize val f = v at *; omega, by rw [s2]; generalize val f = v at *; omega⟩
      have hr := qloop_ok hV hU n (fsub .f64 f d25) (q + 1) hu (by rw [s2]; generalize val f = v at *; push_cast at hn; rw [Int.add_mul] at hn; omega)
      refine ⟨hr.1, hr.2.1, by omega, by have := hr.2.2.2; push_cast; omega⟩
    · rw [decide_eq_false hc] at hf
      have hq : qloop (n + 1) f q = (f, q) := by show (if fge .f64 f d25 = true then _ else _) = _; rw [hf, if_neg (by decide)]
      rw [hq]
      exact ⟨h, by show val f < V; omega, Int.le_refl _, by show q ≤ q + ((n + 1 : Nat) : Int); omega⟩

/-! ### sines -/
theorem sinF_bd {x : Nat} (h : bd 1126 x) : bd 1072 (sinF x) := by
  obtain ⟨_, u1, u2, u3⟩ := frac_ok h
  have k25 := c25.2
  have k5 := c5.2
  have hup := un_pos
  have hg : fin64 (sinG x) ∧ 0 ≤ val (sinG x) ∧ 2 * val (sinG x) ≤ (UN : Int) := by
    unfold sinG sinT
    rw [fge_val u1 c5.1]
    by_cases hc : val d5 ≤ val (fracM x)
    · rw [decide_eq_true hc, if_pos rfl]
      have hw := fsub_within (J := 1073) u1 c5.1 (by omega) (by omega) (by have := p73; omega)
      have := p73
      exact ⟨hw.1, hw.2.1 (by omega), by have := hw.2.2.2; omega⟩
    · rw [decide_eq_false hc, if_neg (by decide)]
      exact ⟨u1, u2, by omega⟩
  unfold sinF
  rw [fgt_val hg.1 c25.1]
  have := p72
  by_cases hc : val d25 < val (sinG x)
  · rw [decide_eq_true hc, if_pos rfl]
    have hw := fsub_within (J := 1072) c5.1 hg.1 (by omega) (by omega) (by omega)
    exact ⟨hw.1, hw.2.2.2⟩
  · rw [decide_eq_false hc, if_neg (by decide)]
    exact ⟨hg.1, by omega⟩
theorem sinD_all : ∀ i : Fin 8, rung double (sinD i.val) < double.infRung ∧ 2 ^ 1074 ≤ (val (sinD i.val)).natAbs := by decide +kernel
theorem d1_bd : bd 1074 d1 := by
  refine ⟨c1.1, ?_⟩
  rw [c1.2, un_eq]
  exact Nat.le_of_eq (Int.natAbs_natCast _)
theorem sinP_bd {u : Nat} (h : bd 1079 u) : ∀ n, n ≤ 8 → bd (1074 + 8 * n) (sinP u n)
  | 0, _ => d1_bd
  | n + 1, hn => by
    have ih := sinP_bd h n (by omega)
    have hD := sinD_all ⟨n, by omega⟩
    show bd _ (fsub .f64 d1 (fdiv .f64 (fmul .f64 u (sinP u n)) (sinD n)))
    have b1 := fmul_bd h ih (by omega) (by omega)
    have b2 := fdiv_bd b1 hD.1 hD.2 (by omega) (by omega)
    have b3 : bd (1079 + (1074 + 8 * n) - 1073 + 1) d1 := bd_mono d1_bd (by omega)
    have b4 := fsub_bd b3 b2 (by omega) (by omega)
    exact bd_mono b4 (by omega)
theorem sinM_bd {x : Nat} (h : bd 1126 x) : bd 1141 (sinM x) := by
  have b1 := fmul_bd (sinF_bd h) ctau (by omega) (by omega)
  rw [show 1072 + 1077 - 1073 = 1076 from rfl] at b1
  have b2 := fmul_bd b1 b1 (by omega) (by omega)
  rw [show 1076 + 1076 - 1073 = 1079 from rfl] at b2
  have b3 := sinP_bd b2 8 (Nat.le_refl _)
  have b4 := fmul_bd b1 b3 (by omega) (by omega)
  rw [show 1076 + (1074 + 8 * 8) - 1073 = 1141 from rfl] at b4
  have e : sinM x = if sinT x = true then fneg .f64 (fmul .f64 (sinZ x) (sinP (fmul .f64 (sinZ x) (sinZ x)) 8)) else fmul .f64 (sinZ x) (sinP (fmul .f64 (sinZ x) (sinZ x)) 8) := rfl
  rw [e]
  by_cases hc : sinT x = true
  · rw [if_pos hc]; exact fneg_bd b4
  · rw [if_neg hc]; exact b4
theorem neg_bd {x : Nat} (h : bd 1141 x) : bd 1142 (fsub .f64 0 x) := fsub_bd (J := 1141) ⟨c0.1, by rw [c0.2]; exact Nat.zero_le _⟩ h (by omega) (by omega)
/-- all that a phasor needs -/
theorem ph_ok {x : Nat} (h : bd 1126 x) : bd 1072 (qloop 5 (fracM x) 0).1 ∧ bd 1073 (fsub .f64 d25 (qloop 5 (fracM x) 0).1) ∧ 0 ≤ (qloop 5 (fracM x) 0).2 ∧ (qloop 5 (fracM x) 0).2 ≤ 5 := by
  obtain ⟨_, u⟩ := frac_ok h
  have k25 := c25.2
  have hup := un_pos
  have h7 := p72
  obtain ⟨V, hV⟩ : ∃ V, val d25 = V := ⟨_, rfl⟩
  have hc : bd 1072 d25 := ⟨c25.1, by rw [hV]; rw [hV] at k25; omega⟩
  rw [hV] at k25
  have hu := u.2.2
  obtain ⟨q1, q2, q3, q4⟩ := qloop_ok hV k25 5 (fracM x) 0 u (by generalize val (fracM x) = v at *; push_cast; omega)
  have hq1 := q1.2
  have hb : bd 1072 (qloop 5 (fracM x) 0).1 := ⟨q1.1, by generalize val (qloop 5 (fracM x) 0).1 = v at *; omega⟩
  exact ⟨hb, fsub_bd hc hb (by omega) (by omega), q3, by omega⟩
end Go.Proofs.LV
