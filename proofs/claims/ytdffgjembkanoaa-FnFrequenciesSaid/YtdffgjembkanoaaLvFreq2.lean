/- Phasors at parts of whole turns: sums of their products, as rationals. -/
import Derived.Test.YtdffgjembkanoaaLvFreq1
import Derived.Test.YtdffgjembkanoaaLvFnWX
namespace Go.Proofs.LV
open Go Ieee
set_option linter.unusedVariables false
set_option linter.unusedSimpArgs false

def gI (x : Nat) : Int := sg (sign single x) (units single.binade (rung single x))
theorem gI_rv (x : Nat) : sv x = (gI x : Rat) * (2 : Rat) ^ (-149 : Int) := by
  show sgR _ _ = _
  rw [show single.leastPlace = -149 from by decide]
  unfold gI sg sgR
  cases sign single x
  · simp only [Bool.false_eq_true, if_false]; rfl
  · simp only [if_true]
    rw [Rat.intCast_neg]
    show -(_ * _) = -_ * _
    rw [Rat.neg_mul]; rfl
theorem p149 : (2 : Rat) ^ (-149 : Int) * ((2 ^ 149 : Nat) : Rat) = 1 := by
  have h : (2 : Rat) ^ (-149 : Int) * (2 : Rat) ^ ((149 : Nat) : Int) = 1 := by rw [← zp_add]; decide +kernel
  rw [zp_nat] at h
  exact h
def rbR (e : PR) : Bool := Nat.blt (rung single e.2.1) single.infRung && (Nat.blt (rung single e.2.2.1) single.infRung && (Nat.blt (rung single e.2.2.2.1) single.infRung && (Nat.blt (rung single e.2.2.2.2) single.infRung &&
  (gI e.2.2.2.1 == gI e.2.1 && (gI e.2.2.2.2 == - gI e.2.2.1 && (Nat.ble ((gI e.2.1).natAbs * 10000) (10001 * 2 ^ 149) && (Nat.ble ((gI e.2.2.1).natAbs * 10000) (10001 * 2 ^ 149) && Nat.ble ((gI e.2.1).natAbs * 1000 + (gI e.2.2.1).natAbs * 1000) (1415 * 2 ^ 149))))))))
def xw (n m : Nat) : Nat := fdiv .f64 (fofi .f64 (m : Int)) (fofi .f64 (n : Int))
def lkP (x : Nat) : PR := (lkO x).getD (0, 0, 0, 0, 0)
def cz (n k i : Nat) : Int := gI (lkP (xw n (k * i))).2.1
def sz (n k i : Nat) : Int := gI (lkP (xw n (k * i))).2.2.1
def wt (n k : Nat) : Int := bif (Nat.beq k 0 || Nat.beq (2 * k) n) then 1 else 2
def sumZ : Nat → (Nat → Int) → Int
  | 0, _ => 0
  | n + 1, f => sumZ n f + f n
def gram (n i j : Nat) : Int := sumZ (n / 2 + 1) fun k => wt n k * (cz n k i * cz n k j + sz n k i * sz n k j)
def linkOk (n : Nat) : Bool := allN (n / 2 + 1) fun k => allN n fun i => match lkO (xw n (k * i)) with | some e => rbR e | none => false
def P298 : Nat := 2 ^ 149 * 2 ^ 149
def gramOk (n : Nat) : Bool := allN n fun i => allN n fun j => Nat.ble ((gram n i j - (bif Nat.beq i j then ((n * P298 : Nat) : Int) else 0)).natAbs * 10000000) (n * P298)
theorem links : (allN 21 fun n => linkOk n) = true := by decide +kernel
theorem grams : (allN 21 fun n => gramOk n) = true := by decide +kernel
theorem wts : (allN 20 fun n => decide (sumZ ((n + 1) / 2 + 1) (wt (n + 1)) = ((n + 1 : Nat) : Int))) = true := by decide +kernel
theorem sumZ_rat (f : Nat → Int) : ∀ n, ((sumZ n f : Int) : Rat) = sumQ n fun i => ((f i : Int) : Rat)
  | 0 => rfl
  | n + 1 => by
    show ((sumZ n f + f n : Int) : Rat) = sumQ n _ + _
    rw [Rat.intCast_add, sumZ_rat f n]

def pc (n k i : Nat) : Nat := (phM (xw n (k * i))).1
def ps (n k i : Nat) : Nat := (phM (xw n (k * i))).2
def qc (n k i : Nat) : Nat := (phM (fneg .f64 (xw n (k * i)))).1
def qs (n k i : Nat) : Nat := (phM (fneg .f64 (xw n (k * i)))).2
structure PhF (n k i : Nat) : Prop where
  pc : sf (pc n k i)
  ps : sf (ps n k i)
  qc : sf (qc n k i)
  qs : sf (qs n k i)
  ec : sv (LV.qc n k i) = sv (LV.pc n k i)
  es : sv (LV.qs n k i) = - sv (LV.ps n k i)
  bc : -(10001 / 10000) ≤ sv (LV.pc n k i) ∧ sv (LV.pc n k i) ≤ 10001 / 10000
  bs : -(10001 / 10000) ≤ sv (LV.ps n k i) ∧ sv (LV.ps n k i) ≤ 10001 / 10000
  bb : rabs (sv (LV.pc n k i)) + rabs (sv (LV.ps n k i)) ≤ 1415 / 1000
  zc : sv (LV.pc n k i) = (cz n k i : Rat) * (2 : Rat) ^ (-149 : Int)
  zs : sv (LV.ps n k i) = (sz n k i : Rat) * (2 : Rat) ^ (-149 : Int)
theorem gI_abs (x : Nat) : rabs (sv x) = ((gI x).natAbs : Nat) * (2 : Rat) ^ (-149 : Int) := by
  have hp := zp_pos (-149)
  rw [gI_rv]
  have h0 : (0 : Rat) ≤ ((gI x).natAbs : Nat) := nat_rat _
  have h1 := Rat.mul_nonneg h0 (Rat.le_of_lt hp)
  rcases Int.natAbs_eq (gI x) with e | e
  · have e2 : ((gI x : Int) : Rat) = ((gI x).natAbs : Nat) := by rw [e]; rfl
    rw [e2]; unfold rabs; rw [if_pos h1]
  · have e2 : ((gI x : Int) : Rat) = -(((gI x).natAbs : Nat) : Rat) := by
      have h5 := congrArg (fun z : Int => (z : Rat)) e
      have h5 : ((gI x : Int) : Rat) = ((-((gI x).natAbs : Int) : Int) : Rat) := h5
      rw [h5, Rat.intCast_neg]; rfl
    rw [e2]; unfold rabs
    split
    · rename_i h2; grind
    · grind
theorem ph_of {n k i : Nat} (hn : n ≤ 20) (hk : k < n / 2 + 1) (hi : i < n) : PhF n k i := by
  have h := allN_iff.1 (allN_iff.1 (allN_iff.1 links n (by omega)) k hk) i hi
  cases he : lkO (xw n (k * i)) with
  | none => rw [he] at h; cases h
  | some e =>
    rw [he] at h
    have h : rbR e = true := h
    obtain ⟨e1, e2⟩ := lkO_ok he
    obtain ⟨e3, e4⟩ := phR_ok e2
    rw [e1] at e3 e4
    have ep : lkP (xw n (k * i)) = e := by unfold lkP; rw [he]; rfl
    have a1 : pc n k i = e.2.1 := by unfold pc; rw [e3]
    have a2 : ps n k i = e.2.2.1 := by unfold ps; rw [e3]
    have a3 : qc n k i = e.2.2.2.1 := by unfold qc; rw [e4]
    have a4 : qs n k i = e.2.2.2.2 := by unfold qs; rw [e4]
    unfold rbR at h
    simp only [Bool.and_eq_true, beq_iff_eq] at h
    obtain ⟨r1, r2, r3, r4, g1, g2, b1, b2, b3⟩ := h
    have bl : ∀ {x : Nat}, Nat.blt (rung single x) single.infRung = true → sf x := fun hx => by
      have := Nat.le_of_ble_eq_true hx
      exact this
    have b1 := nat_le_rat (Nat.le_of_ble_eq_true b1)
    have b2 := nat_le_rat (Nat.le_of_ble_eq_true b2)
    have b3 := nat_le_rat (Nat.le_of_ble_eq_true b3)
    have hp := zp_pos (-149)
    have h1 := p149
    simp only [Rat.natCast_add, Rat.natCast_mul] at b1 b2 b3
    have c1 := Rat.mul_le_mul_of_nonneg_right b1 (Rat.le_of_lt hp)
    have c2 := Rat.mul_le_mul_of_nonneg_right b2 (Rat.le_of_lt hp)
    have c3 := Rat.mul_le_mul_of_nonneg_right b3 (Rat.le_of_lt hp)
    have g5 := gI_abs e.2.1
    have g6 := gI_abs e.2.2.1
    have l1 := le_rabs (sv e.2.1)
    have l2 := le_rabs (sv e.2.2.1)
    have k1 : ((10000 : Nat) : Rat) = 10000 := rfl
    have k2 : ((10001 : Nat) : Rat) = 10001 := rfl
    have k3 : ((1000 : Nat) : Rat) = 1000 := rfl
    have k4 : ((1415 : Nat) : Rat) = 1415 := rfl
    rw [k1, k2] at c1 c2
    rw [k3, k4] at c3
    have z1 : 10000 * rabs (sv e.2.1) ≤ 10001 := by rw [g5]; grind
    have z2 : 10000 * rabs (sv e.2.2.1) ≤ 10001 := by rw [g6]; grind
    have z3 : 1000 * rabs (sv e.2.1) + 1000 * rabs (sv e.2.2.1) ≤ 1415 := by rw [g5, g6]; grind
    refine ⟨a1 ▸ bl r1, a2 ▸ bl r2, a3 ▸ bl r3, a4 ▸ bl r4, ?_, ?_, ?_, ?_, ?_, ?_, ?_⟩
    · rw [a3, a1, gI_rv, gI_rv e.2.1, g1]
    · rw [a4, a2, gI_rv, gI_rv e.2.2.1, g2, Rat.intCast_neg, Rat.neg_mul]
    · rw [a1]; exact ⟨by grind, by grind⟩
    · rw [a2]; exact ⟨by grind, by grind⟩
    · rw [a1, a2]; grind
    · rw [a1, gI_rv]; unfold cz; rw [ep]
    · rw [a2, gI_rv]; unfold sz; rw [ep]
def wQ (n k : Nat) : Rat := if k ≠ 0 ∧ 2 * k ≠ n then 2 else 1
theorem wt_Q (n k : Nat) : ((wt n k : Int) : Rat) = wQ n k := by
  unfold wt wQ
  by_cases h1 : k = 0
  · subst h1; simp
  by_cases h2 : 2 * k = n
  · rw [show Nat.beq (2 * k) n = true from by rw [h2]; exact Nat.beq_refl n, Bool.or_true, cond_true, if_neg (by simp [h2])]; rfl
  · rw [show Nat.beq k 0 = false from by cases hb : Nat.beq k 0 <;> first | rfl | exact absurd (Nat.eq_of_beq_eq_true hb) h1,
      show Nat.beq (2 * k) n = false from by cases hb : Nat.beq (2 * k) n <;> first | rfl | exact absurd (Nat.eq_of_beq_eq_true hb) h2]
    rw [if_pos ⟨h1, h2⟩]; rfl
theorem wQ_sum {n : Nat} (hn : 1 ≤ n ∧ n ≤ 20) : sumQ (n / 2 + 1) (wQ n) = n := by
  have h := of_decide_eq_true (allN_iff.1 wts (n - 1) (by omega))
  rw [show n - 1 + 1 = n by omega] at h
  have h2 := sumZ_rat (wt n) (n / 2 + 1)
  rw [h] at h2
  rw [← sumQ_congr (f := fun i => ((wt n i : Int) : Rat)) _ (fun i _ => wt_Q n i), ← h2]; rfl
theorem gram_near {n i j : Nat} (hn : n ≤ 20) (hi : i < n) (hj : j < n) :
    Nr (sumQ (n / 2 + 1) fun k => wQ n k * (sv (pc n k i) * sv (pc n k j) + sv (ps n k i) * sv (ps n k j))) (if i = j then (n : Rat) else 0) ((n : Rat) / 10000000) := by
  have h := allN_iff.1 (allN_iff.1 (allN_iff.1 grams n (by omega)) i hi) j hj
  have h := Nat.le_of_ble_eq_true h
  have hu : (2 : Rat) ^ (-149 : Int) * (2 : Rat) ^ (-149 : Int) * ((P298 : Nat) : Rat) = 1 := by
    have := p149
    have e : ((P298 : Nat) : Rat) = ((2 ^ 149 : Nat) : Rat) * ((2 ^ 149 : Nat) : Rat) := by unfold P298; rw [Rat.natCast_mul]
    rw [e]; grind
  have hup : (0 : Rat) ≤ (2 : Rat) ^ (-149 : Int) * (2 : Rat) ^ (-149 : Int) := Rat.mul_nonneg (Rat.le_of_lt (zp_pos _)) (Rat.le_of_lt (zp_pos _))
  have e1 : (sumQ (n / 2 + 1) fun k => wQ n k * (sv (pc n k i) * sv (pc n k j) + sv (ps n k i) * sv (ps n k j))) = ((gram n i j : Int) : Rat) * ((2 : Rat) ^ (-149 : Int) * (2 : Rat) ^ (-149 : Int)) := by
    unfold gram
    rw [sumZ_rat, Rat.mul_comm, ← sumQ_mul]
    refine sumQ_congr _ fun k hk => ?_
    have p1 := ph_of hn hk hi
    have p2 := ph_of hn hk hj
    rw [p1.zc, p1.zs, p2.zc, p2.zs, Rat.intCast_mul, Rat.intCast_add, Rat.intCast_mul, Rat.intCast_mul, wt_Q]
    grind
  rw [e1]
  generalize (2 : Rat) ^ (-149 : Int) * (2 : Rat) ^ (-149 : Int) = U at *
  generalize hd : (bif Nat.beq i j then ((n * P298 : Nat) : Int) else 0) = D at h
  have e2 : (if i = j then (n : Rat) else 0) = (D : Rat) * U := by
    rw [← hd]
    by_cases hij : i = j
    · subst hij
      rw [if_pos rfl, show Nat.beq i i = true from Nat.beq_refl i, cond_true]
      show _ = ((n * P298 : Nat) : Rat) * U
      rw [Rat.natCast_mul]; grind
    · rw [if_neg hij, show Nat.beq i j = false from by cases hb : Nat.beq i j <;> first | rfl | exact absurd (Nat.eq_of_beq_eq_true hb) hij, cond_false]
      show 0 = ((0 : Int) : Rat) * U
      rw [show ((0 : Int) : Rat) = 0 from rfl]; grind
  rw [e2]
  generalize gram n i j = G at *
  have h3 : ((G : Rat) - D) * 10000000 ≤ (n : Rat) * ((P298 : Nat) : Rat) ∧ ((D : Rat) - G) * 10000000 ≤ (n : Rat) * ((P298 : Nat) : Rat) := by
    have a1 : (G - D) * 10000000 ≤ ((n * P298 : Nat) : Int) := by omega
    have a2 : (D - G) * 10000000 ≤ ((n * P298 : Nat) : Int) := by omega
    have a1 := Rat.intCast_le_intCast.2 a1
    have a2 := Rat.intCast_le_intCast.2 a2
    rw [Rat.intCast_mul, Rat.intCast_sub] at a1 a2
    have e5 : (((n * P298 : Nat) : Int) : Rat) = (n : Rat) * ((P298 : Nat) : Rat) := by
      show ((n * P298 : Nat) : Rat) = _
      rw [Rat.natCast_mul]
    rw [e5] at a1 a2
    exact ⟨a1, a2⟩
  have m1 := Rat.mul_le_mul_of_nonneg_right h3.1 hup
  have m2 := Rat.mul_le_mul_of_nonneg_right h3.2 hup
  have e6 : (n : Rat) * ((P298 : Nat) : Rat) * U = n := by rw [Rat.mul_assoc, Rat.mul_comm _ U, hu, Rat.mul_one]
  rw [e6] at m1 m2
  exact ⟨by grind, by grind⟩

end Go.Proofs.LV
