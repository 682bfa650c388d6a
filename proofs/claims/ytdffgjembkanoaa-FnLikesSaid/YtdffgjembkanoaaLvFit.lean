/- Least squares: what a fit of a line returns is near the line of least squares. -/
import Derived.Test.YtdffgjembkanoaaLvCutX
import Derived.Test.YtdffgjembkanoaaLvFnF
import Derived.Test.YtdffgjembkanoaaLvFnGX
namespace Go.Proofs.LV
open Go Ieee
set_option linter.unusedVariables false

def uQ (n i : Nat) : Rat := (i : Rat) - ((n : Rat) - 1) / 2
def dQ (n : Nat) : Rat := (n : Rat) * ((n : Rat) * n - 1) / 12
theorem u_sum (n : Nat) : sumQ n (uQ n) = 0 := by
  have := sumQ_sub (fun i => (i : Rat)) (fun _ => ((n : Rat) - 1) / 2) n
  rw [sumQ_id, sumQ_const] at this
  show (sumQ n fun i => (i : Rat) - ((n : Rat) - 1) / 2) = 0
  rw [this]; grind
theorem u_sq (n : Nat) : (sumQ n fun i => uQ n i * uQ n i) = dQ n := by
  have e : (sumQ n fun i => uQ n i * uQ n i) = sumQ n fun i => ((i : Rat) * i - ((n : Rat) - 1) * i) + ((n : Rat) - 1) / 2 * (((n : Rat) - 1) / 2) :=
    sumQ_congr n (fun i _ => by unfold uQ; grind)
  rw [e, sumQ_add (fun i => (i : Rat) * i - ((n : Rat) - 1) * i) (fun _ => ((n : Rat) - 1) / 2 * (((n : Rat) - 1) / 2)), sumQ_sub (fun i => (i : Rat) * i) (fun i => ((n : Rat) - 1) * i), sumQ_mul, sumQ_const, sumQ_sq, sumQ_id]
  unfold dQ; grind
theorem u_le {n i : Nat} (h : i < n) : -(((n : Rat) - 1) / 2) ≤ uQ n i ∧ uQ n i ≤ ((n : Rat) - 1) / 2 := by
  have h1 := nat_rat i
  have h2 := nat_le_rat (show i + 1 ≤ n from h)
  rw [nat_succ] at h2
  unfold uQ; grind
def eC (n : Nat) : Rat := 65 * n
def eE (n : Nat) : Rat := 130 * n * e24 + (n + 1) * eta
def eN (n : Nat) : Rat := n * (eE n + ((eC n + eE n + 1) * n * e24 + eta))
theorem fit_num : ∀ n : Nat, n < 23 → 3 ≤ n → (0 < dQ n ∧ (n : Rat) * (32 * ((n : Rat) - 1)) ≤ 96 * dQ n ∧ eN n ≤ 1 / 10000 * dQ n ∧ (eC n + eE n + 1) * n ≤ 10000000 ∧ 0 ≤ eE n ∧ 0 ≤ eN n) := by decide +kernel

/-- the slope -/
theorem fit_core {n : Nat} (hn : 3 ≤ n ∧ n ≤ 22) {c : Rat} (hc : c = 1 ∨ c = 1 / 2) {U y : Nat → Nat} (hU : ∀ i, i < n → sf (U i) ∧ sv (U i) = c * uQ n i)
    (hy : ∀ i, i < n → sf (y i) ∧ -64 ≤ sv (y i) ∧ sv (y i) ≤ 64) {m : Nat} (hm : sf m) (hm1 : -65 ≤ sv m ∧ sv m ≤ 65) {Dn : Nat} (hD : sf Dn) (hDv : sv Dn = c * dQ n)
    {F : Rat} (hF : F * dQ n = sumQ n fun i => uQ n i * sv (y i)) :
    sf (fdiv .f32 (accN (fun i s => fadd .f32 s (fmul .f32 (U i) (fsub .f32 (y i) m))) n 0) Dn) ∧
    Nr (sv (fdiv .f32 (accN (fun i s => fadd .f32 s (fmul .f32 (U i) (fsub .f32 (y i) m))) n 0) Dn)) F (1 / 4000) ∧ -96 ≤ F ∧ F ≤ 96 := by
  obtain ⟨d0, f1, f2, f3, f4, f5⟩ := fit_num n (by omega) hn.1
  have n22 : (n : Rat) ≤ 22 := nat_le_rat hn.2
  have n3 : (3 : Rat) ≤ n := nat_le_rat hn.1
  have c0 : 0 < c ∧ c ≤ 1 ∧ 1 / 2 ≤ c := by rcases hc with rfl | rfl <;> decide +kernel
  have e24p : (0 : Rat) ≤ e24 := by decide +kernel
  have etap : (0 : Rat) ≤ eta := by decide +kernel
  have small : (130 : Rat) * e24 + eta ≤ 1 := by decide +kernel
  -- the bound on F
  have hFb : -96 ≤ F ∧ F ≤ 96 := by
    have hs := sumQ_le (f := fun i => uQ n i * sv (y i)) (C := 32 * ((n : Rat) - 1)) n (fun i hi => by
      obtain ⟨_, y1, y2⟩ := hy i hi
      obtain ⟨u1, u2⟩ := u_le hi
      have a := Rat.mul_le_mul_of_nonneg_left y2 (show 0 ≤ ((n : Rat) - 1) / 2 by grind)
      constructor
      · rcases Rat.le_total (a := 0) (b := uQ n i) with h | h
        · have := mul_mono h (show (0 : Rat) ≤ 64 by decide) u2 (Rat.le_refl (a := (64 : Rat)))
          have := Rat.mul_le_mul_of_nonneg_left y1 h
          grind
        · have h' : 0 ≤ -uQ n i := by grind
          have := mul_mono h' (show (0 : Rat) ≤ 64 by decide) (show -uQ n i ≤ ((n : Rat) - 1) / 2 by grind) (Rat.le_refl (a := (64 : Rat)))
          have := Rat.mul_le_mul_of_nonneg_left y2 h'
          grind
      · rcases Rat.le_total (a := 0) (b := uQ n i) with h | h
        · have := mul_mono h (show (0 : Rat) ≤ 64 by decide) u2 (Rat.le_refl (a := (64 : Rat)))
          have := Rat.mul_le_mul_of_nonneg_left y2 h
          grind
        · have h' : 0 ≤ -uQ n i := by grind
          have := mul_mono h' (show (0 : Rat) ≤ 64 by decide) (show -uQ n i ≤ ((n : Rat) - 1) / 2 by grind) (Rat.le_refl (a := (64 : Rat)))
          have := Rat.mul_le_mul_of_nonneg_left y1 h'
          grind)
    rw [← hF] at hs
    exact div_bound d0 hs.1 hs.2 f1
  -- the sum of products
  have hS := acc_nearS (g := fun i => fmul .f32 (U i) (fsub .f32 (y i) m)) (t := fun i => c * (uQ n i * (sv (y i) - sv m))) (C := eC n) (E := eE n) (N := n) (by unfold eC; grind) f4 n (Rat.le_refl) f3 (fun i hi => by
    obtain ⟨y0, y1, y2⟩ := hy i hi
    obtain ⟨u0, u3⟩ := hU i hi
    obtain ⟨u1, u2⟩ := u_le hi
    obtain ⟨s0, s1, s2⟩ := s_sub (B := 130) y0 hm (by grind) (by grind) (by decide)
    have cu : -((n : Rat) / 2) ≤ c * uQ n i ∧ c * uQ n i ≤ (n : Rat) / 2 := by
      rcases hc with rfl | rfl <;> grind
    have bnd : ∀ {z B : Rat}, 0 ≤ B → -B ≤ z → z ≤ B → -((n : Rat) / 2 * B) ≤ c * uQ n i * z ∧ c * uQ n i * z ≤ (n : Rat) / 2 * B := by
      intro z B hB z1 z2
      rcases Rat.le_total (a := 0) (b := c * uQ n i) with h | h
      · have p := Rat.mul_le_mul_of_nonneg_left z2 h
        have q := Rat.mul_le_mul_of_nonneg_left z1 h
        have r := Rat.mul_le_mul_of_nonneg_right cu.2 hB
        grind
      · have h' : 0 ≤ -(c * uQ n i) := by grind
        have p := Rat.mul_le_mul_of_nonneg_left z2 h'
        have q := Rat.mul_le_mul_of_nonneg_left z1 h'
        have r := Rat.mul_le_mul_of_nonneg_right (show -(c * uQ n i) ≤ (n : Rat) / 2 by grind) hB
        grind
    have b1 := bnd (z := sv (fsub .f32 (y i) m)) (B := 130) (by decide) (by grind) (by grind)
    have b2 := bnd (z := sv (y i) - sv m) (B := 129) (by decide) (by grind) (by grind)
    have b3 := bnd (z := sv (fsub .f32 (y i) m) - (sv (y i) - sv m)) (B := 130 * e24 + eta) (by grind) (by grind) (by grind)
    obtain ⟨p0, p1, p2⟩ := s_mul (B := 65 * n) u0 s0 (by rw [u3]; grind) (by rw [u3]; grind) (by grind)
    rw [u3] at p1 p2
    have ex : eE n = 65 * n * e24 + eta + ((n : Rat) / 2 * (130 * e24 + eta)) + (n : Rat) / 2 * eta := by unfold eE; grind
    have en : 0 ≤ (n : Rat) / 2 * eta := Rat.mul_nonneg (by grind) etap
    refine ⟨p0, ⟨?_, ?_⟩, ?_, ?_⟩
    · rw [ex]; grind
    · rw [ex]; grind
    · unfold eC; grind
    · unfold eC; grind)
  obtain ⟨h1, h2⟩ := hS
  have hT : (sumQ n fun i => c * (uQ n i * (sv (y i) - sv m))) = F * (c * dQ n) := by
    rw [sumQ_mul]
    have e1 : (sumQ n fun i => uQ n i * (sv (y i) - sv m)) = sumQ n fun i => uQ n i * sv (y i) - sv m * uQ n i := sumQ_congr n (fun i _ => by grind)
    rw [e1, sumQ_sub (fun i => uQ n i * sv (y i)) (fun i => sv m * uQ n i), sumQ_mul, u_sum, ← hF]
    grind
  rw [hT] at h2
  change Nr _ _ (eN n) at h2
  generalize hA : accN (fun i s => fadd .f32 s (fmul .f32 (U i) (fsub .f32 (y i) m))) n 0 = A at *
  have cd : 0 < c * dQ n := Rat.mul_pos c0.1 d0
  -- the quotient
  have hq : sv A / (c * dQ n) * sv Dn = sv A := by rw [hDv]; grind
  generalize hQ : sv A / (c * dQ n) = q at *
  rw [hDv] at hq
  have hqF : -(2 / 10000) ≤ q - F ∧ q - F ≤ 2 / 10000 := by
    refine div_bound cd (e := eN n) ?_ ?_ ?_
    · have := h2.2; grind
    · have := h2.1; grind
    · have := Rat.mul_le_mul_of_nonneg_right c0.2.2 (Rat.le_of_lt d0)
      grind
  obtain ⟨r0, r1, r2⟩ := s_div (B := 97) (q := q) h1 hD (by rw [hDv]; grind) (by rw [hDv]; exact hq) (by grind) (by grind) (by decide)
  have k1 : (97 : Rat) * e23 + eta ≤ 1 / 40000 := by decide +kernel
  exact ⟨r0, ⟨by grind, by grind⟩, hFb⟩
theorem fofi_n {n : Nat} (h : n < 100) : sf (fofi .f32 n) ∧ sv (fofi .f32 n) = n := by
  obtain ⟨a, b⟩ := fofi_rv .f32 (n := (n : Int)) (by show ((n : Int)).natAbs < 2 ^ 24; omega)
  exact ⟨a, b⟩
/-- a list of small numbers -/
def Sm (ys : List Nat) (n : Nat) : Prop := ys.length = n ∧ ∀ i, i < n → sf (ys.getD i 0) ∧ -64 ≤ sv (ys.getD i 0) ∧ sv (ys.getD i 0) ≤ 64
def avQ (ys : List Nat) (n : Nat) : Rat := (sumQ n fun i => sv (ys.getD i 0)) / n
def slQ (ys : List Nat) (n : Nat) : Rat := (sumQ n fun i => uQ n i * sv (ys.getD i 0)) / dQ n
def baQ (ys : List Nat) (n : Nat) : Rat := avQ ys n - slQ ys n * (((n : Rat) - 1) / 2)
theorem av_le {ys : List Nat} {n : Nat} (hn : 3 ≤ n ∧ n ≤ 22) (h : Sm ys n) : -64 ≤ avQ ys n ∧ avQ ys n ≤ 64 := by
  have n3 : (3 : Rat) ≤ n := nat_le_rat hn.1
  have hs := sumQ_le (f := fun i => sv (ys.getD i 0)) (C := 64) n (fun i hi => (h.2 i hi).2)
  have e : avQ ys n * n = sumQ n fun i => sv (ys.getD i 0) := by unfold avQ; grind
  rw [← e] at hs
  exact div_bound (d := n) (by grind) hs.1 hs.2 (by grind)
theorem mean_near {ys : List Nat} {n : Nat} (hn : 3 ≤ n ∧ n ≤ 22) (h : Sm ys n) : sf (meanM ys) ∧ Nr (sv (meanM ys)) (avQ ys n) (1 / 5000) := by
  have n22 : (n : Rat) ≤ 22 := nat_le_rat hn.2
  have n3 : (3 : Rat) ≤ n := nat_le_rat hn.1
  obtain ⟨hl, hy⟩ := h
  have hav := av_le hn ⟨hl, hy⟩
  obtain ⟨a1, a2⟩ := acc_nearS (g := fun i => ys.getD i 0) (t := fun i => sv (ys.getD i 0)) (C := 64) (E := 0) (N := 22) (by decide) (by decide) n n22 (by decide +kernel) (fun i hi => by
    obtain ⟨y0, y1, y2⟩ := hy i hi
    exact ⟨y0, ⟨by grind, by grind⟩, y1, y2⟩)
  unfold meanM sumM
  rw [hl]
  generalize hA : accN (fun i s => fadd .f32 s (ys.getD i 0)) n 0 = A at *
  have hk : (0 : Rat) + ((64 + 0 + 1) * 22 * e24 + eta) ≤ 1 / 10000 := by decide +kernel
  have hk0 : (0 : Rat) ≤ 0 + ((64 + 0 + 1) * 22 * e24 + eta) := by decide +kernel
  generalize (0 : Rat) + ((64 + 0 + 1) * 22 * e24 + eta) = K at *
  obtain ⟨f1, f2⟩ := fofi_n (n := n) (by omega)
  have e : avQ ys n * n = sumQ n fun i => sv (ys.getD i 0) := by unfold avQ; grind
  rw [← e] at a2
  have hq : sv A / n * n = sv A := by grind
  generalize sv A / n = q at *
  have hqF : -(1 / 10000) ≤ q - avQ ys n ∧ q - avQ ys n ≤ 1 / 10000 := by
    have kk : (n : Rat) * K ≤ n * (1 / 10000) := Rat.mul_le_mul_of_nonneg_left hk (by grind)
    refine div_bound (d := n) (e := n * K) (by grind) ?_ ?_ (by grind)
    · have := a2.2; grind
    · have := a2.1; grind
  obtain ⟨r0, r1, r2⟩ := s_div (B := 65) (q := q) a1 f1 (by rw [f2]; grind) (by rw [f2]; exact hq) (by grind) (by grind) (by decide)
  have k1 : (65 : Rat) * e23 + eta ≤ 1 / 40000 := by decide +kernel
  exact ⟨r0, ⟨by grind, by grind⟩⟩
/-- the base, from a slope and a mean that are near -/
theorem base_near {n : Nat} (hn : 3 ≤ n ∧ n ≤ 22) {m s md : Nat} {M F : Rat} (hm : sf m) (hm1 : Nr (sv m) M (1 / 5000)) (hM : -64 ≤ M ∧ M ≤ 64) (hs : sf s) (hs1 : Nr (sv s) F (1 / 4000)) (hF : -96 ≤ F ∧ F ≤ 96) (hd : sf md) (hd1 : sv md = ((n : Rat) - 1) / 2) :
    sf (fsub .f32 m (fmul .f32 s md)) ∧ Nr (sv (fsub .f32 m (fmul .f32 s md))) (M - F * (((n : Rat) - 1) / 2)) (1 / 300) := by
  have n22 : (n : Rat) ≤ 22 := nat_le_rat hn.2
  have n3 : (3 : Rat) ≤ n := nat_le_rat hn.1
  obtain ⟨m1, m2⟩ := hm1
  obtain ⟨s1, s2⟩ := hs1
  generalize hh : ((n : Rat) - 1) / 2 = H at *
  have H0 : 0 ≤ H ∧ H ≤ 11 := by rw [← hh]; grind
  have a1 := Rat.mul_le_mul_of_nonneg_right s1 H0.1
  have a2 := Rat.mul_le_mul_of_nonneg_right s2 H0.1
  have a3 := Rat.mul_le_mul_of_nonneg_right hF.1 H0.1
  have a4 := Rat.mul_le_mul_of_nonneg_right hF.2 H0.1
  obtain ⟨p0, p1, p2⟩ := s_mul (B := 1100) hs hd (by rw [hd1]; grind) (by rw [hd1]; grind) (by decide)
  rw [hd1] at p1 p2
  have k1 : (1100 : Rat) * e24 + eta ≤ 1 / 15000 := by decide +kernel
  obtain ⟨r0, r1, r2⟩ := s_sub (B := 1200) hm p0 (by grind) (by grind) (by decide)
  have k2 : (1200 : Rat) * e24 + eta ≤ 1 / 13000 := by decide +kernel
  exact ⟨r0, by grind, by grind⟩

theorem tab_at (n : Nat) (f : Nat → Nat) {i : Nat} (h : i < n) : (tab n f).getD i 0 = f i := tab_get _ _ _ _ h
theorem half_gr {c : Int} {b : Nat} (h : c.natAbs ≤ b) : Gr (-1) b ((c : Rat) / 2) := ⟨c, by
  have : (2 : Rat) ^ (-1 : Int) = 1 / 2 := zp_neg 1 _ (by decide +kernel)
  rw [this]; grind, h⟩
/-- the places, their middle, what is left of them -/
theorem mid_is {n : Nat} (hn : 3 ≤ n ∧ n ≤ 22) : sf (meanM (placesM n)) ∧ sv (meanM (placesM n)) = ((n : Rat) - 1) / 2 := by
  have n22 : (n : Rat) ≤ 22 := nat_le_rat hn.2
  have n3 : (3 : Rat) ≤ n := nat_le_rat hn.1
  unfold meanM sumM placesM
  rw [tab_len]
  have hg := acc_gr (g := fun i => (tab n fun i => fofi .f32 i).getD i 0) (j := 0) (b := 22) (by omega) (by omega) n (by omega) (fun i hi => by
    rw [tab_at _ _ hi]
    obtain ⟨a, b⟩ := fofi_n (n := i) (by omega)
    refine ⟨a, ⟨(i : Int), ?_, by omega⟩⟩
    rw [b]
    have : (2 : Rat) ^ (0 : Int) = 1 := rfl
    rw [this, Rat.mul_one]; rfl)
  obtain ⟨a1, a2, a3⟩ := hg
  have e : (sumQ n fun i => sv ((tab n fun i => fofi .f32 i).getD i 0)) = sumQ n fun i => (i : Rat) := sumQ_congr n (fun i hi => by rw [tab_at _ _ hi]; exact (fofi_n (n := i) (by omega)).2)
  rw [e, sumQ_id] at a3
  obtain ⟨f1, f2⟩ := fofi_n (n := n) (by omega)
  have hgr : Gr (-1) 22 (((n : Rat) - 1) / 2) := by
    have := half_gr (c := (n : Int) - 1) (b := 22) (by omega)
    have e : (((n : Int) - 1 : Int) : Rat) = (n : Rat) - 1 := by rw [Rat.intCast_sub]; rfl
    rw [e] at this; exact this
  have := div_gr .f32 (q := ((n : Rat) - 1) / 2) a1 f1 (by show sv _ ≠ 0; rw [f2]; grind) (by show _ * sv _ = sv _; rw [f2, a3]; grind) hgr (by decide) (by decide) (by decide)
  exact this
theorem u_is {n : Nat} (hn : 3 ≤ n ∧ n ≤ 22) {p md i : Nat} (hi : i < n) (hp : sf p) (hp1 : sv p = i) (hm : sf md) (hm1 : sv md = ((n : Rat) - 1) / 2) : sf (fsub .f32 p md) ∧ sv (fsub .f32 p md) = uQ n i := by
  have g1 : Gr (-1) 44 (rv single p) := by
    have := half_gr (c := 2 * (i : Int)) (b := 44) (by omega)
    have e : ((2 * (i : Int) : Int) : Rat) / 2 = i := by rw [Rat.intCast_mul]; have : ((2 : Int) : Rat) = 2 := rfl; rw [this]; have : ((i : Int) : Rat) = i := rfl; rw [this]; grind
    rw [e] at this
    show Gr _ _ (sv p)
    rw [hp1]; exact this
  have g2 : Gr (-1) 22 (rv single md) := by
    have := half_gr (c := (n : Int) - 1) (b := 22) (by omega)
    have e : (((n : Int) - 1 : Int) : Rat) = (n : Rat) - 1 := by rw [Rat.intCast_sub]; rfl
    rw [e] at this
    show Gr _ _ (sv md)
    rw [hm1]; exact this
  obtain ⟨a, b⟩ := sub_gr .f32 hp hm g1 g2 (by decide) (by decide) (by decide)
  refine ⟨a, ?_⟩
  have b : sv (fsub .f32 p md) = sv p - sv md := b
  rw [b, hp1, hm1]; rfl
theorem u_gr {n i : Nat} (hn : n ≤ 22) (hi : i < n) : Gr (-1) 22 (uQ n i) := by
  have := half_gr (c := 2 * (i : Int) - ((n : Int) - 1)) (b := 22) (by omega)
  have e : ((2 * (i : Int) - ((n : Int) - 1) : Int) : Rat) / 2 = uQ n i := by
    rw [Rat.intCast_sub, Rat.intCast_sub, Rat.intCast_mul]
    have : ((2 : Int) : Rat) = 2 := rfl
    rw [this]
    have : ((i : Int) : Rat) = i := rfl
    rw [this]
    have : ((n : Int) : Rat) = n := rfl
    rw [this]
    have : ((1 : Int) : Rat) = 1 := rfl
    rw [this]
    unfold uQ; grind
  rw [e] at this; exact this
theorem sq_gr {n i : Nat} (hn : n ≤ 22) (hi : i < n) {u v : Nat} {j : Int} {c : Rat} (hu : sf u) (hg : Gr j 22 (sv u)) (hj : -20 ≤ j ∧ j ≤ 20) (hv : sf v) (hv1 : sv v = uQ n i) : sf (fmul .f32 u v) ∧ Gr (j + -1) 484 (sv (fmul .f32 u v)) ∧ sv (fmul .f32 u v) = sv u * uQ n i := by
  obtain ⟨a, b⟩ := mul_gr .f32 (i := j) (j := -1) (a := 22) (b := 22) hu hv hg (by show Gr _ _ (sv v); rw [hv1]; exact u_gr hn hi) (by decide) (by show -149 ≤ _; omega) (by omega)
  have b : sv (fmul .f32 u v) = sv u * sv v := b
  refine ⟨a, ?_, by rw [b, hv1]⟩
  rw [b, hv1]
  have := Gr.mul hg (u_gr hn hi)
  exact this.mono (by decide)
/-- THE FIT OF A LINE -/
theorem lf_near {xs : List Nat} {n : Nat} (hn : 3 ≤ n ∧ n ≤ 22) (h : Sm xs n) : sf (lfSlope xs) ∧ Nr (sv (lfSlope xs)) (slQ xs n) (1 / 4000) ∧ (-96 ≤ slQ xs n ∧ slQ xs n ≤ 96) ∧
    sf (lfBase xs) ∧ Nr (sv (lfBase xs)) (baQ xs n) (1 / 300) := by
  obtain ⟨d0, _⟩ := fit_num n (by omega) hn.1
  obtain ⟨mf, mn⟩ := mean_near hn h
  have hav := av_le hn h
  obtain ⟨hl, hy⟩ := h
  obtain ⟨hm0, hm1⟩ := mid_is hn
  have eM : lfMid xs = meanM (placesM n) := by unfold lfMid; rw [hl]
  have pl : (placesM n).length = n := tab_len _ _
  have eU : ∀ i, i < n → (lfU xs).getD i 0 = fsub .f32 (fofi .f32 i) (meanM (placesM n)) := fun i hi => by
    unfold lfU lessOneM
    rw [eM, hl, pl, tab_at _ _ hi]
    unfold placesM
    rw [tab_at _ _ hi]
  have lU : (lfU xs).length = n := by unfold lfU lessOneM; rw [tab_len, hl, pl]
  have hU : ∀ i, i < n → sf ((lfU xs).getD i 0) ∧ sv ((lfU xs).getD i 0) = uQ n i := fun i hi => by
    rw [eU i hi]
    obtain ⟨a, b⟩ := fofi_n (n := i) (by omega)
    exact u_is hn hi a b hm0 hm1
  have eD : sf (dotM (lfU xs) (lfU xs)) ∧ sv (dotM (lfU xs) (lfU xs)) = dQ n := by
    unfold dotM
    rw [lU]
    have := acc_gr (g := fun i => fmul .f32 ((lfU xs).getD i 0) ((lfU xs).getD i 0)) (j := -2) (b := 484) (by omega) (by omega) n (by omega) (fun i hi => by
      obtain ⟨u0, u1⟩ := hU i hi
      obtain ⟨a, b, c⟩ := sq_gr (c := 0) (n := n) (by omega) hi (j := -1) u0 (by rw [u1]; exact u_gr (by omega) hi) (by omega) u0 u1
      exact ⟨a, b⟩)
    refine ⟨this.1, ?_⟩
    rw [this.2.2, ← u_sq]
    refine sumQ_congr n (fun i hi => ?_)
    obtain ⟨u0, u1⟩ := hU i hi
    obtain ⟨a, b, c⟩ := sq_gr (c := 0) (n := n) (by omega) hi (j := -1) u0 (by rw [u1]; exact u_gr (by omega) hi) (by omega) u0 u1
    rw [c, u1]
  have eN : dotM (lfU xs) (lessOneM xs (meanM xs)) = accN (fun i s => fadd .f32 s (fmul .f32 ((lfU xs).getD i 0) (fsub .f32 (xs.getD i 0) (meanM xs)))) n 0 := by
    unfold dotM
    rw [lU]
    refine accN_congr (fun i s hi => ?_)
    show fadd .f32 s (fmul .f32 _ ((lessOneM xs (meanM xs)).getD i 0)) = _
    unfold lessOneM
    rw [tab_at _ _ (by rw [hl]; exact hi)]
  have hF : slQ xs n * dQ n = sumQ n fun i => uQ n i * sv (xs.getD i 0) := by unfold slQ; grind
  have mb : -65 ≤ sv (meanM xs) ∧ sv (meanM xs) ≤ 65 := by obtain ⟨a, b⟩ := mn; grind
  obtain ⟨r1, r2, r3⟩ := fit_core hn (c := 1) (.inl rfl) (U := fun i => (lfU xs).getD i 0) (y := fun i => xs.getD i 0) (fun i hi => ⟨(hU i hi).1, by rw [(hU i hi).2]; grind⟩) hy mf mb eD.1 (by rw [eD.2]; grind) hF
  have eS : lfSlope xs = fdiv .f32 (accN (fun i s => fadd .f32 s (fmul .f32 ((lfU xs).getD i 0) (fsub .f32 (xs.getD i 0) (meanM xs)))) n 0) (dotM (lfU xs) (lfU xs)) := by
    unfold lfSlope; rw [eN]
  rw [← eS] at r1 r2
  obtain ⟨b1, b2⟩ := base_near hn mf mn hav r1 r2 r3 hm0 hm1
  refine ⟨r1, r2, r3, ?_⟩
  unfold lfBase
  rw [eM]
  exact ⟨b1, b2⟩
/-- one half -/
theorem half_is : sf 1056964608 ∧ sv 1056964608 = 1 / 2 := by
  have h : sf 1056964608 := by unfold sf fnt; decide +kernel
  exact ⟨h, lit_neg h (m := 2 ^ 23) (n := 24) (by decide +kernel) (by decide +kernel)⟩
theorem quarter_gr {c : Int} {b : Nat} (h : c.natAbs ≤ b) : Gr (-2) b ((c : Rat) / 4) := ⟨c, by
  have : (2 : Rat) ^ (-2 : Int) = 1 / 4 := zp_neg 2 _ (by decide +kernel)
  rw [this]; grind, h⟩
/-- THE FIT WITH EQUAL WEIGHTS -/
theorem wf_near {ps xs ws : List Nat} {n : Nat} (hn : 3 ≤ n ∧ n ≤ 22) (h : Sm xs n) (hp : ps.length = n ∧ ∀ i, i < n → ps.getD i 0 = fofi .f32 i) (hw : ws.length = n ∧ ∀ i, i < n → ws.getD i 0 = 1056964608) :
    sf (wfSlope ps xs ws) ∧ Nr (sv (wfSlope ps xs ws)) (slQ xs n) (1 / 4000) ∧ sf (wfBase ps xs ws) ∧ Nr (sv (wfBase ps xs ws)) (baQ xs n) (1 / 300) ∧
    (sf (sumM ws) ∧ sv (sumM ws) = (n : Rat) / 2) ∧ sf (wfDown ps ws) ∧ sv (wfDown ps ws) = 1 / 2 * dQ n := by
  obtain ⟨d0, _⟩ := fit_num n (by omega) hn.1
  have n22 : (n : Rat) ≤ 22 := nat_le_rat hn.2
  have n3 : (3 : Rat) ≤ n := nat_le_rat hn.1
  have hav := av_le hn h
  obtain ⟨hl, hy⟩ := h
  obtain ⟨pl, hp⟩ := hp
  obtain ⟨wl, hw⟩ := hw
  obtain ⟨h0, h1⟩ := half_is
  have hg : Gr (-1) 1 (sv 1056964608) := by rw [h1]; have := half_gr (c := 1) (b := 1) (by decide); exact this
  -- the sum of weights
  have eW : sf (sumM ws) ∧ sv (sumM ws) = (n : Rat) / 2 := by
    unfold sumM
    rw [wl]
    have := acc_gr (g := fun i => ws.getD i 0) (j := -1) (b := 1) (by omega) (by omega) n (by omega) (fun i hi => by rw [hw i hi]; exact ⟨h0, hg⟩)
    refine ⟨this.1, ?_⟩
    rw [this.2.2, sumQ_congr (g := fun _ => (1 : Rat) / 2) n (fun i hi => by rw [hw i hi]; exact h1), sumQ_const]
    grind
  -- the middle
  have eX : sf (wfX ps ws) ∧ sv (wfX ps ws) = ((n : Rat) - 1) / 2 := by
    unfold wfX dotM
    rw [wl]
    have hprod : ∀ i, i < n → sf (fmul .f32 (ws.getD i 0) (ps.getD i 0)) ∧ Gr (-1 + 0) 22 (sv (fmul .f32 (ws.getD i 0) (ps.getD i 0))) ∧ sv (fmul .f32 (ws.getD i 0) (ps.getD i 0)) = 1 / 2 * i := fun i hi => by
      rw [hw i hi, hp i hi]
      obtain ⟨a, b⟩ := fofi_n (n := i) (by omega)
      have gi : Gr 0 22 (sv (fofi .f32 i)) := ⟨(i : Int), by rw [b]; have : (2 : Rat) ^ (0 : Int) = 1 := rfl; rw [this, Rat.mul_one]; rfl, by omega⟩
      obtain ⟨c, d⟩ := mul_gr .f32 (i := -1) (j := 0) (a := 1) (b := 22) h0 a hg gi (by decide) (by decide) (by decide)
      have d : sv (fmul .f32 1056964608 (fofi .f32 i)) = sv 1056964608 * sv (fofi .f32 i) := d
      refine ⟨c, ?_, by rw [d, h1, b]⟩
      rw [d]
      exact (Gr.mul hg gi).mono (by decide)
    have := acc_gr (g := fun i => fmul .f32 (ws.getD i 0) (ps.getD i 0)) (j := -1 + 0) (b := 22) (by omega) (by omega) n (by omega) (fun i hi => ⟨(hprod i hi).1, (hprod i hi).2.1⟩)
    obtain ⟨a1, a2, a3⟩ := this
    rw [sumQ_congr (g := fun i => 1 / 2 * (i : Rat)) n (fun i hi => (hprod i hi).2.2), sumQ_mul, sumQ_id] at a3
    have hgr : Gr (-1) 22 (((n : Rat) - 1) / 2) := by
      have := half_gr (c := (n : Int) - 1) (b := 22) (by omega)
      have e : (((n : Int) - 1 : Int) : Rat) = (n : Rat) - 1 := by rw [Rat.intCast_sub]; rfl
      rw [e] at this; exact this
    exact div_gr .f32 (q := ((n : Rat) - 1) / 2) a1 eW.1 (by show sv _ ≠ 0; rw [eW.2]; grind) (by show _ * sv _ = sv _; rw [eW.2, a3]; grind) hgr (by decide) (by decide) (by decide)
  -- the mean
  have eY : sf (wfX xs ws) ∧ Nr (sv (wfX xs ws)) (avQ xs n) (1 / 5000) := by
    unfold wfX dotM
    rw [wl]
    obtain ⟨a1, a2⟩ := acc_nearS (g := fun i => fmul .f32 (ws.getD i 0) (xs.getD i 0)) (t := fun i => 1 / 2 * sv (xs.getD i 0)) (C := 32) (E := 32 * e24 + eta) (N := 22) (by decide) (by decide +kernel) n n22 (by decide +kernel) (fun i hi => by
      obtain ⟨y0, y1, y2⟩ := hy i hi
      rw [hw i hi]
      obtain ⟨p0, p1⟩ := s_mul (B := 32) h0 y0 (by rw [h1]; grind) (by rw [h1]; grind) (by decide)
      rw [h1] at p1
      exact ⟨p0, p1, by grind, by grind⟩)
    generalize hA : accN (fun i s => fadd .f32 s (fmul .f32 (ws.getD i 0) (xs.getD i 0))) n 0 = A at *
    have hk : (32 : Rat) * e24 + eta + ((32 + (32 * e24 + eta) + 1) * 22 * e24 + eta) ≤ 1 / 20000 := by decide +kernel
    have hk0 : (0 : Rat) ≤ 32 * e24 + eta + ((32 + (32 * e24 + eta) + 1) * 22 * e24 + eta) := by decide +kernel
    generalize (32 : Rat) * e24 + eta + ((32 + (32 * e24 + eta) + 1) * 22 * e24 + eta) = K at *
    have e : avQ xs n * n = sumQ n fun i => sv (xs.getD i 0) := by unfold avQ; grind
    rw [sumQ_mul, ← e] at a2
    have hq : sv A / ((n : Rat) / 2) * ((n : Rat) / 2) = sv A := by grind
    generalize sv A / ((n : Rat) / 2) = q at *
    have hqF : -(1 / 10000) ≤ q - avQ xs n ∧ q - avQ xs n ≤ 1 / 10000 := by
      have kk : (n : Rat) * K ≤ n * (1 / 20000) := Rat.mul_le_mul_of_nonneg_left hk (by grind)
      refine div_bound (d := (n : Rat) / 2) (e := n * K) (by grind) ?_ ?_ (by grind)
      · have := a2.2; grind
      · have := a2.1; grind
    obtain ⟨r0, r1, r2⟩ := s_div (B := 65) (q := q) a1 eW.1 (by rw [eW.2]; grind) (by rw [eW.2]; exact hq) (by grind) (by grind) (by decide)
    have k1 : (65 : Rat) * e23 + eta ≤ 1 / 40000 := by decide +kernel
    exact ⟨r0, ⟨by grind, by grind⟩⟩
  -- what is left of the places
  have lU : (wfU ps ws).length = n := by unfold wfU lessOneM; rw [tab_len, pl]
  have hU : ∀ i, i < n → sf ((wfU ps ws).getD i 0) ∧ sv ((wfU ps ws).getD i 0) = uQ n i := fun i hi => by
    unfold wfU lessOneM
    rw [tab_at _ _ (by rw [pl]; exact hi), hp i hi]
    obtain ⟨a, b⟩ := fofi_n (n := i) (by omega)
    exact u_is hn hi a b eX.1 eX.2
  have hV : ∀ i, i < n → sf (fmul .f32 (ws.getD i 0) ((wfU ps ws).getD i 0)) ∧ Gr (-2) 22 (sv (fmul .f32 (ws.getD i 0) ((wfU ps ws).getD i 0))) ∧ sv (fmul .f32 (ws.getD i 0) ((wfU ps ws).getD i 0)) = 1 / 2 * uQ n i := fun i hi => by
    obtain ⟨u0, u1⟩ := hU i hi
    rw [hw i hi]
    have gu : Gr (-1) 22 (sv ((wfU ps ws).getD i 0)) := by rw [u1]; exact u_gr (by omega) hi
    obtain ⟨c, d⟩ := mul_gr .f32 (i := -1) (j := -1) (a := 1) (b := 22) h0 u0 hg gu (by decide) (by decide) (by decide)
    have d : sv (fmul .f32 1056964608 ((wfU ps ws).getD i 0)) = sv 1056964608 * sv ((wfU ps ws).getD i 0) := d
    refine ⟨c, ?_, by rw [d, h1, u1]⟩
    rw [d]
    have gg := (Gr.mul hg gu).mono (show 1 * 22 ≤ 22 by decide)
    rw [show (-1 : Int) + -1 = -2 from by decide] at gg
    exact gg
  have eD : sf (wfDown ps ws) ∧ sv (wfDown ps ws) = 1 / 2 * dQ n := by
    unfold wfDown weighedM
    rw [wl]
    have sq : ∀ i, i < n → sf (fmul .f32 (fmul .f32 (ws.getD i 0) ((wfU ps ws).getD i 0)) ((wfU ps ws).getD i 0)) ∧ Gr (-2 + -1) 484 (sv (fmul .f32 (fmul .f32 (ws.getD i 0) ((wfU ps ws).getD i 0)) ((wfU ps ws).getD i 0))) ∧
        sv (fmul .f32 (fmul .f32 (ws.getD i 0) ((wfU ps ws).getD i 0)) ((wfU ps ws).getD i 0)) = 1 / 2 * (uQ n i * uQ n i) := fun i hi => by
      obtain ⟨u0, u1⟩ := hU i hi
      obtain ⟨v0, v1, v2⟩ := hV i hi
      obtain ⟨a, b, c⟩ := sq_gr (c := 0) (n := n) (by omega) hi (j := -2) v0 v1 (by omega) u0 u1
      exact ⟨a, b, by rw [c, v2]; grind⟩
    have := acc_gr (g := fun i => fmul .f32 (fmul .f32 (ws.getD i 0) ((wfU ps ws).getD i 0)) ((wfU ps ws).getD i 0)) (j := -2 + -1) (b := 484) (by omega) (by omega) n (by omega) (fun i hi => ⟨(sq i hi).1, (sq i hi).2.1⟩)
    refine ⟨this.1, ?_⟩
    rw [this.2.2, sumQ_congr (g := fun i => 1 / 2 * (uQ n i * uQ n i)) n (fun i hi => (sq i hi).2.2), sumQ_mul, u_sq]
  have eN : weighedM ws (wfU ps ws) (wfU xs ws) = accN (fun i s => fadd .f32 s (fmul .f32 (fmul .f32 (ws.getD i 0) ((wfU ps ws).getD i 0)) (fsub .f32 (xs.getD i 0) (wfX xs ws)))) n 0 := by
    unfold weighedM
    rw [wl]
    refine accN_congr (fun i s hi => ?_)
    have eV : (wfU xs ws).getD i 0 = fsub .f32 (xs.getD i 0) (wfX xs ws) := by
      unfold wfU lessOneM
      rw [tab_at _ _ (by rw [hl]; exact hi)]
    show fadd .f32 s (fmul .f32 _ ((wfU xs ws).getD i 0)) = _
    rw [eV]
  have hF : slQ xs n * dQ n = sumQ n fun i => uQ n i * sv (xs.getD i 0) := by unfold slQ; grind
  have mb : -65 ≤ sv (wfX xs ws) ∧ sv (wfX xs ws) ≤ 65 := by obtain ⟨a, b⟩ := eY.2; grind
  obtain ⟨r1, r2, r3⟩ := fit_core hn (c := 1 / 2) (.inr rfl) (U := fun i => fmul .f32 (ws.getD i 0) ((wfU ps ws).getD i 0)) (y := fun i => xs.getD i 0) (fun i hi => ⟨(hV i hi).1, (hV i hi).2.2⟩) hy eY.1 mb eD.1 eD.2 hF
  have eS : wfSlope ps xs ws = fdiv .f32 (accN (fun i s => fadd .f32 s (fmul .f32 (fmul .f32 (ws.getD i 0) ((wfU ps ws).getD i 0)) (fsub .f32 (xs.getD i 0) (wfX xs ws)))) n 0) (wfDown ps ws) := by
    unfold wfSlope; rw [eN]
  rw [← eS] at r1 r2
  obtain ⟨b1, b2⟩ := base_near hn eY.1 eY.2 hav r1 r2 r3 eX.1 eX.2
  exact ⟨r1, r2, b1, b2, eW, eD.1, eD.2⟩
end Go.Proofs.LV
