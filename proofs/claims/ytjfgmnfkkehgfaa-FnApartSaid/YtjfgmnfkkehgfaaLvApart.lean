/- What the law FnApart rests on: means in boxes, rounds of trend and season, lists with one step. -/
import Derived.Test.YtjfgmnfkkehgfaaLvNum2X
import Derived.Test.YtjfgmnfkkehgfaaLvFnDD
import Derived.Test.YtjfgmnfkkehgfaaLvFnI
namespace Go.Proofs.LV
open Go Ieee
set_option linter.unusedVariables false
set_option linter.unusedSimpArgs false

/-! ### means of numbers in a box -/
theorem mean_box {g : Nat → Nat} {n : Nat} (hn : 1 ≤ n ∧ n ≤ 22) {lo hi : Rat} (h : ∀ i, i < n → sf (g i) ∧ lo ≤ sv (g i) ∧ sv (g i) ≤ hi) (hb : -700 ≤ lo ∧ hi ≤ 700) :
    sf (fdiv .f32 (accN (fun i s => fadd .f32 s (g i)) n 0) (fofi .f32 (n : Int))) ∧ lo - 1 / 500 ≤ sv (fdiv .f32 (accN (fun i s => fadd .f32 s (g i)) n 0) (fofi .f32 (n : Int))) ∧ sv (fdiv .f32 (accN (fun i s => fadd .f32 s (g i)) n 0) (fofi .f32 (n : Int))) ≤ hi + 1 / 500 := by
  have n1 : (1 : Rat) ≤ n := nat_le_rat hn.1
  have n22 : (n : Rat) ≤ 22 := nat_le_rat hn.2
  obtain ⟨s1, s2, s3⟩ := acc_nearS (g := g) (t := fun i => sv (g i)) (C := 700) (E := 0) (N := 22) (by decide) (by decide) n n22 (by decide +kernel) (fun i hi => by
    obtain ⟨a, b, c⟩ := h i hi
    exact ⟨a, ⟨by grind, by grind⟩, by grind, by grind⟩)
  have hE : (0 : Rat) + ((700 + 0 + 1) * 22 * e24 + eta) ≤ 1 / 1000 := by decide +kernel
  have hE2 := Rat.mul_le_mul_of_nonneg_left hE (show (0 : Rat) ≤ n by grind)
  obtain ⟨b1, b2⟩ := sumQ_between n (fun i hi => (h i hi).2)
  obtain ⟨f1, f2⟩ := fofi_rv .f32 (n := (n : Int)) (nat_small (by omega))
  have f2 : sv (fofi .f32 (n : Int)) = (n : Rat) := f2
  obtain ⟨q, hq⟩ : ∃ q : Rat, q * (n : Rat) = sv (accN (fun i s => fadd .f32 s (g i)) n 0) := ⟨_, Rat.div_mul_cancel (show (n : Rat) ≠ 0 by grind)⟩
  obtain ⟨k1, k2⟩ := rat_div_between (lo := lo - 1 / 1000) (hi := hi + 1 / 1000) (show (0 : Rat) < n by grind) hq (by grind) (by grind)
  obtain ⟨d1, d2, d3⟩ := s_div (B := 701) s1 f1 (by rw [f2]; grind) (q := q) (by rw [f2]; exact hq) (by grind) (by grind) (by decide +kernel)
  have hE3 : 701 * e23 + eta ≤ 1 / 1000 := by decide +kernel
  exact ⟨d1, by grind, by grind⟩
/-- the means of the places of a period -/
theorem fold_box {xs : List Nat} {per : Nat} (h1 : 1 ≤ per ∧ per ≤ xs.length) (hl : xs.length ≤ 21) {lo hi : Rat} (h : ∀ i, i < xs.length → sf (xs.getD i 0) ∧ lo ≤ sv (xs.getD i 0) ∧ sv (xs.getD i 0) ≤ hi) (hb : -700 ≤ lo ∧ hi ≤ 700) {k : Nat} (hk : k < per) :
    sf ((foldM xs per).getD k 0) ∧ lo - 1 / 500 ≤ sv ((foldM xs per).getD k 0) ∧ sv ((foldM xs per).getD k 0) ≤ hi + 1 / 500 := by
  have e : (foldM xs per).getD k 0 = fdiv .f32 (fsumM xs per k (cntM xs.length k per)) (fofi .f32 (cntM xs.length k per)) := tab_at' _ _ hk
  rw [e]
  have c1 := cnt_ge hk h1.2
  have c2 := cnt_top xs.length k per h1.1
  exact mean_box (g := fun j => xs.getD (k + j * per) 0) (n := cntM xs.length k per) ⟨c1, by omega⟩ (fun j hj => h _ ((cnt_lt xs.length k per j hk).1 hj)) hb
theorem meanM_is (w : List Nat) : meanM w = fdiv .f32 (accN (fun i s => fadd .f32 s (w.getD i 0)) w.length 0) (fofi .f32 (w.length : Int)) := rfl
/-- the numbers around a place -/
theorem mov_box {ys : List Nat} {side i : Nat} (hi : i < ys.length) (hl : ys.length ≤ 21) {lo hi' : Rat} (h : ∀ j, j < ys.length → sf (ys.getD j 0) ∧ lo ≤ sv (ys.getD j 0) ∧ sv (ys.getD j 0) ≤ hi') (hb : -700 ≤ lo ∧ hi' ≤ 700) :
    sf ((movM meanM ys side).getD i 0) ∧ lo - 1 / 500 ≤ sv ((movM meanM ys side).getD i 0) ∧ sv ((movM meanM ys side).getD i 0) ≤ hi' + 1 / 500 := by
  rw [mov_at _ _ _ hi, meanM_is]
  have wl := win_lenE ys side i hi
  exact mean_box (g := fun j => (winM ys side i).getD j 0) (n := (winM ys side i).length) ⟨by omega, by omega⟩ (fun j hj => by
    rw [win_get _ _ _ hj]
    rw [wl] at hj
    exact h _ (by omega)) hb
theorem less_at (xs ys : List Nat) {i : Nat} (hi : i < xs.length) : (lessM xs ys).getD i 0 = fsub .f32 (xs.getD i 0) (ys.getD i 0) := tab_at' _ _ hi
theorem lessOne_at (xs : List Nat) (m : Nat) {i : Nat} (hi : i < xs.length) : (lessOneM xs m).getD i 0 = fsub .f32 (xs.getD i 0) m := tab_at' _ _ hi
theorem spr_at (ps : List Nat) {n i : Nat} (hi : i < n) : (sprM ps n).getD i 0 = ps.getD (i % ps.length) 0 := tab_at' _ _ hi
/-- a difference in a box -/
theorem sub_box {x y : Nat} {A : Rat} (hx : sf x) (hy : sf y) (h : -A ≤ sv x - sv y ∧ sv x - sv y ≤ A) (hA : A ≤ 2000) : sf (fsub .f32 x y) ∧ Nr (sv (fsub .f32 x y)) (sv x - sv y) (1 / 5000) := by
  obtain ⟨d1, d2, d3⟩ := s_sub (B := 2000) hx hy (by grind) (by grind) (by decide +kernel)
  have hE : 2000 * e24 + eta ≤ 1 / 5000 := by decide +kernel
  exact ⟨d1, by grind, by grind⟩

/-! ### seasons add up to nothing -/
theorem season_box {ms : List Nat} (hl : 1 ≤ ms.length ∧ ms.length ≤ 6) {Z : Rat} (hZ : 0 ≤ Z ∧ Z ≤ 241) (h : ∀ i, i < ms.length → sf (ms.getD i 0) ∧ -Z ≤ sv (ms.getD i 0) ∧ sv (ms.getD i 0) ≤ Z) :
    (∀ i, i < ms.length → sf ((lessOneM ms (meanM ms)).getD i 0) ∧ -(2 * Z + 1 / 100) ≤ sv ((lessOneM ms (meanM ms)).getD i 0) ∧ sv ((lessOneM ms (meanM ms)).getD i 0) ≤ 2 * Z + 1 / 100) ∧
      -(88 / 100000) ≤ (sumQ ms.length fun i => sv ((lessOneM ms (meanM ms)).getD i 0)) ∧ (sumQ ms.length fun i => sv ((lessOneM ms (meanM ms)).getD i 0)) ≤ 88 / 100000 := by
  have n1 : (1 : Rat) ≤ ms.length := nat_le_rat hl.1
  have n6 : (ms.length : Rat) ≤ 6 := nat_le_rat hl.2
  obtain ⟨s1, s2, s3⟩ := acc_nearS (g := fun i => ms.getD i 0) (t := fun i => sv (ms.getD i 0)) (C := 241) (E := 0) (N := 6) (by decide) (by decide) ms.length n6 (by decide +kernel) (fun i hi => by
    obtain ⟨a, b, c⟩ := h i hi
    exact ⟨a, ⟨by grind, by grind⟩, by grind, by grind⟩)
  have hE : (0 : Rat) + ((241 + 0 + 1) * 6 * e24 + eta) ≤ 87 / 1000000 := by decide +kernel
  have hE2 := Rat.mul_le_mul_of_nonneg_left hE (show (0 : Rat) ≤ ms.length by grind)
  obtain ⟨b1, b2⟩ := sumQ_le (f := fun i => sv (ms.getD i 0)) (C := Z) ms.length (fun i hi => (h i hi).2)
  obtain ⟨f1, f2⟩ := fofi_rv .f32 (n := (ms.length : Int)) (nat_small (by omega))
  have f2 : sv (fofi .f32 (ms.length : Int)) = (ms.length : Rat) := f2
  obtain ⟨q, hq⟩ : ∃ q : Rat, q * (ms.length : Rat) = sv (accN (fun i s => fadd .f32 s (ms.getD i 0)) ms.length 0) := ⟨_, Rat.div_mul_cancel (show (ms.length : Rat) ≠ 0 by grind)⟩
  obtain ⟨k1, k2⟩ := rat_div_between (lo := -Z - 87 / 1000000) (hi := Z + 87 / 1000000) (show (0 : Rat) < ms.length by grind) hq (by grind) (by grind)
  obtain ⟨d1, d2, d3⟩ := s_div (B := 2411 / 10) s1 f1 (by rw [f2]; grind) (q := q) (by rw [f2]; exact hq) (by grind) (by grind) (by decide +kernel)
  have hE3 : 2411 / 10 * e23 + eta ≤ 29 / 1000000 := by decide +kernel
  rw [← meanM_is] at d1 d2 d3
  generalize meanM ms = mu at *
  have hs : ∀ i, i < ms.length → sf ((lessOneM ms mu).getD i 0) ∧ Nr (sv ((lessOneM ms mu).getD i 0)) (sv (ms.getD i 0) - sv mu) (29 / 1000000) := fun i hi => by
    obtain ⟨a, b, c⟩ := h i hi
    rw [lessOne_at _ _ hi]
    obtain ⟨r1, r2, r3⟩ := s_sub (B := 483) a d1 (by grind) (by grind) (by decide +kernel)
    have hE4 : 483 * e24 + eta ≤ 29 / 1000000 := by decide +kernel
    exact ⟨r1, by grind, by grind⟩
  refine ⟨fun i hi => ?_, ?_⟩
  · obtain ⟨a, b, c⟩ := h i hi
    obtain ⟨x, y, z⟩ := hs i hi
    exact ⟨x, by grind, by grind⟩
  · have e : (sumQ ms.length fun i => sv ((lessOneM ms mu).getD i 0)) = (sumQ ms.length fun i => sv ((lessOneM ms mu).getD i 0) - (sv (ms.getD i 0) - sv mu)) + ((sumQ ms.length fun i => sv (ms.getD i 0)) - ms.length * sv mu) := by
      rw [sumQ_sub (fun i => sv ((lessOneM ms mu).getD i 0)) (fun i => sv (ms.getD i 0) - sv mu), sumQ_sub (fun i => sv (ms.getD i 0)) (fun _ => sv mu), sumQ_const]
      grind
    obtain ⟨c1, c2⟩ := sumQ_le (f := fun i => sv ((lessOneM ms mu).getD i 0) - (sv (ms.getD i 0) - sv mu)) (C := 29 / 1000000) ms.length (fun i hi => by
      obtain ⟨x, y, z⟩ := hs i hi
      constructor <;> grind)
    rw [e]
    have m1 := Rat.mul_le_mul_of_nonneg_left (show sv mu - q ≤ 29 / 1000000 by grind) (show (0 : Rat) ≤ ms.length by grind)
    have m2 := Rat.mul_le_mul_of_nonneg_left (show q - sv mu ≤ 29 / 1000000 by grind) (show (0 : Rat) ≤ ms.length by grind)
    have hq' : (ms.length : Rat) * q = q * ms.length := Rat.mul_comm _ _
    have k : (6 : Rat) * (29 / 1000000) = 174 / 1000000 := by decide +kernel
    constructor <;> grind
/-! ### the rounds -/
def abB : Nat → Rat
  | 0 => 0
  | n + 1 => 2 * (16 + abB n) + 1 / 10
theorem abB_3 : abB 0 = 0 ∧ abB 1 = 321 / 10 ∧ abB 2 = 963 / 10 ∧ abB 3 = 2247 / 10 ∧ abB 4 = 4815 / 10 := by decide +kernel
theorem abB_le {n : Nat} (h : n ≤ 3) : 0 ≤ abB n ∧ abB n ≤ 2247 / 10 := by
  obtain ⟨a, b, c, d, _⟩ := abB_3
  have : n = 0 ∨ n = 1 ∨ n = 2 ∨ n = 3 := by omega
  rcases this with e | e | e | e <;> subst e <;> constructor <;> grind
/-- what is told of a season -/
structure SB (per : Nat) (A : Rat) (ps : List Nat) : Prop where
  ln : ps.length = per
  bd : ∀ k, k < per → sf (ps.getD k 0) ∧ -A ≤ sv (ps.getD k 0) ∧ sv (ps.getD k 0) ≤ A
/-- what is told of a trend -/
structure TB (xs : List Nat) (A : Rat) (ts : List Nat) : Prop where
  ln : ts.length = xs.length
  bd : ∀ i, i < xs.length → sf (ts.getD i 0) ∧ -A ≤ sv (xs.getD i 0) - sv (ts.getD i 0) ∧ sv (xs.getD i 0) - sv (ts.getD i 0) ≤ A
/-- a list whose numbers lie within 16 of each other, and within 23 -/
structure RB (xs : List Nat) (n : Nat) : Prop where
  hn : 1 ≤ n ∧ n ≤ 21
  ln : xs.length = n
  hl : HL 46 xs
  rg : ∀ i j, i < n → j < n → sv (xs.getD i 0) - sv (xs.getD j 0) ≤ 16
section
variable {xs : List Nat} {n : Nat}
theorem trend_box (r : RB xs n) {per side : Nat} (hp : 1 ≤ per ∧ per ≤ n) {A : Rat} (hA : 0 ≤ A ∧ A ≤ 2247 / 10) {ps : List Nat} (s : SB per A ps) :
    TB xs (16 + A + 1 / 200) (movM meanM (lessM xs (sprM ps xs.length)) side) := by
  have hn := r.hn; have ln := r.ln
  have ll : (lessM xs (sprM ps xs.length)).length = xs.length := less_len _ _
  refine ⟨by rw [mov_len, ll], fun i hi => ?_⟩
  have hy : ∀ j, j < xs.length → sf ((lessM xs (sprM ps xs.length)).getD j 0) ∧ sv (xs.getD i 0) - 16 - A - 1 / 5000 ≤ sv ((lessM xs (sprM ps xs.length)).getD j 0) ∧ sv ((lessM xs (sprM ps xs.length)).getD j 0) ≤ sv (xs.getD i 0) + 16 + A + 1 / 5000 := fun j hj => by
    rw [less_at _ _ hj, spr_at _ hj, s.ln]
    obtain ⟨p1, p2, p3⟩ := s.bd (j % per) (Nat.mod_lt _ (by omega))
    obtain ⟨x1, x2⟩ := (r.hl j hj).bound HL46
    have g1 := r.rg i j (by omega) (by omega)
    have g2 := r.rg j i (by omega) (by omega)
    obtain ⟨d1, d2, d3⟩ := sub_box (A := 1000) (r.hl j hj).1 p1 (by constructor <;> grind) (by decide +kernel)
    exact ⟨d1, by grind, by grind⟩
  obtain ⟨x1, x2⟩ := (r.hl i hi).bound HL46
  obtain ⟨m1, m2, m3⟩ := mov_box (ys := lessM xs (sprM ps xs.length)) (side := side) (i := i) (by omega) (by omega) (fun j hj => hy j (by omega)) (by constructor <;> grind)
  exact ⟨m1, by grind, by grind⟩
/-- what a round leaves for the season -/
theorem rest_box (r : RB xs n) {Z : Rat} (hZ : 0 ≤ Z ∧ Z ≤ 2408 / 10) {ts : List Nat} (t : TB xs Z ts) {per : Nat} (hp : 1 ≤ per ∧ per ≤ n) :
    (foldM (lessM xs ts) per).length = per ∧ ∀ k, k < per → sf ((foldM (lessM xs ts) per).getD k 0) ∧ -(Z + 1 / 400) ≤ sv ((foldM (lessM xs ts) per).getD k 0) ∧ sv ((foldM (lessM xs ts) per).getD k 0) ≤ Z + 1 / 400 := by
  have hn := r.hn; have ln := r.ln
  have ll : (lessM xs ts).length = xs.length := less_len _ _
  refine ⟨tab_len _ _, fun k hk => ?_⟩
  obtain ⟨a, b, c⟩ := fold_box (xs := lessM xs ts) (per := per) (by omega) (by omega) (lo := -(Z + 1 / 5000)) (hi := Z + 1 / 5000) (fun i hi => by
    rw [ll] at hi
    obtain ⟨p1, p2, p3⟩ := t.bd i hi
    rw [less_at _ _ hi]
    obtain ⟨d1, d2, d3⟩ := sub_box (A := 1000) (r.hl i hi).1 p1 (by constructor <;> grind) (by decide +kernel)
    exact ⟨d1, by grind, by grind⟩) (by constructor <;> grind) hk
  exact ⟨a, by grind, by grind⟩
theorem zeros_SB (per : Nat) : SB per 0 (List.replicate per 0) := ⟨by simp, fun k hk => by
  have e : (List.replicate per 0).getD k 0 = 0 := by simp [List.getD, hk]
  rw [e]
  have z : sv 0 = 0 := zero_rv _
  exact ⟨zero_sf, by rw [z]; decide, by rw [z]; decide⟩⟩
/-- the rounds -/
theorem ta_box (r : RB xs n) {per : Nat} (side : Nat) (hp : 1 ≤ per ∧ per ≤ n ∧ per ≤ 6) : ∀ k, k ≤ 4 → SB per (abB k) (taS xs per side k).2 ∧
    (1 ≤ k → TB xs (16 + abB (k - 1) + 1 / 200) (taS xs per side k).1 ∧ -(88 / 100000) ≤ (sumQ per fun i => sv ((taS xs per side k).2.getD i 0)) ∧ (sumQ per fun i => sv ((taS xs per side k).2.getD i 0)) ≤ 88 / 100000)
  | 0, _ => ⟨zeros_SB per, fun h => absurd h (by omega)⟩
  | k + 1, hk => by
    obtain ⟨s, _⟩ := ta_box r side hp k (by omega)
    have hb := abB_le (n := k) (by omega)
    have t := trend_box r (per := per) (side := side) ⟨hp.1, hp.2.1⟩ hb s
    obtain ⟨f1, f2⟩ := rest_box r (Z := 16 + abB k + 1 / 200) (by constructor <;> grind) t (per := per) ⟨hp.1, hp.2.1⟩
    obtain ⟨z1, z2, z3⟩ := season_box (ms := foldM (lessM xs (movM meanM (lessM xs (sprM (taS xs per side k).2 xs.length)) side)) per) (Z := 16 + abB k + 1 / 200 + 1 / 400) (by omega) (by constructor <;> grind) (fun i hi => f2 i (by omega))
    rw [f1] at z1 z2 z3
    refine ⟨⟨by show (lessOneM _ _).length = _; rw [lessOne_len, f1], fun i hi => ?_⟩, fun _ => ⟨t, z2, z3⟩⟩
    obtain ⟨a, b, c⟩ := z1 i hi
    have e : abB (k + 1) = 2 * (16 + abB k) + 1 / 10 := rfl
    exact ⟨a, by rw [e]; exact Rat.le_trans (by grind) b, by rw [e]; exact Rat.le_trans c (by grind)⟩
/-- the season of the list itself -/
theorem alone_box (r : RB xs n) {per : Nat} (hp : 1 ≤ per ∧ per ≤ n ∧ per ≤ 6) : SB per 100 (seasonM xs per) ∧ -(88 / 100000) ≤ (sumQ per fun i => sv ((seasonM xs per).getD i 0)) ∧ (sumQ per fun i => sv ((seasonM xs per).getD i 0)) ≤ 88 / 100000 := by
  have hn := r.hn; have ln := r.ln
  have f1 : (foldM xs per).length = per := tab_len _ _
  have f2 : ∀ k, k < per → sf ((foldM xs per).getD k 0) ∧ -24 ≤ sv ((foldM xs per).getD k 0) ∧ sv ((foldM xs per).getD k 0) ≤ 24 := fun k hk => by
    obtain ⟨a, b, c⟩ := fold_box (xs := xs) (per := per) (by omega) (by omega) (lo := -23) (hi := 23) (fun i hi => ⟨(r.hl i hi).1, (r.hl i hi).bound HL46⟩) (by constructor <;> decide) hk
    exact ⟨a, by grind, by grind⟩
  obtain ⟨z1, z2, z3⟩ := season_box (ms := foldM xs per) (Z := 24) (by omega) (by constructor <;> decide) (fun i hi => f2 i (by omega))
  rw [f1] at z1 z2 z3
  refine ⟨⟨by show (lessOneM _ _).length = _; rw [lessOne_len, f1], fun i hi => ?_⟩, z2, z3⟩
  obtain ⟨a, b, c⟩ := z1 i hi
  exact ⟨a, by exact Rat.le_trans (by decide +kernel) b, by exact Rat.le_trans c (by decide +kernel)⟩
/-- trend, season and rest -/
theorem parts_near {x t s : Nat} {A B : Rat} (hx : sf x) (ht : sf t) (hs : sf s) (x1 : -23 ≤ sv x) (x2 : sv x ≤ 23) (hA : -A ≤ sv x - sv t ∧ sv x - sv t ≤ A) (hA2 : A ≤ 241) (hB : -B ≤ sv s ∧ sv s ≤ B) (hB2 : B ≤ 482) :
    sf (fsub .f32 (fsub .f32 x t) s) ∧ sf (fadd .f32 (fadd .f32 t s) (fsub .f32 (fsub .f32 x t) s)) ∧ Nr (sv (fadd .f32 (fadd .f32 t s) (fsub .f32 (fsub .f32 x t) s))) (sv x) (1 / 5000) := by
  obtain ⟨a1, a2, a3⟩ := s_sub (B := 800) hx ht (by grind) (by grind) (by decide +kernel)
  have hE : 800 * e24 + eta ≤ 1 / 20000 := by decide +kernel
  obtain ⟨b1, b2, b3⟩ := s_sub (B := 800) a1 hs (by grind) (by grind) (by decide +kernel)
  obtain ⟨c1, c2, c3⟩ := s_add (B := 800) ht hs (by grind) (by grind) (by decide +kernel)
  obtain ⟨d1, d2, d3⟩ := s_add (B := 800) c1 b1 (by grind) (by grind) (by decide +kernel)
  exact ⟨b1, d1, by grind, by grind⟩
end
/-! ### the drawn series -/
theorem tdiv2_sign {x : Int} (h : -40 ≤ x ∧ x ≤ 40) : (0 ≤ x → 0 ≤ x.tdiv 2 ∧ x.tdiv 2 ≤ 20) ∧ (x ≤ 0 → -20 ≤ x.tdiv 2 ∧ x.tdiv 2 ≤ 0) := by
  constructor
  · intro h0
    rw [Int.tdiv_eq_ediv_of_nonneg h0]; omega
  · intro h0
    obtain ⟨y, rfl⟩ : ∃ y, x = -y := ⟨-x, by omega⟩
    rw [Int.neg_tdiv, Int.tdiv_eq_ediv_of_nonneg (by omega)]; omega
theorem s2X_rg {cs : List Int} (hc : Byt cs) {i j : Nat} (hi : i ≤ 20) (hj : j ≤ 20) : s2X cs 0 0 i - s2X cs 0 0 j ≤ 32 := by
  have hW := s2W_le hc 0 0
  have hE := s2E_le hc 0 0 (s2P cs 0 0) (i % s2P cs 0 0)
  have hE' := s2E_le hc 0 0 (s2P cs 0 0) (j % s2P cs 0 0)
  have hv := vl_mod hc 0 0 (3 + s2P cs 0 0 + i) (n := 5) (by omega)
  have hv' := vl_mod hc 0 0 (3 + s2P cs 0 0 + j) (n := 5) (by omega)
  have key : (s2W cs 0 0 * (i : Int)).tdiv 2 - (s2W cs 0 0 * (j : Int)).tdiv 2 ≤ 20 := by
    have h1 : (i : Int) ≤ 20 := by omega
    have h2 : (j : Int) ≤ 20 := by omega
    have hs : ∀ k : Nat, k ≤ 20 → -40 ≤ s2W cs 0 0 * (k : Int) ∧ s2W cs 0 0 * (k : Int) ≤ 40 ∧ (0 ≤ s2W cs 0 0 → 0 ≤ s2W cs 0 0 * (k : Int)) ∧ (s2W cs 0 0 ≤ 0 → s2W cs 0 0 * (k : Int) ≤ 0) := fun k hk => by
      rcases (show s2W cs 0 0 = -2 ∨ s2W cs 0 0 = -1 ∨ s2W cs 0 0 = 0 ∨ s2W cs 0 0 = 1 ∨ s2W cs 0 0 = 2 by omega) with e | e | e | e | e <;> rw [e] <;> omega
    obtain ⟨a1, a2, a3, a4⟩ := hs i hi
    obtain ⟨b1, b2, b3, b4⟩ := hs j hj
    obtain ⟨c1, c2⟩ := tdiv2_sign ⟨a1, a2⟩
    obtain ⟨d1, d2⟩ := tdiv2_sign ⟨b1, b2⟩
    rcases Int.le_total 0 (s2W cs 0 0) with h | h
    · have := c1 (a3 h); have := d1 (b3 h); omega
    · have := c2 (a4 h); have := d2 (b4 h); omega
  unfold s2X
  omega
theorem s2L_RB {cs : List Int} (hc : Byt cs) {n : Nat} (hn : 1 ≤ n ∧ n ≤ 21) : RB (s2L cs 0 0 n) n where
  hn := hn
  ln := s2L_len _ _ _ _
  hl := s2L_46 hc hn.2
  rg := fun i j hi hj => by
    have e : ∀ k, k < n → sv ((s2L cs 0 0 n).getD k 0) = ((s2X cs 0 0 k : Int) : Rat) / 2 := fun k hk => by
      unfold s2L
      rw [tab_get _ _ _ _ hk]
      exact (s2F_val (s2X_le hc k (by omega))).2
    rw [e i hi, e j hj]
    have := Rat.intCast_le_intCast.2 (s2X_rg hc (i := i) (j := j) (by omega) (by omega))
    rw [Rat.intCast_sub] at this
    have e32 : ((32 : Int) : Rat) = 32 := rfl
    rw [e32] at this
    grind
/-! ### a list with a step -/
theorem sq_is (xs : List Nat) : squaresM xs = accN (fun i s => fadd .f32 s (fmul .f32 ((offM xs).getD i 0) ((offM xs).getD i 0))) xs.length 0 := by
  show accN _ (lessOneM xs (meanM xs)).length 0 = _
  rw [lessOne_len]; rfl
theorem off_big {xs : List Nat} (h : HL 46 xs) (hl : 1 ≤ xs.length ∧ xs.length ≤ 22) {T : Rat} (o : OffT xs T xs.length) {i : Nat} (hi : i < xs.length) (hne : sv (xs.getD i 0) ≠ sv (xs.getD 0 0)) : 1 / 10 ≤ T := by
  have hi0 : 0 < i := by
    apply Nat.pos_of_ne_zero
    intro e; rw [e] at hne; exact hne rfl
  obtain ⟨q, o1, o2, o3, _⟩ := off_near h hl
  have g := half_gap (h i hi) (h 0 (by omega)) hne
  obtain ⟨_, a1, a2⟩ := o1 i hi
  obtain ⟨_, b1, b2⟩ := o1 0 (by omega)
  have tw := sumQ_two (f := fun i => sv ((offM xs).getD i 0) * sv ((offM xs).getD i 0)) (fun i => sq_nonneg _) hi0 xs.length hi
  have hT : sv ((offM xs).getD 0 0) * sv ((offM xs).getD 0 0) + sv ((offM xs).getD i 0) * sv ((offM xs).getD i 0) ≤ T := by rw [← o.t]; exact tw
  obtain ⟨x1, x2⟩ := (h i hi).bound HL46
  obtain ⟨y1, y2⟩ := (h 0 (by omega)).bound HL46
  have hT1 : 1 / 10 ≤ T := by
    generalize sv ((offM xs).getD 0 0) = u at *
    generalize sv ((offM xs).getD i 0) = v at *
    generalize sv (xs.getD i 0) = X at *
    generalize sv (xs.getD 0 0) = Y at *
    have p := sq_nonneg (u + v)
    have e : (v - u) - (X - Y) ≤ 1 / 30000 ∧ (X - Y) - (v - u) ≤ 1 / 30000 := by constructor <;> grind
    have m := mul_abs_le (a := (v - u) - (X - Y)) (b := (v - u) + (X - Y)) (A := 1 / 30000) (B := 100) (by decide +kernel) (by decide +kernel) (by grind) e.1 (by grind) (by grind)
    have k : (1 : Rat) / 30000 * 100 ≤ 1 / 300 := by decide +kernel
    grind
  exact hT1
/-- squares: nothing, or not little -/
theorem sq_cases {xs : List Nat} (h : HL 46 xs) (hl : 1 ≤ xs.length ∧ xs.length ≤ 22) : sf (squaresM xs) ∧ 0 ≤ sv (squaresM xs) ∧ sv (squaresM xs) ≤ 200000 ∧
    ((∀ i, i < xs.length → sv (xs.getD i 0) = sv (xs.getD 0 0)) → sv (squaresM xs) = 0) ∧ (∀ i, i < xs.length → sv (xs.getD i 0) ≠ sv (xs.getD 0 0) → 9 / 100 ≤ sv (squaresM xs)) := by
  obtain ⟨T, o⟩ := off_t h hl
  obtain ⟨D1, D2, D3, D4⟩ := dot_sq (x := fun i => (offM xs).getD i 0) hl.2 o.r
  have hsame : (∀ i, i < xs.length → sv (xs.getD i 0) = sv (xs.getD 0 0)) → sv (squaresM xs) = 0 := fun hall => by
    obtain ⟨m1, m2⟩ := mean_all (h.mono (show 46 ≤ 100 by omega)) ⟨hl.1, by omega⟩ hall
    have hr : ∀ i, i < xs.length → sf ((offM xs).getD i 0) ∧ sv ((offM xs).getD i 0) = 0 := fun i hi => by
      rw [off_at _ hi]
      have hm : Gr (-1) 46 (sv (meanM xs)) := by rw [m2]; exact (h 0 (by omega)).2
      obtain ⟨a, b⟩ := sub_gr .f32 (h i hi).1 m1 (h i hi).2 hm (by decide) (by decide) (by decide)
      have b : sv (fsub .f32 (xs.getD i 0) (meanM xs)) = sv (xs.getD i 0) - sv (meanM xs) := b
      exact ⟨a, by rw [b, m2, hall i hi]; grind⟩
    obtain ⟨s1, s2, s3⟩ := acc_gr (g := fun i => fmul .f32 ((offM xs).getD i 0) ((offM xs).getD i 0)) (j := -1) (b := 0) (by omega) (by omega) xs.length (by omega) (fun i hi => by
      obtain ⟨a, b⟩ := hr i hi
      have ga : Gr 0 0 (rv single ((offM xs).getD i 0)) := by rw [show rv single ((offM xs).getD i 0) = 0 from b]; exact Gr.zero _ _
      obtain ⟨p1, p2⟩ := mul_gr .f32 (i := 0) (j := 0) (a := 0) (b := 0) a a ga ga (by decide) (by decide) (by decide)
      have p2 : sv (fmul .f32 ((offM xs).getD i 0) ((offM xs).getD i 0)) = sv ((offM xs).getD i 0) * sv ((offM xs).getD i 0) := p2
      exact ⟨p1, by rw [p2, b]; simp only [Rat.mul_zero]; exact Gr.zero _ _⟩)
    rw [sq_is]
    obtain ⟨c, hc, hb⟩ := s2
    rw [hc, show c = 0 by omega]
    have : ((0 : Int) : Rat) = 0 := rfl
    rw [this, Rat.zero_mul]
  have he : 200 * eta ≤ 1 / 100000 := by decide +kernel
  rw [o.t] at D2 D3 D4
  obtain ⟨N1, N2⟩ := D2
  by_cases hall : ∀ i, i < xs.length → sv (xs.getD i 0) = sv (xs.getD 0 0)
  · have hz := hsame hall
    exact ⟨by rw [sq_is]; exact D1, by rw [hz]; exact Rat.le_refl, by rw [hz]; decide, hsame, fun i hi hne => absurd (hall i hi) hne⟩
  · have hT : 1 / 10 ≤ T := by
      simp only [Classical.not_forall] at hall
      obtain ⟨i, hi, hne⟩ := hall
      exact off_big h hl o hi hne
    refine ⟨by rw [sq_is]; exact D1, ?_, ?_, hsame, fun _ _ _ => ?_⟩ <;> rw [sq_is] <;> grind
theorem HL.drop {b : Nat} {xs : List Nat} (h : HL b xs) (m : Nat) : HL b (xs.drop m) := fun i hi => by
  rw [List.length_drop] at hi
  rw [getD_dropN]; exact h _ (by omega)
/-- a list with one step -/
structure StepL (xs : List Nat) (n at_ : Nat) (c1 c2 : Rat) : Prop where
  hn : 2 ≤ n ∧ n ≤ 21
  ha : 1 ≤ at_ ∧ at_ < n
  ln : xs.length = n
  hl : HL 46 xs
  lo : ∀ i, i < at_ → sv (xs.getD i 0) = c1
  hi : ∀ i, at_ ≤ i → i < n → sv (xs.getD i 0) = c2
  ne : c1 ≠ c2
section
variable {xs : List Nat} {n at_ : Nat} {c1 c2 : Rat}
theorem StepL.sum (s : StepL xs n at_ c1 c2) {i : Nat} (h1 : 1 ≤ i) (h2 : i < n) : sf (stepSum xs i) ∧ 0 ≤ sv (stepSum xs i) ∧ (i = at_ → sv (stepSum xs i) = 0) ∧ (i ≠ at_ → 0 < sv (stepSum xs i)) := by
  have hn := s.hn; have ha := s.ha; have ln := s.ln
  have lt : (xs.take i).length = i := by rw [List.length_take]; omega
  have ld : (xs.drop i).length = n - i := by rw [List.length_drop]; omega
  obtain ⟨a1, a2, a3, a4, a5⟩ := sq_cases (s.hl.take i) (by omega)
  obtain ⟨b1, b2, b3, b4, b5⟩ := sq_cases (s.hl.drop i) (by omega)
  have gt : ∀ j, j < i → (xs.take i).getD j 0 = xs.getD j 0 := fun j hj => getD_takeN _ _ _ hj
  have gd : ∀ j, (xs.drop i).getD j 0 = xs.getD (i + j) 0 := fun j => getD_dropN _ _ _
  obtain ⟨d1, d2, d3⟩ := s_add (B := 400000) a1 b1 (by grind) (by grind) (by decide +kernel)
  have hE : 400000 * e24 + eta ≤ 3 / 100 := by decide +kernel
  have rd := fadd_rd .f32 a1 b1 (Rat.le_trans (rabs_le (B := 400000) (by show -400000 ≤ sv _ + sv _; grind) (by show sv _ + sv _ ≤ 400000; grind)) (topS (by decide +kernel)))
  have p0 : 0 ≤ sv (stepSum xs i) := rd.pos (by show 0 ≤ sv _ + sv _; grind)
  refine ⟨d1, p0, fun e => ?_, fun e => ?_⟩
  · have z1 := a4 (fun j hj => by rw [lt] at hj; rw [gt j hj, gt 0 (by omega), s.lo j (by omega), s.lo 0 (by omega)])
    have z2 := b4 (fun j hj => by rw [ld] at hj; rw [gd j, gd 0, s.hi (i + j) (by omega) (by omega), s.hi (i + 0) (by omega) (by omega)])
    have g1 : Gr 0 0 (rv single (squaresM (xs.take i))) := by rw [show rv single (squaresM (xs.take i)) = 0 from z1]; exact Gr.zero _ _
    have g2 : Gr 0 0 (rv single (squaresM (xs.drop i))) := by rw [show rv single (squaresM (xs.drop i)) = 0 from z2]; exact Gr.zero _ _
    obtain ⟨_, v⟩ := add_gr .f32 a1 b1 g1 g2 (by decide) (by decide) (by decide)
    have v : sv (stepSum xs i) = sv (squaresM (xs.take i)) + sv (squaresM (xs.drop i)) := v
    rw [v, z1, z2, Rat.add_zero]
  · have d2' : sv (squaresM (xs.take i)) + sv (squaresM (xs.drop i)) - sv (stepSum xs i) ≤ 3 / 100 := Rat.le_trans d3 hE
    rcases Nat.lt_or_gt_of_ne e with h | h
    · have := b5 (at_ - i) (by omega) (by rw [gd, gd, s.hi (i + (at_ - i)) (by omega) (by omega), s.lo (i + 0) (by omega)]; exact fun h => s.ne h.symm)
      grind
    · have := a5 at_ (by omega) (by rw [gt at_ (by omega), gt 0 (by omega), s.hi at_ (by omega) (by omega), s.lo 0 (by omega)]; exact fun h => s.ne h.symm)
      grind
theorem stepAt_succ (xs : List Nat) (j : Nat) : stepAt xs (j + 1) = if ((stepAt xs j).1 == 0 || flt .f32 (stepSum xs (j + 1)) (stepAt xs j).2) = true then (j + 1, stepSum xs (j + 1)) else stepAt xs j := rfl
theorem StepL.best (s : StepL xs n at_ c1 c2) : ∀ j, j < n → (j = 0 ∧ stepAt xs j = (0, 0)) ∨ (1 ≤ j ∧ j < at_ ∧ 1 ≤ (stepAt xs j).1 ∧ sf (stepAt xs j).2 ∧ 0 < sv (stepAt xs j).2) ∨ (at_ ≤ j ∧ (stepAt xs j).1 = at_ ∧ sf (stepAt xs j).2 ∧ sv (stepAt xs j).2 = 0)
  | 0, _ => .inl ⟨rfl, rfl⟩
  | j + 1, hj => by
    have ha := s.ha
    obtain ⟨q1, q2, q3, q4⟩ := s.sum (i := j + 1) (by omega) hj
    right
    rw [stepAt_succ]
    rcases s.best j (by omega) with ⟨h1, h2⟩ | ⟨h0, h1, h2, h3, h4⟩ | ⟨h1, h2, h3, h4⟩
    · rw [h2]
      rw [if_pos (by rfl)]
      by_cases e : j + 1 = at_
      · right; exact ⟨by omega, e, q1, q3 e⟩
      · left; exact ⟨by omega, by omega, by show 1 ≤ j + 1; omega, q1, q4 e⟩
    · by_cases hf : ((stepAt xs j).1 == 0 || flt .f32 (stepSum xs (j + 1)) (stepAt xs j).2) = true
      · rw [if_pos hf]
        by_cases e : j + 1 = at_
        · right; exact ⟨by omega, e, q1, q3 e⟩
        · left; exact ⟨by omega, by omega, by show 1 ≤ j + 1; omega, q1, q4 e⟩
      · rw [if_neg hf]
        by_cases e : j + 1 = at_
        · exfalso
          apply hf
          have : flt .f32 (stepSum xs (j + 1)) (stepAt xs j).2 = true := by
            rw [flt_rv (k := .f32) q1 h3]
            refine decide_eq_true ?_
            show sv _ < sv _
            rw [q3 e]; exact h4
          rw [this]; simp
        · left; exact ⟨by omega, by omega, h2, h3, h4⟩
    · have hf : ((stepAt xs j).1 == 0 || flt .f32 (stepSum xs (j + 1)) (stepAt xs j).2) = false := by
        have e1 : ((stepAt xs j).1 == 0) = false := by rw [h2]; simp; omega
        have e2 : flt .f32 (stepSum xs (j + 1)) (stepAt xs j).2 = false := flt_not q1 h3 (by rw [h4]; exact q2)
        rw [e1, e2]; rfl
      rw [if_neg (by rw [hf]; decide)]
      right; exact ⟨by omega, h2, h3, h4⟩
theorem StepL.found (s : StepL xs n at_ c1 c2) : stepOk xs = true ∧ stepBest xs = at_ ∧ sf (stepBy xs) ∧ sv (stepBy xs) = c2 - c1 := by
  have hn := s.hn; have ha := s.ha; have ln := s.ln
  have hb : stepBest xs = at_ := by
    unfold stepBest
    rw [ln]
    rcases s.best (n - 1) (by omega) with ⟨h1, _⟩ | ⟨_, h1, _⟩ | ⟨_, h1, _⟩
    · omega
    · omega
    · exact h1
  have lt : (xs.take at_).length = at_ := by rw [List.length_take]; omega
  have ld : (xs.drop at_).length = n - at_ := by rw [List.length_drop]; omega
  have gt : ∀ j, j < at_ → (xs.take at_).getD j 0 = xs.getD j 0 := fun j hj => getD_takeN _ _ _ hj
  have gd : ∀ j, (xs.drop at_).getD j 0 = xs.getD (at_ + j) 0 := fun j => getD_dropN _ _ _
  obtain ⟨a1, a2⟩ := mean_all (w := xs.take at_) ((s.hl.take at_).mono (show 46 ≤ 100 by omega)) (by omega) (c := c1) (fun j hj => by rw [gt j (by omega)]; exact s.lo j (by omega))
  obtain ⟨b1, b2⟩ := mean_all (w := xs.drop at_) ((s.hl.drop at_).mono (show 46 ≤ 100 by omega)) (by omega) (c := c2) (fun j hj => by rw [gd]; exact s.hi _ (by omega) (by omega))
  have g1 : Gr (-1) 46 (rv single (meanM (xs.take at_))) := by rw [show rv single (meanM (xs.take at_)) = _ from a2, ← s.lo 0 (by omega)]; exact (s.hl 0 (by omega)).2
  have g2 : Gr (-1) 46 (rv single (meanM (xs.drop at_))) := by rw [show rv single (meanM (xs.drop at_)) = _ from b2, ← s.hi at_ (by omega) (by omega)]; exact (s.hl at_ (by omega)).2
  obtain ⟨d1, d2⟩ := sub_gr .f32 b1 a1 g2 g1 (by decide) (by decide) (by decide)
  have d2 : sv (fsub .f32 (meanM (xs.drop at_)) (meanM (xs.take at_))) = sv (meanM (xs.drop at_)) - sv (meanM (xs.take at_)) := d2
  have e : stepBy xs = fsub .f32 (meanM (xs.drop at_)) (meanM (xs.take at_)) := by unfold stepBy; rw [hb]
  refine ⟨?_, hb, by rw [e]; exact d1, by rw [e, d2, a2, b2]⟩
  unfold stepOk
  have fin : stepFin xs = true := by
    unfold stepFin
    rw [allN_iff]
    intro i hi
    exact (finM_sf _).2 (s.sum (i := i + 1) (by omega) (by omega)).1
  rw [s.hl.series (by omega), fin, (finM_sf _).2 (show sf (stepBy xs) by rw [e]; exact d1), decide_eq_true (by omega)]; rfl
end
/-- numbers whose gap is no more than 95/100000 -/
theorem r8G_near9 {a b : Nat} (ha : sf a) (hb : sf b) (h1 : sv a - sv b ≤ 95 / 100000) (h2 : sv b - sv a ≤ 95 / 100000) : fgt .f64 (r8G a b) 4562254508917369340 = false := by
  obtain ⟨a1, a2⟩ := conv_up ha
  obtain ⟨b1, b2⟩ := conv_up hb
  obtain ⟨x1, x2, x3⟩ := d_sub (B := 1) a1 b1 (by rw [a2, b2]; grind) (by rw [a2, b2]; grind) (by decide +kernel)
  obtain ⟨y1, y2, y3⟩ := d_sub (B := 1) b1 a1 (by rw [a2, b2]; grind) (by rw [a2, b2]; grind) (by decide +kernel)
  have hf : df 4562254508917369340 := by unfold df fnt; decide +kernel
  have hv : dv 4562254508917369340 = 1152921504606847 / 1152921504606846976 := lit_neg hf (m := 4611686018427388) (n := 62) (by decide +kernel) (by decide +kernel)
  have hE : 1 * e53 + eta ≤ 1 / 100000 := by decide +kernel
  have key : ∀ z, df z → dv z ≤ 96 / 100000 → fgt .f64 z 4562254508917369340 = false := by
    intro z hz hz2
    rw [fgt_rv (k := .f64) hz hf, decide_eq_false]
    have k : (96 : Rat) / 100000 < 1152921504606847 / 1152921504606846976 := by decide +kernel
    have hz2 : rv double z ≤ 96 / 100000 := hz2
    show ¬ (rv double 4562254508917369340 < rv double z)
    rw [show rv double 4562254508917369340 = _ from hv]
    grind
  rw [a2, b2] at x2 y2
  unfold r8G
  rcases fmax_mem (fnt_nan (k := .f64) x1) (fnt_nan (k := .f64) y1) with ⟨e, _⟩ | ⟨e, _⟩
  · rw [e]; exact key _ x1 (by grind)
  · rw [e]; exact key _ y1 (by grind)
/-- the same number, nearly: less than 1/1000 apart -/
theorem r8G_less {a b : Nat} (ha : sf a) (hb : sf b) (h : sv a = sv b) : flt .f64 (r8G a b) 4562254508917369340 = true := by
  obtain ⟨a1, a2⟩ := conv_up ha
  obtain ⟨b1, b2⟩ := conv_up hb
  obtain ⟨x1, x2, x3⟩ := d_sub (B := 0) a1 b1 (by rw [a2, b2, h]; grind) (by rw [a2, b2, h]; grind) (by decide +kernel)
  obtain ⟨y1, y2, y3⟩ := d_sub (B := 0) b1 a1 (by rw [a2, b2, h]; grind) (by rw [a2, b2, h]; grind) (by decide +kernel)
  obtain ⟨c1, c2, _⟩ := c001
  have he : eta < 9 / 10000 := by decide +kernel
  have key : ∀ z, df z → dv z ≤ eta → flt .f64 z 4562254508917369340 = true := by
    intro z hz hz2
    rw [flt_rv (k := .f64) hz c1]
    refine decide_eq_true ?_
    have c2 : 9 / 10000 ≤ rv double 4562254508917369340 := c2
    have hz2 : rv double z ≤ eta := hz2
    show rv double z < rv double 4562254508917369340
    grind
  unfold r8G
  rcases fmax_mem (fnt_nan (k := .f64) x1) (fnt_nan (k := .f64) y1) with ⟨e, _⟩ | ⟨e, _⟩
  · rw [e]; exact key _ x1 (by grind)
  · rw [e]; exact key _ y1 (by grind)
/-- a sum of few numbers in 64 bits, narrowed: next to nothing -/
theorem sum_small {f : Nat → Nat} {p : Nat} (hp : 1 ≤ p ∧ p ≤ 6) (h : ∀ i, i < p → sf (f i) ∧ -500 ≤ sv (f i) ∧ sv (f i) ≤ 500) (h1 : -(88 / 100000) ≤ sumQ p fun i => sv (f i)) (h2 : (sumQ p fun i => sv (f i)) ≤ 88 / 100000) :
    fconvOk .f64 .f32 (accN (fun i s => fadd .f64 s (fconv .f32 .f64 (f i))) p 0) = true ∧ fgt .f64 (r8G (fconv .f64 .f32 (accN (fun i s => fadd .f64 s (fconv .f32 .f64 (f i))) p 0)) 0) 4562254508917369340 = false := by
  have p6 : (p : Rat) ≤ 6 := nat_le_rat hp.2
  have p0 := nat_rat p
  obtain ⟨s1, s2, s3⟩ := acc_nearD (g := fun i => fconv .f32 .f64 (f i)) (t := fun i => sv (f i)) (C := 500) (E := 0) (N := 6) (by decide) (by decide) p p6 (by decide +kernel) (fun i hi => by
    obtain ⟨a, b, c⟩ := h i hi
    obtain ⟨x, y⟩ := conv_up a
    exact ⟨x, ⟨by rw [y]; grind, by rw [y]; grind⟩, b, c⟩)
  have hE : (0 : Rat) + ((500 + 0 + 1) * 6 * e53 + eta) ≤ 1 / 1000000 := by decide +kernel
  have hE2 := Rat.mul_le_mul_of_nonneg_left hE p0
  generalize accN (fun i s => fadd .f64 s (fconv .f32 .f64 (f i))) p 0 = S at *
  have rd := conv_down s1 (by grind) (by grind)
  obtain ⟨r1, r2, r3⟩ := rd_use (B := 1) rd (by grind) (by grind) p24 etaS
  have hE3 : 1 * e24 + eta ≤ 1 / 1000000 := by decide +kernel
  have z0 : sv 0 = 0 := zero_rv _
  have r2 : sv (fconv .f64 .f32 S) - dv S ≤ _ := r2
  have r3 : dv S - sv (fconv .f64 .f32 S) ≤ _ := r3
  exact ⟨narrow_fin rd.fin, r8G_near9 rd.fin zero_sf (by rw [z0]; grind) (by rw [z0]; grind)⟩

end Go.Proofs.LV
