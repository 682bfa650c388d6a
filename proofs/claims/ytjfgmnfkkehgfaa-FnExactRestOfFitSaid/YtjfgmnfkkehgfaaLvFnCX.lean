/- Texts that belong together. -/
import Derived.Test.YtjfgmnfkkehgfaaLvFnB
import Derived.Test.YtjfgmnfkkehgfaaLvEv
namespace Go.Proofs.LV
open Go
set_option linter.unusedVariables false
set_option linter.unusedSimpArgs false

/-- the sum of the first n -/
def sumN : Nat → (Nat → Int) → Int
  | 0, _ => 0
  | n + 1, f => sumN n f + f n
def signM (x y : Nat) : Int := if flt .f32 x y = true then -1 else if fgt .f32 x y = true then 1 else 0
def pairM (xs ys : List Nat) (k i : Nat) : Int := signM (xs.getD k 0) (xs.getD i 0) * signM (ys.getD k 0) (ys.getD i 0)
def pairsM (xs ys : List Nat) : Int := sumN xs.length fun k => sumN k fun i => pairM xs ys k i

theorem sumN_bound {f : Nat → Int} {B : Int} (hB : 0 ≤ B) (n : Nat) (h : ∀ i, i < n → -B ≤ f i ∧ f i ≤ B) : -(B * n) ≤ sumN n f ∧ sumN n f ≤ B * n := by
  induction n with
  | zero => simp [sumN]
  | succ n ih =>
    have := ih (fun i hi => h i (by omega))
    have := h n (by omega)
    simp only [sumN]
    rw [Int.natCast_succ, Int.mul_add]
    omega
theorem sumN_congr {f g : Nat → Int} (n : Nat) (h : ∀ i, i < n → f i = g i) : sumN n f = sumN n g := by
  induction n with
  | zero => rfl
  | succ n ih => simp only [sumN, ih (fun i hi => h i (by omega)), h n (by omega)]
theorem sumN_add (f g : Nat → Int) (n : Nat) : (sumN n fun i => f i + g i) = sumN n f + sumN n g := by
  induction n with
  | zero => rfl
  | succ n ih => simp only [sumN, ih]; omega
/-- the sums over a triangle, by rows and by columns -/
theorem triangle (t : Nat → Nat → Int) (n : Nat) : (sumN n fun k => sumN k fun i => t k i) = sumN n fun i => sumN (n - (i + 1)) fun j => t (i + 1 + j) i := by
  induction n with
  | zero => rfl
  | succ n ih =>
    have e : (sumN n fun i => sumN (n + 1 - (i + 1)) fun j => t (i + 1 + j) i) = (sumN n fun i => sumN (n - (i + 1)) fun j => t (i + 1 + j) i) + sumN n fun i => t n i := by
      rw [← sumN_add]
      refine sumN_congr n fun i hi => ?_
      rw [show n + 1 - (i + 1) = (n - (i + 1)) + 1 by omega]
      simp only [sumN]
      rw [show i + 1 + (n - (i + 1)) = n by omega]
    show (sumN n fun k => sumN k fun i => t k i) + (sumN n fun i => t n i) = (sumN n fun i => sumN (n + 1 - (i + 1)) fun j => t (i + 1 + j) i) + sumN (n + 1 - (n + 1)) fun j => t (n + 1 + j) n
    rw [e, ih, Nat.sub_self]
    simp only [sumN]; omega
theorem sign_bound (x y : Nat) : signM x y = -1 ∨ signM x y = 0 ∨ signM x y = 1 := by
  unfold signM; split
  · simp
  · split <;> simp
theorem pair_bound (xs ys : List Nat) (k i : Nat) : -1 ≤ pairM xs ys k i ∧ pairM xs ys k i ≤ 1 := by
  unfold pairM
  rcases sign_bound (xs.getD k 0) (xs.getD i 0) with h | h | h <;> rcases sign_bound (ys.getD k 0) (ys.getD i 0) with h' | h' | h' <;> rw [h, h'] <;> decide
theorem row_bound (xs ys : List Nat) (k n : Nat) : -(n : Int) ≤ sumN n (fun i => pairM xs ys k i) ∧ sumN n (fun i => pairM xs ys k i) ≤ n := by
  have := sumN_bound (B := 1) (f := fun i => pairM xs ys k i) (by omega) n (fun i _ => pair_bound xs ys k i)
  omega
theorem rows_bound (xs ys : List Nat) (k : Nat) (hk : k ≤ 96) : -9216 ≤ (sumN k fun k => sumN k fun i => pairM xs ys k i) ∧ (sumN k fun k => sumN k fun i => pairM xs ys k i) ≤ 9216 := by
  have := sumN_bound (B := 96) (f := fun k => sumN k fun i => pairM xs ys k i) (by omega) k (fun i hi => by have := row_bound xs ys i i; omega)
  omega
theorem series_len {xs : List Nat} (h : seriesM xs = true) : 1 ≤ xs.length ∧ xs.length ≤ 96 := by
  simp only [seriesM, Bool.and_eq_true, decide_eq_true_eq] at h
  omega
theorem two_len {xs ys : List Nat} (h : twoM xs ys = true) : 1 ≤ xs.length ∧ xs.length ≤ 96 ∧ ys.length = xs.length := by
  simp only [twoM, Bool.and_eq_true, beq_iff_eq] at h
  have := series_len h.1.1
  omega


theorem sign_cases (x y : Nat) : (flt .f32 x y = true ∧ fgt .f32 x y = false ∧ signM x y = -1) ∨ (flt .f32 x y = false ∧ fgt .f32 x y = true ∧ signM x y = 1) ∨ (flt .f32 x y = false ∧ fgt .f32 x y = false ∧ signM x y = 0) := by
  unfold signM flt fgt
  cases h : FloatKind.f32.format.order x y with
  | none => simp
  | some o => cases o <;> simp

def backsM (xs ys : List Nat) (n : Nat) : List Nat := (List.range n).flatMap fun i => [fadd .f32 (xs.getD i 0) (ys.getD i 0), fsub .f32 (xs.getD i 0) (ys.getD i 0)]
def backOkM (xs ys : List Nat) : Bool := twoM xs ys && (!decide ((xs.length : Int) > 48) && finAllM (backsM xs ys xs.length))

theorem backs_len (xs ys : List Nat) : ∀ n, (backsM xs ys n).length = 2 * n
  | 0 => rfl
  | n + 1 => by
    have := backs_len xs ys n
    simp only [backsM, List.range_succ, List.flatMap_append, List.length_append] at this ⊢
    simp [List.flatMap, this]; simp [List.flatMap] at this; omega
theorem backs_next (xs ys : List Nat) (n : Nat) : backsM xs ys (n + 1) = backsM xs ys n ++ [fadd .f32 (xs.getD n 0) (ys.getD n 0), fsub .f32 (xs.getD n 0) (ys.getD n 0)] := by
  simp [backsM, List.range_succ, List.flatMap_append]



theorem sz_ok {n : Nat} {i : Int} (h : decide (szM n i < 0) = false) : (n : Int) ≤ i := by
  have := of_decide_eq_false h
  unfold szM at this
  split at this <;> omega

end Go.Proofs.LV

namespace Go.Proofs.LV
open Go
set_option linter.unusedVariables false
set_option linter.unusedSimpArgs false

def Cont.rng : Cont → Prop
  | .f k xs => xs.length ≤ maxLen ∧ ∀ x ∈ xs, Fw k x
  | .i k xs => xs.length ≤ maxLen ∧ ∀ x ∈ xs, Iw k x
  | .b xs => xs.length ≤ maxLen
  | .c k xs => xs.length ≤ maxLen ∧ ∀ x ∈ xs, Fw k x.1 ∧ Fw k x.2
  | .ff k xs => xs.length ≤ maxLen ∧ ∀ x ∈ xs, x.length ≤ maxLen ∧ ∀ y ∈ x, Fw k y
mutual
def AV.rng : AV → Prop
  | .i k n => Iw k n
  | .f k x => Fw k x
  | .c k x y => Fw k x ∧ Fw k y
  | .sl _ _ xs => xs.rng
  | .bx _ cells => AV.rngL cells
  | .ad _ _ x => AV.rng x
  | .agg cells => AV.rngL cells
  | .tup xs => AV.rngL xs
  | .fn _ caps => AV.rngL caps
  | _ => True
def AV.rngL : List AV → Prop
  | [] => True
  | x :: r => AV.rng x ∧ AV.rngL r
end

theorem srow_rng {G : Gh} {w : World} {g : Tag} {off n : Nat} {E : Nat → Value → Prop} {v : Value} (h : SRow G w g off n E v) : n ≤ maxLen ∧ ∀ j, j < n → ∃ u, E j u := by
  rcases h with ⟨b, o, cap, rfl, hat, hn, hm, hc, hs⟩ | ⟨hn, ha, hv⟩
  · refine ⟨Nat.le_trans hn hm, fun j hj => ?_⟩
    obtain ⟨u, hu, he⟩ := hc j hj
    exact ⟨u, he⟩
  · subst hn
    exact ⟨Nat.zero_le _, fun j hj => absurd hj (by omega)⟩
theorem mem_getD_rng {α : Type} {xs : List α} {x : α} (d : α) (h : x ∈ xs) : ∃ j, j < xs.length ∧ xs.getD j d = x := by
  obtain ⟨j, hj, rfl⟩ := List.getElem_of_mem h
  exact ⟨j, hj, by simp [List.getD, hj]⟩
theorem fr_fw {k : FloatKind} {x : Nat} {v : Value} (h : FR k x v) : Fw k x := by
  obtain ⟨b, _, h1, h2⟩ := h; exact ⟨b, h1, h2⟩
theorem cont_rng {G : Gh} {w : World} {g : Tag} {off : Nat} {xs : Cont} {v : Value} (h : SRow G w g off xs.len (Cont.ok G w xs) v) : xs.rng := by
  obtain ⟨hl, hc⟩ := srow_rng h
  cases xs with
  | f k xs =>
    refine ⟨hl, fun x hx => ?_⟩
    obtain ⟨j, hj, rfl⟩ := mem_getD_rng 0 hx
    obtain ⟨u, hu⟩ := hc j hj
    exact fr_fw hu
  | i k xs =>
    refine ⟨hl, fun x hx => ?_⟩
    obtain ⟨j, hj, rfl⟩ := mem_getD_rng 0 hx
    obtain ⟨u, hu, h1, h2⟩ := hc j hj
    exact ⟨h1, h2⟩
  | b xs => exact hl
  | c k xs =>
    refine ⟨hl, fun x hx => ?_⟩
    obtain ⟨j, hj, rfl⟩ := mem_getD_rng (0, 0) hx
    obtain ⟨u, a, b, hu, ⟨h1, h2⟩, h3, h4⟩ := hc j hj
    exact ⟨⟨a, h1, h3⟩, ⟨b, h2, h4⟩⟩
  | ff k xs =>
    refine ⟨hl, fun x hx => ?_⟩
    obtain ⟨j, hj, rfl⟩ := mem_getD_rng [] hx
    obtain ⟨u, hu⟩ := hc j hj
    obtain ⟨hl2, hc2⟩ := srow_rng hu
    refine ⟨hl2, fun y hy => ?_⟩
    obtain ⟨i, hi, rfl⟩ := mem_getD_rng 0 hy
    obtain ⟨z, hz⟩ := hc2 i hi
    exact fr_fw hz
mutual
theorem vr_rng {G : Gh} {w : World} : ∀ (x : AV) (v : Value), VR G w x v → AV.rng x
  | .any, v, _ => trivial
  | .b c, v, _ => trivial
  | .i k c, v, h => by simp only [VR] at h; exact h.2
  | .f k c, v, h => by simp only [VR] at h; exact fr_fw h
  | .c k x y, v, h => by
    simp only [VR] at h
    obtain ⟨a, b, hu, ⟨h1, h2⟩, h3, h4⟩ := h
    exact ⟨⟨a, h1, h3⟩, ⟨b, h2, h4⟩⟩
  | .sl g off xs, v, h => by simp only [VR] at h; exact cont_rng h
  | .bx g cells, v, h => by
    simp only [VR] at h
    obtain ⟨b, o, rfl, hat, hc⟩ := h
    exact cl_rng cells b o hc
  | .ad g idx x, v, h => by
    simp only [VR] at h
    obtain ⟨b, o, rfl, hat, u, hu, hc⟩ := h
    exact vr_rng x u hc
  | .nw _ _ _ _ _, v, h => trivial
  | .na _ _ _ _ _, v, h => trivial
  | .agg cells, v, h => by
    simp only [VR] at h
    obtain ⟨vs, rfl, hc⟩ := h
    exact vl_rng cells vs.toList hc
  | .tup cells, v, h => by
    simp only [VR] at h
    obtain ⟨vs, rfl, hc⟩ := h
    exact vl_rng cells vs.toList hc
  | .fn _ cells, v, h => by
    simp only [VR] at h
    obtain ⟨vs, rfl, hc⟩ := h
    exact vl_rng cells vs.toList hc
theorem vl_rng {G : Gh} {w : World} : ∀ (xs : List AV) (vs : List Value), VL G w xs vs → AV.rngL xs
  | [], vs, _ => trivial
  | x :: r, vs, h => by
    simp only [VL] at h
    obtain ⟨u, us, rfl, hx, hr⟩ := h
    exact ⟨vr_rng x u hx, vl_rng r us hr⟩
theorem cl_rng {G : Gh} {w : World} : ∀ (xs : List AV) (b o : Nat), CL G w b o xs → AV.rngL xs
  | [], b, o, _ => trivial
  | x :: r, b, o, h => by
    simp only [CL] at h
    obtain ⟨⟨u, hu, hx⟩, hr⟩ := h
    exact ⟨vr_rng x u hx, cl_rng r b (o + 1) hr⟩
end
/-- a contract need only hold of arguments that can be -/
theorem VCall.rng {P : Program} {f : FuncId} {args : List AV} {r : AV} (h : AV.rngL args → VCall P f args r) (hr : r.isM = false := by rfl) : VCall P f args r :=
  VCallN.to hr ⟨fun w I π vs h1 h2 hv => ((h (vl_rng _ _ hv)).N hr).runs w I π vs h1 h2 hv⟩
theorem Fw.lt {k : FloatKind} {x : Nat} (h : Fw k x) : x < 2 ^ k.format.width := by
  obtain ⟨b, hb, rfl⟩ := h
  unfold canon
  split
  · cases k <;> decide
  · exact hb
theorem Fw.nan {k : FloatKind} {x : Nat} (h : Fw k x) : (k.format.read x).isNaN = true → x = fnan k := by
  obtain ⟨b, hb, rfl⟩ := h
  unfold canon
  split
  · exact fun _ => rfl
  · rename_i h'; exact fun h => absurd h h'
end Go.Proofs.LV
