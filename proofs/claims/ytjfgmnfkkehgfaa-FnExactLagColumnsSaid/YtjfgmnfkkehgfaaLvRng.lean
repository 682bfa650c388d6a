/- What the arguments of a call are known to be: numbers of their kinds, lists that are not too long. -/
import Derived.Test.YtjfgmnfkkehgfaaLvEv
namespace Go.Proofs.LV
open Go
set_option linter.unusedVariables false
set_option linter.unusedSimpArgs false

def Cont.rng : Cont → Prop
  | .f k xs => xs.length ≤ maxLen ∧ ∀ x ∈ xs, Fw k x
  | .i k xs => xs.length ≤ maxLen ∧ ∀ x ∈ xs, Iw k x
  | .b xs => xs.length ≤ maxLen
  | .c k xs => xs.length ≤ maxLen ∧ ∀ x ∈ xs, Fw k x.1 ∧ Fw k x.2
  | .ff k xs => xs.length ≤ maxLen ∧ ∀ x ∈ xs, x.length ≤ maxLen ∧ ∀ y ∈ x, Fw k y
mutual
def AV.rng : AV → Prop
  | .i k n => Iw k n
  | .f k x => Fw k x
  | .c k x y => Fw k x ∧ Fw k y
  | .sl _ _ xs => xs.rng
  | .bx _ cells => AV.rngL cells
  | .ad _ _ x => AV.rng x
  | .agg cells => AV.rngL cells
  | .tup xs => AV.rngL xs
  | .fn _ caps => AV.rngL caps
  | _ => True
def AV.rngL : List AV → Prop
  | [] => True
  | x :: r => AV.rng x ∧ AV.rngL r
end

theorem srow_rng {G : Gh} {w : World} {g : Tag} {off n : Nat} {E : Nat → Value → Prop} {v : Value} (h : SRow G w g off n E v) : n ≤ maxLen ∧ ∀ j, j < n → ∃ u, E j u := by
  rcases h with ⟨b, o, cap, rfl, hat, hn, hm, hc, hs⟩ | ⟨hn, ha, hv⟩
  · refine ⟨Nat.le_trans hn hm, fun j hj => ?_⟩
    obtain ⟨u, hu, he⟩ := hc j hj
    exact ⟨u, he⟩
  · subst hn
    exact ⟨Nat.zero_le _, fun j hj => absurd hj (by omega)⟩
theorem mem_getD_rng {α : Type} {xs : List α} {x : α} (d : α) (h : x ∈ xs) : ∃ j, j < xs.length ∧ xs.getD j d = x := by
  obtain ⟨j, hj, rfl⟩ := List.getElem_of_mem h
  exact ⟨j, hj, by simp [List.getD, hj]⟩
theorem fr_fw {k : FloatKind} {x : Nat} {v : Value} (h : FR k x v) : Fw k x := by
  obtain ⟨b, _, h1, h2⟩ := h; exact ⟨b, h1, h2⟩
theorem cont_rng {G : Gh} {w : World} {g : Tag} {off : Nat} {xs : Cont} {v : Value} (h : SRow G w g off xs.len (Cont.ok G w xs) v) : xs.rng := by
  obtain ⟨hl, hc⟩ := srow_rng h
  cases xs with
  | f k xs =>
    refine ⟨hl, fun x hx => ?_⟩
    obtain ⟨j, hj, rfl⟩ := mem_getD_rng 0 hx
    obtain ⟨u, hu⟩ := hc j hj
    exact fr_fw hu
  | i k xs =>
    refine ⟨hl, fun x hx => ?_⟩
    obtain ⟨j, hj, rfl⟩ := mem_getD_rng 0 hx
    obtain ⟨u, hu, h1, h2⟩ := hc j hj
    exact ⟨h1, h2⟩
  | b xs => exact hl
  | c k xs =>
    refine ⟨hl, fun x hx => ?_⟩
    obtain ⟨j, hj, rfl⟩ := mem_getD_rng (0, 0) hx
    obtain ⟨u, a, b, hu, ⟨h1, h2⟩, h3, h4⟩ := hc j hj
    exact ⟨⟨a, h1, h3⟩, ⟨b, h2, h4⟩⟩
  | ff k xs =>
    refine ⟨hl, fun x hx => ?_⟩
    obtain ⟨j, hj, rfl⟩ := mem_getD_rng [] hx
    obtain ⟨u, hu⟩ := hc j hj
    obtain ⟨hl2, hc2⟩ := srow_rng hu
    refine ⟨hl2, fun y hy => ?_⟩
    obtain ⟨i, hi, rfl⟩ := mem_getD_rng 0 hy
    obtain ⟨z, hz⟩ := hc2 i hi
    exact fr_fw hz
mutual
theorem vr_rng {G : Gh} {w : World} : ∀ (x : AV) (v : Value), VR G w x v → AV.rng x
  | .any, v, _ => trivial
  | .b c, v, _ => trivial
  | .i k c, v, h => by simp only [VR] at h; exact h.2
  | .f k c, v, h => by simp only [VR] at h; exact fr_fw h
  | .c k x y, v, h => by
    simp only [VR] at h
    obtain ⟨a, b, hu, ⟨h1, h2⟩, h3, h4⟩ := h
    exact ⟨⟨a, h1, h3⟩, ⟨b, h2, h4⟩⟩
  | .sl g off xs, v, h => by simp only [VR] at h; exact cont_rng h
  | .bx g cells, v, h => by
    simp only [VR] at h
    obtain ⟨b, o, rfl, hat, hc⟩ := h
    exact cl_rng cells b o hc
  | .ad g idx x, v, h => by
    simp only [VR] at h
    obtain ⟨b, o, rfl, hat, u, hu, hc⟩ := h
    exact vr_rng x u hc
  | .nw _ _ _ _ _, v, h => trivial
  | .na _ _ _ _ _, v, h => trivial
  | .agg cells, v, h => by
    simp only [VR] at h
    obtain ⟨vs, rfl, hc⟩ := h
    exact vl_rng cells vs.toList hc
  | .tup cells, v, h => by
    simp only [VR] at h
    obtain ⟨vs, rfl, hc⟩ := h
    exact vl_rng cells vs.toList hc
  | .fn _ cells, v, h => by
    simp only [VR] at h
    obtain ⟨vs, rfl, hc⟩ := h
    exact vl_rng cells vs.toList hc
theorem vl_rng {G : Gh} {w : World} : ∀ (xs : List AV) (vs : List Value), VL G w xs vs → AV.rngL xs
  | [], vs, _ => trivial
  | x :: r, vs, h => by
    simp only [VL] at h
    obtain ⟨u, us, rfl, hx, hr⟩ := h
    exact ⟨vr_rng x u hx, vl_rng r us hr⟩
theorem cl_rng {G : Gh} {w : World} : ∀ (xs : List AV) (b o : Nat), CL G w b o xs → AV.rngL xs
  | [], b, o, _ => trivial
  | x :: r, b, o, h => by
    simp only [CL] at h
    obtain ⟨⟨u, hu, hx⟩, hr⟩ := h
    exact ⟨vr_rng x u hx, cl_rng r b (o + 1) hr⟩
end
/-- a contract need only hold of arguments that can be -/
theorem VCall.rng {P : Program} {f : FuncId} {args : List AV} {r : AV} (h : AV.rngL args → VCall P f args r) (hr : r.isM = false := by rfl) : VCall P f args r :=
  VCallN.to hr ⟨fun w I π vs h1 h2 hv => ((h (vl_rng _ _ hv)).N hr).runs w I π vs h1 h2 hv⟩
theorem Fw.lt {k : FloatKind} {x : Nat} (h : Fw k x) : x < 2 ^ k.format.width := by
  obtain ⟨b, hb, rfl⟩ := h
  unfold canon
  split
  · cases k <;> decide
  · exact hb
theorem Fw.nan {k : FloatKind} {x : Nat} (h : Fw k x) : (k.format.read x).isNaN = true → x = fnan k := by
  obtain ⟨b, hb, rfl⟩ := h
  unfold canon
  split
  · exact fun _ => rfl
  · rename_i h'; exact fun h => absurd h h'
end Go.Proofs.LV
