/- Texts that belong together. -/
import Derived.Test.YtdffgjembkanoaaLvDefs
import Derived.Below
import Derived.Laws.Entries
import Derived.Laws.FloatBits
import Derived.Laws.FloatArith
namespace Go.Proofs.LV
open Go Go.RowKit
set_option linter.unusedVariables false

/-- where an object lies (0), where its rows lie (1 and on), and which of its cells is not told -/
structure Fam where
  blk : Nat → Option (Nat × Nat)
  hole : Option Nat
instance : CoeFun Fam (fun _ => Nat → Option (Nat × Nat)) := ⟨Fam.blk⟩
def Fam.no : Fam := ⟨fun _ => none, none⟩
structure Gh where
  β : Nat → Fam
  act : Nat → Prop
  imm : Nat → Prop
  π : List Nat → Option (Nat × Nat)

/-- block b, from cell o on, is what the tag names -/
def Gh.at (G : Gh) : Tag → Nat → Nat → Prop
  | .nil, _, _ => False
  | .imm, b, _ => G.imm b
  | .ro, b, _ => G.imm b ∨ ∃ p o, G.π p = some (b, o)
  | .par p, b, o => G.π p = some (b, o)
  | .own n, b, o => G.act n ∧ G.β n 0 = some (b, o)
  | .row n i, b, o => G.act n ∧ G.β n (i + 1) = some (b, o)
/-- nothing is there -/
def Gh.void (G : Gh) : Tag → Prop
  | .own n => G.act n
  | .row n _ => G.act n
  | _ => True

def FR (k : FloatKind) (x : Nat) (v : Value) : Prop := ∃ bits, v = .float k bits ∧ bits < 2 ^ k.format.width ∧ canon k bits = x

/-- n cells of a slice, cell j as E tells -/
def SRow (G : Gh) (w : World) (g : Tag) (off n : Nat) (E : Nat → Value → Prop) (v : Value) : Prop :=
  (∃ b o cap, v = .slice (some ⟨b, o + off, none⟩) n cap ∧ G.at g b o ∧ n ≤ cap ∧ cap ≤ maxLen ∧
    (∀ j, j < n → ∃ u, w.cell? ⟨b, o + off + j, none⟩ = some u ∧ E j u) ∧
    (∀ j, j < cap → (w.cell? ⟨b, o + off + j, none⟩).isSome = true)) ∨
  (n = 0 ∧ (∃ a, v = .slice a 0 0) ∧ G.void g)

def Cont.ok (G : Gh) (w : World) : Cont → Nat → Value → Prop
  | .f k xs, j, u => FR k (xs.getD j 0) u
  | .i k xs, j, u => u = .int k (xs.getD j 0) ∧ k.min ≤ xs.getD j 0 ∧ xs.getD j 0 ≤ k.max
  | .b xs, j, u => u = .bool (xs.getD j false)
  | .c k xs, j, u => ∃ a b, u = .complex k a b ∧ (a < 2 ^ k.format.width ∧ b < 2 ^ k.format.width) ∧ canon k a = (xs.getD j (0, 0)).1 ∧ canon k b = (xs.getD j (0, 0)).2
  | .ff k xs, j, u => SRow G w .imm 0 (xs.getD j []).length (fun i z => FR k ((xs.getD j []).getD i 0) z) u
/-- cell j of a list of lists of one's own -/
def NRow (G : Gh) (w : World) (n base : Nat) (k : FloatKind) (xss : List (List Nat)) (h : Option Nat) (j : Nat) (u : Value) : Prop :=
  h = some (base + j) ∨ SRow G w (.row n (base + j)) 0 (xss.getD j []).length (fun i z => FR k ((xss.getD j []).getD i 0) z) u

mutual
def VR (G : Gh) (w : World) : AV → Value → Prop
  | .any, _ => True
  | .b x, v => v = .bool x
  | .i k n, v => v = .int k n ∧ k.min ≤ n ∧ n ≤ k.max
  | .f k x, v => FR k x v
  | .c k x y, v => ∃ a b, v = .complex k a b ∧ (a < 2 ^ k.format.width ∧ b < 2 ^ k.format.width) ∧ canon k a = x ∧ canon k b = y
  | .sl g off xs, v => SRow G w g off xs.len (Cont.ok G w xs) v
  | .nw n base k xss h, v => (G.β n).hole = h ∧ SRow G w (.own n) base xss.length (NRow G w n base k xss h) v
  | .na n idx k h x, v => (G.β n).hole = h ∧ ∃ b o, v = .pointer (some ⟨b, o + idx, none⟩) ∧ G.at (.own n) b o ∧ ∃ u, w.cell? ⟨b, o + idx, none⟩ = some u ∧ VR G w x u
  | .bx g cells, v => ∃ b o, v = .pointer (some ⟨b, o, none⟩) ∧ G.at g b o ∧ CL G w b o cells
  | .ad g idx x, v => ∃ b o, v = .pointer (some ⟨b, o + idx, none⟩) ∧ G.at g b o ∧ ∃ u, w.cell? ⟨b, o + idx, none⟩ = some u ∧ VR G w x u
  | .agg cells, v => ∃ vs, v = .agg vs ∧ VL G w cells vs.toList
  | .tup xs, v => ∃ vs, v = .tuple vs ∧ VL G w xs vs.toList
  | .fn h caps, v => ∃ vs, v = .func (.func h) #[] vs ∧ VL G w caps vs.toList
def VL (G : Gh) (w : World) : List AV → List Value → Prop
  | [], vs => vs = []
  | x :: r, vs => ∃ u us, vs = u :: us ∧ VR G w x u ∧ VL G w r us
def CL (G : Gh) (w : World) (b o : Nat) : List AV → Prop
  | [] => True
  | x :: r => (∃ u, w.cell? ⟨b, o, none⟩ = some u ∧ VR G w x u) ∧ CL G w b (o + 1) r
end

/-- the element of a content, as an abstract value -/
theorem VR_get {G : Gh} {w : World} {xs : Cont} {j : Nat} {u : Value} (h : xs.ok G w j u) : VR G w (xs.get j) u := by
  cases xs with
  | f k xs => simpa [Cont.get, VR, Cont.ok] using h
  | i k xs => simpa [Cont.get, VR, Cont.ok] using h
  | b xs => simpa [Cont.get, VR, Cont.ok] using h
  | c k xs => simpa [Cont.get, VR, Cont.ok] using h
  | ff k xs =>
    simp only [Cont.get, VR, Cont.len]
    exact h

/-- what a step must keep for a tag -/
def Keeps (G G' : Gh) (w w' : World) (g : Tag) : Prop :=
  (∀ b o, G.at g b o → G'.at g b o ∧ w'.heap[b]? = w.heap[b]?) ∧ (G.void g → G'.void g)

/-- the same for an object and its rows -/
def KeepsN (G G' : Gh) (w w' : World) (n : Nat) : Prop :=
  (∀ i b o, G.act n → G.β n i = some (b, o) → (G'.act n ∧ G'.β n i = some (b, o)) ∧ w'.heap[b]? = w.heap[b]?) ∧ (G.act n → G'.act n) ∧ (G'.β n).hole = (G.β n).hole
theorem KeepsN.own {G G' : Gh} {w w' : World} {n : Nat} (h : KeepsN G G' w w' n) : Keeps G G' w w' (.own n) := ⟨fun b o ha => h.1 0 b o ha.1 ha.2, h.2.1⟩
theorem KeepsN.row {G G' : Gh} {w w' : World} {n : Nat} (h : KeepsN G G' w w' n) (i : Nat) : Keeps G G' w w' (.row n i) := ⟨fun b o ha => h.1 (i + 1) b o ha.1 ha.2, h.2.1⟩
theorem SRow.mono {G G' : Gh} {w w' : World} {g : Tag} {off n : Nat} {E E' : Nat → Value → Prop} {v : Value}
    (hk : Keeps G G' w w' g) (hE : ∀ j u, j < n → E j u → E' j u) (h : SRow G w g off n E v) : SRow G' w' g off n E' v := by
  rcases h with ⟨b, o, cap, rfl, hat, hn, hm, hc, hs⟩ | ⟨hn, ha, hv⟩
  · obtain ⟨hat', hb⟩ := hk.1 b o hat
    refine .inl ⟨b, o, cap, rfl, hat', hn, hm, fun j hj => ?_, fun j hj => ?_⟩
    · obtain ⟨u, hu, he⟩ := hc j hj
      exact ⟨u, (World.cell?_of_block (w := w) (a := ⟨b, o + off + j, none⟩) hb).trans hu, hE j u hj he⟩
    · rw [World.cell?_of_block (w := w) (a := ⟨b, o + off + j, none⟩) hb]; exact hs j hj
  · exact .inr ⟨hn, ha, hk.2 hv⟩

theorem Cont.ok.mono {G G' : Gh} {w w' : World} (hi : Keeps G G' w w' .imm) {xs : Cont} {j : Nat} {u : Value} (h : xs.ok G w j u) : xs.ok G' w' j u := by
  cases xs with
  | ff k xs => exact SRow.mono hi (fun _ _ _ h => h) h
  | f k xs => exact h
  | i k xs => exact h
  | b xs => exact h
  | c k xs => exact h

theorem NRow.mono {G G' : Gh} {w w' : World} {n base : Nat} {k : FloatKind} {xss : List (List Nat)} {h : Option Nat} {j : Nat} {u : Value} (hk : ∀ i, Keeps G G' w w' (.row n i)) (h1 : NRow G w n base k xss h j u) : NRow G' w' n base k xss h j u := by
  rcases h1 with h1 | h1
  · exact .inl h1
  · exact .inr (SRow.mono (hk _) (fun _ _ _ h => h) h1)

theorem keeps_of_has {G G' : Gh} {w w' : World} (hi : Keeps G G' w w' .imm) (hp : ∀ p, Keeps G G' w w' (.par p)) (g : Tag)
    (ho : ∀ n, g.names n = true → KeepsN G G' w w' n) : Keeps G G' w w' g := by
  cases g with
  | nil => exact ⟨fun _ _ h => h.elim, fun h => h⟩
  | imm => exact hi
  | ro =>
    refine ⟨fun b o h => ?_, fun h => h⟩
    rcases h with h | ⟨p, o', h⟩
    · exact ⟨.inl (hi.1 b o h).1, (hi.1 b o h).2⟩
    · exact ⟨.inr ⟨p, o', ((hp p).1 b o' h).1⟩, ((hp p).1 b o' h).2⟩
  | par p => exact hp p
  | own n => exact (ho n (by simp [Tag.names])).own
  | row n i => exact (ho n (by simp [Tag.names])).row i

mutual
theorem VR.mono {G G' : Gh} {w w' : World} (hi : Keeps G G' w w' .imm) (hp : ∀ p, Keeps G G' w w' (.par p)) :
    ∀ (x : AV) (v : Value), (∀ n, x.has n = true → KeepsN G G' w w' n) → VR G w x v → VR G' w' x v
  | .any, v, _, _ => by simp [VR]
  | .b x, v, _, h => by simpa [VR] using h
  | .i k n, v, _, h => by simpa [VR] using h
  | .f k x, v, _, h => by simpa [VR] using h
  | .c k x y, v, _, h => by simpa [VR] using h
  | .sl g off xs, v, ho, h => by
    simp only [VR] at h ⊢
    exact SRow.mono (keeps_of_has hi hp g (fun n hn => ho n (by simpa [AV.has] using hn))) (fun _ _ _ h => Cont.ok.mono hi h) h
  | .nw n base k xss hh, v, ho, h => by
    simp only [VR] at h ⊢
    have hk := ho n (by simp [AV.has])
    exact ⟨hk.2.2.trans h.1, SRow.mono hk.own (fun _ _ _ h => NRow.mono hk.row h) h.2⟩
  | .na n idx k hh x, v, ho, h => by
    simp only [VR] at h ⊢
    obtain ⟨hh, b, o, rfl, hat, u, hu, hx⟩ := h
    have hk := ho n (by simp [AV.has])
    obtain ⟨hat', hb⟩ := hk.own.1 b o hat
    exact ⟨hk.2.2.trans hh, b, o, rfl, hat', u, (World.cell?_of_block (w := w) (a := ⟨b, o + idx, none⟩) hb).trans hu, VR.mono hi hp x u (fun m hm => ho m (by simp [AV.has, hm])) hx⟩
  | .bx g cells, v, ho, h => by
    simp only [VR] at h ⊢
    obtain ⟨b, o, rfl, hat, hc⟩ := h
    have hk := keeps_of_has hi hp g (fun n hn => ho n (by simp [AV.has, hn]))
    obtain ⟨hat', hb⟩ := hk.1 b o hat
    exact ⟨b, o, rfl, hat', CL.mono hi hp cells b o hb (fun n hn => ho n (by simp [AV.has, hn])) hc⟩
  | .ad g idx x, v, ho, h => by
    simp only [VR] at h ⊢
    obtain ⟨b, o, rfl, hat, u, hu, hx⟩ := h
    have hk := keeps_of_has hi hp g (fun n hn => ho n (by simp [AV.has, hn]))
    obtain ⟨hat', hb⟩ := hk.1 b o hat
    exact ⟨b, o, rfl, hat', u, (World.cell?_of_block (w := w) (a := ⟨b, o + idx, none⟩) hb).trans hu, VR.mono hi hp x u (fun n hn => ho n (by simp [AV.has, hn])) hx⟩
  | .agg cells, v, ho, h => by
    simp only [VR] at h ⊢
    obtain ⟨vs, rfl, hv⟩ := h
    exact ⟨vs, rfl, VL.mono hi hp cells vs.toList (fun n hn => ho n (by simpa [AV.has] using hn)) hv⟩
  | .tup cells, v, ho, h => by
    simp only [VR] at h ⊢
    obtain ⟨vs, rfl, hv⟩ := h
    exact ⟨vs, rfl, VL.mono hi hp cells vs.toList (fun n hn => ho n (by simpa [AV.has] using hn)) hv⟩
  | .fn f cells, v, ho, h => by
    simp only [VR] at h ⊢
    obtain ⟨vs, rfl, hv⟩ := h
    exact ⟨vs, rfl, VL.mono hi hp cells vs.toList (fun n hn => ho n (by simpa [AV.has] using hn)) hv⟩
theorem VL.mono {G G' : Gh} {w w' : World} (hi : Keeps G G' w w' .imm) (hp : ∀ p, Keeps G G' w w' (.par p)) :
    ∀ (xs : List AV) (vs : List Value), (∀ n, AV.hasL n xs = true → KeepsN G G' w w' n) → VL G w xs vs → VL G' w' xs vs
  | [], vs, _, h => by simpa [VL] using h
  | x :: r, vs, ho, h => by
    simp only [VL] at h ⊢
    obtain ⟨u, us, rfl, hx, hr⟩ := h
    exact ⟨u, us, rfl, VR.mono hi hp x u (fun n hn => ho n (by simp [AV.hasL, hn])) hx, VL.mono hi hp r us (fun n hn => ho n (by simp [AV.hasL, hn])) hr⟩
theorem CL.mono {G G' : Gh} {w w' : World} (hi : Keeps G G' w w' .imm) (hp : ∀ p, Keeps G G' w w' (.par p)) :
    ∀ (xs : List AV) (b o : Nat), w'.heap[b]? = w.heap[b]? → (∀ n, AV.hasL n xs = true → KeepsN G G' w w' n) → CL G w b o xs → CL G' w' b o xs
  | [], b, o, _, _, h => by simp [CL]
  | x :: r, b, o, hb, ho, h => by
    simp only [CL] at h ⊢
    obtain ⟨⟨u, hu, hx⟩, hr⟩ := h
    exact ⟨⟨u, (World.cell?_of_block (w := w) (a := ⟨b, o, none⟩) hb).trans hu, VR.mono hi hp x u (fun n hn => ho n (by simp [AV.hasL, hn])) hx⟩,
      CL.mono hi hp r b (o + 1) hb (fun n hn => ho n (by simp [AV.hasL, hn])) hr⟩
end

/-! ## The tie of an environment to a frame -/

structure Ctx where
  base : Nat
  w0 : World
  M : Nat → Prop
  π : List Nat → Option (Nat × Nat)
  I : Nat → Prop
  hb : Nat → Fam
  ha : Nat → Prop

/-- everything that was there, but the blocks of M, is as it was -/
structure Kept (C : Ctx) (w : World) : Prop where
  os : w.os = C.w0.os
  tape : w.tape = C.w0.tape
  output : w.output = C.w0.output
  size : C.w0.heap.size ≤ w.heap.size
  le : C.base ≤ w.heap.size
  block : ∀ k, k < C.base → ¬ C.M k → w.heap[k]? = C.w0.heap[k]?
  rows : ∀ k cells e, k < C.base → C.w0.heap[k]? = some (.cells cells e (0, 0)) → ∃ cells', w.heap[k]? = some (.cells cells' e (0, 0)) ∧ cells'.size = cells.size

structure SimG (C : Ctx) (G : Gh) (w : World) : Prop where
  kept : Kept C w
  names : ∀ n i b o, G.act n → G.β n i = some (b, o) → ¬ G.imm b ∧ (C.base ≤ b ∨ C.M b) ∧ ∃ cells e, w.heap[b]? = some (.cells cells e (0, 0))
  dist : ∀ n i m j b o b' o', G.act n → G.act m → ¬ (n = m ∧ i = j) → G.β n i = some (b, o) → G.β m j = some (b', o') → b ≠ b'
  imms : ∀ b, G.imm b → b < w.heap.size ∧ ¬ C.M b
  pars : ∀ p b o, G.π p = some (b, o) → b < C.base ∧ ¬ C.M b
  ml : ∀ b, C.M b → b < C.base ∧ ∃ n i o, HI ≤ n ∧ C.ha n ∧ C.hb n i = some (b, o)
  pi : G.π = C.π
  imI : ∀ b, G.imm b → C.I b ∨ C.base ≤ b

structure Sim (C : Ctx) (G : Gh) (σ : Env) (a : Act) (w : World) : Prop where
  g : SimG C G w
  defers : a.defers = []
  size : a.tmps.size = σ.length
  val : ∀ s, s < σ.length → VR G w (σ.getD s .any) (a.tmps.getD s undef)
  hi : ∀ n, HI ≤ n → G.β n = C.hb n ∧ (C.ha n → G.act n)

theorem Sim.ev {C : Ctx} {G : Gh} {σ : Env} {a : Act} {w : World} (h : Sim C G σ a w) (t : Nat) : VR G w (σ.getD t .any) (a.tmps.getD t undef) := by
  by_cases ht : t < σ.length
  · exact h.val t ht
  · have : σ.getD t .any = .any := by simp [List.getD, List.getElem?_eq_none (Nat.le_of_not_lt ht)]
    rw [this]; simp [VR]

/-! ## New names -/
section
variable {n m : Nat}
theorem swn_swn (n m k : Nat) : swn n m (swn n m k) = k := by
  unfold swn
  by_cases h1 : k = n
  · subst h1; simp only [if_true]; split <;> simp_all
  · by_cases h2 : k = m
    · subst h2; simp [h1]
    · simp [h1, h2]
theorem swn_inj {n m i j : Nat} (h : swn n m i = swn n m j) : i = j := by rw [← swn_swn n m i, h, swn_swn]
def Gh.rnm (n m : Nat) (G : Gh) : Gh := ⟨fun k => G.β (swn n m k), fun k => G.act (swn n m k), G.imm, G.π⟩
theorem rnm_at {G : Gh} {g : Tag} {b o : Nat} (h : G.at g b o) : (G.rnm n m).at (g.rnm n m) b o := by
  cases g with
  | own k => simpa [Gh.at, Tag.rnm, Gh.rnm, swn_swn] using h
  | row k i => simpa [Gh.at, Tag.rnm, Gh.rnm, swn_swn] using h
  | _ => exact h
theorem rnm_void {G : Gh} {g : Tag} (h : G.void g) : (G.rnm n m).void (g.rnm n m) := by
  cases g with
  | own k => simpa [Gh.void, Tag.rnm, Gh.rnm, swn_swn] using h
  | row k i => simpa [Gh.void, Tag.rnm, Gh.rnm, swn_swn] using h
  | _ => exact h
theorem SRow.rnm {G : Gh} {w : World} {g : Tag} {off l : Nat} {E E' : Nat → Value → Prop} {v : Value} (hE : ∀ j u, E j u → E' j u) (h : SRow G w g off l E v) : SRow (G.rnm n m) w (g.rnm n m) off l E' v := by
  rcases h with ⟨b, o, cap, rfl, hat, hn, hm, hc, hs⟩ | ⟨hn, ha, hv⟩
  · refine .inl ⟨b, o, cap, rfl, rnm_at hat, hn, hm, fun j hj => ?_, hs⟩
    obtain ⟨u, hu, he⟩ := hc j hj
    exact ⟨u, hu, hE j u he⟩
  · exact .inr ⟨hn, ha, rnm_void hv⟩
theorem Cont.ok.rnm {G : Gh} {w : World} {xs : Cont} {j : Nat} {u : Value} (h : xs.ok G w j u) : xs.ok (G.rnm n m) w j u := by
  cases xs with
  | ff k xs => exact SRow.rnm (g := .imm) (fun _ _ h => h) h
  | f k xs => exact h
  | i k xs => exact h
  | b xs => exact h
  | c k xs => exact h
mutual
theorem VR.rnm {G : Gh} {w : World} : ∀ (x : AV) (v : Value), VR G w x v → VR (G.rnm n m) w (x.rnm n m) v
  | .any, v, _ => by simp [AV.rnm, VR]
  | .b x, v, h => by simpa [AV.rnm, VR] using h
  | .i k n, v, h => by simpa [AV.rnm, VR] using h
  | .f k x, v, h => by simpa [AV.rnm, VR] using h
  | .c k x y, v, h => by simpa [AV.rnm, VR] using h
  | .sl g off xs, v, h => by
    simp only [AV.rnm, VR] at h ⊢
    exact SRow.rnm (fun _ _ h => Cont.ok.rnm h) h
  | .nw j base k xss hh, v, h => by
    simp only [AV.rnm, VR] at h ⊢
    refine ⟨by simpa [Gh.rnm, swn_swn] using h.1, SRow.rnm (g := .own j) (fun _ _ h => by
      rcases h with h | h
      · exact .inl h
      · exact .inr (SRow.rnm (g := .row j _) (fun _ _ h => h) h)) h.2⟩
  | .na j idx k hh x, v, h => by
    simp only [AV.rnm, VR] at h ⊢
    obtain ⟨hh, b, o, rfl, hat, u, hu, hx⟩ := h
    exact ⟨by simpa [Gh.rnm, swn_swn] using hh, b, o, rfl, rnm_at (g := .own j) hat, u, hu, VR.rnm x u hx⟩
  | .bx g cells, v, h => by
    simp only [AV.rnm, VR] at h ⊢
    obtain ⟨b, o, rfl, hat, hc⟩ := h
    exact ⟨b, o, rfl, rnm_at hat, CL.rnm cells b o hc⟩
  | .ad g idx x, v, h => by
    simp only [AV.rnm, VR] at h ⊢
    obtain ⟨b, o, rfl, hat, u, hu, hx⟩ := h
    exact ⟨b, o, rfl, rnm_at hat, u, hu, VR.rnm x u hx⟩
  | .agg cells, v, h => by
    simp only [AV.rnm, VR] at h ⊢
    obtain ⟨vs, rfl, hv⟩ := h
    exact ⟨vs, rfl, VL.rnm cells vs.toList hv⟩
  | .tup cells, v, h => by
    simp only [AV.rnm, VR] at h ⊢
    obtain ⟨vs, rfl, hv⟩ := h
    exact ⟨vs, rfl, VL.rnm cells vs.toList hv⟩
  | .fn f cells, v, h => by
    simp only [AV.rnm, VR] at h ⊢
    obtain ⟨vs, rfl, hv⟩ := h
    exact ⟨vs, rfl, VL.rnm cells vs.toList hv⟩
theorem VL.rnm {G : Gh} {w : World} : ∀ (xs : List AV) (vs : List Value), VL G w xs vs → VL (G.rnm n m) w (AV.rnmL n m xs) vs
  | [], vs, h => by simpa [AV.rnmL, VL] using h
  | x :: r, vs, h => by
    simp only [AV.rnmL, VL] at h ⊢
    obtain ⟨u, us, rfl, hx, hr⟩ := h
    exact ⟨u, us, rfl, VR.rnm x u hx, VL.rnm r us hr⟩
theorem CL.rnm {G : Gh} {w : World} : ∀ (xs : List AV) (b o : Nat), CL G w b o xs → CL (G.rnm n m) w b o (AV.rnmL n m xs)
  | [], b, o, h => by simp [AV.rnmL, CL]
  | x :: r, b, o, h => by
    simp only [AV.rnmL, CL] at h ⊢
    obtain ⟨⟨u, hu, hx⟩, hr⟩ := h
    exact ⟨⟨u, hu, VR.rnm x u hx⟩, CL.rnm r b (o + 1) hr⟩
end
theorem rnmL_len : ∀ xs : List AV, (AV.rnmL n m xs).length = xs.length
  | [] => rfl
  | x :: r => by simp [AV.rnmL, rnmL_len r]
theorem rnmL_get : ∀ (xs : List AV) (s : Nat), (AV.rnmL n m xs).getD s .any = (xs.getD s .any).rnm n m
  | [], s => by simp [AV.rnmL, AV.rnm]
  | x :: r, 0 => by simp [AV.rnmL]
  | x :: r, s + 1 => by simpa [AV.rnmL] using rnmL_get r s
theorem Sim.rnm {C : Ctx} {G : Gh} {σ : Env} {a : Act} {w : World} (h : Sim C G σ a w) (hn : n < HI) (hm : m < HI) : Sim C (G.rnm n m) (σ.rnm n m) a w := by
  refine ⟨⟨h.g.kept, fun k i b o ha hb => h.g.names (swn n m k) i b o ha hb, fun i p j q b o b' o' hi hj hne hb hb' => h.g.dist _ _ _ _ b o b' o' hi hj (fun e => hne ⟨swn_inj e.1, e.2⟩) hb hb', h.g.imms, h.g.pars, h.g.ml, h.g.pi, h.g.imI⟩,
    h.defers, by rw [h.size]; exact (rnmL_len σ).symm, fun s hs => ?_, fun k hk => ?_⟩
  · rw [show (σ.rnm n m).getD s .any = (σ.getD s .any).rnm n m from rnmL_get σ s]
    exact VR.rnm _ _ (h.val s (by rw [← rnmL_len (n := n) (m := m) σ]; exact hs))
  · have e : swn n m k = k := by unfold swn; rw [if_neg (by omega), if_neg (by omega)]
    show G.β (swn n m k) = _ ∧ (_ → G.act (swn n m k))
    rw [e]; exact h.hi k hk
end
end Go.Proofs.LV

namespace Go.Proofs.LV
open Go
set_option linter.unusedVariables false

/-- the element's size is one cell -/
def size1 (P : Program) (t : TypeId) : Bool := match P.info? t with | some i => i.size == 1 | none => false
def isRowT (P : Program) (t : TypeId) : Bool := match P.underlying t with | some (.struct _) | some (.array _ _) => true | _ => false

/-- the empty content of a slice type -/
def emptyOf (P : Program) (t : TypeId) : Option Cont :=
  match P.underlying t with
  | some (.slice e) => match P.underlying e with
    | some (.float k) => some (.f k [])
    | some (.int k) => some (.i k [])
    | some .bool => some (.b [])
    | some (.complex k) => some (.c k [])
    | some (.slice e') => match P.underlying e' with
      | some (.float k) => some (.ff k [])
      | _ => none
    | _ => none
  | _ => none

def constAV (P : Program) (t : TypeId) : Value → Option AV
  | .bool b => some (.b b)
  | .int k n => if k.min ≤ n ∧ n ≤ k.max then some (.i k n) else none
  | .float k b => if b < 2 ^ k.format.width then some (.f k (canon k b)) else none
  | .complex k a b => if a < 2 ^ k.format.width ∧ b < 2 ^ k.format.width then some (.c k (canon k a) (canon k b)) else none
  | .slice none 0 0 => match emptyOf P t with | some e => some (.sl .imm 0 (e.sub 0 0)) | none => none
  | .pointer none => some .any
  | _ => none

def resX (P : Program) : TypeId × Operand → Option Opd
  | (_, .tmp n) => some (.t n)
  | (t, .const v) => match constAV P t v with | some x => some (.k x) | none => none
  | (_, .func f) => some (.k (.fn f []))
  | _ => none

def allSome {α : Type} : List (Option α) → Option (List α)
  | [] => some []
  | some x :: r => match allSome r with | some xs => some (x :: xs) | none => none
  | none :: _ => none

/-- the cells of a zero value, field by field -/
def zeroCellsAV (P : Program) (t : TypeId) (z : Value) : Option (List AV) :=
  match P.underlying t with
  | some (.struct fields) => if fields.size = z.cells.size then allSome ((fields.toList.zip z.cells.toList).map fun (f, v) => constAV P f.type v) else none
  | some (.array _ _) => none
  | _ => if z.cells.size = 1 then allSome (z.cells.toList.map (constAV P t)) else none

/-- a zero cell; a slice that is nil is told so -/
def constNil (P : Program) (t : TypeId) (v : Value) : Option AV :=
  match v with
  | .slice none 0 0 => match emptyOf P t with | some e => some (.sl .nil 0 (e.sub 0 0)) | none => none
  | v => constAV P t v
def zeroCellsNil (P : Program) (fields : Array Field) (z : Value) : Option (List AV) :=
  if fields.size = z.cells.size then allSome ((fields.toList.zip z.cells.toList).map fun (f, v) => constNil P f.type v) else none
/-- the place and the type of each part -/
def partsAt (P : Program) (fields : Array Field) (parts : List (Nat × Operand)) : Option (List (Nat × (TypeId × Operand))) :=
  allSome (parts.map fun p => match fields[p.1]? with | some f => if size1 P f.type = true then some (f.offset, (f.type, p.2)) else none | none => none)

def scalarT (P : Program) (t : TypeId) : Bool :=
  match P.underlying t with | some (.int _) | some (.float _) | some (.complex _) => true | _ => false
def boolT (P : Program) (t : TypeId) : Bool := match P.underlying t with | some .bool => true | _ => false
def sliceT (P : Program) (t : TypeId) : Option TypeId := match P.underlying t with | some (.slice e) => if size1 P e then some e else none | _ => none

def partsInOrder : Nat → List (Nat × Operand) → Bool
  | _, [] => true
  | n, (i, _) :: r => i == n && partsInOrder (n + 1) r

/-- a slice, compared with nil -/
def resEql (P : Program) (op : BinOp) (t : TypeId) (x y : Operand) : Option (K × List (TypeId × Operand)) :=
  match op, y, sliceT P t with | .eql, .const (.slice none 0 0), some _ => some (.isnil, [(t, x)]) | _, _, _ => none
theorem resEql_kd {P : Program} {op : BinOp} {t : TypeId} {x y : Operand} {kd : K} {xs : List (TypeId × Operand)} (h : resEql P op t x y = some (kd, xs)) : kd = .isnil := by
  unfold resEql at h
  split at h
  · cases h; rfl
  · cases h
def resK (P : Program) (o : Oper) : Option (K × List (TypeId × Operand)) :=
  match o.op with
  | .move x | .assign x => match x with
    | .const (.slice none 0 0) => match emptyOf P o.type with | some e => some (.nilsl e, []) | none => none
    | x => some (.mv, [(o.type, x)])
  | .pick c a b => some (.pick, [(o.type, c), (o.type, a), (o.type, b)])
  | .binOp op t x y u => if op matches .shl then none else
      if scalarT P t then some (.bin op, [(t, x), (u, y)]) else if boolT P t then some (.binb op, [(t, x), (u, y)]) else resEql P op t x y
  | .unOp .not t x => some (.not, [(t, x)])
  | .unOp .neg t x => some (.neg, [(t, x)])
  | .convert src dst x => match P.underlying src, P.underlying dst with
    | some _, some (.int k) => some (.convI k, [(src, x)])
    | some _, some (.float k) => some (.convF k, [(src, x)])
    | some _, some (.complex k) => some (.convC k, [(src, x)])
    | _, _ => none
  | .indexAddr t x i => match sliceT P t with | some _ => some (.iaddr, [(t, x), (t, i)]) | none => none
  | .fieldAddr s x f => match P.underlying s with
    | some (.struct fields) => match fields[f]? with
      | some fd => if size1 P fd.type then some (.faddr fd.offset, [(s, x)]) else none
      | none => none
    | _ => none
  | .load t a => match P.underlying t, P.info? t with
    | some _, some i => if isRowT P t then some (.loadN i.size, [(t, a)]) else some (.load, [(t, a)])
    | _, _ => none
  | .store t a x => match P.info? t with
    | some i => if isRowT P t then some (.storeN i.size, [(t, a), (t, x)]) else if i.size = 1 then some (.store, [(t, a), (t, x)]) else none
    | none => none
  | .alloc e => match P.info? e with
    | some i => match i.zero with
      | some z => match zeroCellsAV P e z with | some cs => some (.alloc cs, []) | none => none
      | none => none
    | none => none
  | .box e x => if isRowT P e then some (.boxN, [(e, x)]) else some (.box, [(e, x)])
  | .build t parts => match P.underlying t, P.info? t with
    | some (.struct fields), some it => match it.zero with
      | some z => match zeroCellsNil P fields z, partsAt P fields parts.toList with
        | some cs, some ps => if fields.all (fun f => (P.info? f.type).isSome) = true then some (.build cs (ps.map (·.1)), ps.map (·.2)) else none
        | _, _ => none
      | none => none
    | some (.array n e), some it => match it.zero with
      | some z => match allSome (z.cells.toList.map (constAV P e)) with
        | some cs => if size1 P e = true then some (.build cs (parts.toList.map (·.1)), parts.toList.map fun p => (e, p.2)) else none
        | none => none
      | none => none
    | _, _ => none
  | .index t x i => match P.underlying t with
    | some (.array n e) => if size1 P e = true ∧ isRowT P e = false ∧ (P.underlying e).isSome = true then some (.aidx n, [(t, x), (t, i)]) else none
    | _ => none
  | .buildSlice t n parts => match sliceT P t, emptyOf P t with
    | some e, some c => if n = parts.size ∧ n ≤ 1000 ∧ partsInOrder 0 parts.toList = true ∧ ((P.info? e).bind (fun i => i.zero)).isSome = true then some (.lit true (c.sub 0 0), parts.toList.map fun p => (e, p.2)) else none
    | _, _ => none
  | .makeSlice t l c => match sliceT P t with
    | some e => match P.info? e with
      | some i => match i.zero with
        | some z => match constAV P e z with | some x => if i.bytes ≤ 64 ∧ z.cells.size = 1 then some (.mksl x, [(t, l), (t, c)]) else none | none => none
        | none => none
      | none => none
    | none => none
  | .slice t x lo hi mx => match sliceT P t, lo, hi, mx with
    | some _, some l, some h, none => some (.slice true true false, [(t, x), (t, l), (t, h)])
    | some _, some l, none, none => some (.slice true false false, [(t, x), (t, l)])
    | some _, none, some h, none => some (.slice false true false, [(t, x), (t, h)])
    | some _, none, some h, some m => some (.slice false true true, [(t, x), (t, h), (t, m)])
    | _, _, _, _ => none
  | .extract t j => some (.extract j, [(0, t)])
  | .nilCheck x => some (.nilck, [(0, x)])
  | .makeFunc (.func f) first cap => if first.size = 0 then some (.mkfn f, cap.toList.map fun x => (0, x)) else none
  | .call c => match c.callee, c.args.toList with
    | .value (.func f), xs => if c.argTypes.size = c.args.size then some (.call f, c.argTypes.toList.zip xs) else none
    | .value (.tmp t), xs => if c.argTypes.size = c.args.size then some (.callv, (0, .tmp t) :: c.argTypes.toList.zip xs) else none
    | .builtin .len, [x] => match c.argTypes.toList with
      | [t] => match sliceT P t with | some _ => some (.len, [(t, x)]) | none => none
      | _ => none
    | .builtin .append, [x, y] => match c.argTypes.toList with
      | [t, u] => if t = u then match sliceT P t with
          | some e => match P.info? e with
            | some i => if i.bytes ≤ 64 ∧ (i.zero.map (fun z => z.cells.size)) = some 1 then some (.app, [(t, x), (t, y)]) else none
            | none => none
          | none => none
        else none
      | _ => none
    | .builtin .copy, [x, y] => match c.argTypes.toList with
      | [t, u] => match sliceT P t with | some _ => some (.copy, [(t, x), (u, y)]) | none => none
      | _ => none
    | .builtin .max, [x, y] => match c.argTypes.toList with | [t, u] => some (.max, [(t, x), (u, y)]) | _ => none
    | .builtin .min, [x, y] => match c.argTypes.toList with | [t, u] => some (.min, [(t, x), (u, y)]) | _ => none
    | .builtin .complex, [x, y] => match c.argTypes.toList with | [t, u] => some (.cplx, [(t, x), (u, y)]) | _ => none
    | .builtin .real, [x] => match c.argTypes.toList with | [t] => some (.re, [(t, x)]) | _ => none
    | .builtin .imag, [x] => match c.argTypes.toList with | [t] => some (.im, [(t, x)]) | _ => none
    | _, _ => none
  | _ => none

/-- is it made here, with nothing in it? -/
def lit0At (ops : Array Oper) (t : Tmp) : Bool := ops.any fun o => o.dst == some t && o.guard.isNone && match o.op with | .buildSlice _ 0 _ => true | _ => false
/-- is it here the list that is appended to? -/
def usedApp (ops : Array Oper) (d : Option Tmp) : Bool := match d with
  | some t => ops.any fun o => match o.op with
    | .call c => match c.callee, c.args.toList with | .builtin .append, [.tmp u, _] => u == t | _, _ => false
    | _ => false
  | none => false
def resF (P : Program) (ops : Array Oper) (o : Oper) : Option (K × List (TypeId × Operand)) :=
  match resK P o with
  | some (.lit true e, []) => if usedApp ops o.dst = true then some (.nilsl e, []) else some (.lit true e, [])
  | some (.app, [(t, .tmp u), y]) => if lit0At ops u = true then some (.arr, [(t, .tmp u), y]) else some (.app, [(t, .tmp u), y])
  | r => r
theorem resF_inv {P : Program} {ops : Array Oper} {o : Oper} {kd : K} {xs : List (TypeId × Operand)} (h : resF P ops o = some (kd, xs)) :
    resK P o = some (kd, xs) ∨ (∃ e, kd = .nilsl e ∧ xs = [] ∧ resK P o = some (.lit true e, [])) ∨ (kd = .arr ∧ resK P o = some (.app, xs)) := by
  unfold resF at h
  split at h
  · rename_i e hk
    split at h <;> cases h
    · exact .inr (.inl ⟨e, rfl, rfl, hk⟩)
    · exact .inl hk
  · rename_i hk
    split at h <;> cases h
    · exact .inr (.inr ⟨rfl, hk⟩)
    · exact .inl hk
  · exact .inl h
theorem resF_same {P : Program} {ops : Array Oper} {o : Oper} {kd : K} {xs : List (TypeId × Operand)} (h : resF P ops o = some (kd, xs)) (h1 : ∀ e, kd ≠ .nilsl e) (h2 : kd ≠ .arr) : resK P o = some (kd, xs) := by
  rcases resF_inv h with h | ⟨e, he, _⟩ | ⟨he, _⟩
  · exact h
  · exact absurd he (h1 e)
  · exact absurd he h2

def resG (ops : Array Oper) (o : Oper) : Option (Option (Nat × Bool)) :=
  match o.guard with
  | none => some none
  | some (j, want) => match (ops[j]?).bind (·.dst) with | some d => some (some (d, want)) | none => none

def resOp (P : Program) (ops : Array Oper) (o : Oper) : Option VStep :=
  match resF P ops o with
  | some (kd, xs) => match allSome (xs.map (resX P)), resG ops o with
    | some opds, some g => if o.dst.getD 0 < 99999 then some ⟨o.dst, kd, opds, g⟩ else none
    | _, _ => none
  | none => none

end Go.Proofs.LV

namespace Go.Proofs.LV
open Go Ieee
set_option linter.unusedVariables false
set_option linter.unusedSimpArgs false

theorem nan_fnan (k : FloatKind) : (k.format.read (fnan k)).isNaN = true := by cases k <;> decide +kernel
theorem read_canon (k : FloatKind) (b : Nat) : (k.format.read b).isNaN = true ∧ (k.format.read (canon k b)).isNaN = true ∨ canon k b = b := by
  unfold canon
  split
  · rename_i h; exact .inl ⟨h, nan_fnan k⟩
  · exact .inr rfl

/-! ### a not-a-number among the operands -/
theorem sum_nan {x y : Datum} (h : x.isNaN = true ∨ y.isNaN = true) : x.sum y = none := by
  cases x <;> cases y <;> simp_all [Datum.isNaN, Datum.sum]
theorem product_nan {x y : Datum} (h : x.isNaN = true ∨ y.isNaN = true) : x.product y = none := by
  cases x <;> cases y <;> simp_all [Datum.isNaN, Datum.product]
theorem quotient_nan {n : Nat} {x y : Datum} (h : x.isNaN = true ∨ y.isNaN = true) : x.quotient n y = none := by
  cases x <;> cases y <;> simp_all [Datum.isNaN, Datum.quotient]
theorem order_nan {x y : Datum} (h : x.isNaN = true ∨ y.isNaN = true) : x.order y = none := by
  cases x <;> cases y <;> simp_all [Datum.isNaN, Datum.order]
theorem opposite_nan (x : Datum) : x.opposite.isNaN = x.isNaN := by cases x <;> rfl

theorem lift2 {β : Type} (D : Datum → Datum → Option β) (hD : ∀ x y, x.isNaN = true ∨ y.isNaN = true → D x y = none) (k : FloatKind) (a b : Nat) :
    D (k.format.read (canon k a)) (k.format.read (canon k b)) = D (k.format.read a) (k.format.read b) := by
  rcases read_canon k a with ⟨h1, h2⟩ | h1
  · rw [hD _ _ (.inl h1), hD _ _ (.inl h2)]
  · rw [h1]
    rcases read_canon k b with ⟨h3, h4⟩ | h3
    · rw [hD _ _ (.inr h3), hD _ _ (.inr h4)]
    · rw [h3]

theorem add_canon (k : FloatKind) (a b : Nat) : k.format.add (canon k a) (canon k b) = k.format.add a b := by
  unfold Format.add; rw [lift2 (fun x y => x.sum y) (fun x y h => sum_nan h)]
theorem sub_canon (k : FloatKind) (a b : Nat) : k.format.sub (canon k a) (canon k b) = k.format.sub a b := by
  unfold Format.sub; rw [lift2 (fun x y => x.sum y.opposite) (fun x y h => sum_nan (by rw [opposite_nan]; exact h))]
theorem mul_canon (k : FloatKind) (a b : Nat) : k.format.mul (canon k a) (canon k b) = k.format.mul a b := by
  unfold Format.mul; rw [lift2 (fun x y => x.product y) (fun x y h => product_nan h)]
theorem div_canon (k : FloatKind) (a b : Nat) : k.format.div (canon k a) (canon k b) = k.format.div a b := by
  unfold Format.div; rw [lift2 (fun x y => x.quotient _ y) (fun x y h => quotient_nan h)]
theorem order_canon (k : FloatKind) (a b : Nat) : k.format.order (canon k a) (canon k b) = k.format.order a b := by
  unfold Format.order; rw [lift2 (fun x y => x.order y) (fun x y h => order_nan h)]

/-! ### what is written is no not-a-number -/
theorem signWeight_pos (f : Format) : 0 < f.signWeight := Nat.two_pow_pos _
theorem binade_pos (f : Format) : 0 < f.binade := Nat.two_pow_pos _

theorem read_word (f : Format) (neg : Bool) (r : Nat) (h : r ≤ f.infRung) : (f.read (f.word neg r)).isNaN = false := by
  have hlt : r < f.signWeight := Nat.lt_of_le_of_lt h f.infRung_lt
  have hm : f.word neg r % f.signWeight = r := by
    unfold Format.word
    split
    · rw [Nat.add_mod_left, Nat.mod_eq_of_lt hlt]
    · exact Nat.mod_eq_of_lt hlt
  unfold Format.read
  simp only [hm]
  split
  · rfl
  · split
    · rfl
    · split
      · rfl
      · omega

theorem read_write (f : Format) (d : Datum) (h : d.isNaN = false) : (f.read (f.write d)).isNaN = false := by
  cases d with
  | number s m e =>
    simp only [Format.write, Format.nearest]
    split
    · exact read_word f _ 0 (Nat.zero_le _)
    · exact read_word f _ _ (Nat.min_le_right _ _)
  | infinity s => exact read_word f _ _ (Nat.le_refl _)
  | nan s t => simp [Datum.isNaN] at h

theorem canon_write (k : FloatKind) (d : Datum) (h : d.isNaN = false) : canon k (k.format.write d) = k.format.write d := by
  unfold canon; rw [if_neg (by simp [read_write _ d h])]

theorem sum_some {x y d : Datum} (h : x.sum y = some d) : d.isNaN = false := by
  cases x <;> cases y <;> simp only [Datum.sum] at h
  all_goals first | (cases h; rfl) | (split at h <;> cases h; rfl) | cases h
theorem product_some {x y d : Datum} (h : x.product y = some d) : d.isNaN = false := by
  cases x <;> cases y <;> simp only [Datum.product] at h
  all_goals first | (cases h; rfl) | (split at h <;> cases h; rfl) | cases h
theorem quotient_some {n : Nat} {x y d : Datum} (h : x.quotient n y = some d) : d.isNaN = false := by
  cases x <;> cases y <;> simp only [Datum.quotient] at h
  all_goals first | (cases h; rfl) | cases h | skip
  split at h
  · split at h <;> cases h; rfl
  · cases h; rfl

theorem map_write_canon {k : FloatKind} {D : Option Datum} {r : Nat} (hD : ∀ d, D = some d → d.isNaN = false) (h : D.map k.format.write = some r) : canon k r = r ∧ r < 2 ^ k.format.width := by
  cases D with
  | none => cases h
  | some d => cases h; exact ⟨canon_write k d (hD d rfl), k.format.write_lt d⟩

theorem add_some {k : FloatKind} {a b r : Nat} (h : k.format.add a b = some r) : canon k r = r ∧ r < 2 ^ k.format.width := map_write_canon (fun d hd => sum_some hd) h
theorem sub_some {k : FloatKind} {a b r : Nat} (h : k.format.sub a b = some r) : canon k r = r ∧ r < 2 ^ k.format.width := map_write_canon (fun d hd => sum_some hd) h
theorem mul_some {k : FloatKind} {a b r : Nat} (h : k.format.mul a b = some r) : canon k r = r ∧ r < 2 ^ k.format.width := map_write_canon (fun d hd => product_some hd) h
theorem div_some {k : FloatKind} {a b r : Nat} (h : k.format.div a b = some r) : canon k r = r ∧ r < 2 ^ k.format.width := map_write_canon (fun d hd => quotient_some hd) h

/-- the not-a-number that the tape gives -/
theorem cut_nan (k : FloatKind) (x y t : Nat) : (k.format.read ((Question.nanBits k x y).cut t)).isNaN = true ∧ (Question.nanBits k x y).cut t < 2 ^ k.format.width := by
  cases k
  · simp only [Question.cut]
    have h1 : t % 2 < 2 := Nat.mod_lt _ (by decide)
    have h2 : t / 2 % (2 ^ 23 - 1) < 2 ^ 23 - 1 := Nat.mod_lt _ (by decide)
    generalize t % 2 = a at *
    generalize t / 2 % (2 ^ 23 - 1) = b at *
    have hw : FloatKind.f32.format.width = 32 := by decide
    refine ⟨?_, by rw [hw]; omega⟩
    have hs : FloatKind.f32.format.signWeight = 2 ^ 31 := by decide
    have hb : FloatKind.f32.format.binade = 2 ^ 23 := by decide
    have hi : FloatKind.f32.format.infRung = 255 * 2 ^ 23 := by decide
    unfold Format.read
    simp only [hs, hb, hi]
    have hm : (a * 2 ^ 31 + 2139095040 + 1 + b) % 2 ^ 31 = 2139095040 + 1 + b := by omega
    rw [hm]
    rw [if_neg (by omega), if_neg (by omega), if_neg (by omega)]
    rfl
  · simp only [Question.cut]
    have h1 : t % 2 < 2 := Nat.mod_lt _ (by decide)
    have h2 : t / 2 % (2 ^ 52 - 1) < 2 ^ 52 - 1 := Nat.mod_lt _ (by decide)
    generalize t % 2 = a at *
    generalize t / 2 % (2 ^ 52 - 1) = b at *
    have hw : FloatKind.f64.format.width = 64 := by decide
    refine ⟨?_, by rw [hw]; omega⟩
    have hs : FloatKind.f64.format.signWeight = 2 ^ 63 := by decide
    have hb : FloatKind.f64.format.binade = 2 ^ 52 := by decide
    have hi : FloatKind.f64.format.infRung = 2047 * 2 ^ 52 := by decide
    unfold Format.read
    simp only [hs, hb, hi]
    have hm : (a * 2 ^ 63 + 9218868437227405312 + 1 + b) % 2 ^ 63 = 9218868437227405312 + 1 + b := by omega
    rw [hm]
    rw [if_neg (by omega), if_neg (by omega), if_neg (by omega)]
    rfl
theorem canon_cut (k : FloatKind) (x y t : Nat) : canon k ((Question.nanBits k x y).cut t) = fnan k := by
  unfold canon; rw [if_pos (cut_nan k x y t).1]

end Go.Proofs.LV
