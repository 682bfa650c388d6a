/- How an abstract value stands to a value in a world: VR; what keeps it (VR.mono); the tie of an environment to a frame (Sim). -/
import Derived.Test.YtjfgmnfkkehgfaaLvDefs
import Derived.Below
namespace Go.Proofs.LV
open Go Go.RowKit
set_option linter.unusedVariables false

/-- where an object lies (0), where its rows lie (1 and on), and which of its cells is not told -/
structure Fam where
  blk : Nat → Option (Nat × Nat)
  hole : Option Nat
instance : CoeFun Fam (fun _ => Nat → Option (Nat × Nat)) := ⟨Fam.blk⟩
def Fam.no : Fam := ⟨fun _ => none, none⟩
structure Gh where
  β : Nat → Fam
  act : Nat → Prop
  imm : Nat → Prop
  π : List Nat → Option (Nat × Nat)

/-- block b, from cell o on, is what the tag names -/
def Gh.at (G : Gh) : Tag → Nat → Nat → Prop
  | .nil, _, _ => False
  | .imm, b, _ => G.imm b
  | .ro, b, _ => G.imm b ∨ ∃ p o, G.π p = some (b, o)
  | .par p, b, o => G.π p = some (b, o)
  | .own n, b, o => G.act n ∧ G.β n 0 = some (b, o)
  | .row n i, b, o => G.act n ∧ G.β n (i + 1) = some (b, o)
/-- nothing is there -/
def Gh.void (G : Gh) : Tag → Prop
  | .own n => G.act n
  | .row n _ => G.act n
  | _ => True

def FR (k : FloatKind) (x : Nat) (v : Value) : Prop := ∃ bits, v = .float k bits ∧ bits < 2 ^ k.format.width ∧ canon k bits = x

/-- n cells of a slice, cell j as E tells -/
def SRow (G : Gh) (w : World) (g : Tag) (off n : Nat) (E : Nat → Value → Prop) (v : Value) : Prop :=
  (∃ b o cap, v = .slice (some ⟨b, o + off, none⟩) n cap ∧ G.at g b o ∧ n ≤ cap ∧ cap ≤ maxLen ∧
    (∀ j, j < n → ∃ u, w.cell? ⟨b, o + off + j, none⟩ = some u ∧ E j u) ∧
    (∀ j, j < cap → (w.cell? ⟨b, o + off + j, none⟩).isSome = true)) ∨
  (n = 0 ∧ (∃ a, v = .slice a 0 0) ∧ G.void g)

def Cont.ok (G : Gh) (w : World) : Cont → Nat → Value → Prop
  | .f k xs, j, u => FR k (xs.getD j 0) u
  | .i k xs, j, u => u = .int k (xs.getD j 0) ∧ k.min ≤ xs.getD j 0 ∧ xs.getD j 0 ≤ k.max
  | .b xs, j, u => u = .bool (xs.getD j false)
  | .c k xs, j, u => ∃ a b, u = .complex k a b ∧ (a < 2 ^ k.format.width ∧ b < 2 ^ k.format.width) ∧ canon k a = (xs.getD j (0, 0)).1 ∧ canon k b = (xs.getD j (0, 0)).2
  | .ff k xs, j, u => SRow G w .imm 0 (xs.getD j []).length (fun i z => FR k ((xs.getD j []).getD i 0) z) u
/-- cell j of a list of lists of one's own -/
def NRow (G : Gh) (w : World) (n base : Nat) (k : FloatKind) (xss : List (List Nat)) (h : Option Nat) (j : Nat) (u : Value) : Prop :=
  h = some (base + j) ∨ SRow G w (.row n (base + j)) 0 (xss.getD j []).length (fun i z => FR k ((xss.getD j []).getD i 0) z) u

mutual
def VR (G : Gh) (w : World) : AV → Value → Prop
  | .any, _ => True
  | .b x, v => v = .bool x
  | .i k n, v => v = .int k n ∧ k.min ≤ n ∧ n ≤ k.max
  | .f k x, v => FR k x v
  | .c k x y, v => ∃ a b, v = .complex k a b ∧ (a < 2 ^ k.format.width ∧ b < 2 ^ k.format.width) ∧ canon k a = x ∧ canon k b = y
  | .sl g off xs, v => SRow G w g off xs.len (Cont.ok G w xs) v
  | .nw n base k xss h, v => (G.β n).hole = h ∧ SRow G w (.own n) base xss.length (NRow G w n base k xss h) v
  | .na n idx k h x, v => (G.β n).hole = h ∧ ∃ b o, v = .pointer (some ⟨b, o + idx, none⟩) ∧ G.at (.own n) b o ∧ ∃ u, w.cell? ⟨b, o + idx, none⟩ = some u ∧ VR G w x u
  | .bx g cells, v => ∃ b o, v = .pointer (some ⟨b, o, none⟩) ∧ G.at g b o ∧ CL G w b o cells
  | .ad g idx x, v => ∃ b o, v = .pointer (some ⟨b, o + idx, none⟩) ∧ G.at g b o ∧ ∃ u, w.cell? ⟨b, o + idx, none⟩ = some u ∧ VR G w x u
  | .agg cells, v => ∃ vs, v = .agg vs ∧ VL G w cells vs.toList
  | .tup xs, v => ∃ vs, v = .tuple vs ∧ VL G w xs vs.toList
  | .fn h caps, v => ∃ vs, v = .func (.func h) #[] vs ∧ VL G w caps vs.toList
def VL (G : Gh) (w : World) : List AV → List Value → Prop
  | [], vs => vs = []
  | x :: r, vs => ∃ u us, vs = u :: us ∧ VR G w x u ∧ VL G w r us
def CL (G : Gh) (w : World) (b o : Nat) : List AV → Prop
  | [] => True
  | x :: r => (∃ u, w.cell? ⟨b, o, none⟩ = some u ∧ VR G w x u) ∧ CL G w b (o + 1) r
end

/-- the element of a content, as an abstract value -/
theorem VR_get {G : Gh} {w : World} {xs : Cont} {j : Nat} {u : Value} (h : xs.ok G w j u) : VR G w (xs.get j) u := by
  cases xs with
  | f k xs => simpa [Cont.get, VR, Cont.ok] using h
  | i k xs => simpa [Cont.get, VR, Cont.ok] using h
  | b xs => simpa [Cont.get, VR, Cont.ok] using h
  | c k xs => simpa [Cont.get, VR, Cont.ok] using h
  | ff k xs =>
    simp only [Cont.get, VR, Cont.len]
    exact h

/-- what a step must keep for a tag -/
def Keeps (G G' : Gh) (w w' : World) (g : Tag) : Prop :=
  (∀ b o, G.at g b o → G'.at g b o ∧ w'.heap[b]? = w.heap[b]?) ∧ (G.void g → G'.void g)

/-- the same for an object and its rows -/
def KeepsN (G G' : Gh) (w w' : World) (n : Nat) : Prop :=
  (∀ i b o, G.act n → G.β n i = some (b, o) → (G'.act n ∧ G'.β n i = some (b, o)) ∧ w'.heap[b]? = w.heap[b]?) ∧ (G.act n → G'.act n) ∧ (G'.β n).hole = (G.β n).hole
theorem KeepsN.own {G G' : Gh} {w w' : World} {n : Nat} (h : KeepsN G G' w w' n) : Keeps G G' w w' (.own n) := ⟨fun b o ha => h.1 0 b o ha.1 ha.2, h.2.1⟩
theorem KeepsN.row {G G' : Gh} {w w' : World} {n : Nat} (h : KeepsN G G' w w' n) (i : Nat) : Keeps G G' w w' (.row n i) := ⟨fun b o ha => h.1 (i + 1) b o ha.1 ha.2, h.2.1⟩
theorem SRow.mono {G G' : Gh} {w w' : World} {g : Tag} {off n : Nat} {E E' : Nat → Value → Prop} {v : Value}
    (hk : Keeps G G' w w' g) (hE : ∀ j u, j < n → E j u → E' j u) (h : SRow G w g off n E v) : SRow G' w' g off n E' v := by
  rcases h with ⟨b, o, cap, rfl, hat, hn, hm, hc, hs⟩ | ⟨hn, ha, hv⟩
  · obtain ⟨hat', hb⟩ := hk.1 b o hat
    refine .inl ⟨b, o, cap, rfl, hat', hn, hm, fun j hj => ?_, fun j hj => ?_⟩
    · obtain ⟨u, hu, he⟩ := hc j hj
      exact ⟨u, (World.cell?_of_block (w := w) (a := ⟨b, o + off + j, none⟩) hb).trans hu, hE j u hj he⟩
    · rw [World.cell?_of_block (w := w) (a := ⟨b, o + off + j, none⟩) hb]; exact hs j hj
  · exact .inr ⟨hn, ha, hk.2 hv⟩

theorem Cont.ok.mono {G G' : Gh} {w w' : World} (hi : Keeps G G' w w' .imm) {xs : Cont} {j : Nat} {u : Value} (h : xs.ok G w j u) : xs.ok G' w' j u := by
  cases xs with
  | ff k xs => exact SRow.mono hi (fun _ _ _ h => h) h
  | f k xs => exact h
  | i k xs => exact h
  | b xs => exact h
  | c k xs => exact h

theorem NRow.mono {G G' : Gh} {w w' : World} {n base : Nat} {k : FloatKind} {xss : List (List Nat)} {h : Option Nat} {j : Nat} {u : Value} (hk : ∀ i, Keeps G G' w w' (.row n i)) (h1 : NRow G w n base k xss h j u) : NRow G' w' n base k xss h j u := by
  rcases h1 with h1 | h1
  · exact .inl h1
  · exact .inr (SRow.mono (hk _) (fun _ _ _ h => h) h1)

theorem keeps_of_has {G G' : Gh} {w w' : World} (hi : Keeps G G' w w' .imm) (hp : ∀ p, Keeps G G' w w' (.par p)) (g : Tag)
    (ho : ∀ n, g.names n = true → KeepsN G G' w w' n) : Keeps G G' w w' g := by
  cases g with
  | nil => exact ⟨fun _ _ h => h.elim, fun h => h⟩
  | imm => exact hi
  | ro =>
    refine ⟨fun b o h => ?_, fun h => h⟩
    rcases h with h | ⟨p, o', h⟩
    · exact ⟨.inl (hi.1 b o h).1, (hi.1 b o h).2⟩
    · exact ⟨.inr ⟨p, o', ((hp p).1 b o' h).1⟩, ((hp p).1 b o' h).2⟩
  | par p => exact hp p
  | own n => exact (ho n (by simp [Tag.names])).own
  | row n i => exact (ho n (by simp [Tag.names])).row i

mutual
theorem VR.mono {G G' : Gh} {w w' : World} (hi : Keeps G G' w w' .imm) (hp : ∀ p, Keeps G G' w w' (.par p)) :
    ∀ (x : AV) (v : Value), (∀ n, x.has n = true → KeepsN G G' w w' n) → VR G w x v → VR G' w' x v
  | .any, v, _, _ => by simp [VR]
  | .b x, v, _, h => by simpa [VR] using h
  | .i k n, v, _, h => by simpa [VR] using h
  | .f k x, v, _, h => by simpa [VR] using h
  | .c k x y, v, _, h => by simpa [VR] using h
  | .sl g off xs, v, ho, h => by
    simp only [VR] at h ⊢
    exact SRow.mono (keeps_of_has hi hp g (fun n hn => ho n (by simpa [AV.has] using hn))) (fun _ _ _ h => Cont.ok.mono hi h) h
  | .nw n base k xss hh, v, ho, h => by
    simp only [VR] at h ⊢
    have hk := ho n (by simp [AV.has])
    exact ⟨hk.2.2.trans h.1, SRow.mono hk.own (fun _ _ _ h => NRow.mono hk.row h) h.2⟩
  | .na n idx k hh x, v, ho, h => by
    simp only [VR] at h ⊢
    obtain ⟨hh, b, o, rfl, hat, u, hu, hx⟩ := h
    have hk := ho n (by simp [AV.has])
    obtain ⟨hat', hb⟩ := hk.own.1 b o hat
    exact ⟨hk.2.2.trans hh, b, o, rfl, hat', u, (World.cell?_of_block (w := w) (a := ⟨b, o + idx, none⟩) hb).trans hu, VR.mono hi hp x u (fun m hm => ho m (by simp [AV.has, hm])) hx⟩
  | .bx g cells, v, ho, h => by
    simp only [VR] at h ⊢
    obtain ⟨b, o, rfl, hat, hc⟩ := h
    have hk := keeps_of_has hi hp g (fun n hn => ho n (by simp [AV.has, hn]))
    obtain ⟨hat', hb⟩ := hk.1 b o hat
    exact ⟨b, o, rfl, hat', CL.mono hi hp cells b o hb (fun n hn => ho n (by simp [AV.has, hn])) hc⟩
  | .ad g idx x, v, ho, h => by
    simp only [VR] at h ⊢
    obtain ⟨b, o, rfl, hat, u, hu, hx⟩ := h
    have hk := keeps_of_has hi hp g (fun n hn => ho n (by simp [AV.has, hn]))
    obtain ⟨hat', hb⟩ := hk.1 b o hat
    exact ⟨b, o, rfl, hat', u, (World.cell?_of_block (w := w) (a := ⟨b, o + idx, none⟩) hb).trans hu, VR.mono hi hp x u (fun n hn => ho n (by simp [AV.has, hn])) hx⟩
  | .agg cells, v, ho, h => by
    simp only [VR] at h ⊢
    obtain ⟨vs, rfl, hv⟩ := h
    exact ⟨vs, rfl, VL.mono hi hp cells vs.toList (fun n hn => ho n (by simpa [AV.has] using hn)) hv⟩
  | .tup cells, v, ho, h => by
    simp only [VR] at h ⊢
    obtain ⟨vs, rfl, hv⟩ := h
    exact ⟨vs, rfl, VL.mono hi hp cells vs.toList (fun n hn => ho n (by simpa [AV.has] using hn)) hv⟩
  | .fn f cells, v, ho, h => by
    simp only [VR] at h ⊢
    obtain ⟨vs, rfl, hv⟩ := h
    exact ⟨vs, rfl, VL.mono hi hp cells vs.toList (fun n hn => ho n (by simpa [AV.has] using hn)) hv⟩
theorem VL.mono {G G' : Gh} {w w' : World} (hi : Keeps G G' w w' .imm) (hp : ∀ p, Keeps G G' w w' (.par p)) :
    ∀ (xs : List AV) (vs : List Value), (∀ n, AV.hasL n xs = true → KeepsN G G' w w' n) → VL G w xs vs → VL G' w' xs vs
  | [], vs, _, h => by simpa [VL] using h
  | x :: r, vs, ho, h => by
    simp only [VL] at h ⊢
    obtain ⟨u, us, rfl, hx, hr⟩ := h
    exact ⟨u, us, rfl, VR.mono hi hp x u (fun n hn => ho n (by simp [AV.hasL, hn])) hx, VL.mono hi hp r us (fun n hn => ho n (by simp [AV.hasL, hn])) hr⟩
theorem CL.mono {G G' : Gh} {w w' : World} (hi : Keeps G G' w w' .imm) (hp : ∀ p, Keeps G G' w w' (.par p)) :
    ∀ (xs : List AV) (b o : Nat), w'.heap[b]? = w.heap[b]? → (∀ n, AV.hasL n xs = true → KeepsN G G' w w' n) → CL G w b o xs → CL G' w' b o xs
  | [], b, o, _, _, h => by simp [CL]
  | x :: r, b, o, hb, ho, h => by
    simp only [CL] at h ⊢
    obtain ⟨⟨u, hu, hx⟩, hr⟩ := h
    exact ⟨⟨u, (World.cell?_of_block (w := w) (a := ⟨b, o, none⟩) hb).trans hu, VR.mono hi hp x u (fun n hn => ho n (by simp [AV.hasL, hn])) hx⟩,
      CL.mono hi hp r b (o + 1) hb (fun n hn => ho n (by simp [AV.hasL, hn])) hr⟩
end

/-! ## The tie of an environment to a frame -/

structure Ctx where
  base : Nat
  w0 : World
  M : Nat → Prop
  π : List Nat → Option (Nat × Nat)
  I : Nat → Prop
  hb : Nat → Fam
  ha : Nat → Prop

/-- everything that was there, but the blocks of M, is as it was -/
structure Kept (C : Ctx) (w : World) : Prop where
  os : w.os = C.w0.os
  tape : w.tape = C.w0.tape
  output : w.output = C.w0.output
  size : C.w0.heap.size ≤ w.heap.size
  le : C.base ≤ w.heap.size
  block : ∀ k, k < C.base → ¬ C.M k → w.heap[k]? = C.w0.heap[k]?
  rows : ∀ k cells e, k < C.base → C.w0.heap[k]? = some (.cells cells e (0, 0)) → ∃ cells', w.heap[k]? = some (.cells cells' e (0, 0)) ∧ cells'.size = cells.size

structure SimG (C : Ctx) (G : Gh) (w : World) : Prop where
  kept : Kept C w
  names : ∀ n i b o, G.act n → G.β n i = some (b, o) → ¬ G.imm b ∧ (C.base ≤ b ∨ C.M b) ∧ ∃ cells e, w.heap[b]? = some (.cells cells e (0, 0))
  dist : ∀ n i m j b o b' o', G.act n → G.act m → ¬ (n = m ∧ i = j) → G.β n i = some (b, o) → G.β m j = some (b', o') → b ≠ b'
  imms : ∀ b, G.imm b → b < w.heap.size ∧ ¬ C.M b
  pars : ∀ p b o, G.π p = some (b, o) → b < C.base ∧ ¬ C.M b
  ml : ∀ b, C.M b → b < C.base ∧ ∃ n i o, HI ≤ n ∧ C.ha n ∧ C.hb n i = some (b, o)
  pi : G.π = C.π
  imI : ∀ b, G.imm b → C.I b ∨ C.base ≤ b

structure Sim (C : Ctx) (G : Gh) (σ : Env) (a : Act) (w : World) : Prop where
  g : SimG C G w
  defers : a.defers = []
  size : a.tmps.size = σ.length
  val : ∀ s, s < σ.length → VR G w (σ.getD s .any) (a.tmps.getD s undef)
  hi : ∀ n, HI ≤ n → G.β n = C.hb n ∧ (C.ha n → G.act n)

theorem Sim.ev {C : Ctx} {G : Gh} {σ : Env} {a : Act} {w : World} (h : Sim C G σ a w) (t : Nat) : VR G w (σ.getD t .any) (a.tmps.getD t undef) := by
  by_cases ht : t < σ.length
  · exact h.val t ht
  · have : σ.getD t .any = .any := by simp [List.getD, List.getElem?_eq_none (Nat.le_of_not_lt ht)]
    rw [this]; simp [VR]

/-! ## New names -/
section
variable {n m : Nat}
theorem swn_swn (n m k : Nat) : swn n m (swn n m k) = k := by
  unfold swn
  by_cases h1 : k = n
  · subst h1; simp only [if_true]; split <;> simp_all
  · by_cases h2 : k = m
    · subst h2; simp [h1]
    · simp [h1, h2]
theorem swn_inj {n m i j : Nat} (h : swn n m i = swn n m j) : i = j := by rw [← swn_swn n m i, h, swn_swn]
def Gh.rnm (n m : Nat) (G : Gh) : Gh := ⟨fun k => G.β (swn n m k), fun k => G.act (swn n m k), G.imm, G.π⟩
theorem rnm_at {G : Gh} {g : Tag} {b o : Nat} (h : G.at g b o) : (G.rnm n m).at (g.rnm n m) b o := by
  cases g with
  | own k => simpa [Gh.at, Tag.rnm, Gh.rnm, swn_swn] using h
  | row k i => simpa [Gh.at, Tag.rnm, Gh.rnm, swn_swn] using h
  | _ => exact h
theorem rnm_void {G : Gh} {g : Tag} (h : G.void g) : (G.rnm n m).void (g.rnm n m) := by
  cases g with
  | own k => simpa [Gh.void, Tag.rnm, Gh.rnm, swn_swn] using h
  | row k i => simpa [Gh.void, Tag.rnm, Gh.rnm, swn_swn] using h
  | _ => exact h
theorem SRow.rnm {G : Gh} {w : World} {g : Tag} {off l : Nat} {E E' : Nat → Value → Prop} {v : Value} (hE : ∀ j u, E j u → E' j u) (h : SRow G w g off l E v) : SRow (G.rnm n m) w (g.rnm n m) off l E' v := by
  rcases h with ⟨b, o, cap, rfl, hat, hn, hm, hc, hs⟩ | ⟨hn, ha, hv⟩
  · refine .inl ⟨b, o, cap, rfl, rnm_at hat, hn, hm, fun j hj => ?_, hs⟩
    obtain ⟨u, hu, he⟩ := hc j hj
    exact ⟨u, hu, hE j u he⟩
  · exact .inr ⟨hn, ha, rnm_void hv⟩
theorem Cont.ok.rnm {G : Gh} {w : World} {xs : Cont} {j : Nat} {u : Value} (h : xs.ok G w j u) : xs.ok (G.rnm n m) w j u := by
  cases xs with
  | ff k xs => exact SRow.rnm (g := .imm) (fun _ _ h => h) h
  | f k xs => exact h
  | i k xs => exact h
  | b xs => exact h
  | c k xs => exact h
mutual
theorem VR.rnm {G : Gh} {w : World} : ∀ (x : AV) (v : Value), VR G w x v → VR (G.rnm n m) w (x.rnm n m) v
  | .any, v, _ => by simp [AV.rnm, VR]
  | .b x, v, h => by simpa [AV.rnm, VR] using h
  | .i k n, v, h => by simpa [AV.rnm, VR] using h
  | .f k x, v, h => by simpa [AV.rnm, VR] using h
  | .c k x y, v, h => by simpa [AV.rnm, VR] using h
  | .sl g off xs, v, h => by
    simp only [AV.rnm, VR] at h ⊢
    exact SRow.rnm (fun _ _ h => Cont.ok.rnm h) h
  | .nw j base k xss hh, v, h => by
    simp only [AV.rnm, VR] at h ⊢
    refine ⟨by simpa [Gh.rnm, swn_swn] using h.1, SRow.rnm (g := .own j) (fun _ _ h => by
      rcases h with h | h
      · exact .inl h
      · exact .inr (SRow.rnm (g := .row j _) (fun _ _ h => h) h)) h.2⟩
  | .na j idx k hh x, v, h => by
    simp only [AV.rnm, VR] at h ⊢
    obtain ⟨hh, b, o, rfl, hat, u, hu, hx⟩ := h
    exact ⟨by simpa [Gh.rnm, swn_swn] using hh, b, o, rfl, rnm_at (g := .own j) hat, u, hu, VR.rnm x u hx⟩
  | .bx g cells, v, h => by
    simp only [AV.rnm, VR] at h ⊢
    obtain ⟨b, o, rfl, hat, hc⟩ := h
    exact ⟨b, o, rfl, rnm_at hat, CL.rnm cells b o hc⟩
  | .ad g idx x, v, h => by
    simp only [AV.rnm, VR] at h ⊢
    obtain ⟨b, o, rfl, hat, u, hu, hx⟩ := h
    exact ⟨b, o, rfl, rnm_at hat, u, hu, VR.rnm x u hx⟩
  | .agg cells, v, h => by
    simp only [AV.rnm, VR] at h ⊢
    obtain ⟨vs, rfl, hv⟩ := h
    exact ⟨vs, rfl, VL.rnm cells vs.toList hv⟩
  | .tup cells, v, h => by
    simp only [AV.rnm, VR] at h ⊢
    obtain ⟨vs, rfl, hv⟩ := h
    exact ⟨vs, rfl, VL.rnm cells vs.toList hv⟩
  | .fn f cells, v, h => by
    simp only [AV.rnm, VR] at h ⊢
    obtain ⟨vs, rfl, hv⟩ := h
    exact ⟨vs, rfl, VL.rnm cells vs.toList hv⟩
theorem VL.rnm {G : Gh} {w : World} : ∀ (xs : List AV) (vs : List Value), VL G w xs vs → VL (G.rnm n m) w (AV.rnmL n m xs) vs
  | [], vs, h => by simpa [AV.rnmL, VL] using h
  | x :: r, vs, h => by
    simp only [AV.rnmL, VL] at h ⊢
    obtain ⟨u, us, rfl, hx, hr⟩ := h
    exact ⟨u, us, rfl, VR.rnm x u hx, VL.rnm r us hr⟩
theorem CL.rnm {G : Gh} {w : World} : ∀ (xs : List AV) (b o : Nat), CL G w b o xs → CL (G.rnm n m) w b o (AV.rnmL n m xs)
  | [], b, o, h => by simp [AV.rnmL, CL]
  | x :: r, b, o, h => by
    simp only [AV.rnmL, CL] at h ⊢
    obtain ⟨⟨u, hu, hx⟩, hr⟩ := h
    exact ⟨⟨u, hu, VR.rnm x u hx⟩, CL.rnm r b (o + 1) hr⟩
end
theorem rnmL_len : ∀ xs : List AV, (AV.rnmL n m xs).length = xs.length
  | [] => rfl
  | x :: r => by simp [AV.rnmL, rnmL_len r]
theorem rnmL_get : ∀ (xs : List AV) (s : Nat), (AV.rnmL n m xs).getD s .any = (xs.getD s .any).rnm n m
  | [], s => by simp [AV.rnmL, AV.rnm]
  | x :: r, 0 => by simp [AV.rnmL]
  | x :: r, s + 1 => by simpa [AV.rnmL] using rnmL_get r s
theorem Sim.rnm {C : Ctx} {G : Gh} {σ : Env} {a : Act} {w : World} (h : Sim C G σ a w) (hn : n < HI) (hm : m < HI) : Sim C (G.rnm n m) (σ.rnm n m) a w := by
  refine ⟨⟨h.g.kept, fun k i b o ha hb => h.g.names (swn n m k) i b o ha hb, fun i p j q b o b' o' hi hj hne hb hb' => h.g.dist _ _ _ _ b o b' o' hi hj (fun e => hne ⟨swn_inj e.1, e.2⟩) hb hb', h.g.imms, h.g.pars, h.g.ml, h.g.pi, h.g.imI⟩,
    h.defers, by rw [h.size]; exact (rnmL_len σ).symm, fun s hs => ?_, fun k hk => ?_⟩
  · rw [show (σ.rnm n m).getD s .any = (σ.getD s .any).rnm n m from rnmL_get σ s]
    exact VR.rnm _ _ (h.val s (by rw [← rnmL_len (n := n) (m := m) σ]; exact hs))
  · have e : swn n m k = k := by unfold swn; rw [if_neg (by omega), if_neg (by omega)]
    show G.β (swn n m k) = _ ∧ (_ → G.act (swn n m k))
    rw [e]; exact h.hi k hk
end
end Go.Proofs.LV
