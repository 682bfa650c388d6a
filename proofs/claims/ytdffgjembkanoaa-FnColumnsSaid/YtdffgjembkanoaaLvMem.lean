/- New memory, and memory that is written: what it does to the tie. -/
import Derived.Test.YtdffgjembkanoaaLvOps
import Derived.Laws.MakeOwn
import Derived.Great.BuildSlice
namespace Go.Proofs.LV
open Go Go.RowKit
set_option linter.unusedVariables false
set_option linter.unusedSimpArgs false

def Gh.mk1 (G : Gh) (n : Nat) (b o : Nat) : Gh :=
  { G with β := fun m => if m = n then ⟨fun i => if i = 0 then some (b, o) else none, none⟩ else G.β m, act := fun m => m = n ∨ G.act m }
def Gh.mk0 (G : Gh) (n : Nat) : Gh :=
  { G with β := fun m => if m = n then Fam.no else G.β m, act := fun m => m = n ∨ G.act m }
def Gh.mkI (G : Gh) (b : Nat) : Gh := { G with imm := fun c => c = b ∨ G.imm c }

theorem size_alloc (w : World) (o : Obj) : (w.alloc o).heap.size = w.heap.size + 1 := Array.size_push ..

section
variable {C : Ctx} {G : Gh} {w : World}

theorem SimG.par_lt (hs : SimG C G w) {p : List Nat} {b o : Nat} (h : G.π p = some (b, o)) : b < w.heap.size :=
  Nat.lt_of_lt_of_le (hs.pars p b o h).1 hs.kept.le
theorem SimG.name_lt (hs : SimG C G w) {n i b o : Nat} (ha : G.act n) (h : G.β n i = some (b, o)) : b < w.heap.size := by
  obtain ⟨_, _, cells, e, hc⟩ := hs.names n i b o ha h
  exact (Array.getElem?_eq_some_iff.1 hc).1

theorem Kept.alloc (hs : Kept C w) (o : Obj) : Kept C (w.alloc o) :=
  ⟨hs.os, hs.tape, hs.output, by rw [size_alloc]; have := hs.size; omega, by rw [size_alloc]; have := hs.le; omega,
   fun k hk hm => by rw [heap_alloc_old w o k (by have := hs.le; omega)]; exact hs.block k hk hm,
   fun k cells e hk h => by rw [heap_alloc_old w o k (by have := hs.le; omega)]; exact hs.rows k cells e hk h⟩

theorem keeps_alloc (hs : SimG C G w) (o : Obj) (G' : Gh) (g : Tag) (hat : ∀ b c, G.at g b c → G'.at g b c) (hv : G.void g → G'.void g)
    (hlt : ∀ b c, G.at g b c → b < w.heap.size) : Keeps G G' w (w.alloc o) g :=
  ⟨fun b c h => ⟨hat b c h, heap_alloc_old w o b (hlt b c h)⟩, hv⟩

theorem keepsN_alloc (hs : SimG C G w) (o : Obj) (G' : Gh) (n : Nat) (hb : G'.β n = G.β n) (ha : G.act n → G'.act n) : KeepsN G G' w (w.alloc o) n :=
  ⟨fun i b c hac h => ⟨⟨ha hac, by rw [hb]; exact h⟩, heap_alloc_old w o b (hs.name_lt hac h)⟩, ha, by rw [hb]⟩

/-- a new block for object n -/
theorem StepOk.new (hs : SimG C G w) (n : Nat) (cells : Array Value) (e : TypeId) :
    StepOk C G w (G.mk1 n w.heap.size 0) (w.alloc (.cells cells e)) [n] := by
  refine ⟨⟨hs.kept.alloc _, ?_, ?_, ?_, hs.pars, hs.ml, hs.pi, hs.imI⟩, ?_, fun m hm => by simp only [Gh.mk1]; rw [if_neg (fun h => hm (by simp [h]))]; exact ⟨rfl, .inr⟩⟩
  · intro m i b o ha hb
    simp only [Gh.mk1] at ha hb
    by_cases hm : m = n
    · rw [if_pos hm] at hb
      dsimp only at hb
      split at hb
      · simp only [Option.some.injEq, Prod.mk.injEq] at hb
        obtain ⟨rfl, rfl⟩ := hb
        refine ⟨fun hi => ?_, .inl hs.kept.le, cells, e, heap_alloc_new w _⟩
        have := (hs.imms _ hi).1; omega
      · cases hb
    · rw [if_neg hm] at hb
      have ha' := ha.resolve_left hm
      obtain ⟨h1, h2, c, e', h3⟩ := hs.names m i b o ha' hb
      exact ⟨h1, h2, c, e', by rw [heap_alloc_old w _ b (hs.name_lt ha' hb)]; exact h3⟩
  · intro m i m' i' b o b' o' ha ha' hne hb hb'
    simp only [Gh.mk1] at ha ha' hb hb'
    by_cases hm : m = n
    · rw [if_pos hm] at hb
      dsimp only at hb
      split at hb
      · rename_i hi0
        simp only [Option.some.injEq, Prod.mk.injEq] at hb
        by_cases hm' : m' = n
        · rw [if_pos hm'] at hb'
          dsimp only at hb'
          split at hb'
          · rename_i hi0'; exact absurd ⟨hm.trans hm'.symm, hi0.trans hi0'.symm⟩ hne
          · cases hb'
        · rw [if_neg hm'] at hb'
          have := hs.name_lt (ha'.resolve_left hm') hb'
          omega
      · cases hb
    · rw [if_neg hm] at hb
      have h1 := hs.name_lt (ha.resolve_left hm) hb
      by_cases hm' : m' = n
      · rw [if_pos hm'] at hb'
        dsimp only at hb'
        split at hb'
        · simp only [Option.some.injEq, Prod.mk.injEq] at hb'
          omega
        · cases hb'
      · rw [if_neg hm'] at hb'
        exact hs.dist m i m' i' b o b' o' (ha.resolve_left hm) (ha'.resolve_left hm') hne hb hb'
  · intro b hb; have := hs.imms b hb; exact ⟨by rw [size_alloc]; omega, this.2⟩
  · intro x v hx hv
    refine VR.mono ?_ (fun p => ?_) x v (fun m hm => ?_) hv
    · exact keeps_alloc hs _ _ _ (fun _ _ h => h) (fun h => h) (fun b _ h => (hs.imms b h).1)
    · exact keeps_alloc hs _ _ _ (fun _ _ h => h) (fun h => h) (fun b _ h => hs.par_lt h)
    · have hmn : m ≠ n := fun h => by rw [h] at hm; rw [hx n (by simp)] at hm; cases hm
      exact keepsN_alloc hs _ _ m (by simp only [Gh.mk1, if_neg hmn]) (fun h => .inr h)

/-- object n moves to a new block; its rows stay -/
def Gh.mkG (G : Gh) (n b : Nat) : Gh := { G with β := fun m => if m = n then ⟨fun i => if i = 0 then some (b, 0) else G.β n i, (G.β n).hole⟩ else G.β m }
structure Grown (C : Ctx) (G : Gh) (w : World) (G' : Gh) (w' : World) (n : Nat) : Prop where
  g : SimG C G' w'
  keep : ∀ x v, x.has n = false → VR G w x v → VR G' w' x v
  fix : ∀ m, m ≠ n → G'.β m = G.β m ∧ (G.act m → G'.act m)
  imm : Keeps G G' w w' .imm
  row : ∀ i, Keeps G G' w w' (.row n i)
  hole : (G'.β n).hole = (G.β n).hole
theorem Grown.ok {G' : Gh} {w' : World} {n : Nat} (h : Grown C G w G' w' n) : StepOk C G w G' w' [n] :=
  ⟨h.g, fun x v hx hv => h.keep x v (hx n (by simp)) hv, fun m hm => h.fix m (by simpa using hm)⟩
theorem Grown.same (hs : SimG C G w) (n : Nat) : Grown C G w G w n :=
  ⟨hs, fun _ _ _ h => h, fun _ _ => ⟨rfl, id⟩, ⟨fun _ _ h => ⟨h, rfl⟩, fun h => h⟩, fun _ => ⟨fun _ _ h => ⟨h, rfl⟩, fun h => h⟩, rfl⟩
theorem Grown.after {G' : Gh} {w1 w' : World} {n : Nat} (h : Same w w1) (g : Grown C G w1 G' w' n) : Grown C G w G' w' n :=
  ⟨g.g, fun x v hx hv => g.keep x v hx (VR.same h hv), g.fix, ⟨fun b o hb => ⟨(g.imm.1 b o hb).1, by rw [← h.heap]; exact (g.imm.1 b o hb).2⟩, g.imm.2⟩, fun i => ⟨fun b o hb => ⟨((g.row i).1 b o hb).1, by rw [← h.heap]; exact ((g.row i).1 b o hb).2⟩, (g.row i).2⟩, g.hole⟩
theorem Grown.new (hs : SimG C G w) {n : Nat} (hact : G.act n) (cells : Array Value) (e : TypeId) : Grown C G w (G.mkG n w.heap.size) (w.alloc (.cells cells e)) n := by
  refine ⟨⟨hs.kept.alloc _, ?_, ?_, ?_, hs.pars, hs.ml, hs.pi, hs.imI⟩, ?_, fun m hm => by simp only [Gh.mkG]; rw [if_neg hm]; exact ⟨rfl, id⟩, ?_, ?_, by simp [Gh.mkG]⟩
  · intro m i b o ha hb
    simp only [Gh.mkG] at ha hb
    have old : ∀ {j}, G.β m j = some (b, o) → ¬ G.imm b ∧ (C.base ≤ b ∨ C.M b) ∧ ∃ cells' e', (w.alloc (.cells cells e)).heap[b]? = some (.cells cells' e' (0, 0)) := by
      intro j hb
      obtain ⟨h1, h2, c, e', h3⟩ := hs.names m j b o ha hb
      exact ⟨h1, h2, c, e', by rw [heap_alloc_old w _ b (hs.name_lt ha hb)]; exact h3⟩
    by_cases hm : m = n
    · subst hm
      rw [if_pos rfl] at hb
      dsimp only at hb
      split at hb
      · simp only [Option.some.injEq, Prod.mk.injEq] at hb
        obtain ⟨rfl, rfl⟩ := hb
        refine ⟨fun hi => ?_, .inl hs.kept.le, cells, e, heap_alloc_new w _⟩
        have := (hs.imms _ hi).1; omega
      · exact old hb
    · rw [if_neg hm] at hb; exact old hb
  · intro m i m' i' b o b' o' ha ha' hne hb hb'
    simp only [Gh.mkG] at ha ha' hb hb'
    have cs : ∀ {m i b o}, G.act m → (if m = n then (⟨fun i => if i = 0 then some (w.heap.size, 0) else G.β n i, (G.β n).hole⟩ : Fam) else G.β m) i = some (b, o) → (m = n ∧ i = 0 ∧ b = w.heap.size) ∨ (¬ (m = n ∧ i = 0) ∧ G.β m i = some (b, o)) := by
      intro m i b o ha hb
      by_cases hm : m = n
      · subst hm
        rw [if_pos rfl] at hb
        dsimp only at hb
        split at hb
        · rename_i hi; simp only [Option.some.injEq, Prod.mk.injEq] at hb; exact .inl ⟨rfl, hi, hb.1.symm⟩
        · rename_i hi; exact .inr ⟨fun h => hi h.2, hb⟩
      · rw [if_neg hm] at hb; exact .inr ⟨fun h => hm h.1, hb⟩
    rcases cs ha hb with ⟨h1, h2, h3⟩ | ⟨h1, h2⟩
    · rcases cs ha' hb' with ⟨g1, g2, g3⟩ | ⟨g1, g2⟩
      · exact absurd ⟨h1.trans g1.symm, h2.trans g2.symm⟩ hne
      · have := hs.name_lt ha' g2; omega
    · rcases cs ha' hb' with ⟨g1, g2, g3⟩ | ⟨g1, g2⟩
      · have := hs.name_lt ha h2; omega
      · exact hs.dist m i m' i' b o b' o' ha ha' hne h2 g2
  · intro b hb; have := hs.imms b hb; exact ⟨by rw [size_alloc]; omega, this.2⟩
  · intro x v hx hv
    refine VR.mono ?_ (fun p => ?_) x v (fun m hm => ?_) hv
    · exact keeps_alloc hs _ _ _ (fun _ _ h => h) (fun h => h) (fun b _ h => (hs.imms b h).1)
    · exact keeps_alloc hs _ _ _ (fun _ _ h => h) (fun h => h) (fun b _ h => hs.par_lt h)
    · have hmn : m ≠ n := fun h => by rw [h] at hm; rw [hx] at hm; cases hm
      exact keepsN_alloc hs _ _ m (by simp only [Gh.mkG, if_neg hmn]) (fun h => h)
  · exact keeps_alloc hs _ _ _ (fun _ _ h => h) (fun h => h) (fun b _ h => (hs.imms b h).1)
  · intro i
    exact keeps_alloc hs _ _ _ (fun b o h => ⟨h.1, by simp only [Gh.mkG, if_true]; rw [if_neg (by omega)]; exact h.2⟩) (fun h => h) (fun b _ h => hs.name_lt h.1 h.2)

/-- object n is nothing yet -/
theorem StepOk.new0 (hs : SimG C G w) (n : Nat) : StepOk C G w (G.mk0 n) w [n] := by
  refine ⟨⟨hs.kept, ?_, ?_, hs.imms, hs.pars, hs.ml, hs.pi, hs.imI⟩, ?_, fun m hm => by simp only [Gh.mk0]; rw [if_neg (fun h => hm (by simp [h]))]; exact ⟨rfl, .inr⟩⟩
  · intro m i b o ha hb
    simp only [Gh.mk0] at ha hb
    by_cases hm : m = n
    · simp [hm, Fam.no] at hb
    · rw [if_neg hm] at hb; exact hs.names m i b o (ha.resolve_left hm) hb
  · intro m i m' i' b o b' o' ha ha' hne hb hb'
    simp only [Gh.mk0] at ha ha' hb hb'
    by_cases hm : m = n
    · simp [hm, Fam.no] at hb
    · by_cases hm' : m' = n
      · simp [hm', Fam.no] at hb'
      · rw [if_neg hm] at hb; rw [if_neg hm'] at hb'
        exact hs.dist m i m' i' b o b' o' (ha.resolve_left hm) (ha'.resolve_left hm') hne hb hb'
  · intro x v hx hv
    refine VR.mono (G := G) (w := w) (G' := G.mk0 n) (w' := w) ⟨fun _ _ h => ⟨h, rfl⟩, fun h => h⟩ (fun p => ⟨fun _ _ h => ⟨h, rfl⟩, fun h => h⟩) x v (fun m hm => ?_) hv
    have hmn : m ≠ n := fun h => by rw [h] at hm; rw [hx n (by simp)] at hm; cases hm
    exact ⟨fun i b o ha h => ⟨⟨.inr ha, by simp only [Gh.mk0, if_neg hmn]; exact h⟩, rfl⟩, fun h => .inr h, by simp only [Gh.mk0, if_neg hmn]⟩

/-- a new block that is never written -/
theorem StepOk.newI (hs : SimG C G w) (cells : Array Value) (e : TypeId) :
    StepOk C G w (G.mkI w.heap.size) (w.alloc (.cells cells e)) [] := by
  refine ⟨⟨hs.kept.alloc _, ?_, hs.dist, ?_, hs.pars, hs.ml, hs.pi, fun b hb => hb.elim (fun e => .inr (e ▸ hs.kept.le)) (hs.imI b)⟩, ?_, fun _ _ => ⟨rfl, id⟩⟩
  · intro m i b o ha hb
    obtain ⟨h1, h2, c, e', h3⟩ := hs.names m i b o ha hb
    have hlt := hs.name_lt ha hb
    refine ⟨fun hi => ?_, h2, c, e', by rw [heap_alloc_old w _ b hlt]; exact h3⟩
    rcases hi with rfl | hi
    · omega
    · exact h1 hi
  · intro b hb
    rw [size_alloc]
    rcases hb with rfl | hb
    · exact ⟨by omega, fun hM => by have := (hs.ml _ hM).1; have := hs.kept.le; omega⟩
    · have := hs.imms b hb; exact ⟨by omega, this.2⟩
  · intro x v hx hv
    refine VR.mono ?_ (fun p => ?_) x v (fun m hm => ?_) hv
    · exact keeps_alloc hs _ _ _ (fun _ _ h => .inr h) (fun h => h) (fun b _ h => (hs.imms b h).1)
    · exact keeps_alloc hs _ _ _ (fun _ _ h => h) (fun h => h) (fun b _ h => hs.par_lt h)
    · exact keepsN_alloc hs _ _ m rfl (fun h => h)

/-- a block of object n (its own, or a row's) is written: all blocks but that one are as they were -/
structure Wrt (C : Ctx) (G : Gh) (w w' : World) (n i b : Nat) : Prop where
  g : SimG C G w'
  imm : ∀ c, G.imm c → c ≠ b
  par : ∀ p c o, G.π p = some (c, o) → c ≠ b
  own : ∀ m j c o, G.act m → ¬ (m = n ∧ j = i) → G.β m j = some (c, o) → c ≠ b
  other : ∀ k, k ≠ b → w'.heap[k]? = w.heap[k]?
theorem Wrt.of (hs : SimG C G w) {n i b o : Nat} (ha : G.act n) (hb : G.β n i = some (b, o)) {w' : World} (hos : w'.os = w.os) (ht : w'.tape = w.tape) (hout : w'.output = w.output)
    (hsz : w'.heap.size = w.heap.size) (hother : ∀ k, k ≠ b → w'.heap[k]? = w.heap[k]?) (hrow0 : ∀ cells e, w.heap[b]? = some (.cells cells e (0, 0)) → ∃ cells', w'.heap[b]? = some (.cells cells' e (0, 0)) ∧ cells'.size = cells.size) : Wrt C G w w' n i b := by
  obtain ⟨hni, hbm, cb, eb, hcb⟩ := hs.names n i b o ha hb
  have hrow : ∃ cells e, w'.heap[b]? = some (.cells cells e (0, 0)) := by obtain ⟨c', h, _⟩ := hrow0 cb eb hcb; exact ⟨c', eb, h⟩
  refine ⟨⟨⟨hos.trans hs.kept.os, ht.trans hs.kept.tape, hout.trans hs.kept.output, by rw [hsz]; exact hs.kept.size, by rw [hsz]; exact hs.kept.le, fun k hk hm => ?_, fun k cells e hk h => ?_⟩, ?_, hs.dist, fun c hc => ⟨by rw [hsz]; exact (hs.imms c hc).1, (hs.imms c hc).2⟩, hs.pars, hs.ml, hs.pi, hs.imI⟩, ?_, ?_, ?_, hother⟩
  · rw [hother k ?_]
    · exact hs.kept.block k hk hm
    · rintro rfl; rcases hbm with h | h
      · omega
      · exact hm h
  · obtain ⟨c1, h1, hs1⟩ := hs.kept.rows k cells e hk h
    by_cases hkb : k = b
    · subst hkb
      obtain ⟨c2, h2, hs2⟩ := hrow0 c1 e h1
      exact ⟨c2, h2, hs2.trans hs1⟩
    · rw [hother k hkb]; exact ⟨c1, h1, hs1⟩
  · intro m j c o' ha' hb'
    obtain ⟨h1, h2, h3⟩ := hs.names m j c o' ha' hb'
    refine ⟨h1, h2, ?_⟩
    by_cases hc : c = b
    · rw [hc]; exact hrow
    · rw [hother c hc]; exact h3
  · exact fun c h e => hni (e ▸ h)
  · intro p c o' h e
    have := hs.pars p c o' h
    subst e
    rcases hbm with h' | h'
    · omega
    · exact this.2 h'
  · exact fun m j c o' h hmn h2 => hs.dist m j n i c o' b o h ha hmn h2 hb
theorem Wrt.keeps {w' : World} {n i b : Nat} (h : Wrt C G w w' n i b) (g : Tag) (hg : ∀ c o, G.at g c o → c ≠ b) : Keeps G G w w' g := ⟨fun c o hc => ⟨hc, h.other c (hg c o hc)⟩, fun h => h⟩
theorem Wrt.kimm {w' : World} {n i b : Nat} (h : Wrt C G w w' n i b) : Keeps G G w w' .imm := h.keeps _ fun c _ hc => h.imm c hc
theorem Wrt.kpar {w' : World} {n i b : Nat} (h : Wrt C G w w' n i b) (p : List Nat) : Keeps G G w w' (.par p) := h.keeps _ fun c o hc => h.par p c o hc
theorem Wrt.kn {w' : World} {n i b : Nat} (h : Wrt C G w w' n i b) {m : Nat} (hm : m ≠ n) : KeepsN G G w w' m := ⟨fun j c o ha hb => ⟨⟨ha, hb⟩, h.other c (h.own m j c o ha (fun e => hm e.1) hb)⟩, fun h => h, rfl⟩
theorem Wrt.keep {w' : World} {n i b : Nat} (h : Wrt C G w w' n i b) {x : AV} {v : Value} (hx : x.has n = false) (hv : VR G w x v) : VR G w' x v :=
  VR.mono h.kimm h.kpar x v (fun m hm => h.kn fun e => by rw [e, hx] at hm; cases hm) hv
theorem Wrt.ok {w' : World} {n i b : Nat} (h : Wrt C G w w' n i b) : StepOk C G w G w' [n] := ⟨h.g, fun x v hx hv => h.keep (hx n (by simp)) hv, fun _ _ => ⟨rfl, id⟩⟩
theorem Wrt.grown {w' : World} {n b : Nat} (h : Wrt C G w w' n 0 b) : Grown C G w G w' n :=
  ⟨h.g, fun x v hx hv => h.keep hx hv, fun _ _ => ⟨rfl, id⟩, h.kimm, fun i => h.keeps _ fun c o hc => h.own n (i + 1) c o hc.1 (fun e => by omega) hc.2, rfl⟩
/-- object n is written: other objects read as they did -/
theorem StepOk.write (hs : SimG C G w) {n i b o : Nat} (ha : G.act n) (hb : G.β n i = some (b, o)) {w' : World} (hos : w'.os = w.os) (ht : w'.tape = w.tape) (hout : w'.output = w.output)
    (hsz : w'.heap.size = w.heap.size) (hother : ∀ k, k ≠ b → w'.heap[k]? = w.heap[k]?) (hrow0 : ∀ cells e, w.heap[b]? = some (.cells cells e (0, 0)) → ∃ cells', w'.heap[b]? = some (.cells cells' e (0, 0)) ∧ cells'.size = cells.size) : StepOk C G w G w' [n] :=
  (Wrt.of hs ha hb hos ht hout hsz hother hrow0).ok

/-! ### objects and rows that are named anew -/
theorem StepOk.regroup (hs : SimG C G w) {G' : Gh} (himm : G'.imm = G.imm) (hπ : G'.π = G.π) (ns : List Nat) (src : Nat → Nat → Nat × Nat)
    (h1 : ∀ a i b o, G'.act a → G'.β a i = some (b, o) → G.act (src a i).1 ∧ G.β (src a i).1 (src a i).2 = some (b, o))
    (h2 : ∀ a i a' i' p p', G'.act a → G'.act a' → G'.β a i = some p → G'.β a' i' = some p' → src a i = src a' i' → a = a' ∧ i = i')
    (h3 : ∀ a, a ∉ ns → G'.β a = G.β a ∧ (G.act a → G'.act a)) : StepOk C G w G' w ns := by
  refine ⟨⟨hs.kept, fun a i b o ha hb => ?_, fun a i a' i' b o b' o' ha ha' hne hb hb' => ?_, fun b hb => hs.imms b (by rw [← himm]; exact hb), fun p b o h => hs.pars p b o (by rw [← hπ]; exact h), hs.ml, hπ.trans hs.pi, fun b hb => hs.imI b (by rw [← himm]; exact hb)⟩, fun x v hx hv => ?_, h3⟩
  · obtain ⟨g1, g2⟩ := h1 a i b o ha hb
    have := hs.names _ _ b o g1 g2
    rw [himm]; exact this
  · obtain ⟨g1, g2⟩ := h1 a i b o ha hb
    obtain ⟨k1, k2⟩ := h1 a' i' b' o' ha' hb'
    exact hs.dist _ _ _ _ b o b' o' g1 k1 (fun e => hne (h2 a i a' i' _ _ ha ha' hb hb' (Prod.ext e.1 e.2))) g2 k2
  · refine VR.mono (G := G) (w := w) (G' := G') (w' := w) ⟨fun b _ h => ⟨(by show G'.imm b; rw [himm]; exact h), rfl⟩, fun h => h⟩ (fun p => ⟨fun b o h => ⟨(by show G'.π p = _; rw [hπ]; exact h), rfl⟩, fun h => h⟩) x v (fun m hm => ?_) hv
    have hmn : m ∉ ns := fun h => by rw [hx m h] at hm; cases hm
    obtain ⟨e1, e2⟩ := h3 m hmn
    exact ⟨fun i b o ha h => ⟨⟨e2 ha, by rw [e1]; exact h⟩, rfl⟩, e2, by rw [e1]⟩
theorem StepOk.weaken {G' : Gh} {w' : World} {ns ms : List Nat} (h : StepOk C G w G' w' ns) (hsub : ∀ n, n ∈ ns → n ∈ ms) : StepOk C G w G' w' ms :=
  ⟨h.g, fun x v hx hv => h.keep x v (fun n hn => hx n (hsub n hn)) hv, fun n hn => h.fix n (fun h => hn (hsub n h))⟩

/-- the objects ms become the rows of object n -/
def Gh.gather (G : Gh) (n : Nat) (ms : List Nat) : Gh where
  β := fun a => if a = n then ⟨fun i => match i with | 0 => none | t + 1 => match ms[t]? with | some m => G.β m 0 | none => none, none⟩ else if a ∈ ms then Fam.no else G.β a
  act := fun a => a = n ∨ G.act a
  imm := G.imm
  π := G.π
theorem get_inj {ms : List Nat} (h : ms.Nodup) : ∀ {i j m : Nat}, ms[i]? = some m → ms[j]? = some m → i = j := by
  induction ms with
  | nil => intro i j m hi; simp at hi
  | cons x r ih =>
    intro i j m hi hj
    obtain ⟨h1, h2⟩ := List.nodup_cons.1 h
    cases i with
    | zero =>
      cases j with
      | zero => rfl
      | succ j => simp at hi hj; subst hi; exact absurd (List.mem_of_getElem? hj) h1
    | succ i =>
      cases j with
      | zero => simp at hi hj; subst hj; exact absurd (List.mem_of_getElem? hi) h1
      | succ j => simp at hi hj; rw [ih h2 hi hj]
theorem StepOk.gather (hs : SimG C G w) {n : Nat} {ms : List Nat} (hn : n ∉ ms) (hnd : ms.Nodup) (hact : ∀ m, m ∈ ms → G.act m) : StepOk C G w (G.gather n ms) w (n :: ms) := by
  have inv : ∀ a i p, (G.gather n ms).β a i = some p → (a = n ∧ ∃ t m, i = t + 1 ∧ ms[t]? = some m ∧ G.β m 0 = some p) ∨ (a ≠ n ∧ a ∉ ms ∧ G.β a i = some p) := by
    intro a i p h
    simp only [Gh.gather] at h
    split at h
    · rename_i ha
      dsimp only at h
      split at h
      · cases h
      · rename_i t
        split at h
        · rename_i m hm; exact .inl ⟨ha, t, m, rfl, hm, h⟩
        · cases h
    · rename_i ha
      split at h
      · cases h
      · rename_i hm; exact .inr ⟨ha, hm, h⟩
  refine StepOk.regroup (G' := G.gather n ms) hs rfl rfl _ (fun a i => if a = n then (ms.getD (i - 1) 0, 0) else (a, i)) ?_ ?_ ?_
  · intro a i b o ha hb
    rcases inv a i _ hb with ⟨rfl, t, m, rfl, hm, h⟩ | ⟨h1, h2, h⟩
    · have e : ms.getD (t + 1 - 1) 0 = m := by simp [List.getD, hm]
      simp only [if_true, e]
      exact ⟨hact m (List.mem_of_getElem? hm), h⟩
    · simp only [if_neg h1]
      exact ⟨ha.resolve_left h1, h⟩
  · intro a i a' i' p p' ha ha' hb hb' he
    rcases inv a i _ hb with ⟨rfl, t, m, rfl, hm, h⟩ | ⟨h1, h2, h⟩ <;> rcases inv a' i' _ hb' with ⟨rfl, t', m', rfl, hm', h'⟩ | ⟨h1', h2', h'⟩
    · simp only [if_true, Nat.add_sub_cancel, Prod.mk.injEq, and_true] at he
      have e1 : ms.getD t 0 = m := by simp [List.getD, hm]
      have e2 : ms.getD t' 0 = m' := by simp [List.getD, hm']
      rw [e1, e2] at he
      subst he
      exact ⟨rfl, by rw [get_inj hnd hm hm']⟩
    · simp only [if_true, if_neg h1', Nat.add_sub_cancel, Prod.mk.injEq] at he
      have e1 : ms.getD t 0 = m := by simp [List.getD, hm]
      rw [e1] at he
      exact absurd (he.1 ▸ List.mem_of_getElem? hm) h2'
    · simp only [if_true, if_neg h1, Nat.add_sub_cancel, Prod.mk.injEq] at he
      have e1 : ms.getD t' 0 = m' := by simp [List.getD, hm']
      rw [e1] at he
      exact absurd (he.1 ▸ List.mem_of_getElem? hm') h2
    · simp only [if_neg h1, if_neg h1', Prod.mk.injEq] at he
      exact he
  · intro a ha
    simp only [List.mem_cons, not_or] at ha
    simp only [Gh.gather, if_neg ha.1, if_neg ha.2]
    exact ⟨trivial, .inr⟩

/-- the rows of object m become rows of object n, behind the lx that it has -/
def Gh.steal (G : Gh) (n m lx ly : Nat) : Gh where
  β := fun a => if a = n then ⟨fun i => if i ≤ lx then G.β n i else if i ≤ lx + ly then G.β m (i - lx) else none, (G.β n).hole⟩ else if a = m then Fam.no else G.β a
  act := G.act
  imm := G.imm
  π := G.π
theorem StepOk.steal (hs : SimG C G w) {n m lx ly : Nat} (hnm : n ≠ m) (hm : G.act m) : StepOk C G w (G.steal n m lx ly) w [n, m] := by
  have inv : ∀ a i p, (G.steal n m lx ly).β a i = some p → (a = n ∧ i ≤ lx ∧ G.β n i = some p) ∨ (a = n ∧ lx < i ∧ G.β m (i - lx) = some p) ∨ (a ≠ n ∧ a ≠ m ∧ G.β a i = some p) := by
    intro a i p h
    simp only [Gh.steal] at h
    split at h
    · rename_i ha
      dsimp only at h
      split at h
      · exact .inl ⟨ha, by assumption, h⟩
      · split at h
        · exact .inr (.inl ⟨ha, by omega, h⟩)
        · cases h
    · rename_i ha
      split at h
      · cases h
      · rename_i hm; exact .inr (.inr ⟨ha, hm, h⟩)
  refine StepOk.regroup (G' := G.steal n m lx ly) hs rfl rfl _ (fun a i => if a = n then (if i ≤ lx then (n, i) else (m, i - lx)) else (a, i)) ?_ ?_ ?_
  · intro a i b o ha hb
    rcases inv a i _ hb with ⟨rfl, h1, h⟩ | ⟨rfl, h1, h⟩ | ⟨h1, h2, h⟩
    · simp only [if_true, if_pos h1]; exact ⟨ha, h⟩
    · simp only [if_true, if_neg (Nat.not_le_of_lt h1)]; exact ⟨hm, h⟩
    · simp only [if_neg h1]; exact ⟨ha, h⟩
  · intro a i a' i' p p' ha ha' hb hb' he
    rcases inv a i _ hb with ⟨rfl, h1, h⟩ | ⟨rfl, h1, h⟩ | ⟨h1, h2, h⟩ <;> rcases inv a' i' _ hb' with ⟨h0, h1', h'⟩ | ⟨h0, h1', h'⟩ | ⟨h1', h2', h'⟩
    · subst h0; simp only [if_true, if_pos h1, if_pos h1', Prod.mk.injEq, true_and] at he; exact ⟨rfl, he⟩
    · subst h0; simp only [if_true, if_pos h1, if_neg (Nat.not_le_of_lt h1'), Prod.mk.injEq] at he; exact absurd he.1 hnm
    · simp only [if_true, if_pos h1, if_neg h1', Prod.mk.injEq] at he; exact absurd he.1.symm h1'
    · subst h0; simp only [if_true, if_neg (Nat.not_le_of_lt h1), if_pos h1', Prod.mk.injEq] at he; exact absurd he.1.symm hnm
    · subst h0; simp only [if_true, if_neg (Nat.not_le_of_lt h1), if_neg (Nat.not_le_of_lt h1'), Prod.mk.injEq, true_and] at he; exact ⟨rfl, by omega⟩
    · simp only [if_true, if_neg (Nat.not_le_of_lt h1), if_neg h1', Prod.mk.injEq] at he; exact absurd he.1.symm h2'
    · subst h0; simp only [if_true, if_neg h1, if_pos h1', Prod.mk.injEq] at he; exact absurd he.1 h1
    · subst h0; simp only [if_true, if_neg h1, if_neg (Nat.not_le_of_lt h1'), Prod.mk.injEq] at he; exact absurd he.1 h2
    · simp only [if_neg h1, if_neg h1', Prod.mk.injEq] at he; exact he
  · intro a ha
    simp only [List.mem_cons, List.not_mem_nil, or_false, not_or] at ha
    simp only [Gh.steal, if_neg ha.1, if_neg ha.2]
    exact ⟨trivial, id⟩

/-- object m becomes row j of object n -/
def Gh.putRow (G : Gh) (n j m : Nat) : Gh where
  β := fun a => if a = n then ⟨fun i => if i = j + 1 then G.β m 0 else G.β n i, none⟩ else if a = m then Fam.no else G.β a
  act := G.act
  imm := G.imm
  π := G.π
theorem StepOk.putRow (hs : SimG C G w) {n j m : Nat} (hnm : n ≠ m) (hm : G.act m) : StepOk C G w (G.putRow n j m) w [n, m] := by
  have inv : ∀ a i p, (G.putRow n j m).β a i = some p → (a = n ∧ i = j + 1 ∧ G.β m 0 = some p) ∨ (a = n ∧ i ≠ j + 1 ∧ G.β n i = some p) ∨ (a ≠ n ∧ a ≠ m ∧ G.β a i = some p) := by
    intro a i p h
    simp only [Gh.putRow] at h
    split at h
    · rename_i ha
      dsimp only at h
      split at h
      · exact .inl ⟨ha, by assumption, h⟩
      · exact .inr (.inl ⟨ha, by assumption, h⟩)
    · rename_i ha
      split at h
      · cases h
      · rename_i hm; exact .inr (.inr ⟨ha, hm, h⟩)
  refine StepOk.regroup (G' := G.putRow n j m) hs rfl rfl _ (fun a i => if a = n then (if i = j + 1 then (m, 0) else (n, i)) else (a, i)) ?_ ?_ ?_
  · intro a i b o ha hb
    rcases inv a i _ hb with ⟨rfl, h1, h⟩ | ⟨rfl, h1, h⟩ | ⟨h1, h2, h⟩
    · simp only [if_true, if_pos h1]; exact ⟨hm, h⟩
    · simp only [if_true, if_neg h1]; exact ⟨ha, h⟩
    · simp only [if_neg h1]; exact ⟨ha, h⟩
  · intro a i a' i' p p' ha ha' hb hb' he
    rcases inv a i _ hb with ⟨rfl, h1, h⟩ | ⟨rfl, h1, h⟩ | ⟨h1, h2, h⟩ <;> rcases inv a' i' _ hb' with ⟨h0, h1', h'⟩ | ⟨h0, h1', h'⟩ | ⟨h1', h2', h'⟩
    · exact ⟨h0.symm, h1.trans h1'.symm⟩
    · subst h0; simp only [if_true, if_pos h1, if_neg h1', Prod.mk.injEq] at he; exact absurd he.1.symm hnm
    · simp only [if_true, if_pos h1, if_neg h1', Prod.mk.injEq] at he; exact absurd he.1.symm h2'
    · subst h0; simp only [if_true, if_neg h1, if_pos h1', Prod.mk.injEq] at he; exact absurd he.1 hnm
    · subst h0; simp only [if_true, if_neg h1, if_neg h1', Prod.mk.injEq, true_and] at he; exact ⟨rfl, he⟩
    · simp only [if_true, if_neg h1, if_neg h1', Prod.mk.injEq] at he; exact absurd he.1.symm h1'
    · subst h0; simp only [if_true, if_neg h1, if_pos h1', Prod.mk.injEq] at he; exact absurd he.1 h2
    · subst h0; simp only [if_true, if_neg h1, if_neg h1', Prod.mk.injEq] at he; exact absurd he.1 h1
    · simp only [if_neg h1, if_neg h1', Prod.mk.injEq] at he; exact he
  · intro a ha
    simp only [List.mem_cons, List.not_mem_nil, or_false, not_or] at ha
    simp only [Gh.putRow, if_neg ha.1, if_neg ha.2]
    exact ⟨trivial, id⟩

/-- rows i and j of object n change their names -/
def Gh.swapRow (G : Gh) (n i j : Nat) (h : Option Nat) : Gh := { G with β := fun a => if a = n then ⟨fun t => G.β n (swn (j + 1) (i + 1) t), h⟩ else G.β a }
theorem StepOk.swapRow (hs : SimG C G w) (n i j : Nat) (h : Option Nat) : StepOk C G w (G.swapRow n i j h) w [n] := by
  refine StepOk.regroup (G' := G.swapRow n i j h) hs rfl rfl _ (fun a t => if a = n then (n, swn (j + 1) (i + 1) t) else (a, t)) ?_ ?_ ?_
  · intro a t b o ha hb
    simp only [Gh.swapRow] at hb
    by_cases h : a = n
    · subst h; rw [if_pos rfl] at hb ⊢; exact ⟨ha, hb⟩
    · rw [if_neg h] at hb ⊢; exact ⟨ha, hb⟩
  · intro a t a' t' p p' ha ha' hb hb' he
    by_cases h : a = n <;> by_cases h' : a' = n
    · subst h; subst h'; simp only [if_true, Prod.mk.injEq, true_and] at he; exact ⟨rfl, swn_inj he⟩
    · subst h; simp only [if_true, if_neg h', Prod.mk.injEq] at he; exact absurd he.1.symm h'
    · subst h'; simp only [if_true, if_neg h, Prod.mk.injEq] at he; exact absurd he.1 h
    · simp only [if_neg h, if_neg h', Prod.mk.injEq] at he; exact he
  · intro a ha
    simp only [List.mem_cons, List.not_mem_nil, or_false] at ha
    simp only [Gh.swapRow, if_neg ha]
    exact ⟨trivial, id⟩

/-- row i of object n becomes object d -/
def Gh.takeRow (G : Gh) (n i d : Nat) : Gh where
  β := fun a => if a = d then ⟨fun t => if t = 0 then G.β n (i + 1) else none, none⟩ else if a = n then ⟨fun t => if t = i + 1 then none else G.β n t, some i⟩ else G.β a
  act := fun a => a = d ∨ G.act a
  imm := G.imm
  π := G.π
theorem StepOk.takeRow (hs : SimG C G w) {n i d : Nat} (hnd : n ≠ d) (hn : G.act n) : StepOk C G w (G.takeRow n i d) w [n, d] := by
  have inv : ∀ a t p, (G.takeRow n i d).β a t = some p → (a = d ∧ t = 0 ∧ G.β n (i + 1) = some p) ∨ (a ≠ d ∧ ¬ (a = n ∧ t = i + 1) ∧ G.β a t = some p) := by
    intro a t p h
    simp only [Gh.takeRow] at h
    split at h
    · rename_i ha
      dsimp only at h
      split at h
      · exact .inl ⟨ha, by assumption, h⟩
      · cases h
    · rename_i ha
      split at h
      · rename_i han
        subst han
        dsimp only at h
        split at h
        · cases h
        · exact .inr ⟨ha, fun e => by simp_all, h⟩
      · rename_i hm; exact .inr ⟨ha, fun e => hm e.1, h⟩
  refine StepOk.regroup (G' := G.takeRow n i d) hs rfl rfl _ (fun a t => if a = d then (n, i + 1) else (a, t)) ?_ ?_ ?_
  · intro a t b o ha hb
    rcases inv a t _ hb with ⟨rfl, h1, h⟩ | ⟨h1, h2, h⟩
    · simp only [if_true]; exact ⟨hn, h⟩
    · simp only [if_neg h1]; exact ⟨ha.resolve_left h1, h⟩
  · intro a t a' t' p p' ha ha' hb hb' he
    rcases inv a t _ hb with ⟨rfl, h1, h⟩ | ⟨h1, h2, h⟩ <;> rcases inv a' t' _ hb' with ⟨h0, h1', h'⟩ | ⟨h1', h2', h'⟩
    · exact ⟨h0.symm, h1.trans h1'.symm⟩
    · simp only [if_true, if_neg h1', Prod.mk.injEq] at he; exact absurd ⟨he.1.symm, he.2.symm⟩ h2'
    · subst h0; simp only [if_true, if_neg h1, Prod.mk.injEq] at he; exact absurd he h2
    · simp only [if_neg h1, if_neg h1', Prod.mk.injEq] at he; exact he
  · intro a ha
    simp only [List.mem_cons, List.not_mem_nil, or_false, not_or] at ha
    simp only [Gh.takeRow, if_neg ha.1, if_neg ha.2]
    exact ⟨trivial, .inr⟩
end

end Go.Proofs.LV
