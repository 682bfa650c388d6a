/- New memory, and memory that is written: what it does to the tie. -/
import Derived.Test.YtjfgmnfkkehgfaaLvOps
import Derived.Laws.MakeOwn
import Derived.Great.BuildSlice
namespace Go.Proofs.LV
open Go Go.RowKit
set_option linter.unusedVariables false
set_option linter.unusedSimpArgs false

def Gh.mk1 (G : Gh) (n : Nat) (b o : Nat) : Gh :=
  { G with β := fun m => if m = n then some (b, o) else G.β m, act := fun m => m = n ∨ G.act m }
def Gh.mk0 (G : Gh) (n : Nat) : Gh :=
  { G with β := fun m => if m = n then none else G.β m, act := fun m => m = n ∨ G.act m }
def Gh.mkI (G : Gh) (b : Nat) : Gh := { G with imm := fun c => c = b ∨ G.imm c }

theorem size_alloc (w : World) (o : Obj) : (w.alloc o).heap.size = w.heap.size + 1 := Array.size_push ..

section
variable {C : Ctx} {G : Gh} {w : World}

theorem SimG.par_lt (hs : SimG C G w) {p : List Nat} {b o : Nat} (h : G.π p = some (b, o)) : b < w.heap.size :=
  Nat.lt_of_lt_of_le (hs.pars p b o h).1 hs.kept.le
theorem SimG.name_lt (hs : SimG C G w) {n b o : Nat} (ha : G.act n) (h : G.β n = some (b, o)) : b < w.heap.size := by
  obtain ⟨_, _, cells, e, hc⟩ := hs.names n b o ha h
  exact (Array.getElem?_eq_some_iff.1 hc).1

theorem Kept.alloc (hs : Kept C w) (o : Obj) : Kept C (w.alloc o) :=
  ⟨hs.os, hs.tape, hs.output, by rw [size_alloc]; have := hs.size; omega, by rw [size_alloc]; have := hs.le; omega,
   fun k hk hm => by rw [heap_alloc_old w o k (by have := hs.le; omega)]; exact hs.block k hk hm,
   fun k cells e hk h => by rw [heap_alloc_old w o k (by have := hs.le; omega)]; exact hs.rows k cells e hk h⟩

theorem keeps_alloc (hs : SimG C G w) (o : Obj) (G' : Gh) (g : Tag) (hat : ∀ b c, G.at g b c → G'.at g b c) (hv : G.void g → G'.void g)
    (hlt : ∀ b c, G.at g b c → b < w.heap.size) : Keeps G G' w (w.alloc o) g :=
  ⟨fun b c h => ⟨hat b c h, heap_alloc_old w o b (hlt b c h)⟩, hv⟩

/-- a new block for object n -/
theorem StepOk.new (hs : SimG C G w) (n : Nat) (cells : Array Value) (e : TypeId) :
    StepOk C G w (G.mk1 n w.heap.size 0) (w.alloc (.cells cells e)) [n] := by
  refine ⟨⟨hs.kept.alloc _, ?_, ?_, ?_, hs.pars, hs.ml, hs.pi, hs.imI⟩, ?_, fun m hm => by simp only [Gh.mk1]; rw [if_neg (fun h => hm (by simp [h]))]; exact ⟨rfl, .inr⟩⟩
  · intro m b o ha hb
    simp only [Gh.mk1] at ha hb
    by_cases hm : m = n
    · simp only [hm, if_true, Option.some.injEq, Prod.mk.injEq] at hb
      obtain ⟨rfl, rfl⟩ := hb
      refine ⟨fun hi => ?_, .inl hs.kept.le, cells, e, heap_alloc_new w _⟩
      have := (hs.imms _ hi).1; omega
    · rw [if_neg hm] at hb
      have ha' := ha.resolve_left hm
      obtain ⟨h1, h2, c, e', h3⟩ := hs.names m b o ha' hb
      exact ⟨h1, h2, c, e', by rw [heap_alloc_old w _ b (hs.name_lt ha' hb)]; exact h3⟩
  · intro m m' b o b' o' ha ha' hne hb hb'
    simp only [Gh.mk1] at ha ha' hb hb'
    by_cases hm : m = n
    · have hm' : m' ≠ n := fun h => hne (hm.trans h.symm)
      rw [if_pos hm] at hb; rw [if_neg hm'] at hb'
      have := hs.name_lt (ha'.resolve_left hm') hb'
      simp only [Option.some.injEq, Prod.mk.injEq] at hb
      omega
    · rw [if_neg hm] at hb
      have h1 := hs.name_lt (ha.resolve_left hm) hb
      by_cases hm' : m' = n
      · rw [if_pos hm'] at hb'
        simp only [Option.some.injEq, Prod.mk.injEq] at hb'
        omega
      · rw [if_neg hm'] at hb'
        exact hs.dist m m' b o b' o' (ha.resolve_left hm) (ha'.resolve_left hm') hne hb hb'
  · intro b hb; have := hs.imms b hb; exact ⟨by rw [size_alloc]; omega, this.2⟩
  · intro x v hx hv
    refine VR.mono ?_ (fun p => ?_) x v (fun m hm => ?_) hv
    · exact keeps_alloc hs _ _ _ (fun _ _ h => h) (fun h => h) (fun b _ h => (hs.imms b h).1)
    · exact keeps_alloc hs _ _ _ (fun _ _ h => h) (fun h => h) (fun b _ h => hs.par_lt h)
    · have hmn : m ≠ n := fun h => by rw [h] at hm; rw [hx n (by simp)] at hm; cases hm
      refine keeps_alloc hs _ _ _ (fun b o h => ?_) (fun h => .inr h) (fun b o h => hs.name_lt h.1 h.2)
      exact ⟨.inr h.1, by simp only [Gh.mk1, if_neg hmn]; exact h.2⟩

/-- object n is nothing yet -/
theorem StepOk.new0 (hs : SimG C G w) (n : Nat) : StepOk C G w (G.mk0 n) w [n] := by
  refine ⟨⟨hs.kept, ?_, ?_, hs.imms, hs.pars, hs.ml, hs.pi, hs.imI⟩, ?_, fun m hm => by simp only [Gh.mk0]; rw [if_neg (fun h => hm (by simp [h]))]; exact ⟨rfl, .inr⟩⟩
  · intro m b o ha hb
    simp only [Gh.mk0] at ha hb
    by_cases hm : m = n
    · simp [hm] at hb
    · rw [if_neg hm] at hb; exact hs.names m b o (ha.resolve_left hm) hb
  · intro m m' b o b' o' ha ha' hne hb hb'
    simp only [Gh.mk0] at ha ha' hb hb'
    by_cases hm : m = n
    · simp [hm] at hb
    · by_cases hm' : m' = n
      · simp [hm'] at hb'
      · rw [if_neg hm] at hb; rw [if_neg hm'] at hb'
        exact hs.dist m m' b o b' o' (ha.resolve_left hm) (ha'.resolve_left hm') hne hb hb'
  · intro x v hx hv
    refine VR.mono (G := G) (w := w) (G' := G.mk0 n) (w' := w) ⟨fun _ _ h => ⟨h, rfl⟩, fun h => h⟩ (fun p => ⟨fun _ _ h => ⟨h, rfl⟩, fun h => h⟩) x v (fun m hm => ?_) hv
    have hmn : m ≠ n := fun h => by rw [h] at hm; rw [hx n (by simp)] at hm; cases hm
    exact ⟨fun b o h => ⟨⟨.inr h.1, by simp only [Gh.mk0, if_neg hmn]; exact h.2⟩, rfl⟩, fun h => .inr h⟩

/-- a new block that is never written -/
theorem StepOk.newI (hs : SimG C G w) (cells : Array Value) (e : TypeId) :
    StepOk C G w (G.mkI w.heap.size) (w.alloc (.cells cells e)) [] := by
  refine ⟨⟨hs.kept.alloc _, ?_, hs.dist, ?_, hs.pars, hs.ml, hs.pi, fun b hb => hb.elim (fun e => .inr (e ▸ hs.kept.le)) (hs.imI b)⟩, ?_, fun _ _ => ⟨rfl, id⟩⟩
  · intro m b o ha hb
    obtain ⟨h1, h2, c, e', h3⟩ := hs.names m b o ha hb
    have hlt := hs.name_lt ha hb
    refine ⟨fun hi => ?_, h2, c, e', by rw [heap_alloc_old w _ b hlt]; exact h3⟩
    rcases hi with rfl | hi
    · omega
    · exact h1 hi
  · intro b hb
    rw [size_alloc]
    rcases hb with rfl | hb
    · exact ⟨by omega, fun hM => by have := hs.ml _ hM; have := hs.kept.le; omega⟩
    · have := hs.imms b hb; exact ⟨by omega, this.2⟩
  · intro x v hx hv
    refine VR.mono ?_ (fun p => ?_) x v (fun m hm => ?_) hv
    · exact keeps_alloc hs _ _ _ (fun _ _ h => .inr h) (fun h => h) (fun b _ h => (hs.imms b h).1)
    · exact keeps_alloc hs _ _ _ (fun _ _ h => h) (fun h => h) (fun b _ h => hs.par_lt h)
    · exact keeps_alloc hs _ _ _ (fun b o h => h) (fun h => h) (fun b o h => hs.name_lt h.1 h.2)

/-- object n is written: other objects read as they did -/
theorem StepOk.write (hs : SimG C G w) {n b o : Nat} (ha : G.act n) (hb : G.β n = some (b, o)) {w' : World} (hos : w'.os = w.os) (ht : w'.tape = w.tape) (hout : w'.output = w.output)
    (hsz : w'.heap.size = w.heap.size) (hother : ∀ k, k ≠ b → w'.heap[k]? = w.heap[k]?) (hrow0 : ∀ cells e, w.heap[b]? = some (.cells cells e (0, 0)) → ∃ cells', w'.heap[b]? = some (.cells cells' e (0, 0)) ∧ cells'.size = cells.size) : StepOk C G w G w' [n] := by
  obtain ⟨hni, hbm, cb, eb, hcb⟩ := hs.names n b o ha hb
  have hrow : ∃ cells e, w'.heap[b]? = some (.cells cells e (0, 0)) := by obtain ⟨c', h, _⟩ := hrow0 cb eb hcb; exact ⟨c', eb, h⟩
  refine ⟨⟨⟨hos.trans hs.kept.os, ht.trans hs.kept.tape, hout.trans hs.kept.output, by rw [hsz]; exact hs.kept.size, by rw [hsz]; exact hs.kept.le, fun k hk hm => ?_, fun k cells e hk h => ?_⟩, ?_, hs.dist, fun c hc => ⟨by rw [hsz]; exact (hs.imms c hc).1, (hs.imms c hc).2⟩, hs.pars, hs.ml, hs.pi, hs.imI⟩, ?_, fun _ _ => ⟨rfl, id⟩⟩
  · rw [hother k ?_]
    · exact hs.kept.block k hk hm
    · rintro rfl; rcases hbm with h | h
      · omega
      · exact hm h
  · obtain ⟨c1, h1, hs1⟩ := hs.kept.rows k cells e hk h
    by_cases hkb : k = b
    · subst hkb
      obtain ⟨c2, h2, hs2⟩ := hrow0 c1 e h1
      exact ⟨c2, h2, hs2.trans hs1⟩
    · rw [hother k hkb]; exact ⟨c1, h1, hs1⟩
  · intro m c o' ha' hb'
    obtain ⟨h1, h2, h3⟩ := hs.names m c o' ha' hb'
    refine ⟨h1, h2, ?_⟩
    by_cases hc : c = b
    · rw [hc]; exact hrow
    · rw [hother c hc]; exact h3
  · intro x v hx hv
    refine VR.mono ?_ (fun p => ?_) x v (fun m hm => ?_) hv
    · exact ⟨fun c _ h => ⟨h, hother c (fun e => hni (e ▸ h))⟩, fun h => h⟩
    · refine ⟨fun c o' h => ⟨h, hother c (fun e => ?_)⟩, fun h => h⟩
      have := hs.pars p c o' h
      subst e
      rcases hbm with h' | h'
      · omega
      · exact this.2 h'
    · have hmn : m ≠ n := fun h => by rw [h] at hm; rw [hx n (by simp)] at hm; cases hm
      refine ⟨fun c o' h => ⟨h, hother c (fun e => ?_)⟩, fun h => h⟩
      exact hs.dist m n c o' b o h.1 ha hmn h.2 hb e
end

end Go.Proofs.LV
