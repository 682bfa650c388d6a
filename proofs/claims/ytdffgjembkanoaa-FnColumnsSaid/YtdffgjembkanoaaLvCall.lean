/- Calls: what a contract says, and what it does for the caller. -/
import Derived.Test.YtdffgjembkanoaaLvStepX
namespace Go.Proofs.LV
open Go Go.RowKit
set_option linter.unusedVariables false
set_option linter.unusedSimpArgs false

/-- function f, called: entered, or (no body) answered at once -/
def CallsF (P : Program) (f : FuncId) (vs : Array Value) (w : World) (Q : Ending → World → Prop) : Prop :=
  ((callFunc f vs).run P w = .ok (.enter f vs) w ∧ Calls P f vs w Q) ∨ ∃ v w', (callFunc f vs).run P w = .ok (.value v) w' ∧ Q (.returned v) w'
theorem CallsF.mono {P : Program} {f : FuncId} {vs : Array Value} {w : World} {Q Q' : Ending → World → Prop} (h : CallsF P f vs w Q) (hQ : ∀ e w', Q e w' → Q' e w') : CallsF P f vs w Q' := by
  rcases h with ⟨h1, h2⟩ | ⟨v, w', h1, h2⟩
  · exact .inl ⟨h1, h2.mono hQ⟩
  · exact .inr ⟨v, w', h1, hQ _ _ h2⟩
/-- THE CONTRACT: called with arguments that read as 'args', function f returns what reads as 'r'; nothing that was there is written. -/
structure VCallN (P : Program) (f : FuncId) (args : List AV) (r : AV) : Prop where
  runs : ∀ (w : World) (I : Nat → Prop) (π : List Nat → Option (Nat × Nat)) (vs : Array Value), (∀ b, I b → b < w.heap.size) → (∀ p b o, π p = some (b, o) → b < w.heap.size) →
    VL ⟨fun _ => Fam.no, fun _ => False, I, π⟩ w args vs.toList →
    CallsF P f vs w fun e w' => ∃ v G', e = .returned v ∧ SimG ⟨w.heap.size, w, fun _ => False, π, I, fun _ => Fam.no, fun _ => False⟩ G' w' ∧ VR G' w' r v

/-- where the arguments that are written lie -/
def mutAt (β : Nat → Fam) (act : Nat → Prop) (b : Nat) : Prop := ∃ n i o, act n ∧ β n i = some (b, o)
/-- THE CONTRACT OF A CALL THAT WRITES: the objects of 'args' read as 'outs' behind it; nothing else that was there is written. -/
structure VCallM (P : Program) (f : FuncId) (args : List AV) (r : AV) (outs : List AV) : Prop where
  enter : ∀ (vs : Array Value) (w : World), (callFunc f vs).run P w = .ok (.enter f vs) w
  runs : ∀ (w : World) (I : Nat → Prop) (β : Nat → Fam) (act : Nat → Prop) (vs : Array Value), (∀ b, I b → b < w.heap.size) → (∀ n, act n → HI ≤ n) →
    (∀ n i b o, act n → β n i = some (b, o) → ¬ I b ∧ ∃ cells e, w.heap[b]? = some (.cells cells e (0, 0))) → (∀ n i m j b o b' o', act n → act m → ¬ (n = m ∧ i = j) → β n i = some (b, o) → β m j = some (b', o') → b ≠ b') →
    VL ⟨β, act, I, fun _ => none⟩ w args vs.toList →
    Calls P f vs w fun e w' => ∃ v G', e = .returned v ∧ SimG ⟨w.heap.size, w, mutAt β act, fun _ => none, I, β, act⟩ G' w' ∧ (∀ n i b o, G'.act n → G'.β n i = some (b, o) → w.heap.size ≤ b) ∧ VR G' w' r v ∧
      VL ⟨β, act, G'.imm, fun _ => none⟩ w' outs vs.toList
/-- what a contract says -/
def VCall (P : Program) (f : FuncId) (args : List AV) (r : AV) : Prop :=
  match r with
  | .bx .nil [r0, .tup outs] => VCallM P f args r0 outs
  | r => VCallN P f args r
theorem VCall.N {P : Program} {f : FuncId} {args : List AV} {r : AV} (hr : r.isM = false) (h : VCall P f args r) : VCallN P f args r := by
  unfold VCall at h
  split at h
  · cases hr
  · exact h
theorem VCallN.to {P : Program} {f : FuncId} {args : List AV} {r : AV} (hr : r.isM = false) (h : VCallN P f args r) : VCall P f args r := by
  unfold VCall
  split
  · cases hr
  · exact h

/-! ### the arguments as the callee sees them -/
def addr (w : World) : List Nat → Value → Option (Nat × Nat)
  | [], v => match v with
    | .slice (some a) _ cap => if cap = 0 then none else some (a.block, a.off)
    | .pointer (some a) => some (a.block, a.off)
    | _ => none
  | j :: q, v => match v with
    | .agg vs => (vs[j]?).bind (addr w q)
    | .tuple vs => (vs[j]?).bind (addr w q)
    | .func _ _ cs => (cs[j]?).bind (addr w q)
    | .pointer (some a) => (w.cell? ⟨a.block, a.off + j, none⟩).bind (addr w q)
    | _ => none
def inHeap (w : World) (r : Option (Nat × Nat)) : Option (Nat × Nat) := match r with | some (b, o) => if b < w.heap.size then some (b, o) else none | none => none

section
variable {P : Program} {C : Ctx} {G G' : Gh} {w w' : World}

def argGh (I : Nat → Prop) (π : List Nat → Option (Nat × Nat)) : Gh := ⟨fun _ => Fam.no, fun _ => False, I, π⟩

theorem at_lt (hs : SimG C G w) {g : Tag} {b o : Nat} (h : G.at g b o) : b < w.heap.size := by
  cases g with
  | nil => exact h.elim
  | imm => exact (hs.imms b h).1
  | ro => rcases h with h | ⟨p, o', h⟩; exact (hs.imms b h).1; exact hs.par_lt h
  | par p => exact hs.par_lt h
  | own n => exact hs.name_lt h.1 h.2
  | row n i => exact hs.name_lt h.1 h.2

theorem ok_arg {xs : Cont} {j : Nat} {u : Value} {J : Nat → Prop} (hJ : ∀ b, G.imm b → J b) {π : List Nat → Option (Nat × Nat)} (h : xs.ok G w j u) : xs.ok (argGh J π) w j u :=
  Cont.ok.mono (G' := argGh J π) ⟨fun b o h => ⟨(hJ b h : J b), rfl⟩, fun h => h⟩ h

mutual
theorem view_ok (hs : SimG C G w) {J : Nat → Prop} (hJ : ∀ b, G.imm b → J b) {π : List Nat → Option (Nat × Nat)} : ∀ (x : AV) (p : List Nat) (v : Value), VR G w x v → x.known = true → (x.nwFree = true ∨ ∀ b, b < w.heap.size → J b) → (∀ q, π (p ++ q) = inHeap w (addr w q v)) → VR (argGh J π) w (AV.view p x) v
  | .any, p, v, _, hk, _, _ => by simp [AV.known] at hk
  | .b c, p, v, h, _, _, _ => by simpa [AV.view, VR] using h
  | .i k c, p, v, h, _, _, _ => by simpa [AV.view, VR] using h
  | .f k c, p, v, h, _, _, _ => by simpa [AV.view, VR] using h
  | .c k c d, p, v, h, _, _, _ => by simpa [AV.view, VR] using h
  | .sl g off xs, p, v, h, _, _, hp => by
    simp only [AV.view, VR] at h ⊢
    rcases h with ⟨b, o, cap, rfl, hat, hn, hm, hc, hsp⟩ | ⟨hn, ha, _⟩
    · by_cases h0 : cap = 0
      · subst h0
        refine .inr ⟨by omega, ⟨_, by rw [show xs.len = 0 by omega]⟩, trivial⟩
      · have := hp []
        simp only [List.append_nil, addr, h0, if_false, inHeap, at_lt hs hat, if_true] at this
        refine .inl ⟨b, o + off, cap, rfl, this, hn, hm, fun j hj => ?_, hsp⟩
        obtain ⟨u, hu, hok⟩ := hc j hj
        exact ⟨u, hu, ok_arg hJ hok⟩
    · exact .inr ⟨hn, ha, trivial⟩
  | .nw n base k xss (some _), p, v, _, hk, _, _ => by simp [AV.known] at hk
  | .na _ _ _ _ _, p, v, _, hk, _, _ => by simp [AV.known] at hk
  | .nw n base k xss none, p, v, h, _, hN, hp => by
    simp only [AV.view, VR] at h ⊢
    have hall : ∀ b, b < w.heap.size → J b := hN.resolve_left (by simp [AV.nwFree])
    rcases h.2 with ⟨b, o, cap, rfl, hat, hn, hm, hc, hsp⟩ | ⟨hn, ha, _⟩
    · by_cases h0 : cap = 0
      · subst h0
        have e : xss.length = 0 := by omega
        refine .inr ⟨e, ⟨_, by rw [e]⟩, trivial⟩
      · have := hp []
        simp only [List.append_nil, addr, h0, if_false, inHeap, at_lt hs hat, if_true] at this
        refine .inl ⟨b, o + base, cap, rfl, this, hn, hm, fun j hj => ?_, hsp⟩
        obtain ⟨u, hu, hok⟩ := hc j hj
        refine ⟨u, hu, ?_⟩
        rcases hok with hok | hok
        · cases hok
        · rcases hok with ⟨b', o', cap', rfl, hat', hn', hm', hc', hsp'⟩ | ⟨hn', ha', _⟩
          · exact .inl ⟨b', o', cap', rfl, hall b' (at_lt hs hat'), hn', hm', hc', hsp'⟩
          · exact .inr ⟨hn', ha', trivial⟩
    · exact .inr ⟨hn, ha, trivial⟩
  | .bx g cells, p, v, h, hk, hN, hp => by
    simp only [VR] at h
    obtain ⟨b, o, rfl, hat, hc⟩ := h
    simp only [AV.view, VR]
    have := hp []
    simp only [List.append_nil, addr, inHeap, at_lt hs hat, if_true] at this
    refine ⟨b, o, rfl, this, viewC_ok hs hJ cells p 0 b o hc (by simpa [AV.known] using hk) (by simpa [AV.nwFree] using hN) (fun i q u hu => ?_)⟩
    rw [Nat.zero_add, hp (i :: q)]
    simp [addr, hu]
  | .ad g idx x, p, v, h, hk, hN, hp => by
    simp only [VR] at h
    obtain ⟨b, o, rfl, hat, u, hu, hx⟩ := h
    simp only [AV.view, VR]
    have := hp []
    simp only [List.append_nil, addr, inHeap, at_lt hs hat, if_true] at this
    refine ⟨b, o + idx, rfl, this, ⟨u, hu, view_ok hs hJ x (p ++ [0]) u hx (by simpa [AV.known] using hk) (by simpa [AV.nwFree] using hN) (fun q => ?_)⟩, trivial⟩
    rw [List.append_assoc, hp]
    simp [addr, hu]
  | .agg cells, p, v, h, hk, hN, hp => by
    simp only [VR] at h
    obtain ⟨vs, rfl, hv⟩ := h
    simp only [AV.view, VR]
    refine ⟨vs, rfl, viewL_ok hs hJ cells p 0 vs.toList hv (by simpa [AV.known] using hk) (by simpa [AV.nwFree] using hN) (fun i q u hu => ?_)⟩
    rw [hp]
    have : vs[i]? = some u := by simpa using hu
    simp [addr, this]
  | .tup cells, p, v, h, hk, hN, hp => by
    simp only [VR] at h
    obtain ⟨vs, rfl, hv⟩ := h
    simp only [AV.view, VR]
    refine ⟨vs, rfl, viewL_ok hs hJ cells p 0 vs.toList hv (by simpa [AV.known] using hk) (by simpa [AV.nwFree] using hN) (fun i q u hu => ?_)⟩
    rw [hp]
    have : vs[i]? = some u := by simpa using hu
    simp [addr, this]
  | .fn f cells, p, v, h, hk, hN, hp => by
    simp only [VR] at h
    obtain ⟨vs, rfl, hv⟩ := h
    simp only [AV.view, VR]
    refine ⟨vs, rfl, viewL_ok hs hJ cells p 0 vs.toList hv (by simpa [AV.known] using hk) (by simpa [AV.nwFree] using hN) (fun i q u hu => ?_)⟩
    rw [hp]
    have : vs[i]? = some u := by simpa using hu
    simp [addr, this]
theorem viewL_ok (hs : SimG C G w) {J : Nat → Prop} (hJ : ∀ b, G.imm b → J b) {π : List Nat → Option (Nat × Nat)} : ∀ (xs : List AV) (p : List Nat) (j : Nat) (vs : List Value), VL G w xs vs → AV.knownL xs = true → (AV.nwFreeL xs = true ∨ ∀ b, b < w.heap.size → J b) →
    (∀ (i : Nat) (q : List Nat) (u : Value), vs[i]? = some u → π (p ++ (j + i) :: q) = inHeap w (addr w q u)) → VL (argGh J π) w (AV.viewL p j xs) vs
  | [], p, j, vs, h, _, _, _ => by simpa [AV.viewL, VL] using h
  | x :: r, p, j, vs, h, hk, hN, hp => by
    simp only [VL] at h
    obtain ⟨u, us, rfl, hx, hr⟩ := h
    simp only [AV.knownL, Bool.and_eq_true] at hk
    simp only [AV.viewL, VL]
    refine ⟨u, us, rfl, view_ok hs hJ x (p ++ [j]) u hx hk.1 (hN.imp_left fun h => by simp only [AV.nwFreeL, Bool.and_eq_true] at h; exact h.1) (fun q => ?_), viewL_ok hs hJ r p (j + 1) us hr hk.2 (hN.imp_left fun h => by simp only [AV.nwFreeL, Bool.and_eq_true] at h; exact h.2) (fun i q z hz => ?_)⟩
    · rw [List.append_assoc]; exact hp 0 q u rfl
    · have := hp (i + 1) q z (by simpa using hz)
      rwa [show j + (i + 1) = j + 1 + i by omega] at this
theorem viewC_ok (hs : SimG C G w) {J : Nat → Prop} (hJ : ∀ b, G.imm b → J b) {π : List Nat → Option (Nat × Nat)} : ∀ (xs : List AV) (p : List Nat) (j b o : Nat), CL G w b o xs → AV.knownL xs = true → (AV.nwFreeL xs = true ∨ ∀ b, b < w.heap.size → J b) →
    (∀ (i : Nat) (q : List Nat) (u : Value), w.cell? ⟨b, o + i, none⟩ = some u → π (p ++ (j + i) :: q) = inHeap w (addr w q u)) → CL (argGh J π) w b o (AV.viewL p j xs)
  | [], p, j, b, o, h, _, _, _ => by simp [AV.viewL, CL]
  | x :: r, p, j, b, o, h, hk, hN, hp => by
    simp only [CL] at h
    obtain ⟨⟨u, hu, hx⟩, hr⟩ := h
    simp only [AV.knownL, Bool.and_eq_true] at hk
    simp only [AV.viewL, CL]
    refine ⟨⟨u, hu, view_ok hs hJ x (p ++ [j]) u hx hk.1 (hN.imp_left fun h => by simp only [AV.nwFreeL, Bool.and_eq_true] at h; exact h.1) (fun q => ?_)⟩, viewC_ok hs hJ r p (j + 1) b (o + 1) hr hk.2 (hN.imp_left fun h => by simp only [AV.nwFreeL, Bool.and_eq_true] at h; exact h.2) (fun i q z hz => ?_)⟩
    · rw [List.append_assoc]; exact hp 0 q u hu
    · have := hp (i + 1) q z (by rw [← Nat.add_assoc, Nat.add_right_comm]; exact hz)
      rwa [show j + (i + 1) = j + 1 + i by omega] at this
end

/-! ### the result as the caller sees it -/
theorem sel_ok (hs : SimG C G w) : ∀ (p : List Nat) (x : AV) (v : Value) (b o1 : Nat) (g : Tag) (off : Nat), VR G w x v → addr w p v = some (b, o1) → (AV.sel x p).tagOff = some (g, off) → ∃ o, G.at g b o ∧ o1 = o + off
  | [], x, v, b, o1, g, off, h, ha, ht => by
    cases x <;> simp only [AV.sel, AV.tagOff] at ht <;> try cases ht
    · simp only [VR] at h
      rcases h with ⟨b', o', cap, rfl, hat, _⟩ | ⟨_, ⟨a, rfl⟩, _⟩
      · simp only [addr] at ha
        split at ha <;> cases ha
        exact ⟨o', hat, rfl⟩
      · cases a <;> simp [addr] at ha
    · simp only [VR] at h
      obtain ⟨b', o', rfl, hat, _⟩ := h
      simp only [addr] at ha; cases ha
      exact ⟨_, hat, rfl⟩
    · simp only [VR] at h
      obtain ⟨b', o', rfl, hat, _⟩ := h
      simp only [addr] at ha; cases ha
      exact ⟨_, hat, rfl⟩
    · simp only [VR] at h
      rcases h.2 with ⟨b', o', cap, rfl, hat, _⟩ | ⟨_, ⟨a, rfl⟩, _⟩
      · simp only [addr] at ha
        split at ha <;> cases ha
        exact ⟨o', hat, rfl⟩
      · cases a <;> simp [addr] at ha
  | j :: q, x, v, b, o1, g, off, h, ha, ht => by
    cases x with
    | bx g' cells =>
      simp only [AV.sel] at ht
      simp only [VR] at h
      obtain ⟨b', o', rfl, hat, hc⟩ := h
      cases hj : cells[j]? with
      | none => simp [List.getD, hj] at ht; cases q <;> simp [AV.sel, AV.tagOff] at ht
      | some y =>
        obtain ⟨u, hu, hy⟩ := cl_get hc hj
        simp only [addr, hu, Option.bind_some] at ha
        simp only [List.getD, hj, Option.getD_some] at ht
        exact sel_ok hs q y u b o1 g off hy ha ht
    | agg cells =>
      simp only [AV.sel] at ht
      simp only [VR] at h
      obtain ⟨vs, rfl, hv⟩ := h
      cases hj : cells[j]? with
      | none => simp [List.getD, hj] at ht; cases q <;> simp [AV.sel, AV.tagOff] at ht
      | some y =>
        obtain ⟨u, hu, hy⟩ := vl_get hv hj
        have hu' : vs[j]? = some u := by simpa using hu
        simp only [addr, hu', Option.bind_some] at ha
        simp only [List.getD, hj, Option.getD_some] at ht
        exact sel_ok hs q y u b o1 g off hy ha ht
    | tup cells =>
      simp only [AV.sel] at ht
      simp only [VR] at h
      obtain ⟨vs, rfl, hv⟩ := h
      cases hj : cells[j]? with
      | none => simp [List.getD, hj] at ht; cases q <;> simp [AV.sel, AV.tagOff] at ht
      | some y =>
        obtain ⟨u, hu, hy⟩ := vl_get hv hj
        have hu' : vs[j]? = some u := by simpa using hu
        simp only [addr, hu', Option.bind_some] at ha
        simp only [List.getD, hj, Option.getD_some] at ht
        exact sel_ok hs q y u b o1 g off hy ha ht
    | fn f cells =>
      simp only [AV.sel] at ht
      simp only [VR] at h
      obtain ⟨vs, rfl, hv⟩ := h
      cases hj : cells[j]? with
      | none => simp [List.getD, hj] at ht; cases q <;> simp [AV.sel, AV.tagOff] at ht
      | some y =>
        obtain ⟨u, hu, hy⟩ := vl_get hv hj
        have hu' : vs[j]? = some u := by simpa using hu
        simp only [addr, hu', Option.bind_some] at ha
        simp only [List.getD, hj, Option.getD_some] at ht
        exact sel_ok hs q y u b o1 g off hy ha ht
    | ad g' idx y =>
      simp only [VR] at h
      obtain ⟨b', o', rfl, hat, u, hu, hy⟩ := h
      cases j with
      | zero =>
        simp only [AV.sel] at ht
        simp only [addr, Nat.add_zero, hu, Option.bind_some] at ha
        exact sel_ok hs q y u b o1 g off hy ha ht
      | succ j => simp [AV.sel, AV.tagOff] at ht
    | _ => simp [AV.sel, AV.tagOff] at ht

/-- the ghosts behind a call -/
def Gh.called (G G' : Gh) (d n0 : Nat) : Gh where
  β := fun m => if m ∈ callNames d then G'.β (m - 8 * d) else G.β m
  act := fun m => if m ∈ callNames d then G'.act (m - 8 * d) else G.act m
  imm := fun b => G.imm b ∨ (G'.imm b ∧ n0 ≤ b)
  π := G.π

theorem mem_callNames {d m : Nat} : m ∈ callNames d ↔ 8 * d ≤ m ∧ m < 8 * d + 8 := by
  simp [callNames]; omega

theorem called_ok (hs : SimG C G w) {I : Nat → Prop} {π : List Nat → Option (Nat × Nat)} (hg : SimG ⟨w.heap.size, w, fun _ => False, π, I, fun _ => Fam.no, fun _ => False⟩ G' w') (d : Nat) :
    StepOk C G w (G.called G' d w.heap.size) w' (callNames d) := by
  have hold : ∀ k, k < w.heap.size → w'.heap[k]? = w.heap[k]? := fun k hk => hg.kept.block k hk (fun h => h)
  have hnew : ∀ m i b o, G'.act m → G'.β m i = some (b, o) → w.heap.size ≤ b := fun m i b o ha hb => (hg.names m i b o ha hb).2.1.resolve_right (fun h => h)
  refine ⟨⟨⟨hg.kept.os.trans hs.kept.os, hg.kept.tape.trans hs.kept.tape, hg.kept.output.trans hs.kept.output, Nat.le_trans hs.kept.size hg.kept.size, Nat.le_trans hs.kept.le hg.kept.size, fun k hk hm => ?_, fun k cells e hk h => ?_⟩, ?_, ?_, ?_, hs.pars, hs.ml, hs.pi, fun b hb => hb.elim (hs.imI b) (fun h => .inr (Nat.le_trans hs.kept.le h.2))⟩, ?_, fun m hm => by simp only [Gh.called]; rw [if_neg hm, if_neg hm]; exact ⟨rfl, id⟩⟩
  · rw [hold k (Nat.lt_of_lt_of_le hk hs.kept.le)]; exact hs.kept.block k hk hm
  · rw [hold k (Nat.lt_of_lt_of_le hk hs.kept.le)]; exact hs.kept.rows k cells e hk h
  · intro m i b o ha hb
    simp only [Gh.called] at ha hb ⊢
    by_cases hm : m ∈ callNames d
    · rw [if_pos hm] at ha hb
      obtain ⟨h1, h2, h3⟩ := hg.names _ i b o ha hb
      have hle := hnew _ i b o ha hb
      refine ⟨?_, .inl (Nat.le_trans hs.kept.le hle), h3⟩
      rintro (h | ⟨h, _⟩)
      · have := (hs.imms b h).1; omega
      · exact h1 h
    · rw [if_neg hm] at ha hb
      obtain ⟨h1, h2, h3⟩ := hs.names m i b o ha hb
      have hlt := hs.name_lt ha hb
      refine ⟨?_, h2, by rw [hold b hlt]; exact h3⟩
      rintro (h | ⟨_, h⟩)
      · exact h1 h
      · omega
  · intro m i m' i' b o b' o' ha ha' hne hb hb'
    simp only [Gh.called] at ha ha' hb hb'
    by_cases hm : m ∈ callNames d <;> by_cases hm' : m' ∈ callNames d
    · rw [if_pos hm] at ha hb; rw [if_pos hm'] at ha' hb'
      rw [mem_callNames] at hm hm'
      exact hg.dist _ _ _ _ b o b' o' ha ha' (fun e => hne ⟨by omega, e.2⟩) hb hb'
    · rw [if_pos hm] at ha hb; rw [if_neg hm'] at ha' hb'
      have := hnew _ _ b o ha hb
      have := hs.name_lt ha' hb'
      omega
    · rw [if_neg hm] at ha hb; rw [if_pos hm'] at ha' hb'
      have := hnew _ _ b' o' ha' hb'
      have := hs.name_lt ha hb
      omega
    · rw [if_neg hm] at ha hb; rw [if_neg hm'] at ha' hb'
      exact hs.dist m i m' i' b o b' o' ha ha' hne hb hb'
  · rintro b (h | ⟨h, h2⟩)
    · have := hs.imms b h; exact ⟨Nat.lt_of_lt_of_le this.1 hg.kept.size, this.2⟩
    · exact ⟨(hg.imms b h).1, fun hM => by have := (hs.ml b hM).1; have := hs.kept.le; omega⟩
  · intro x v hx hv
    refine VR.mono ?_ (fun p => ?_) x v (fun m hm => ?_) hv
    · exact ⟨fun b o h => ⟨.inl h, hold b (hs.imms b h).1⟩, fun h => h⟩
    · exact ⟨fun b o h => ⟨h, hold b (hs.par_lt h)⟩, fun h => h⟩
    · have hn : m ∉ callNames d := fun h => by rw [hx m h] at hm; cases hm
      refine ⟨fun i b o ha h => ⟨⟨by simp only [Gh.called, if_neg hn]; exact ha, by simp only [Gh.called, if_neg hn]; exact h⟩, hold b (hs.name_lt ha h)⟩, fun h => ?_, by simp only [Gh.called, if_neg hn]⟩
      show (if m ∈ callNames d then _ else _); rw [if_neg hn]; exact h

theorem keeps_called {d : Nat} (hI : ∀ b, G'.imm b → G.imm b ∨ w.heap.size ≤ b) : Keeps G' (G.called G' d w.heap.size) w' w' .imm :=
  ⟨fun b o h => ⟨by rcases hI b h with h2 | h2; exact .inl h2; exact .inr ⟨h, h2⟩, rfl⟩, fun h => h⟩

theorem hasL_get {n : Nat} : ∀ {xs : List AV} {j : Nat} {x : AV}, xs[j]? = some x → x.has n = true → AV.hasL n xs = true
  | [], j, x, h, _ => by simp at h
  | y :: r, 0, x, h, hx => by simp at h; subst h; simp [AV.hasL, hx]
  | y :: r, j + 1, x, h, hx => by simp at h; simp [AV.hasL, hasL_get h hx]

theorem sel_any (q : List Nat) : (AV.sel .any q).tagOff = none := by cases q <;> simp [AV.sel, AV.tagOff]

theorem sel_has : ∀ (p : List Nat) (x : AV) (g : Tag) (off : Nat), (AV.sel x p).tagOff = some (g, off) → ∀ n, g.names n = true → x.has n = true
  | [], x, g, off, ht, n, hn => by
    cases x <;> simp only [AV.sel, AV.tagOff] at ht <;> cases ht
    · simpa [AV.has] using hn
    · simp [AV.has, hn]
    · simp [AV.has, hn]
    · simpa [AV.has, Tag.names] using hn
  | j :: q, x, g, off, ht, n, hn => by
    have list : ∀ cells : List AV, (AV.sel (cells.getD j .any) q).tagOff = some (g, off) → AV.hasL n cells = true := by
      intro cells ht
      cases hj : cells[j]? with
      | none => simp only [List.getD, hj, Option.getD_none, sel_any] at ht; cases ht
      | some y =>
        simp only [List.getD, hj, Option.getD_some] at ht
        exact hasL_get hj (sel_has q y g off ht n hn)
    cases x with
    | bx g' cells => simp only [AV.sel] at ht; simp [AV.has, list cells ht]
    | agg cells => simp only [AV.sel] at ht; simp [AV.has, list cells ht]
    | tup cells => simp only [AV.sel] at ht; simp [AV.has, list cells ht]
    | fn f cells => simp only [AV.sel] at ht; simp [AV.has, list cells ht]
    | ad g' idx y =>
      cases j with
      | zero => simp only [AV.sel] at ht; simp [AV.has, sel_has q y g off ht n hn]
      | succ j => simp [AV.sel, AV.tagOff] at ht
    | _ => simp [AV.sel, AV.tagOff] at ht

theorem at_act {g : Tag} {n b o : Nat} (hn : g.names n = true) (h : G.at g b o) : G.act n := by
  cases g <;> simp [Tag.names] at hn <;> subst hn <;> exact h.1
theorem void_act {g : Tag} {n : Nat} (hn : g.names n = true) (h : G.void g) : G.act n := by
  cases g <;> simp [Tag.names] at hn <;> subst hn <;> exact h
theorem sel_act : ∀ (p : List Nat) (x : AV) (v : Value) (g : Tag) (n : Nat) (off : Nat), VR G w x v → (AV.sel x p).tagOff = some (g, off) → g.names n = true → G.act n
  | [], x, v, g, n, off, h, ht, hn => by
    cases x <;> simp only [AV.sel, AV.tagOff] at ht <;> cases ht
    · simp only [VR] at h
      rcases h with ⟨b', o', cap, rfl, hat, _⟩ | ⟨_, _, hv⟩
      · exact at_act hn hat
      · exact void_act hn hv
    · simp only [VR] at h; obtain ⟨b', o', _, hat, _⟩ := h; exact at_act hn hat
    · simp only [VR] at h; obtain ⟨b', o', _, hat, _⟩ := h; exact at_act hn hat
    · simp only [VR] at h
      rcases h.2 with ⟨b', o', cap, rfl, hat, _⟩ | ⟨_, _, hv⟩
      · exact at_act hn hat
      · exact void_act hn hv
  | j :: q, x, v, g, n, off, h, ht, hn => by
    have list : ∀ (cells : List AV) (vs : List Value), VL G w cells vs → (AV.sel (cells.getD j .any) q).tagOff = some (g, off) → G.act n := by
      intro cells vs hv ht
      cases hj : cells[j]? with
      | none => simp only [List.getD, hj, Option.getD_none, sel_any] at ht; cases ht
      | some y =>
        simp only [List.getD, hj, Option.getD_some] at ht
        obtain ⟨u, _, hy⟩ := vl_get hv hj
        exact sel_act q y u g n off hy ht hn
    cases x with
    | bx g' cells =>
      simp only [VR] at h
      obtain ⟨b', o', rfl, hat, hc⟩ := h
      simp only [AV.sel] at ht
      cases hj : cells[j]? with
      | none => simp only [List.getD, hj, Option.getD_none, sel_any] at ht; cases ht
      | some y =>
        simp only [List.getD, hj, Option.getD_some] at ht
        obtain ⟨u, _, hy⟩ := cl_get hc hj
        exact sel_act q y u g n off hy ht hn
    | agg cells => simp only [VR] at h; obtain ⟨vs, rfl, hv⟩ := h; simp only [AV.sel] at ht; exact list cells _ hv ht
    | tup cells => simp only [VR] at h; obtain ⟨vs, rfl, hv⟩ := h; simp only [AV.sel] at ht; exact list cells _ hv ht
    | fn f cells => simp only [VR] at h; obtain ⟨vs, rfl, hv⟩ := h; simp only [AV.sel] at ht; exact list cells _ hv ht
    | ad g' idx y =>
      simp only [VR] at h
      obtain ⟨b', o', rfl, hat, u, hu, hy⟩ := h
      cases j with
      | zero => simp only [AV.sel] at ht; exact sel_act q y u g n off hy ht hn
      | succ j => simp [AV.sel, AV.tagOff] at ht
    | _ => simp [AV.sel, AV.tagOff] at ht

mutual
theorem back_ok (hs : SimG C G w) {π : List Nat → Option (Nat × Nat)} (hI : ∀ b, G'.imm b → G.imm b ∨ w.heap.size ≤ b) (hπ : G'.π = π) {d : Nat} {xs : List AV} {vs : Array Value}
    (hpi : ∀ p, π p = inHeap w (addr w p (.tuple vs))) (hxs : VR G w (.tup xs) (.tuple vs)) (hfree : ∀ n, n ∈ callNames d → AV.hasL n xs = false ∨ True) :
    ∀ (r : AV) (v : Value), (r.parFree = true ∨ ∀ n, n ∈ callNames d → AV.hasL n xs = false) → VR G' w' r v → VR (G.called G' d w.heap.size) w' (AV.back d xs r) v
  | .any, v, _, _ => by simp [AV.back, VR]
  | .b c, v, _, h => by simpa [AV.back, VR] using h
  | .i k c, v, _, h => by simpa [AV.back, VR] using h
  | .f k c, v, _, h => by simpa [AV.back, VR] using h
  | .c k c c', v, _, h => by simpa [AV.back, VR] using h
  | .bx .nil cells, v, _, h => by simp [AV.back, VR]
  | .bx .imm cells, v, _, h => by simp [AV.back, VR]
  | .bx .ro cells, v, _, h => by simp [AV.back, VR]
  | .bx (.par p) cells, v, _, h => by simp [AV.back, VR]
  | .bx (.row _ _) cells, v, _, h => by simp [AV.back, VR]
  | .bx (.own j) cells, v, hf, h => by
    simp only [AV.back]
    by_cases hj : j < 8
    · simp only [hj, if_true]
      simp only [VR] at h ⊢
      have hm : 8 * d + j ∈ callNames d := by rw [mem_callNames]; omega
      have hsub : 8 * d + j - 8 * d = j := by omega
      obtain ⟨b, o, rfl, ⟨ha, hb⟩, hc⟩ := h
      exact ⟨b, o, rfl, ⟨by simp only [Gh.called, if_pos hm, hsub]; exact ha, by simp only [Gh.called, if_pos hm, hsub]; exact hb⟩,
        backC_ok hs hI hπ hpi hxs hfree cells b o (by simpa [AV.parFree] using hf) hc⟩
    · simp [hj, VR]
  | .sl .ro off ys, v, _, h => by simp [AV.back, VR]
  | .ad g i x, v, _, h => by simp [AV.back, VR]
  | .fn f cells, v, _, h => by simp [AV.back, VR]
  | .agg cells, v, hf, h => by
    simp only [VR] at h
    obtain ⟨us, rfl, hv⟩ := h
    simp only [AV.back, VR]
    exact ⟨us, rfl, backL_ok hs hI hπ hpi hxs hfree cells us.toList (by simpa [AV.parFree] using hf) hv⟩
  | .tup cells, v, hf, h => by
    simp only [VR] at h
    obtain ⟨us, rfl, hv⟩ := h
    simp only [AV.back, VR]
    exact ⟨us, rfl, backL_ok hs hI hπ hpi hxs hfree cells us.toList (by simpa [AV.parFree] using hf) hv⟩
  | .sl .nil off ys, v, _, h => by
    simp only [AV.back, VR] at h ⊢
    exact SRow.mono ⟨fun _ _ h => h.elim, fun h => h⟩ (fun _ _ _ h => Cont.ok.mono (keeps_called hI) h) h
  | .sl .imm off ys, v, _, h => by
    simp only [AV.back, VR] at h ⊢
    exact SRow.mono (keeps_called hI) (fun _ _ _ h => Cont.ok.mono (keeps_called hI) h) h
  | .sl (.own j) off ys, v, _, h => by
    simp only [AV.back]
    by_cases hj : j < 8
    · simp only [hj, if_true]
      simp only [VR] at h ⊢
      have hm : 8 * d + j ∈ callNames d := by rw [mem_callNames]; omega
      have hsub : 8 * d + j - 8 * d = j := by omega
      rcases h with ⟨b, o, cap, rfl, ⟨ha, hb⟩, hn, hmx, hc, hsp⟩ | ⟨hn, ha, hv⟩
      · refine .inl ⟨b, o, cap, rfl, ⟨by simp only [Gh.called, if_pos hm, hsub]; exact ha, by simp only [Gh.called, if_pos hm, hsub]; exact hb⟩, hn, hmx, fun i hi => ?_, hsp⟩
        obtain ⟨u, hu, hok⟩ := hc i hi
        exact ⟨u, hu, Cont.ok.mono (keeps_called hI) hok⟩
      · refine .inr ⟨hn, ha, ?_⟩
        show (Gh.called G G' d w.heap.size).act (8 * d + j)
        simp only [Gh.called, if_pos hm, hsub]; exact hv
    · simp [hj, VR]
  | .sl (.row _ _) off ys, v, _, h => by simp [AV.back, VR]
  | .na _ _ _ _ _, v, _, h => by simp [AV.back, VR]
  | .nw j lo k xss hh, v, _, h => by
    simp only [AV.back]
    by_cases hj : j < 8
    · simp only [hj, if_true]
      simp only [VR] at h ⊢
      have hm : 8 * d + j ∈ callNames d := by rw [mem_callNames]; omega
      have hsub : 8 * d + j - 8 * d = j := by omega
      have hβ : (Gh.called G G' d w.heap.size).β (8 * d + j) = G'.β j := by simp only [Gh.called, if_pos hm, hsub]
      have hact : ∀ {p : Prop}, (p ↔ G'.act j) → (p → (Gh.called G G' d w.heap.size).act (8 * d + j)) := by
        intro p hp h; simp only [Gh.called, if_pos hm, hsub]; exact hp.1 h
      refine ⟨by rw [hβ]; exact h.1, ?_⟩
      have row : ∀ i u, NRow G' w' j lo k xss hh i u → NRow (Gh.called G G' d w.heap.size) w' (8 * d + j) lo k xss hh i u := by
        intro i u h
        rcases h with h | ⟨b, o, cap, rfl, ⟨ha, hb⟩, hn, hmx, hc, hsp⟩ | ⟨hn, ha, hv⟩
        · exact .inl h
        · exact .inr (.inl ⟨b, o, cap, rfl, ⟨hact Iff.rfl ha, by rw [hβ]; exact hb⟩, hn, hmx, hc, hsp⟩)
        · exact .inr (.inr ⟨hn, ha, hact (p := G'.act j) Iff.rfl hv⟩)
      rcases h.2 with ⟨b, o, cap, rfl, ⟨ha, hb⟩, hn, hmx, hc, hsp⟩ | ⟨hn, ha, hv⟩
      · refine .inl ⟨b, o, cap, rfl, ⟨hact Iff.rfl ha, by rw [hβ]; exact hb⟩, hn, hmx, fun i hi => ?_, hsp⟩
        obtain ⟨u, hu, hok⟩ := hc i hi
        exact ⟨u, hu, row i u hok⟩
      · exact .inr ⟨hn, ha, hact (p := G'.act j) Iff.rfl hv⟩
    · simp [hj, VR]
  | .sl (.par p) off ys, v, hf, h => by
    have hfx : ∀ n, n ∈ callNames d → AV.hasL n xs = false := by
      rcases hf with hf | hf
      · simp [AV.parFree] at hf
      · exact hf
    simp only [AV.back]
    split
    · rename_i g o hsel
      have hkeep : ∀ n, g.names n = true → n ∉ callNames d := by
        intro n hg hn
        have := sel_has p (.tup xs) g o hsel n hg
        simp only [AV.has] at this
        rw [hfx n hn] at this; cases this
      simp only [VR] at h ⊢
      rcases h with ⟨b, o1, cap, rfl, hb, hn, hmx, hc, hsp⟩ | ⟨hn, ha, hv⟩
      · have hb' : π p = some (b, o1) := by rw [← hπ]; exact hb
        rw [hpi p] at hb'
        have haddr : addr w p (.tuple vs) = some (b, o1) := by
          unfold inHeap at hb'
          split at hb'
          · split at hb' <;> cases hb'; assumption
          · cases hb'
        obtain ⟨o2, hat, rfl⟩ := sel_ok hs p (.tup xs) (.tuple vs) b o1 g o hxs haddr hsel
        refine .inl ⟨b, o2, cap, by rw [Nat.add_assoc], ?_, hn, hmx, fun i hi => ?_, fun i hi => ?_⟩
        · cases g with
          | nil => exact hat.elim
          | imm => exact .inl hat
          | ro => rcases hat with h | h; exact .inl (.inl h); exact .inr h
          | par q => exact hat
          | own n =>
            have hk := hkeep n (by simp [Tag.names])
            exact ⟨by simp only [Gh.called, if_neg hk]; exact hat.1, by simp only [Gh.called, if_neg hk]; exact hat.2⟩
          | row n i =>
            have hk := hkeep n (by simp [Tag.names])
            exact ⟨by simp only [Gh.called, if_neg hk]; exact hat.1, by simp only [Gh.called, if_neg hk]; exact hat.2⟩
        · obtain ⟨u, hu, hok⟩ := hc i hi
          exact ⟨u, by rw [← Nat.add_assoc o2 o off]; exact hu, Cont.ok.mono (keeps_called hI) hok⟩
        · rw [← Nat.add_assoc o2 o off]; exact hsp i hi
      · refine .inr ⟨hn, ha, ?_⟩
        cases g with
        | nil => trivial
        | imm => trivial
        | ro => trivial
        | par q => trivial
        | own n =>
          show (Gh.called G G' d w.heap.size).act n
          simp only [Gh.called, if_neg (hkeep n (by simp [Tag.names]))]
          exact sel_act p (.tup xs) (.tuple vs) _ n o hxs hsel (by simp [Tag.names])
        | row n i =>
          show (Gh.called G G' d w.heap.size).act n
          simp only [Gh.called, if_neg (hkeep n (by simp [Tag.names]))]
          exact sel_act p (.tup xs) (.tuple vs) _ n o hxs hsel (by simp [Tag.names])
    · simp [VR]
theorem backL_ok (hs : SimG C G w) {π : List Nat → Option (Nat × Nat)} (hI : ∀ b, G'.imm b → G.imm b ∨ w.heap.size ≤ b) (hπ : G'.π = π) {d : Nat} {xs : List AV} {vs : Array Value}
    (hpi : ∀ p, π p = inHeap w (addr w p (.tuple vs))) (hxs : VR G w (.tup xs) (.tuple vs)) (hfree : ∀ n, n ∈ callNames d → AV.hasL n xs = false ∨ True) :
    ∀ (rs : List AV) (us : List Value), (AV.parFreeL rs = true ∨ ∀ n, n ∈ callNames d → AV.hasL n xs = false) → VL G' w' rs us → VL (G.called G' d w.heap.size) w' (AV.backL d xs rs) us
  | [], us, _, h => by simpa [AV.backL, VL] using h
  | r :: rs, us, hf, h => by
    simp only [VL] at h
    obtain ⟨u, us', rfl, hr, hrs⟩ := h
    simp only [AV.backL, VL]
    refine ⟨u, us', rfl, back_ok hs hI hπ hpi hxs hfree r u ?_ hr, backL_ok hs hI hπ hpi hxs hfree rs us' ?_ hrs⟩
    · rcases hf with hf | hf
      · simp only [AV.parFreeL, Bool.and_eq_true] at hf; exact .inl hf.1
      · exact .inr hf
    · rcases hf with hf | hf
      · simp only [AV.parFreeL, Bool.and_eq_true] at hf; exact .inl hf.2
      · exact .inr hf
theorem backC_ok (hs : SimG C G w) {π : List Nat → Option (Nat × Nat)} (hI : ∀ b, G'.imm b → G.imm b ∨ w.heap.size ≤ b) (hπ : G'.π = π) {d : Nat} {xs : List AV} {vs : Array Value}
    (hpi : ∀ p, π p = inHeap w (addr w p (.tuple vs))) (hxs : VR G w (.tup xs) (.tuple vs)) (hfree : ∀ n, n ∈ callNames d → AV.hasL n xs = false ∨ True) :
    ∀ (rs : List AV) (b o : Nat), (AV.parFreeL rs = true ∨ ∀ n, n ∈ callNames d → AV.hasL n xs = false) → CL G' w' b o rs → CL (G.called G' d w.heap.size) w' b o (AV.backL d xs rs)
  | [], b, o, _, h => by simp [AV.backL, CL]
  | r :: rs, b, o, hf, h => by
    simp only [CL] at h
    obtain ⟨⟨u, hu, hr⟩, hrs⟩ := h
    simp only [AV.backL, CL]
    refine ⟨⟨u, hu, back_ok hs hI hπ hpi hxs hfree r u ?_ hr⟩, backC_ok hs hI hπ hpi hxs hfree rs b (o + 1) ?_ hrs⟩
    · rcases hf with hf | hf
      · simp only [AV.parFreeL, Bool.and_eq_true] at hf; exact .inl hf.1
      · exact .inr hf
    · rcases hf with hf | hf
      · simp only [AV.parFreeL, Bool.and_eq_true] at hf; exact .inl hf.2
      · exact .inr hf
end
end
end Go.Proofs.LV
