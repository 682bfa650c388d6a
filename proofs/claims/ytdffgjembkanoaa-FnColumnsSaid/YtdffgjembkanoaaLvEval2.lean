/- Operations that make memory: variables, literals, make, append. -/
import Derived.Test.YtdffgjembkanoaaLvEval
namespace Go.Proofs.LV
open Go Go.RowKit
set_option linter.unusedVariables false
set_option linter.unusedSimpArgs false

section
variable {P : Program} {C : Ctx} {G : Gh} {w : World}

/-- cells written out in a new block -/
theorem cl_new {G : Gh} {w : World} {b : Nat} : ∀ {xs : List AV} {us pre : List Value} {o : Nat}, o = pre.length → (∀ j u, (pre ++ us)[j]? = some u → w.cell? ⟨b, j, none⟩ = some u) → VL G w xs us → CL G w b o xs
  | [], us, pre, o, ho, hc, h => by simp [CL]
  | x :: r, us, pre, o, ho, hc, h => by
    simp only [VL] at h
    obtain ⟨u, us', rfl, hx, hr⟩ := h
    simp only [CL]
    refine ⟨⟨u, hc o u (by simp [ho]), hx⟩, cl_new (us := us') (pre := pre ++ [u]) (by simp [ho]) (fun j u' hj => hc j u' (by simpa using hj)) hr⟩

theorem cell_new (w : World) (cells : Array Value) (e : TypeId) (j : Nat) (u : Value) (h : cells[j]? = some u) : (w.alloc (.cells cells e)).cell? ⟨w.heap.size, j, none⟩ = some u := by
  rw [World.cell?_alloc_at cells e _ j rfl]; exact h

/-- a new variable of cells that read as xs -/
theorem does_newVar {m : Sem Value} {d : Nat} {cells : Array Value} {xs : List AV} {t : TypeId} (hs : SimG C G w) (hr : m.run P w = .ok (.pointer (some ⟨w.heap.size, 0, none⟩)) (w.alloc (.cells cells t)))
    (hv : VL G w xs cells.toList) (hh : AV.hasL (8 * d) xs = false) : Does P C G w (do pure (.value (← m))) (.bx (.own (8 * d)) xs) [8 * d] := by
  have ok := StepOk.new hs (8 * d) cells t
  refine ⟨_, _, _, run_value hr, ok, w.heap.size, 0, rfl, ⟨.inl rfl, by simp [Gh.mk1]⟩, ?_⟩
  refine cl_new (us := cells.toList) (pre := []) rfl (fun j u hj => cell_new w cells t j u (by simpa using hj)) ?_
  -- what read as xs still does
  have hk := ok.keep (.tup xs) (.tuple cells) (by simpa [AV.has] using hh) ⟨cells, rfl, hv⟩
  obtain ⟨vs, hvs, hl⟩ := hk
  cases hvs; exact hl

theorem zeroCells_ok {G : Gh} {w : World} {t : TypeId} {z : Value} {cs : List AV} (h : zeroCellsAV P t z = some cs) : VL G w cs z.cells.toList := by
  have gen : ∀ (l : List (TypeId × Value)) (cs : List AV), allSome (l.map fun p => constAV P p.1 p.2) = some cs → VL G w cs (l.map (·.2)) := by
    intro l
    induction l with
    | nil => intro cs h; simp [allSome] at h; subst h; simp [VL]
    | cons p r ih =>
      intro cs h
      simp only [List.map_cons, allSome] at h
      cases hx : constAV P p.1 p.2 with
      | none => simp [hx, allSome] at h
      | some y =>
        simp only [hx, allSome] at h
        cases hr : allSome (r.map fun p => constAV P p.1 p.2) with
        | none => simp [hr] at h
        | some ys =>
          simp [hr] at h; subst h
          simp only [List.map_cons, VL]
          exact ⟨_, _, rfl, constAV_ok hx, ih ys hr⟩
  unfold zeroCellsAV at h
  split at h
  · split at h
    · rename_i fields _ hsz
      have := gen ((fields.toList.zip z.cells.toList).map fun p => (p.1.type, p.2)) cs (by rw [List.map_map]; exact h)
      rw [List.map_map] at this
      have e : List.map ((fun x : TypeId × Value => x.2) ∘ fun p : Field × Value => (p.1.type, p.2)) (fields.toList.zip z.cells.toList) = z.cells.toList := by
        have : ((fun x : TypeId × Value => x.2) ∘ fun p : Field × Value => (p.1.type, p.2)) = Prod.snd := rfl
        rw [this, List.map_snd_zip]
        simpa using Nat.le_of_eq hsz.symm
      rw [e] at this; exact this
    · cases h
  · cases h
  · split at h
    · have := gen (z.cells.toList.map fun v => (t, v)) cs (by rw [List.map_map]; exact h)
      rw [List.map_map] at this
      simpa [Function.comp_def] using this
    · cases h

theorem constAV_has {t : TypeId} {c : Value} {y : AV} (h : constAV P t c = some y) (n : Nat) : y.has n = false := by
  unfold constAV at h
  split at h
  · cases h; rfl
  · split at h <;> cases h; rfl
  · split at h <;> cases h; rfl
  · split at h <;> cases h; rfl
  · split at h <;> cases h; rfl
  · cases h; rfl
  · cases h

theorem zeroCells_has {t : TypeId} {z : Value} {cs : List AV} (h : zeroCellsAV P t z = some cs) (n : Nat) : AV.hasL n cs = false := by
  have gen : ∀ (l : List (TypeId × Value)) (cs : List AV), allSome (l.map fun p => constAV P p.1 p.2) = some cs → AV.hasL n cs = false := by
    intro l
    induction l with
    | nil => intro cs h; simp [allSome] at h; subst h; simp [AV.hasL]
    | cons p r ih =>
      intro cs h
      simp only [List.map_cons, allSome] at h
      cases hx : constAV P p.1 p.2 with
      | none => simp [hx, allSome] at h
      | some y =>
        simp only [hx, allSome] at h
        cases hr : allSome (r.map fun p => constAV P p.1 p.2) with
        | none => simp [hr] at h
        | some ys =>
          simp [hr] at h; subst h
          simp [AV.hasL, constAV_has hx, ih ys hr]
  unfold zeroCellsAV at h
  split at h
  · split at h
    · rename_i fields _ hsz
      exact gen ((fields.toList.zip z.cells.toList).map fun p => (p.1.type, p.2)) cs (by rw [List.map_map]; exact h)
    · cases h
  · cases h
  · split at h
    · exact gen (z.cells.toList.map fun v => (t, v)) cs (by rw [List.map_map]; exact h)
    · cases h

theorem does_alloc {e : TypeId} {i : TypeInfo} {z : Value} {cs : List AV} {d : Nat} (hs : SimG C G w) {vs : List AV} {v : AV} {ns : List Nat} {ob : Prop}
    (hi : P.info? e = some i) (hz : i.zero = some z) (hc : zeroCellsAV P e z = some cs) (he : eAlloc d cs vs = some (v, ns, ob)) :
    Does P C G w (do pure (.value (← Instr.alloc e true (.tuple #[])))) v ns := by
  unfold eAlloc at he
  split at he <;> cases he
  refine does_newVar (cells := z.cells) (t := e) hs ?_ (zeroCells_ok hc) (zeroCells_has hc _)
  simp [Instr.alloc, zeroValue, typeInfo, hi, hz, newVar, newRow]

theorem single_cells {G : Gh} {w : World} {x : AV} {u : Value} (h : x.single = true) (hx : VR G w x u) : u.cells = #[u] ∧ u.oneCell' = true := by
  cases x <;> simp only [AV.single] at h <;> try cases h
  · obtain rfl := hx; exact ⟨rfl, rfl⟩
  · obtain ⟨rfl, _⟩ := hx; exact ⟨rfl, rfl⟩
  · obtain ⟨b, rfl, _⟩ := hx; exact ⟨rfl, rfl⟩
  · obtain ⟨a, b, rfl, _⟩ := hx; exact ⟨rfl, rfl⟩
  all_goals first
    | (rcases hx with ⟨b, o, cap, rfl, _⟩ | ⟨_, ⟨a, rfl⟩, _⟩ <;> exact ⟨rfl, rfl⟩)
    | (rcases hx.2 with ⟨b, o, cap, rfl, _⟩ | ⟨_, ⟨a, rfl⟩, _⟩ <;> exact ⟨rfl, rfl⟩)
    | (obtain ⟨b, o, rfl, _⟩ := hx; exact ⟨rfl, rfl⟩)
    | (obtain ⟨_, b, o, rfl, _⟩ := hx; exact ⟨rfl, rfl⟩)
    | (obtain ⟨vs, rfl, _⟩ := hx; exact ⟨rfl, rfl⟩)

theorem does_box {e : TypeId} {x : Value} {d : Nat} (hs : SimG C G w) {vs : List AV} {v : AV} {ns : List Nat} {ob : Prop}
    (hv : VL G w vs [x]) (he : eBox d vs = some (v, ns, ob)) (hob : ob) : Does P C G w (do pure (.value (← Instr.box e x))) v ns := by
  unfold eBox at he
  split at he
  · split at he <;> cases he
    rename_i hsg
    obtain ⟨u, hu, hx⟩ := vl1 hv
    cases hu
    refine does_newVar (cells := #[x]) (t := e) hs ?_ ⟨x, [], rfl, hx, rfl⟩ (by simpa [AV.hasL] using hob)
    simp [Instr.box, newVar, newRow, (single_cells hsg hx).1]
  · cases he

theorem does_boxN {e : TypeId} {x : Value} {d : Nat} (hs : SimG C G w) {vs : List AV} {v : AV} {ns : List Nat} {ob : Prop}
    (hv : VL G w vs [x]) (he : eBoxN d vs = some (v, ns, ob)) (hob : ob) : Does P C G w (do pure (.value (← Instr.box e x))) v ns := by
  unfold eBoxN at he
  split at he <;> cases he
  obtain ⟨u, hu, hx⟩ := vl1 hv
  cases hu
  obtain ⟨cs, rfl, hl⟩ := hx
  refine does_newVar (cells := cs) (t := e) hs ?_ hl hob
  simp [Instr.box, newVar, newRow, Value.cells]

/-! ### slices -/
theorem SRow.off {G : Gh} {w : World} {off n : Nat} {E : Nat → Value → Prop} {v : Value} (h : SRow G w .imm off n E v) : SRow G w .imm 0 n E v := by
  rcases h with ⟨b, o, cap, rfl, hat, hn, hm, hc, hs⟩ | h
  · exact .inl ⟨b, o + off, cap, rfl, hat, hn, hm, hc, hs⟩
  · exact .inr h
theorem cont_of_ok {x : AV} {c c' : Cont} (h : Cont.of x c = some c') {G : Gh} {w : World} {u : Value} {us : List Value} (hx : VR G w x u) (hc : us.length = c.len ∧ ∀ j z, us[j]? = some z → c.ok G w j z) :
    (u :: us).length = c'.len ∧ ∀ j z, (u :: us)[j]? = some z → c'.ok G w j z := by
  unfold Cont.of at h
  split at h
  case h_1 => 
    split at h <;> cases h; rename_i hk; subst hk
    refine ⟨by simpa [Cont.len] using hc.1, fun j z hj => ?_⟩
    cases j with
    | zero => simp at hj; subst hj; exact hx
    | succ j => exact hc.2 j z (by simpa using hj)
  case h_2 => 
    split at h <;> cases h; rename_i hk; subst hk
    refine ⟨by simpa [Cont.len] using hc.1, fun j z hj => ?_⟩
    cases j with
    | zero => simp at hj; subst hj; exact hx
    | succ j => exact hc.2 j z (by simpa using hj)
  case h_3 => 
    cases h
    refine ⟨by simpa [Cont.len] using hc.1, fun j z hj => ?_⟩
    cases j with
    | zero => simp at hj; subst hj; exact hx
    | succ j => exact hc.2 j z (by simpa using hj)
  case h_4 => 
    split at h <;> cases h; rename_i hk; subst hk
    refine ⟨by simpa [Cont.len] using hc.1, fun j z hj => ?_⟩
    cases j with
    | zero => simp at hj; subst hj; exact hx
    | succ j => exact hc.2 j z (by simpa using hj)
  case h_5 => 
    split at h <;> cases h; rename_i hk; subst hk
    refine ⟨by simpa [Cont.len] using hc.1, fun j z hj => ?_⟩
    cases j with
    | zero =>
      simp at hj; subst hj
      simp only [VR, Cont.len] at hx
      exact SRow.off hx
    | succ j => exact hc.2 j z (by simpa using hj)
  case h_6 => cases h

theorem litOf_ok {e : Cont} (he : e.len = 0) {G : Gh} {w : World} : ∀ {xs : List AV} {c : Cont} {us : List Value}, litOf e xs = some c → VL G w xs us → us.length = c.len ∧ ∀ j z, us[j]? = some z → c.ok G w j z
  | [], c, us, h, hv => by
    simp only [litOf] at h; cases h
    simp only [VL] at hv; subst hv
    exact ⟨by simp [he], fun j z hj => by simp at hj⟩
  | x :: r, c, us, h, hv => by
    simp only [litOf] at h
    simp only [VL] at hv
    obtain ⟨u, us', rfl, hx, hr⟩ := hv
    split at h
    · rename_i c' hc'
      exact cont_of_ok h hx (litOf_ok he hc' hr)
    · cases h

/-- the content of a new block, tag own -/
theorem slice_new {G' : Gh} {w' : World} {g : Tag} {c : Cont} {b : Nat} {cells : List Value} {cap : Nat} (hat : G'.at g b 0) (hl : c.len ≤ cap) (hm : cap ≤ maxLen) (hcl : cap ≤ cells.length)
    (hc : ∀ j u, cells[j]? = some u → w'.cell? ⟨b, j, none⟩ = some u) (hok : ∀ j u, j < c.len → cells[j]? = some u → c.ok G' w' j u) :
    VR G' w' (.sl g 0 c) (.slice (some ⟨b, 0, none⟩) c.len cap) := by
  refine .inl ⟨b, 0, cap, rfl, hat, hl, hm, fun j hj => ?_, fun j hj => ?_⟩
  · have hj' : j < cells.length := by omega
    refine ⟨cells[j], ?_, hok j _ hj (by simp [hj'])⟩
    rw [show (0 : Nat) + 0 + j = j by omega]; exact hc j _ (by simp [hj'])
  · have hj' : j < cells.length := by omega
    rw [show (0 : Nat) + 0 + j = j by omega, hc j cells[j] (by simp [hj'])]; rfl

theorem slice_newE {G' : Gh} {w' : World} {g : Tag} {E : Nat → Value → Prop} {l b : Nat} {cells : List Value} {cap : Nat} (hat : G'.at g b 0) (hl : l ≤ cap) (hm : cap ≤ maxLen) (hcl : cap ≤ cells.length)
    (hc : ∀ j u, cells[j]? = some u → w'.cell? ⟨b, j, none⟩ = some u) (hok : ∀ j u, j < l → cells[j]? = some u → E j u) : SRow G' w' g 0 l E (.slice (some ⟨b, 0, none⟩) l cap) := by
  refine .inl ⟨b, 0, cap, rfl, hat, hl, hm, fun j hj => ?_, fun j hj => ?_⟩
  · have hj' : j < cells.length := by omega
    refine ⟨cells[j], ?_, hok j _ hj (by simp [hj'])⟩
    rw [show (0 : Nat) + 0 + j = j by omega]; exact hc j _ (by simp [hj'])
  · have hj' : j < cells.length := by omega
    rw [show (0 : Nat) + 0 + j = j by omega, hc j cells[j] (by simp [hj'])]; rfl

theorem fill_inOrder : ∀ (ps : List (Nat × Value)) (n : Nat) (cells : Array Value), (∀ p, p ∈ ps → p.2.cells = #[p.2]) → (∀ j p, ps[j]? = some p → p.1 = n + j) → n + ps.length = cells.size →
    ∃ out, Instr.fill (fun i => some (i * 1, 1)) cells ps = some out ∧ out.toList = cells.toList.take n ++ ps.map (·.2)
  | [], n, cells, _, _, hn => ⟨cells, rfl, by simp at hn; rw [List.take_of_length_le (by simp [hn])]; simp⟩
  | p :: r, n, cells, h1, h2, hn => by
    obtain ⟨i, v⟩ := p
    have hi : i = n := by simpa using h2 0 (i, v) rfl
    subst hi
    have hc : v.cells = #[v] := h1 (i, v) (by simp)
    have hlt : i < cells.size := by simp at hn; omega
    obtain ⟨out, ho, hout⟩ := fill_inOrder r (i + 1) (cells.setIfInBounds i v) (fun p hp => h1 p (by simp [hp])) (fun j p hj => by have := h2 (j + 1) p (by simpa using hj); omega) (by simp at hn ⊢; omega)
    refine ⟨out, ?_, ?_⟩
    · simp only [Instr.fill, hc]
      have : (#[v] : Array Value).zipIdx.foldl (fun cs (c, j) => cs.setIfInBounds (i * 1 + j) c) cells = cells.setIfInBounds i v := by simp
      rw [this]
      rw [if_neg (by simp; omega)]
      exact ho
    · rw [hout]
      simp only [List.map_cons, Array.toList_setIfInBounds]
      rw [List.take_succ_eq_append_getElem (by simpa using hlt)]
      simp [List.take_set_of_le]

theorem lits_one {c : Cont} {e : Cont} {G : Gh} {w : World} {xs : List AV} {us : List Value} (h : litOf e xs = some c) (hv : VL G w xs us) : ∀ u, u ∈ us → u.cells = #[u] := by
  induction xs generalizing c us with
  | nil => simp only [VL] at hv; subst hv; simp
  | cons x r ih =>
    simp only [VL] at hv
    obtain ⟨u, us', rfl, hx, hr⟩ := hv
    simp only [litOf] at h
    split at h
    · rename_i c' hc'
      intro z hz
      rcases List.mem_cons.1 hz with rfl | hz
      · unfold Cont.of at h
        split at h
        · obtain ⟨b, rfl, _⟩ := hx; rfl
        · obtain ⟨rfl, _⟩ := hx; rfl
        · obtain rfl := hx; rfl
        · obtain ⟨a, b, rfl, _⟩ := hx; rfl
        · rcases hx with ⟨b, o, cap, rfl, _⟩ | ⟨_, ⟨a, rfl⟩, _⟩ <;> rfl
        · cases h
      · exact ih hc' hr z hz
    · cases h

theorem sub00_len (e : Cont) : (e.sub 0 0).len = 0 := by cases e <;> simp [Cont.sub, Cont.len]

/-- a literal: a new block -/
theorem run_lit {t e : TypeId} {i : TypeInfo} {z : Value} {us : List Value} {parts : Array (Nat × Value)} (ht : P.underlying t = some (.slice e)) (hi : P.info? e = some i) (hsz : i.size = 1) (hz : i.zero = some z)
    (hn : us.length ≤ 1000) (hp : parts.toList.map (·.2) = us) (hord : ∀ (j : Nat) (p : Nat × Value), parts.toList[j]? = some p → p.1 = j) (h1 : ∀ u, u ∈ us → u.cells = #[u]) :
    ∃ cells : Array Value, cells.toList = us ∧ (Instr.buildSlice t us.length parts).run P w = .ok (.slice (some ⟨w.heap.size, 0, none⟩) us.length us.length) (w.alloc (.cells cells e)) := by
  have hps : parts.toList.length = us.length := by rw [← hp]; simp
  by_cases h0 : us.length = 0
  · have hu : us = [] := List.eq_nil_of_length_eq_zero h0
    subst hu
    have hpe : parts.toList = [] := List.eq_nil_of_length_eq_zero (by simpa using hps)
    refine ⟨#[], rfl, ?_⟩
    simp [Instr.buildSlice, run_underlying ht, sizeOf, typeInfo, hi, hpe, Instr.fill, newRow, Array.range_zero']
  · obtain ⟨out, ho, hout⟩ := fill_inOrder parts.toList 0 ((Array.range (us.length * 1)).map (z.cells[· % z.cells.size]!)) (fun p hp' => h1 p.2 (by rw [← hp]; exact List.mem_map.2 ⟨p, hp', rfl⟩))
      (fun j p hj => by simpa using hord j p hj) (by simp [hps])
    refine ⟨out, by rw [hout, hp]; simp, ?_⟩
    have := run_buildSlice (P := P) w t e us.length parts out i z ht hi hz (by rw [hsz]; omega) (by rw [hsz]; omega) (by rw [hsz]; exact ho)
    exact this

theorem does_lit {t e : TypeId} {i : TypeInfo} {z : Value} {us : List Value} {parts : Array (Nat × Value)} {d : Nat} {own : Bool} {c : Cont} (hs : SimG C G w) {vs : List AV} {v : AV} {ns : List Nat} {ob : Prop}
    (ht : P.underlying t = some (.slice e)) (hi : P.info? e = some i) (hsz : i.size = 1) (hz : i.zero = some z) (hn : us.length ≤ 1000) (hp : parts.toList.map (·.2) = us) (hord : ∀ (j : Nat) (p : Nat × Value), parts.toList[j]? = some p → p.1 = j) (hc0 : c.len = 0)
    (hv : VL G w vs us) (he : eLit d own c vs = some (v, ns, ob)) : Does P C G w (do pure (.value (← Instr.buildSlice t us.length parts))) v ns := by
  unfold eLit at he
  split at he
  · split at he <;> cases he
    simp only [VL] at hv
    subst hv
    obtain ⟨cells, hcells, hrun⟩ := run_lit (P := P) (w := w) (us := []) ht hi hsz hz hn hp hord (by simp)
    exact ⟨_, _, _, run_value hrun, StepOk.new hs (8 * d) cells e, by simp [Gh.mk1], .inr ⟨rfl, ⟨_, rfl⟩, .inl rfl⟩⟩
  split at he <;> cases he
  rename_i c' hc'
  obtain ⟨cells, hcells, hrun⟩ := run_lit (P := P) (w := w) ht hi hsz hz hn hp hord (lits_one hc' hv)
  obtain ⟨hlen, hok⟩ := litOf_ok hc0 hc' hv
  have hmono : ∀ G', StepOk C G w G' (w.alloc (.cells cells e)) (bif own then [8 * d] else []) → (∀ b, G.imm b → G'.imm b) → ∀ j u, j < c'.len → us[j]? = some u → c'.ok G' (w.alloc (.cells cells e)) j u := by
    intro G' ok himm j u hj hu
    exact Cont.ok.mono ⟨fun b o h => ⟨himm b h, heap_alloc_old w _ b (hs.imms b h).1⟩, fun h => h⟩ (hok j u hu)
  cases own
  · have ok := StepOk.newI hs cells e
    refine ⟨_, _, _, run_value hrun, ok, ?_⟩
    have := slice_new (G' := G.mkI w.heap.size) (w' := w.alloc (.cells cells e)) (g := .imm) (c := c') (b := w.heap.size) (cells := us) (cap := us.length) (.inl rfl) (by omega) (by unfold maxLen; omega) (Nat.le_refl _)
      (fun j u hj => cell_new w cells e j u (by rw [← hcells] at hj; simpa using hj)) (hmono _ ok (fun b h => .inr h))
    rw [hlen] at this ⊢; exact this
  · have ok := StepOk.new hs (8 * d) cells e
    refine ⟨_, _, _, run_value hrun, ok, ?_⟩
    have := slice_new (G' := G.mk1 (8 * d) w.heap.size 0) (w' := w.alloc (.cells cells e)) (g := .own (8 * d)) (c := c') (b := w.heap.size) (cells := us) (cap := us.length) ⟨.inl rfl, by simp [Gh.mk1]⟩ (by omega) (by unfold maxLen; omega) (Nat.le_refl _)
      (fun j u hj => cell_new w cells e j u (by rw [← hcells] at hj; simpa using hj)) (hmono _ ok (fun b h => h))
    rw [hlen] at this ⊢; exact this

theorem does_lit0 {t e : TypeId} {i : TypeInfo} {z : Value} {parts : Array (Nat × Value)} {c : Cont} (hs : SimG C G w) {vs : List AV} {v : AV} {ns : List Nat} {ob : Prop}
    (ht : P.underlying t = some (.slice e)) (hi : P.info? e = some i) (hsz : i.size = 1) (hz : i.zero = some z) (hp : parts.toList.map (·.2) = [])
    (he : eNilsl c vs = some (v, ns, ob)) : Does P C G w (do pure (.value (← Instr.buildSlice t 0 parts))) v ns := by
  unfold eNilsl at he
  split at he <;> cases he
  have hp0 : parts.toList = [] := by simpa using hp
  obtain ⟨cells, hcells, hrun⟩ := run_lit (P := P) (w := w) (us := []) ht hi hsz hz (by simp) hp (fun j p hj => by rw [hp0] at hj; simp at hj) (by simp)
  exact ⟨_, _, _, run_value hrun, StepOk.newI hs cells e, .inr ⟨sub00_len c, ⟨_, rfl⟩, trivial⟩⟩

theorem does_nilsl {c : Cont} {o : Sem Next} (ho : o = pure (.value (.slice none 0 0))) (hs : SimG C G w) {vs : List AV} {v : AV} {ns : List Nat} {ob : Prop} (he : eNilsl c vs = some (v, ns, ob)) :
    Does P C G w o v ns := by
  unfold eNilsl at he
  split at he <;> cases he
  subst ho
  exact ⟨.slice none 0 0, w, G, rfl, StepOk.same (Same.rfl' w) hs [], .inr ⟨sub00_len c, ⟨none, rfl⟩, trivial⟩⟩

theorem rep_ok {n : Nat} {z : AV} {c : Cont} (h : Cont.rep n z = some c) {G : Gh} {w : World} {u : Value} (hz : VR G w z u) : c.len = n ∧ ∀ j, j < n → c.ok G w j u := by
  unfold Cont.rep at h
  split at h <;> cases h
  · refine ⟨by simp [Cont.len], fun j hj => ?_⟩
    simp only [Cont.ok, List.getD, List.getElem?_replicate, hj, if_true, Option.getD_some]; exact hz
  · refine ⟨by simp [Cont.len], fun j hj => ?_⟩
    simp only [Cont.ok, List.getD, List.getElem?_replicate, hj, if_true, Option.getD_some]; exact hz
  · refine ⟨by simp [Cont.len], fun j hj => ?_⟩
    simp only [Cont.ok, List.getD, List.getElem?_replicate, hj, if_true, Option.getD_some]; exact hz
  · refine ⟨by simp [Cont.len], fun j hj => ?_⟩
    simp only [Cont.ok, List.getD, List.getElem?_replicate, hj, if_true, Option.getD_some]; exact hz

theorem does_mksl {t e : TypeId} {i : TypeInfo} {zv : Value} {x y : Value} {d : Nat} {z : AV} (hs : SimG C G w) {vs : List AV} {v : AV} {ns : List Nat} {ob : Prop}
    (ht : P.underlying t = some (.slice e)) (hi : P.info? e = some i) (hsz : i.size = 1) (hz : i.zero = some zv) (hzc : zv.cells.size = 1) (hb : i.bytes ≤ 64) (hzz : constAV P e zv = some z)
    (hv : VL G w vs [x, y]) (he : eMksl d z vs = some (v, ns, ob)) (hob : ob) : Does P C G w (do pure (.value (← Instr.makeSlice t x y))) v ns := by
  unfold eMksl at he
  split at he
  · rename_i k1 n k2 m
    obtain ⟨u1, u2, hu, ⟨rfl, _⟩, ⟨rfl, _⟩⟩ := vl2 hv
    cases hu
    have hob' : n = m ∧ 0 ≤ n ∧ n ≤ 4294967296 := by
      split at he
      · cases he; exact hob
      · split at he <;> cases he; exact hob
    obtain ⟨rfl, h0, hmax⟩ := hob'
    have hbn : (i.bytes : Int) * n ≤ 281474976710656 := by
      have : (i.bytes : Int) * n ≤ 64 * 4294967296 := Int.mul_le_mul (by omega) hmax h0 (by omega)
      omega
    have hr := run_make (P := P) w t e i zv ht hi hz k1 k2 n n h0 (Int.le_refl _) hbn (by omega)
    have hzv : VR G (w.alloc (.cells (madeCells zv.cells (n.toNat * i.size)) e)) z zv := constAV_ok hzz
    have hcell : zv.cells = #[zv] := by
      unfold constAV at hzz; split at hzz <;> first | rfl | cases hzz
    have ok := StepOk.new hs (8 * d) (madeCells zv.cells (n.toNat * i.size)) e
    have hmade : ∀ (j : Nat) (u : Value), (madeCells zv.cells (n.toNat * i.size))[j]? = some u → u = zv := by
      intro j u hj
      simp only [madeCells, hcell, hsz, Nat.mul_one] at hj
      simp at hj
      obtain ⟨q, _, hj⟩ := hj
      rw [← hj]
      simp [Nat.mod_one]
    split at he
    · cases he
      rename_i k
      have hnil : zv = .slice none 0 0 := by
        unfold constAV at hzz
        split at hzz
        case h_5 => rfl
        all_goals first | cases hzz | ((repeat' split at hzz) <;> cases hzz)
      refine ⟨_, _, _, run_value hr, ok, by simp [Gh.mk1], ?_⟩
      have := slice_newE (G' := G.mk1 (8 * d) w.heap.size 0) (w' := w.alloc (.cells (madeCells zv.cells (n.toNat * i.size)) e)) (g := .own (8 * d)) (l := (List.replicate n.toNat ([] : List Nat)).length) (b := w.heap.size) (cells := (madeCells zv.cells (n.toNat * i.size)).toList) (cap := n.toNat)
        (E := NRow (G.mk1 (8 * d) w.heap.size 0) (w.alloc (.cells (madeCells zv.cells (n.toNat * i.size)) e)) (8 * d) 0 k (List.replicate n.toNat []) none)
        ⟨.inl rfl, by simp [Gh.mk1]⟩ (by simp) (by unfold maxLen; omega) (by simp [size_madeCells, hsz])
        (fun j u hj => cell_new w _ e j u (by simpa using hj)) (fun j u hj hu => .inr (.inr ⟨by
          rw [List.length_replicate] at hj
          simp [List.getD, hj], ⟨none, by
            rw [hmade j u (by simpa using hu), hnil]⟩, .inl rfl⟩))
      simpa using this
    split at he <;> cases he
    rename_i c hc
    obtain ⟨hl, hok⟩ := rep_ok hc (G := G.mk1 (8 * d) w.heap.size 0) (w := w.alloc (.cells (madeCells zv.cells (n.toNat * i.size)) e)) (u := zv) (constAV_ok hzz)
    refine ⟨_, _, _, run_value hr, ok, ?_⟩
    have := slice_new (G' := G.mk1 (8 * d) w.heap.size 0) (w' := w.alloc (.cells (madeCells zv.cells (n.toNat * i.size)) e)) (g := .own (8 * d)) (c := c) (b := w.heap.size) (cells := (madeCells zv.cells (n.toNat * i.size)).toList) (cap := n.toNat)
      ⟨.inl rfl, by simp [Gh.mk1]⟩ (by omega) (by unfold maxLen; omega) (by simp [size_madeCells, hsz])
      (fun j u hj => cell_new w _ e j u (by simpa using hj)) (fun j u hj hu => by rw [hmade j u (by simpa using hu)]; exact hok j (by omega))
    rw [hl] at this; exact this
  · cases he

theorem app_ok {xs ys c : Cont} (h : Cont.app xs ys = some c) {G : Gh} {w : World} : c.len = xs.len + ys.len ∧ (∀ j u, j < xs.len → xs.ok G w j u → c.ok G w j u) ∧ (∀ j u, j < ys.len → ys.ok G w j u → c.ok G w (xs.len + j) u) := by
  have gd : ∀ {α : Type} (a b : List α) (d : α) (j : Nat), (j < a.length → (a ++ b).getD j d = a.getD j d) ∧ ((a ++ b).getD (a.length + j) d = b.getD j d) := by
    intro α a b d j
    refine ⟨fun hj => by simp [List.getD, List.getElem?_append_left hj], ?_⟩
    simp [List.getD, List.getElem?_append_right (Nat.le_add_right a.length j)]
  unfold Cont.app at h
  split at h
  case h_6 => cases h
  case h_3 =>
    cases h
    refine ⟨by simp [Cont.len], fun j u hj hx => ?_, fun j u hj hx => ?_⟩
    · simp only [Cont.ok, Cont.len] at *; rw [(gd _ _ _ j).1 hj]; exact hx
    · simp only [Cont.ok, Cont.len] at *; rw [(gd _ _ _ j).2]; exact hx
  all_goals
    split at h <;> cases h
    rename_i hk; subst hk
    refine ⟨by simp [Cont.len], fun j u hj hx => ?_, fun j u hj hx => ?_⟩
    · simp only [Cont.ok, Cont.len] at *; rw [(gd _ _ _ j).1 hj]; exact hx
    · simp only [Cont.ok, Cont.len] at *; rw [(gd _ _ _ j).2]; exact hx

theorem ok_one {c : Cont} {G : Gh} {w : World} {j : Nat} {u : Value} (h : c.ok G w j u) : u.oneCell' = true := by
  cases c with
  | f k xs => obtain ⟨b, rfl, _⟩ := h; rfl
  | i k xs => obtain ⟨rfl, _⟩ := h; rfl
  | b xs => obtain rfl := h; rfl
  | c k xs => obtain ⟨a, b, rfl, _⟩ := h; rfl
  | ff k xs => rcases h with ⟨b, o, cap, rfl, _⟩ | ⟨_, ⟨a, rfl⟩, _⟩ <;> rfl

/-- the elements of a slice, as a list of values -/
theorem srow_list {G : Gh} {w : World} {g : Tag} {off n : Nat} {E : Nat → Value → Prop} {v : Value} (h : SRow G w g off n E v) :
    ∃ us : List Value, us.length = n ∧ (∀ j u, us[j]? = some u → E j u) ∧
      ((∃ b o cap, v = .slice (some ⟨b, o + off, none⟩) n cap ∧ G.at g b o ∧ n ≤ cap ∧ cap ≤ maxLen ∧ (∀ j u, us[j]? = some u → w.cell? ⟨b, o + off + j, none⟩ = some u) ∧ (∀ j, j < cap → (w.cell? ⟨b, o + off + j, none⟩).isSome = true)) ∨
       (n = 0 ∧ ∃ a, v = .slice a 0 0)) := by
  rcases h with ⟨b, o, cap, rfl, hat, hn, hm, hc, hs⟩ | ⟨hn, ha, hv⟩
  · have key : ∀ k, k ≤ n → ∃ us : List Value, us.length = k ∧ ∀ j u, us[j]? = some u → E j u ∧ w.cell? ⟨b, o + off + j, none⟩ = some u := by
      intro k
      induction k with
      | zero => intro _; exact ⟨[], rfl, fun j u h => by simp at h⟩
      | succ k ih =>
        intro hk
        obtain ⟨us, hl, hu⟩ := ih (by omega)
        obtain ⟨u, hcell, he⟩ := hc k (by omega)
        refine ⟨us ++ [u], by simp [hl], fun j z hj => ?_⟩
        rcases Nat.lt_or_ge j k with hlt | hge
        · rw [List.getElem?_append_left (by omega)] at hj; exact hu j z hj
        · rw [List.getElem?_append_right (by omega)] at hj
          have hj0 : j - us.length = 0 := by
            rcases Nat.eq_zero_or_pos (j - us.length) with h0 | h0
            · exact h0
            · rw [List.getElem?_eq_none (by simp; omega)] at hj; cases hj
          have : j = k := by omega
          subst this
          rw [hj0] at hj; simp at hj; subst hj
          exact ⟨he, hcell⟩
    obtain ⟨us, hl, hu⟩ := key n (Nat.le_refl _)
    exact ⟨us, hl, fun j u h => (hu j u h).1, .inl ⟨b, o, cap, rfl, hat, hn, hm, fun j u h => (hu j u h).2, hs⟩⟩
  · exact ⟨[], by simp [hn], fun j u h => by simp at h, .inr ⟨hn, ha⟩⟩

theorem run_append_in {t ty e : TypeId} {i : TypeInfo} (ht : P.underlying t = some (.slice e)) (hi : P.info? e = some i) (h1 : i.size = 1) {b o sLen sCap m c : Nat} {a : Option Addr} {news : List Value}
    (hl : news.length = m) (hnews : (m = 0) ∨ ∃ b' o', a = some ⟨b', o', none⟩ ∧ ∀ j u, news[j]? = some u → w.cell? ⟨b', o' + j, none⟩ = some u) (hroom : sLen + m ≤ sCap)
    (hthere : ∀ j, j < m → (w.cell? ⟨b, o + sLen + j, none⟩).isSome = true ∧ w.frozen? ⟨b, o + sLen + j, none⟩ = false) (hone : ∀ u, u ∈ news → u.oneCell' = true) :
    (Builtin.append_ #[t, t] ty #[.slice (some ⟨b, o, none⟩) sLen sCap, .slice a m c]).run P w = .ok (.slice (some ⟨b, o, none⟩) (sLen + m) sCap) (w.setCells b (o + sLen) news) := by
  have hst := run_storeCells_cells (P := P) b (o + sLen) news 0 w (fun j hj => by simpa using (hthere j (by omega)).1) (fun j hj => by simpa using (hthere j (by omega)).2) hone
  have hf : (Builtin.firstCells 1 m (.slice a m c)).run P w = .ok news.toArray w := by
    rcases hnews with h0 | ⟨b', o', rfl, hc⟩
    · subst h0
      have : news = [] := List.eq_nil_of_length_eq_zero hl
      subst this
      cases a <;> simp [Builtin.firstCells, loadCells, loadCellsFrom]
    · exact run_firstCells_some w 1 m ⟨b', o', none⟩ m c news (by simpa using hl) (fun j v hj => by rw [Addr.add_mid]; exact hc j v hj)
  simp only [Nat.add_zero] at hst
  simp [Builtin.append_, run_underlying ht, sizeOf, typeInfo, hi, h1, Builtin.lenOf, hroom, hf, Addr.add_mid, hst]

theorem run_append_new {t ty e : TypeId} {i : TypeInfo} {z : Value} (ht : P.underlying t = some (.slice e)) (hi : P.info? e = some i) (h1 : i.size = 1) (hz : i.zero = some z) (hb : i.bytes ≤ 64)
    {sLen sCap m c : Nat} {a s : Option Addr} {olds news : List Value} (hlo : olds.length = sLen) (holds : (sLen = 0) ∨ ∃ b' o', s = some ⟨b', o', none⟩ ∧ ∀ j u, olds[j]? = some u → w.cell? ⟨b', o' + j, none⟩ = some u)
    (hl : news.length = m) (hnews : (m = 0) ∨ ∃ b' o', a = some ⟨b', o', none⟩ ∧ ∀ j u, news[j]? = some u → w.cell? ⟨b', o' + j, none⟩ = some u) (hroom : ¬ sLen + m ≤ sCap) (hmax : sLen + m ≤ 4294967296) :
    (Builtin.append_ #[t, t] ty #[.slice s sLen sCap, .slice a m c]).run P w =
      .ok (.slice (some ⟨w.heap.size, 0, none⟩) (sLen + m) (grownCap w (sLen + m) sCap e)) (w.drew.alloc (.cells (olds.toArray ++ news.toArray ++ Builtin.zeroCells z.cells (grownCap w (sLen + m) sCap e - (sLen + m))) e)) := by
  have hd : ∀ (x : Addr), w.drew.cell? x = w.cell? x := fun _ => rfl
  have hf : (Builtin.firstCells 1 m (.slice a m c)).run P w.drew = .ok news.toArray w.drew := by
    rcases hnews with h0 | ⟨b', o', rfl, hc⟩
    · subst h0
      have : news = [] := List.eq_nil_of_length_eq_zero hl
      subst this
      cases a <;> simp [Builtin.firstCells, loadCells, loadCellsFrom]
    · exact run_firstCells_some w.drew 1 m ⟨b', o', none⟩ m c news (by simpa using hl) (fun j v hj => by rw [Addr.add_mid, hd]; exact hc j v hj)
  have hfo : (Builtin.firstCells 1 sLen (.slice s sLen sCap)).run P w.drew = .ok olds.toArray w.drew := by
    rcases holds with h0 | ⟨b', o', rfl, hc⟩
    · subst h0
      have : olds = [] := List.eq_nil_of_length_eq_zero hlo
      subst this
      cases s <;> simp [Builtin.firstCells, loadCells, loadCellsFrom]
    · exact run_firstCells_some w.drew 1 sLen ⟨b', o', none⟩ sLen sCap olds (by simpa using hlo) (fun j v hj => by rw [Addr.add_mid, hd]; exact hc j v hj)
  have h63 : ¬ (9223372036854775807 < ((sLen : Int) + (m : Int))) := by omega
  have h48 : ¬ (281474976710656 < Builtin.nextslicecap (sLen + m) sCap * i.bytes) := by
    have := nextslicecap_le (need := sLen + m) (old := sCap) (by omega)
    have h2 : Builtin.nextslicecap (sLen + m) sCap * i.bytes ≤ (2 * (sLen + m)) * 64 := Nat.mul_le_mul this hb
    omega
  simp [Builtin.append_, run_underlying ht, sizeOf, typeInfo, zeroValue, hi, hz, h1, Builtin.lenOf, hroom, h63, h48, Question.forced, hf, hfo, newRow, grownCap]
  congr 2
  apply Array.ext'
  simp [List.append_assoc]

theorem setCells_other (b : Nat) : ∀ (vs : List Value) (o : Nat) (w : World) (k : Nat), k ≠ b → (w.setCells b o vs).heap[k]? = w.heap[k]?
  | [], _, _, _, _ => rfl
  | v :: r, o, w, k, hk => by rw [World.setCells, setCells_other b r (o + 1) _ k hk, Below.heap_setCell _ _ _ _ hk]
theorem setCells_row (b : Nat) : ∀ (vs : List Value) (o : Nat) (w : World) (cells : Array Value) (e : TypeId), w.heap[b]? = some (.cells cells e (0, 0)) → ∃ cells', (w.setCells b o vs).heap[b]? = some (.cells cells' e (0, 0)) ∧ cells'.size = cells.size
  | [], _, w, cells, e, h => ⟨cells, h, rfl⟩
  | v :: r, o, w, cells, e, h => by
    rw [World.setCells]
    obtain ⟨c', h', hs'⟩ := setCells_row b r (o + 1) (w.setCell ⟨b, o, none⟩ v) (cells.setIfInBounds o v) e (by
      simp only [World.setCell, Array.getElem?_modify, if_true, h, Option.map_some]
      rfl)
    exact ⟨c', h', by rw [hs']; simp⟩
theorem setCells_rest (b : Nat) : ∀ (vs : List Value) (o : Nat) (w : World), (w.setCells b o vs).heap.size = w.heap.size ∧ (w.setCells b o vs).os = w.os ∧ (w.setCells b o vs).tape = w.tape ∧ (w.setCells b o vs).output = w.output
  | [], _, w => ⟨rfl, rfl, rfl, rfl⟩
  | v :: r, o, w => by
    rw [World.setCells]
    have := setCells_rest b r (o + 1) (w.setCell ⟨b, o, none⟩ v)
    refine ⟨this.1.trans (by simp [World.setCell]), this.2.1, this.2.2.1, this.2.2.2⟩

theorem StepOk.after {C : Ctx} {G G1 G2 : Gh} {w w1 w2 : World} {ns : List Nat} (h : Same w w1) (h2 : StepOk C G w1 G2 w2 ns) : StepOk C G w G2 w2 ns :=
  ⟨h2.g, fun x v hx hv => h2.keep x v hx (VR.same h hv), h2.fix⟩
theorem StepOk.then {C : Ctx} {G G1 G2 : Gh} {w w1 w2 : World} {ns : List Nat} (h : StepOk C G w G1 w1 ns) (h2 : StepOk C G1 w1 G2 w2 ns) : StepOk C G w G2 w2 ns :=
  ⟨h2.g, fun x v hx hv => h2.keep x v hx (h.keep x v hx hv), fun n hn => ⟨(h2.fix n hn).1.trans (h.fix n hn).1, fun ha => (h2.fix n hn).2 ((h.fix n hn).2 ha)⟩⟩

theorem SRow.map {G : Gh} {w : World} {g : Tag} {off n : Nat} {E E' : Nat → Value → Prop} {v : Value} (hE : ∀ j u, j < n → E j u → E' j u) (h : SRow G w g off n E v) : SRow G w g off n E' v :=
  SRow.mono ⟨fun _ _ h => ⟨h, rfl⟩, fun h => h⟩ hE h
set_option maxHeartbeats 800000 in
/-- an append to an object of one's own, whatever its cells read as -/
theorem app_gen {t ty e : TypeId} {i : TypeInfo} {z : Value} (ht : P.underlying t = some (.slice e)) (hi : P.info? e = some i) (h1 : i.size = 1) (hz : i.zero = some z) (hzc : z.cells.size = 1) (hb : i.bytes ≤ 64)
    {x : Value} {n lx ly : Nat} {E : Nat → Value → Prop} (hs : SimG C G w) (hx : SRow G w (.own n) 0 lx E x) {news : List Value} {a : Option Addr} {m' : Nat} (hnl : news.length = ly)
    (hnews : (ly = 0) ∨ ∃ b' o', a = some ⟨b', o', none⟩ ∧ ∀ j u, news[j]? = some u → w.cell? ⟨b', o' + j, none⟩ = some u) (hnE : ∀ j u, news[j]? = some u → E (lx + j) u) (hone : ∀ u, u ∈ news → u.oneCell' = true) (hob : lx + ly ≤ 4294967296) :
    ∃ u w' G', (do pure (.value (← Builtin.append_ #[t, t] ty #[x, .slice a ly m'])) : Sem Next).run P w = .ok (.value u) w' ∧ Grown C G w G' w' n ∧ SRow G' w' (.own n) 0 (lx + ly) E u := by
  obtain ⟨olds, hol, hook, hox⟩ := srow_list hx
  have grow : ∀ (s : Option Addr) (sCap : Nat), G.act n → ((lx = 0) ∨ ∃ b' o', s = some ⟨b', o', none⟩ ∧ ∀ j u, olds[j]? = some u → w.cell? ⟨b', o' + j, none⟩ = some u) → ¬ lx + ly ≤ sCap →
      ∃ u w' G', (do pure (.value (← Builtin.append_ #[t, t] ty #[.slice s lx sCap, .slice a ly m'])) : Sem Next).run P w = .ok (.value u) w' ∧ Grown C G w G' w' n ∧ SRow G' w' (.own n) 0 (lx + ly) E u := by
    intro s sCap hact holds hroom
    have hr := run_append_new (P := P) (w := w) (ty := ty) (m := ly) (c := m') (a := a) ht hi h1 hz hb hol holds hnl hnews hroom hob
    have hcap : lx + ly ≤ grownCap w (lx + ly) sCap e ∧ grownCap w (lx + ly) sCap e ≤ maxLen := by
      simp only [grownCap, Question.cut]
      have : w.tape w.drawn (.appendCap (lx + ly) sCap e) % (2 ^ 63 - (lx + ly)) < 2 ^ 63 - (lx + ly) := Nat.mod_lt _ (by omega)
      unfold maxLen
      omega
    generalize hq : grownCap w (lx + ly) sCap e = q at *
    have ok : Grown C G w (G.mkG n w.drew.heap.size) (w.drew.alloc (.cells (olds.toArray ++ news.toArray ++ Builtin.zeroCells z.cells (q - (lx + ly))) e)) n :=
      Grown.after (w1 := w.drew) ⟨_, rfl⟩ (Grown.new (hs.same ⟨_, rfl⟩) hact _ e)
    refine ⟨_, _, _, run_value hr, ok, ?_⟩
    have hzl : (Builtin.zeroCells z.cells (q - (lx + ly))).size = q - (lx + ly) := by simp [Builtin.zeroCells, hzc]
    have hpre : ∀ j u, j < lx + ly → (olds ++ news)[j]? = some u → E j u := by
      intro j u hj hu
      rcases Nat.lt_or_ge j lx with hlt | hge
      · rw [List.getElem?_append_left (by omega)] at hu; exact hook j u hu
      · rw [List.getElem?_append_right (by omega)] at hu
        have := hnE (j - olds.length) u hu
        rwa [hol, show lx + (j - lx) = j by omega] at this
    exact slice_newE (G' := G.mkG n w.drew.heap.size) (w' := w.drew.alloc (.cells (olds.toArray ++ news.toArray ++ Builtin.zeroCells z.cells (q - (lx + ly))) e)) (g := .own n) (b := w.drew.heap.size)
      (cells := (olds.toArray ++ news.toArray ++ Builtin.zeroCells z.cells (q - (lx + ly))).toList) (cap := q) ⟨hact, by simp [Gh.mkG]⟩ (by omega) hcap.2 (by simp [hzl, hol, hnl]; omega)
      (fun j u hj => cell_new w.drew _ e j u (by rw [Array.getElem?_toList] at hj; exact hj)) (fun j u hj hu => hpre j u (by omega) (by
        simp only [Array.toList_append] at hu
        rw [List.getElem?_append_left (by simp; omega)] at hu
        simpa using hu))
  have nothing : ∀ (s : Option Addr), lx = 0 → ly = 0 → G.act n → ∃ u w' G', (do pure (.value (← Builtin.append_ #[t, t] ty #[.slice s 0 0, .slice a ly m'])) : Sem Next).run P w = .ok (.value u) w' ∧ Grown C G w G' w' n ∧ SRow G' w' (.own n) 0 (lx + ly) E u := by
    intro s hx0 hy0 hact
    have hf : (Builtin.firstCells 1 0 (.slice a 0 m')).run P w = .ok #[] w := by cases a <;> simp [Builtin.firstCells, loadCells, loadCellsFrom]
    have hr : (Builtin.append_ #[t, t] ty #[.slice s 0 0, .slice a ly m']).run P w = .ok (.slice s 0 0) w := by
      rw [hy0]
      cases s <;> simp [Builtin.append_, run_underlying ht, sizeOf, typeInfo, hi, h1, Builtin.lenOf, hf, storeCells]
    exact ⟨_, w, G, run_value hr, Grown.same hs n, .inr ⟨by omega, ⟨s, rfl⟩, hact⟩⟩
  rcases hx with ⟨b, o, cap, rfl, ⟨hact, hβ⟩, hn, hm, hcells, hsp⟩ | ⟨hx0, ⟨s, rfl⟩, hact⟩
  · have holds : ∀ j u, olds[j]? = some u → w.cell? ⟨b, o + 0 + j, none⟩ = some u := by
      rcases hox with ⟨b', o', cap', hxx, _, _, _, hcell, _⟩ | ⟨h0, _⟩
      · simp only [Value.slice.injEq, Option.some.injEq, Addr.mk.injEq, and_true] at hxx
        obtain ⟨⟨rfl, h2⟩, _⟩ := hxx
        intro j u hj
        rw [show o + 0 + j = o' + 0 + j by omega]; exact hcell j u hj
      · intro j u hj
        have : olds = [] := List.eq_nil_of_length_eq_zero (by omega)
        subst this; simp at hj
    by_cases hroom : lx + ly ≤ cap
    · obtain ⟨hni, hbm, crow, erow, hrow⟩ := hs.names n 0 b o hact hβ
      have hfro : ∀ j, w.frozen? ⟨b, j, none⟩ = false := fun j => frozen_of_row w b j crow erow hrow
      have hr := run_append_in (P := P) (w := w) (ty := ty) ht hi h1 (b := b) (o := o + 0) (sLen := lx) (sCap := cap) (c := m') hnl hnews hroom
        (fun j hj => ⟨by rw [Nat.add_assoc]; exact hsp (lx + j) (by omega), hfro _⟩) hone
      obtain ⟨r1, r2, r3, r4⟩ := setCells_rest b news (o + 0 + lx) w
      have ok : Grown C G w G (w.setCells b (o + 0 + lx) news) n :=
        (Wrt.of hs hact hβ r2 r3 r4 r1 (fun k hk => setCells_other b news _ w k hk) (setCells_row b news _ w)).grown
      refine ⟨_, _, _, run_value hr, ok, ?_⟩
      have hin := World.cell?_setCells_in b news (o + 0 + lx) w (fun j hj => by rw [Nat.add_assoc]; exact hsp (lx + j) (by omega))
      refine .inl ⟨b, o, cap, rfl, ⟨hact, hβ⟩, by omega, hm, fun j hj => ?_, fun j hj => ?_⟩
      · rcases Nat.lt_or_ge j lx with hlt | hge
        · obtain ⟨u, hu, hok⟩ := hcells j hlt
          refine ⟨u, ?_, hok⟩
          rw [World.cell?_setCells_out b news (o + 0 + lx) w ⟨b, o + 0 + j, none⟩ (fun _ _ => .inl (by simp; omega))]
          exact hu
        · have hjn : j - lx < news.length := by omega
          refine ⟨news[j - lx], ?_, ?_⟩
          · have := hin (j - lx) hjn
            rwa [show o + 0 + lx + (j - lx) = o + 0 + j by omega] at this
          · have := hnE (j - lx) news[j - lx] (by simp [hjn])
            rwa [show lx + (j - lx) = j by omega] at this
      · rcases Nat.lt_or_ge j lx with hlt | hge
        · rw [World.cell?_setCells_out b news (o + 0 + lx) w ⟨b, o + 0 + j, none⟩ (fun _ _ => .inl (by simp; omega))]
          exact hsp j hj
        · rcases Nat.lt_or_ge j (lx + ly) with hlt2 | hge2
          · have := hin (j - lx) (by omega)
            rw [show o + 0 + lx + (j - lx) = o + 0 + j by omega] at this
            rw [this]; rfl
          · rw [World.cell?_setCells_out b news (o + 0 + lx) w ⟨b, o + 0 + j, none⟩ (fun _ _ => .inr (by simp; omega))]
            exact hsp j hj
    · exact grow _ cap hact (.inr ⟨b, o + 0, rfl, holds⟩) hroom
  · by_cases hy0 : ly = 0
    · exact nothing s hx0 hy0 hact
    · have hg := grow s 0 hact (.inl hx0) (by omega)
      rw [hx0] at hg ⊢; exact hg
/-- the cells of what is appended -/
theorem srow_news {g : Tag} {off l : Nat} {E : Nat → Value → Prop} {y : Value} (hy : SRow G w g off l E y) :
    ∃ (news : List Value) (a : Option Addr) (m' : Nat), news.length = l ∧ y = .slice a l m' ∧ ((l = 0) ∨ ∃ b' o', a = some ⟨b', o', none⟩ ∧ ∀ j u, news[j]? = some u → w.cell? ⟨b', o' + j, none⟩ = some u) ∧ ∀ j u, news[j]? = some u → E j u := by
  obtain ⟨news, hnl, hnok, hny⟩ := srow_list hy
  rcases hny with ⟨b, o, cap, rfl, _, _, _, hcell, _⟩ | ⟨h0, a, rfl⟩
  · exact ⟨news, _, _, hnl, rfl, .inr ⟨b, o + off, rfl, hcell⟩, hnok⟩
  · exact ⟨news, a, 0, hnl, by rw [h0], .inl h0, hnok⟩
theorem does_app_own {t ty e : TypeId} {i : TypeInfo} {z : Value} (ht : P.underlying t = some (.slice e)) (hi : P.info? e = some i) (h1 : i.size = 1) (hz : i.zero = some z) (hzc : z.cells.size = 1) (hb : i.bytes ≤ 64)
    {x y : Value} {n off : Nat} {g : Tag} {xs ys c : Cont} (hs : SimG C G w) (hv : VL G w [.sl (.own n) 0 xs, .sl g off ys] [x, y]) (hc : Cont.app xs ys = some c) (hob : xs.len + ys.len ≤ 4294967296) :
    Does P C G w (do pure (.value (← Builtin.append_ #[t, t] ty #[x, y]))) (.sl (.own n) 0 c) [n] := by
  obtain ⟨u1, u2, hu, hx, hy⟩ := vl2 hv
  cases hu
  obtain ⟨hcl, hc1, hc2⟩ := app_ok hc (G := G) (w := w)
  obtain ⟨news, a, m', hnl, rfl, hnews, hnok⟩ := srow_news hy
  obtain ⟨u, w', G', hr, gr, hu⟩ := app_gen (P := P) (ty := ty) (E := Cont.ok G w c) ht hi h1 hz hzc hb hs (SRow.map (fun j u hj h => hc1 j u hj h) hx) hnl hnews
    (fun j u hj => hc2 j u (by have := (List.getElem?_eq_some_iff.1 hj).1; omega) (hnok j u hj)) (fun u hu => by
      obtain ⟨j, hj, rfl⟩ := List.getElem_of_mem hu
      exact ok_one (hnok j news[j] (by simp [hj]))) hob
  exact ⟨u, w', G', hr, gr.ok, by rw [← hcl] at hu; exact SRow.map (fun j u _ h => Cont.ok.mono gr.imm h) hu⟩
theorem does_app {t ty e : TypeId} {i : TypeInfo} {z : Value} (ht : P.underlying t = some (.slice e)) (hi : P.info? e = some i) (h1 : i.size = 1) (hz : i.zero = some z) (hzc : z.cells.size = 1) (hb : i.bytes ≤ 64)
    {x y : Value} (hs : SimG C G w) {vs : List AV} {v : AV} {ns : List Nat} {ob : Prop} {d : Nat}
    (hv : VL G w vs [x, y]) (he : eApp d vs = some (v, ns, ob)) (hob : ob) : Does P C G w (do pure (.value (← Builtin.append_ #[t, t] ty #[x, y]))) v ns := by
  unfold eApp at he
  split at he
  · split at he
    rotate_left
    · cases he
    split at he <;> cases he
    rename_i hc
    exact does_app_own ht hi h1 hz hzc hb hs hv hc hob
  · rename_i off0 xs0 g off ys
    split at he
    rotate_left
    · cases he
    rename_i hcond
    obtain ⟨hfr, hd⟩ := hcond
    split at he <;> cases he
    rename_i c hc
    obtain ⟨u1, u2, hu, hx, hy⟩ := vl2 hv
    cases hu
    have ok0 := StepOk.new0 hs (8 * d)
    have hx0 : ∃ a, x = .slice a 0 0 := by
      rcases hx with ⟨_, _, _, _, h, _⟩ | ⟨_, h, _⟩
      · exact h.elim
      · exact h
    obtain ⟨a, rfl⟩ := hx0
    have h0 : (xs0.sub 0 0).len = 0 := sub00_len xs0
    obtain ⟨u, w', G', hr, ok, hvr⟩ := does_app_own (ty := ty) (x := .slice a 0 0) (y := y) (n := 8 * d) (xs := xs0.sub 0 0) ht hi h1 hz hzc hb ok0.g
      ⟨_, _, rfl, .inr ⟨h0, ⟨a, rfl⟩, .inl rfl⟩, _, _, rfl, ok0.keep _ _ (fun n hn => by simp only [List.mem_singleton] at hn; subst hn; exact hfr) hy, rfl⟩ hc (by omega)
    exact ⟨u, w', G', hr, ok0.then ok, hvr⟩
  · cases he
end
end Go.Proofs.LV
