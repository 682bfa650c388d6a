/- One step of a region, whatever it is; a region in the order of the text. -/
import Derived.Test.YtdffgjembkanoaaLvCall
namespace Go.Proofs.LV
open Go Go.RowKit
set_option linter.unusedVariables false
set_option linter.unusedSimpArgs false

section
variable {P : Program} {C : Ctx} {G G' : Gh} {w w' : World} {σ σ' : Env} {a : Act}

theorem call_sound {VC : FuncId → List AV → AV → Prop} (hVC : ∀ f args r, VC f args r → VCall P f args r) (hs : SimG C G w) {d : Nat} {r : AV} {f : FuncId} {xs : List AV} {vs : Array Value} (hv : VL G w xs vs.toList)
    {v : AV} {ns : List Nat} {ob : Prop} (he : evalCall VC d r f xs = some (v, ns, ob)) (hob : ob) :
    CallsF P f vs w fun e w' => ∃ u G2, e = .returned u ∧ StepOk C G w G2 w' ns ∧ VR G2 w' v u := by
  unfold evalCall at he
  split at he <;> cases he
  rename_i hcond
  obtain ⟨hM, hk, hfree⟩ := hcond
  obtain ⟨hruns⟩ := (hVC f _ r hob).N hM
  have hxs : VR G w (.tup xs) (.tuple vs) := ⟨vs, rfl, hv⟩
  have hview := viewL_ok hs (π := fun p => inHeap w (addr w p (.tuple vs))) xs [] 0 vs.toList hv hk (fun i q u hu => by
    have : vs[i]? = some u := by simpa using hu
    simp [addr, this])
  refine (hruns w G.imm (fun p => inHeap w (addr w p (.tuple vs))) vs (fun b h => (hs.imms b h).1) (fun p b o h => ?_) hview).mono ?_
  · unfold inHeap at h
    split at h
    · split at h <;> cases h; assumption
    · cases h
  · rintro e w' ⟨u, G', rfl, hg, hr⟩
    have hπ := hg.pi
    have hI : ∀ b, G'.imm b → G.imm b ∨ w.heap.size ≤ b := hg.imI
    refine ⟨u, _, rfl, called_ok hs (I := G.imm) hg hI d, back_ok hs hI hπ (fun p => rfl) hxs (fun _ _ => .inr trivial) r u ?_ hr⟩
    rcases Bool.or_eq_true_iff.1 hfree with h | h
    · exact .inl h
    · refine .inr fun n hn => ?_
      have := (List.all_eq_true.1 h) n hn
      simpa using this

theorem resK_store {o : Oper} {xs : List (TypeId × Operand)} (h : resK P o = some (.store, xs)) : ∃ t x y i, o.op = .store t x y ∧ P.info? t = some i ∧ isRowT P t = false ∧ i.size = 1 ∧ xs = [(t, x), (t, y)] := by
  obtain ⟨dst, op, type, pos, after, guard⟩ := o
  cases op <;> simp only [resK] at h
  case store t x y =>
    split at h
    · rename_i i hi
      split at h
      · cases h
      · split at h <;> cases h
        exact ⟨t, x, y, i, rfl, hi, by simpa using ‹¬ isRowT P t = true›, by assumption, rfl⟩
    · cases h
  all_goals
    (repeat' split at h) <;> first | (simp at h; done) | (have := resEql_kd h; simp at this; done) | (simp_all; done)
theorem resK_storeN {o : Oper} {xs : List (TypeId × Operand)} {n : Nat} (h : resK P o = some (.storeN n, xs)) : ∃ t x y i, o.op = .store t x y ∧ P.info? t = some i ∧ isRowT P t = true ∧ i.size = n ∧ xs = [(t, x), (t, y)] := by
  obtain ⟨dst, op, type, pos, after, guard⟩ := o
  cases op <;> simp only [resK] at h
  case store t x y =>
    split at h
    · rename_i i hi
      split at h
      · cases h
        exact ⟨t, x, y, i, rfl, hi, by assumption, rfl, rfl⟩
      · split at h <;> cases h
    · cases h
  all_goals
    (repeat' split at h) <;> first | (simp at h; done) | (have := resEql_kd h; simp at this; done) | (simp_all; done)
theorem resK_call {o : Oper} {xs : List (TypeId × Operand)} {f : FuncId} (h : resK P o = some (.call f, xs)) : ∃ c : Call, o.op = .call c ∧ c.callee = .value (.func f) ∧ xs = c.argTypes.toList.zip c.args.toList ∧ c.argTypes.size = c.args.size := by
  obtain ⟨dst, op, type, pos, after, guard⟩ := o
  cases op <;> simp only [resK] at h
  case call c =>
    split at h
    · rename_i g xs' hc
      split at h <;> simp at h
      obtain ⟨rfl, rfl⟩ := h
      exact ⟨c, rfl, hc, rfl, by assumption⟩
    all_goals
      (repeat' split at h) <;> first | (simp at h; done) | (have := resEql_kd h; simp at this; done) | (simp_all; done)
  all_goals
    (repeat' split at h) <;> first | (simp at h; done) | (have := resEql_kd h; simp at this; done) | (simp_all; done)
theorem resK_callv {o : Oper} {xs : List (TypeId × Operand)} (h : resK P o = some (.callv, xs)) : ∃ (c : Call) (t : Tmp), o.op = .call c ∧ c.callee = .value (.tmp t) ∧ xs = (0, .tmp t) :: c.argTypes.toList.zip c.args.toList ∧ c.argTypes.size = c.args.size := by
  obtain ⟨dst, op, type, pos, after, guard⟩ := o
  cases op <;> simp only [resK] at h
  case call c =>
    split at h
    · (repeat' split at h) <;> first | (simp at h; done) | (have := resEql_kd h; simp at this; done) | (simp_all; done)
    · rename_i xs' t hc
      split at h <;> simp at h
      subst h
      exact ⟨c, t, rfl, hc, rfl, by assumption⟩
    all_goals
      (repeat' split at h) <;> first | (simp at h; done) | (have := resEql_kd h; simp at this; done) | (simp_all; done)
  all_goals
    (repeat' split at h) <;> first | (simp at h; done) | (have := resEql_kd h; simp at this; done) | (simp_all; done)

theorem zip_eval {ts : Array TypeId} {args : Array Operand} (h : ts.size = args.size) : ((ts.toList.zip args.toList).map fun p => a.eval p.2) = (args.map a.eval).toList := by
  have : (fun p : TypeId × Operand => a.eval p.2) = a.eval ∘ Prod.snd := rfl
  rw [this, ← List.map_map, List.map_snd_zip (by simp [h])]
  simp

/-- one cell is stored -/
theorem store_sound {n b o j : Nat} {x old : AV} {u : Value} {t : TypeId} {i : TypeInfo} (hs : SimG C G w) (hi : P.info? t = some i) (h1 : i.size = 1) (ha : G.act n) (hb : G.β n = some (b, o))
    (hcell : (w.cell? ⟨b, o + j, none⟩).isSome = true) (hx : VR G w x u) (hsg : x.single = true) (hn : x.has n = false) :
    (Instr.storeAt t (.pointer (some ⟨b, o + j, none⟩)) u).run P w = .ok () (w.setCell ⟨b, o + j, none⟩ u) ∧ SimG C G (w.setCell ⟨b, o + j, none⟩ u) ∧ Wrote G w (w.setCell ⟨b, o + j, none⟩ u) n b o j x u := by
  obtain ⟨hni, hbm, crow, erow, hrow⟩ := hs.names n b o ha hb
  have hfro : w.frozen? ⟨b, o + j, none⟩ = false := frozen_of_row w b (o + j) crow erow hrow
  obtain ⟨hc1, hc2⟩ := single_cells hsg hx
  have hst := run_storeCells_cells (P := P) b (o + j) [u] 0 w (fun k hk => by simp at hk; subst hk; simpa using hcell) (fun k hk => by simp at hk; subst hk; simpa using hfro) (fun z hz => by simp at hz; subst hz; exact hc2)
  have hset : w.setCells b (o + j + 0) [u] = w.setCell ⟨b, o + j, none⟩ u := rfl
  have hother : ∀ k, k ≠ b → (w.setCell ⟨b, o + j, none⟩ u).heap[k]? = w.heap[k]? := fun k hk => Below.heap_setCell w ⟨b, o + j, none⟩ u k hk
  have hrest := setCells_rest b [u] (o + j) w
  have hrow' := setCells_row b [u] (o + j) w
  have ok : StepOk C G w G (w.setCell ⟨b, o + j, none⟩ u) [n] := StepOk.write hs ha hb rfl rfl rfl hrest.1 hother hrow'
  refine ⟨?_, ok.g, ⟨ha, hb, ?_, ?_, ?_, ok.keep x u (fun m hm => by simp at hm; subst hm; exact hn) hx⟩⟩
  · rw [hset] at hst
    simp [Instr.storeAt, Instr.sureAddr, storeVar, hc1, sizeOf, typeInfo, hi, h1, hst]
  · intro g hg
    refine ⟨fun b' o' h => ⟨h, hother b' (fun e => ?_)⟩, fun h => h⟩
    subst e
    cases g with
    | nil => exact h.elim
    | imm => exact hni h
    | ro =>
      rcases h with h | ⟨p, o2, h⟩
      · exact hni h
      · have := hs.pars p b' o2 h
        rcases hbm with h' | h'
        · omega
        · exact this.2 h'
    | par p =>
      have := hs.pars p b' o' h
      rcases hbm with h' | h'
      · omega
      · exact this.2 h'
    | own m =>
      have hmn : m ≠ n := fun e => by simp [Tag.names, e] at hg
      exact hs.dist m n b' o' b' o h.1 ha hmn h.2 hb rfl
  · intro hsome
    obtain ⟨z, hz⟩ := Option.isSome_iff_exists.1 hsome
    exact World.cell?_setCell_same _ _ _ hz
  · intro i hi
    exact World.cell?_setCell_other _ _ _ _ (by simp; omega)

theorem resOp_inv {ops : Array Oper} {o : Oper} {s : VStep} (h : resOp P ops o = some s) : ∃ xs, resF P ops o = some (s.kd, xs) ∧ allSome (xs.map (resX P)) = some s.opds ∧ resG ops o = some s.guard ∧ s.dst = o.dst ∧ s.dst.getD 0 < 99999 := by
  unfold resOp at h
  split at h
  · split at h
    · split at h <;> cases h
      rename_i kd xs hk _ _ opds g ho hg hlt
      exact ⟨xs, hk, ho, hg, rfl, hlt⟩
    · cases h
  · cases h

theorem wp_of_run {o : Oper} {K : Act → World → Prop} {Q : Exit → Act → World → Prop} {v : Value} (hr : (execOp a.eval o).run P w = .ok (.value v) w') (h : K (a.put o.dst v) w') : o.wp P a w K Q := by
  unfold Oper.wp; rw [hr]; exact h
theorem wp_of_skip {o : Oper} {K : Act → World → Prop} {Q : Exit → Act → World → Prop} (hr : (execOp a.eval o).run P w = .ok .skip w') (h : K (a.put o.dst undef) w') : o.wp P a w K Q := by
  unfold Oper.wp; rw [hr]; exact h

theorem Sim.upd {n b o j : Nat} {x : AV} {u : Value} (hs : Sim C G σ a w) (hg : SimG C G w') (hw : Wrote G w w' n b o j x u) : Sim C G (Env.upd (.own n) j x σ) a w' := by
  have hl : (Env.upd (.own n) j x σ).length = σ.length := updL_len (G := G) (w := w) (w' := w') σ
  have hget : ∀ (σ : List AV) (s : Nat), (AV.updL (.own n) j x σ).getD s .any = AV.upd (.own n) j x (σ.getD s .any) := by
    intro σ
    induction σ with
    | nil => intro s; simp [AV.updL, AV.upd]
    | cons y r ih => intro s; cases s with
      | zero => simp [AV.updL]
      | succ s => simpa [AV.updL] using ih s
  refine ⟨hg, hs.defers, by rw [hl]; exact hs.size, fun s hsl => ?_, hs.hi⟩
  show VR G w' ((AV.updL (.own n) j x σ).getD s .any) _
  rw [hget]
  exact VR.upd hw _ _ (hs.ev s)

theorem hasL_all {n : Nat} : ∀ {xs : List AV}, AV.hasL n xs = false → ∀ x, x ∈ xs → x.has n = false
  | y :: r, h, x, hx => by
    simp only [AV.hasL, Bool.or_eq_false_iff] at h
    rcases List.mem_cons.1 hx with rfl | hx
    · exact h.1
    · exact hasL_all h.2 x hx

theorem storeN_sound {n b o : Nat} : ∀ (xs : List AV) (us : List Value) (j : Nat) {w : World} {σ : Env}, Sim C G σ a w → G.act n → G.β n = some (b, o) → (∀ i, i < j + xs.length → (w.cell? ⟨b, o + i, none⟩).isSome = true) →
    VL G w xs us → (∀ x, x ∈ xs → x.single = true ∧ x.has n = false) → Sim C G (σ.updN (.own n) j xs) a (w.setCells b (o + j) us)
  | [], us, j, w, σ, hs, ha, hb, hc, hv, hx => by
    simp only [VL] at hv; subst hv
    exact hs
  | x :: r, us, j, w, σ, hs, ha, hb, hc, hv, hx => by
    simp only [VL] at hv
    obtain ⟨u, us', rfl, hxu, hr⟩ := hv
    obtain ⟨h1, h2⟩ := hx x (by simp)
    obtain ⟨hni, hbm, crow, erow, hrow⟩ := hs.g.names n b o ha hb
    have hcj := hc j (by simp)
    have hother : ∀ k, k ≠ b → (w.setCell ⟨b, o + j, none⟩ u).heap[k]? = w.heap[k]? := fun k hk => Below.heap_setCell w ⟨b, o + j, none⟩ u k hk
    have hrest := setCells_rest b [u] (o + j) w
    have hrow' := setCells_row b [u] (o + j) w
    have ok : StepOk C G w G (w.setCell ⟨b, o + j, none⟩ u) [n] := StepOk.write hs.g ha hb rfl rfl rfl hrest.1 hother hrow'
    have hw : Wrote G w (w.setCell ⟨b, o + j, none⟩ u) n b o j x u := by
      refine ⟨ha, hb, fun g hg => ?_, fun hsome => ?_, fun i hi => World.cell?_setCell_other _ _ _ _ (by simp; omega), ok.keep x u (fun m hm => by simp at hm; subst hm; exact h2) hxu⟩
      · refine ⟨fun b' o' h => ⟨h, hother b' (fun e => ?_)⟩, fun h => h⟩
        subst e
        cases g with
        | nil => exact h.elim
        | imm => exact hni h
        | ro =>
          rcases h with h | ⟨p, o2, h⟩
          · exact hni h
          · have := hs.g.pars p b' o2 h
            rcases hbm with h' | h'
            · omega
            · exact this.2 h'
        | par p =>
          have := hs.g.pars p b' o' h
          rcases hbm with h' | h'
          · omega
          · exact this.2 h'
        | own m =>
          have hmn : m ≠ n := fun e => by simp [Tag.names, e] at hg
          exact hs.g.dist m n b' o' b' o h.1 ha hmn h.2 hb rfl
      · obtain ⟨z, hz⟩ := Option.isSome_iff_exists.1 hsome
        exact World.cell?_setCell_same _ _ _ hz
    have hs' := hs.upd ok.g hw
    rw [World.setCells]
    have hvl : VL G (w.setCell ⟨b, o + j, none⟩ u) r us' := by
      have hh : AV.hasL n r = false := by
        have : ∀ (l : List AV), (∀ x, x ∈ l → x.has n = false) → AV.hasL n l = false := by
          intro l hl
          induction l with
          | nil => rfl
          | cons y t ih => simp [AV.hasL, hl y (by simp), ih (fun z hz => hl z (by simp [hz]))]
        exact this r (fun z hz => (hx z (by simp [hz])).2)
      have := ok.keep (.tup r) (.tuple us'.toArray) (fun m hm => by simp at hm; subst hm; simpa [AV.has] using hh) ⟨us'.toArray, rfl, by simpa using hr⟩
      obtain ⟨vs, hvs, hl⟩ := this
      cases hvs; simpa using hl
    have := storeN_sound r us' (j + 1) hs' ha hb (fun i hi => by
      by_cases he : i = j
      · subst he; rw [World.cell?_setCell_same' _ _ _ hcj]; rfl
      · rw [World.cell?_setCell_other _ _ _ _ (by simp; omega)]; exact hc i (by simp at hi ⊢; omega)) hvl (fun z hz => hx z (by simp [hz]))
    rw [← Nat.add_assoc] at this
    exact this

theorem cl_some {b : Nat} : ∀ {xs : List AV} {o : Nat}, CL G w b o xs → ∀ i, i < xs.length → (w.cell? ⟨b, o + i, none⟩).isSome = true := by
  intro xs o h i hi
  obtain ⟨u, hu, _⟩ := cl_get (j := i) (x := xs[i]) h (by simp [hi])
  rw [hu]; rfl

set_option maxHeartbeats 1000000 in
theorem evalK_lt {d : Nat} (hd : d < 99999) {k : K} {xs : List AV} {v : AV} {ns : List Nat} {o : Prop} (he : evalK d k xs = some (v, ns, o)) : ∀ n, n ∈ ns → n < HI := by
  have h8 : ∀ n, n ∈ [8 * d] → n < HI := fun n hn => by simp at hn; subst hn; unfold HI; omega
  have h0 : ∀ n, n ∈ ([] : List Nat) → n < HI := fun n hn => by cases hn
  cases k <;> simp only [evalK] at he <;> try (cases he; done)
  case app =>
    unfold eApp at he
    split at he
    · split at he
      · split at he <;> cases he
        intro n hn; simp at hn; subst hn; assumption
      · cases he
    · split at he
      · split at he <;> cases he
        exact h8
      · cases he
    · cases he
  case arr =>
    unfold eAppn at he; split at he
    · (repeat' split at he) <;> cases he
      exact h8
    · cases he
  case lit own e => unfold eLit at he; split at he <;> cases he; cases own; exact h0; exact h8
  all_goals
    first
    | (unfold eMv at he) | (unfold ePick at he) | (unfold eBin at he) | (unfold eBinb at he) | (unfold eNot at he) | (unfold eNeg at he) | (unfold eConvI at he) | (unfold eConvF at he) | (unfold eConvC at he) | (unfold eIaddr at he) | (unfold eFaddr at he)
    | (unfold eLoad at he) | (unfold eLoadN at he) | (unfold eAlloc at he) | (unfold eBox at he) | (unfold eBoxN at he) | (unfold eNilsl at he) | (unfold eMksl at he) | (unfold eLen at he) | (unfold eSlice at he)
    | (unfold eExtract at he) | (unfold eNilck at he) | (unfold eAidx at he) | (unfold eMax at he) | (unfold eMin at he) | (unfold eCplx at he) | (unfold eRe at he) | (unfold eIm at he) | (unfold eIsnil at he) | (unfold eBuild at he) | skip
  all_goals (repeat' split at he) <;> cases he <;> first | exact h0 | exact h8
theorem callNames_lt {d : Nat} (hd : d < 99999) : ∀ n, n ∈ callNames d → n < HI := fun n hn => by rw [mem_callNames] at hn; unfold HI; omega
theorem evalCall_lt {VC : FuncId → List AV → AV → Prop} {d : Nat} (hd : d < 99999) {r : AV} {f : FuncId} {xs : List AV} {v : AV} {ns : List Nat} {o : Prop} (he : evalCall VC d r f xs = some (v, ns, o)) : ∀ n, n ∈ ns → n < HI := by
  unfold evalCall at he
  split at he <;> cases he
  exact callNames_lt hd

theorem stepW_ok {VC : FuncId → List AV → AV → Prop} (hVC : ∀ f args r, VC f args r → VCall P f args r) {ops : Array Oper} {o : Oper} {s : VStep} (hres : resOp P ops o = some s) (hs : Sim C G σ a w) {r : AV} {ob : Prop}
    (he : stepW VC s r σ = some (σ', ob)) (hob : ob) {K : Act → World → Prop} {Q : Exit → Act → World → Prop} (hK : ∀ a' w' G', Sim C G' σ' a' w' → K a' w') : o.wp P a w K Q := by
  obtain ⟨xs, hk, ho, _, hd, hlt⟩ := resOp_inv hres
  have hv := opds_ok hs xs s.opds ho
  generalize hvs : s.opds.map σ.ev = vs at hv
  unfold stepW at he
  rw [hvs] at he
  generalize hkd : s.kd = kd at hk he
  split at he
  · -- a cell
    rename_i n j old x
    split at he <;> cases he
    rename_i hsg
    obtain ⟨t, X, Y, i, hop, hi, hrow, h1, rfl⟩ := resK_store (resF_same hk (by simp) (by simp))
    obtain ⟨p, u, hpu, hp, hu⟩ := vl2 hv
    cases hpu
    obtain ⟨b, c, hpv, ⟨ha, hb⟩, z, hz, _⟩ := hp
    obtain ⟨hrun, hg, hw⟩ := store_sound (P := P) (x := x) (old := old) (u := a.eval Y) (t := t) hs.g hi h1 ha hb (by rw [hz]; rfl) hu hsg hob
    refine wp_of_skip (w' := w.setCell ⟨b, c + j, none⟩ (a.eval Y)) ?_ (hK _ _ _ ((hs.upd hg hw).forget _ _ |> fun h => by rw [hd] at *; exact h))
    have hpv' : a.eval X = .pointer (some ⟨b, c + j, none⟩) := hpv
    simp [execOp, hop, hpv', hrun]
  · rename_i n old x
    split at he <;> cases he
    rename_i hsg
    obtain ⟨t, X, Y, i, hop, hi, hrow, h1, rfl⟩ := resK_store (resF_same hk (by simp) (by simp))
    obtain ⟨p, u, hpu, hp, hu⟩ := vl2 hv
    cases hpu
    obtain ⟨b, c, hpv, ⟨ha, hb⟩, hcl⟩ := hp
    obtain ⟨hrun, hg, hw⟩ := store_sound (P := P) (x := x) (old := old) (j := 0) (u := a.eval Y) (t := t) hs.g hi h1 ha hb (cl_some hcl 0 (by simp)) hu hsg hob
    refine wp_of_skip (w' := w.setCell ⟨b, c + 0, none⟩ (a.eval Y)) ?_ (hK _ _ _ ((hs.upd hg hw).forget _ _ |> fun h => by rw [hd] at *; exact h))
    have hpv' : a.eval X = .pointer (some ⟨b, c + 0, none⟩) := hpv
    simp only [Nat.add_zero] at hpv' hrun ⊢
    simp [execOp, hop, hpv', hrun]
  · rename_i m n cells xs'
    split at he <;> cases he
    rename_i hcond
    obtain ⟨hl1, hl2, hsing⟩ := hcond
    obtain ⟨t, X, Y, i, hop, hi, hrow, hsz, rfl⟩ := resK_storeN (resF_same hk (by simp) (by simp))
    obtain ⟨p, u, hpu, hp, hu⟩ := vl2 hv
    cases hpu
    obtain ⟨b, c, hpv, ⟨ha, hb⟩, hcl⟩ := hp
    obtain ⟨us, hyv, hvl⟩ := hu
    obtain ⟨hni, hbm, crow, erow, hrow'⟩ := hs.g.names n b c ha hb
    have hall : ∀ x, x ∈ xs' → x.single = true ∧ x.has n = false := fun x hx => ⟨(List.all_eq_true.1 hsing) x hx, hasL_all hob x hx⟩
    have hus : us.toList.length = xs'.length := vl_len hvl
    have hone : ∀ z, z ∈ us.toList → z.oneCell' = true := by
      intro z hz
      obtain ⟨k, hk', rfl⟩ := List.getElem_of_mem hz
      have hkx : k < xs'.length := by omega
      obtain ⟨z', hz', hvr⟩ := vl_get (j := k) (x := xs'[k]) hvl (by simp [hkx])
      have : us.toList[k] = z' := by rw [List.getElem?_eq_getElem hk'] at hz'; exact Option.some.inj hz'
      rw [this]
      exact (single_cells (hall _ (List.getElem_mem hkx)).1 hvr).2
    have hrun := run_storeAt_mid (P := P) w b c t us (fun k hk' => ⟨cl_some hcl k (by rw [hl1, ← hl2, ← hus]; simpa using hk'), frozen_of_row w b (c + k) crow erow hrow'⟩) (by rw [hi]; simp only [Option.map_some]; rw [hsz]; congr 1; rw [← hl2, ← hus]; simp)
      (by rw [Array.all_eq_true_iff_forall_mem]; exact fun z hz => hone z (by simpa using hz))
    have hsim := storeN_sound xs' us.toList 0 hs ha hb (fun k hk' => cl_some hcl k (by omega)) hvl hall
    refine wp_of_skip (w' := w.setCells b c us.toList) ?_ (hK _ _ G ?_)
    · have hpv' : a.eval X = .pointer (some ⟨b, c, none⟩) := hpv
      have hyv' : a.eval Y = .agg us := hyv
      simp [execOp, hop, hpv', hyv', hrun]
    · rw [hd]
      exact hsim.forget _ _
  · -- a call
    rename_i f
    split at he <;> cases he
    rename_i v ns ob' hev
    obtain ⟨c, hop, hcal, rfl, hsz⟩ := resK_call (resF_same hk (by simp) (by simp))
    rw [zip_eval hsz] at hv
    rcases call_sound hVC hs.g hv hev hob with ⟨henter, hcalls⟩ | ⟨v1, w1, hval, u, G2, hu, ok, hvr⟩
    rotate_left
    · cases hu
      have hrun : (execOp a.eval o).run P w = .ok (.value v1) w1 := by
        simp [execOp, hop, resolve, hcal, Act.eval, Deferred.ofValue, invoke, hval]
      refine wp_of_run hrun ?_
      rw [← hd]
      exact hK _ _ _ (hs.after ok (evalCall_lt hlt hev) hvr s.dst)
    have hrun : (execOp a.eval o).run P w = .ok (.enter f (c.args.map a.eval)) w := by
      simp [execOp, hop, resolve, hcal, Act.eval, Deferred.ofValue, invoke, henter]
    unfold Oper.wp; rw [hrun]
    rw [Oper.upon_enter]
    refine hcalls.mono ?_
    rintro e w' ⟨u, G2, rfl, ok, hvr⟩
    rw [← hd]
    exact hK _ _ _ (hs.after ok (by first | exact evalCall_lt hlt hev | exact evalK_lt hlt hev) hvr s.dst)
  · rename_i f caps ys
    split at he <;> cases he
    rename_i v ns ob' hev
    obtain ⟨c, t, hop, hcal, rfl, hsz⟩ := resK_callv (resF_same hk (by simp) (by simp))
    simp only [List.map_cons] at hv
    rw [zip_eval hsz] at hv
    simp only [VL] at hv
    obtain ⟨fv, us, hfu, hf, hys⟩ := hv
    cases hfu
    obtain ⟨cs, hfv, hcs⟩ := hf
    have happ : ∀ (xs ys : List AV) (us vs : List Value), VL G w xs us → VL G w ys vs → VL G w (xs ++ ys) (us ++ vs) := by
      intro xs
      induction xs with
      | nil => intro ys us vs h1 h2; simp only [VL] at h1; subst h1; simpa using h2
      | cons x r ih => intro ys us vs h1 h2; simp only [VL] at h1; obtain ⟨u, us', rfl, hx, hr⟩ := h1; exact ⟨u, us' ++ vs, rfl, hx, ih ys us' vs hr h2⟩
    have hv2 : VL G w (ys ++ caps) ((c.args.map a.eval) ++ cs).toList := by simpa using happ _ _ _ _ hys hcs
    have hfv' : a.eval (.tmp t) = .func (.func f) #[] cs := hfv
    rcases call_sound hVC hs.g hv2 hev hob with ⟨henter, hcalls⟩ | ⟨v1, w1, hval, u, G2, hu, ok, hvr⟩
    rotate_left
    · cases hu
      have hrun : (execOp a.eval o).run P w = .ok (.value v1) w1 := by
        simp [execOp, hop, resolve, hcal, hfv', Deferred.ofValue, invoke, hval]
      refine wp_of_run hrun ?_
      rw [← hd]
      exact hK _ _ _ (hs.after ok (evalCall_lt hlt hev) hvr s.dst)
    have hrun : (execOp a.eval o).run P w = .ok (.enter f ((c.args.map a.eval) ++ cs)) w := by
      simp [execOp, hop, resolve, hcal, hfv', Deferred.ofValue, invoke, henter]
    unfold Oper.wp; rw [hrun]
    rw [Oper.upon_enter]
    refine hcalls.mono ?_
    rintro e w' ⟨u, G2, rfl, ok, hvr⟩
    rw [← hd]
    exact hK _ _ _ (hs.after ok (by first | exact evalCall_lt hlt hev | exact evalK_lt hlt hev) hvr s.dst)
  · rename_i kd' vs' _ _ _ _ _
    split at he <;> cases he
    rename_i v ns ob' hev
    obtain ⟨u, w', G', hrun, ok, hvr⟩ := does_opF (P := P) hs.g hk hv hev hob
    refine wp_of_run hrun ?_
    rw [← hd]
    exact hK _ _ _ (hs.after ok (by first | exact evalCall_lt hlt hev | exact evalK_lt hlt hev) hvr s.dst)
end
end Go.Proofs.LV
