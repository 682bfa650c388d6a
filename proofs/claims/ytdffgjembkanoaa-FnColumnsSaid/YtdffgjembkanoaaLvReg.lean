/- One step of a region, whatever it is; a region in the order of the text. -/
import Derived.Test.YtdffgjembkanoaaLvRows
import Derived.Laws.IdiomCopy
namespace Go.Proofs.LV
open Go Go.RowKit
set_option linter.unusedVariables false
set_option linter.unusedSimpArgs false

section
variable {P : Program} {C : Ctx} {G G' : Gh} {w w' : World} {σ σ' : Env} {a : Act}

theorem flat_ok {G G' : Gh} {w w' : World} {xs : Cont} {j : Nat} {u : Value} (hf : xs.flat = true) (h : xs.ok G w j u) : xs.ok G' w' j u := by
  cases xs with
  | ff k xs => cases hf
  | f k xs => exact h
  | i k xs => exact h
  | b xs => exact h
  | c k xs => exact h
mutual
/-- what is no read-only memory does not mind which memory is read-only -/
theorem immFree_ok {J : Nat → Prop} : ∀ (x : AV) (v : Value), x.immFree = true → VR G w x v → VR ⟨G.β, G.act, J, G.π⟩ w x v
  | .any, v, _, h => by simp [VR]
  | .b c, v, _, h => by simpa [VR] using h
  | .i k c, v, _, h => by simpa [VR] using h
  | .f k c, v, _, h => by simpa [VR] using h
  | .c k c d, v, _, h => by simpa [VR] using h
  | .bx _ _, v, hf, _ => by simp [AV.immFree] at hf
  | .ad _ _ _, v, hf, _ => by simp [AV.immFree] at hf
  | .fn _ _, v, hf, _ => by simp [AV.immFree] at hf
  | .na _ _ _ _ _, v, hf, _ => by simp [AV.immFree] at hf
  | .nw n lo k xss hh, v, hf, h => by
    simp only [VR] at h ⊢
    refine ⟨h.1, SRow.mono (G := G) (w := w) (g := .own n) ⟨fun _ _ h => ⟨h, rfl⟩, fun h => h⟩ (fun t y ht hy => ?_) h.2⟩
    rcases hy with hy | hy
    · exact .inl hy
    · exact .inr (SRow.mono (G := G) (w := w) (g := .row n (lo + t)) ⟨fun _ _ h => ⟨h, rfl⟩, fun h => h⟩ (fun _ _ _ h => h) hy)
  | .agg cells, v, hf, h => by
    simp only [VR] at h ⊢; obtain ⟨vs, rfl, hv⟩ := h
    exact ⟨vs, rfl, immFreeL_ok cells vs.toList (by simpa [AV.immFree] using hf) hv⟩
  | .tup cells, v, hf, h => by
    simp only [VR] at h ⊢; obtain ⟨vs, rfl, hv⟩ := h
    exact ⟨vs, rfl, immFreeL_ok cells vs.toList (by simpa [AV.immFree] using hf) hv⟩
  | .sl g off xs, v, hf, h => by
    have hfl : xs.flat = true := by cases xs <;> first | rfl | (cases g <;> simp [AV.immFree] at hf)
    simp only [VR] at h ⊢
    rcases h with ⟨b, o, cap, rfl, hat, hn, hm, hc, hs⟩ | ⟨hn, ha, hv⟩
    · refine .inl ⟨b, o, cap, rfl, ?_, hn, hm, fun j hj => ?_, hs⟩
      · cases g with
        | imm => cases xs <;> simp [AV.immFree] at hf
        | ro => cases xs <;> simp [AV.immFree] at hf
        | _ => exact hat
      · obtain ⟨u, hu, hok⟩ := hc j hj
        exact ⟨u, hu, flat_ok hfl hok⟩
    · exact .inr ⟨hn, ha, by cases g <;> exact hv⟩
theorem immFreeL_ok {J : Nat → Prop} : ∀ (xs : List AV) (vs : List Value), AV.immFreeL xs = true → VL G w xs vs → VL ⟨G.β, G.act, J, G.π⟩ w xs vs
  | [], vs, _, h => by simpa [VL] using h
  | x :: r, vs, hf, h => by
    simp only [VL] at h ⊢; obtain ⟨u, us, rfl, hx, hr⟩ := h
    simp only [AV.immFreeL, Bool.and_eq_true] at hf
    exact ⟨u, us, rfl, immFree_ok x u hf.1 hx, immFreeL_ok r us hf.2 hr⟩
end


theorem call_sound {VC : FuncId → List AV → AV → Prop} (hVC : ∀ f args r, VC f args r → VCall P f args r) (hs : SimG C G w) {d : Nat} {r : AV} {f : FuncId} {xs : List AV} {vs : Array Value} (hv : VL G w xs vs.toList)
    {v : AV} {ns : List Nat} {ob : Prop} (he : evalCall VC d r f xs = some (v, ns, ob)) (hob : ob) :
    CallsF P f vs w fun e w' => ∃ u G2, e = .returned u ∧ StepOk C G w G2 w' ns ∧ VR G2 w' v u := by
  unfold evalCall at he
  split at he <;> cases he
  rename_i hcond
  obtain ⟨⟨hM, hN⟩, hk, hfree⟩ := hcond
  obtain ⟨hruns⟩ := (hVC f _ r hob).N hM
  have hxs : VR G w (.tup xs) (.tuple vs) := ⟨vs, rfl, hv⟩
  have hfree' : r.parFree = true ∨ ∀ n, n ∈ callNames d → AV.hasL n xs = false := by
    rcases Bool.or_eq_true_iff.1 hfree with h | h
    · exact .inl h
    · refine .inr fun n hn => ?_
      have := (List.all_eq_true.1 h) n hn
      simpa using this
  have hin : ∀ p b o, inHeap w (addr w p (.tuple vs)) = some (b, o) → b < w.heap.size := by
    intro p b o h
    unfold inHeap at h
    split at h
    · split at h <;> cases h; assumption
    · cases h
  cases hnf : AV.nwFreeL xs with
  | true =>
    have hview := viewL_ok hs (J := G.imm) (fun _ h => h) (π := fun p => inHeap w (addr w p (.tuple vs))) xs [] 0 vs.toList hv hk (.inl hnf) (fun i q u hu => by
      have : vs[i]? = some u := by simpa using hu
      simp [addr, this])
    refine (hruns w G.imm (fun p => inHeap w (addr w p (.tuple vs))) vs (fun b h => (hs.imms b h).1) hin hview).mono ?_
    rintro e w' ⟨u, G', rfl, hg, hr⟩
    exact ⟨u, _, rfl, called_ok hs (I := G.imm) hg d, back_ok hs hg.imI hg.pi (fun p => rfl) hxs (fun _ _ => .inr trivial) r u hfree' hr⟩
  | false =>
    have hif : r.immFree = true := by rw [hnf] at hN; simpa using hN
    have hview := viewL_ok hs (J := fun b => b < w.heap.size) (fun b h => (hs.imms b h).1) (π := fun p => inHeap w (addr w p (.tuple vs))) xs [] 0 vs.toList hv hk (.inr fun _ h => h) (fun i q u hu => by
      have : vs[i]? = some u := by simpa using hu
      simp [addr, this])
    refine (hruns w (fun b => b < w.heap.size) (fun p => inHeap w (addr w p (.tuple vs))) vs (fun b h => h) hin hview).mono ?_
    rintro e w' ⟨u, G', rfl, hg, hr⟩
    have hok : StepOk C G w (G.called G' d w.heap.size) w' (callNames d) := called_ok hs hg d
    refine ⟨u, _, rfl, hok, ?_⟩
    have e : G.called ⟨G'.β, G'.act, fun b => G'.imm b ∧ (G.imm b ∨ w.heap.size ≤ b), G'.π⟩ d w.heap.size = G.called G' d w.heap.size := by
      unfold Gh.called
      congr 1
      funext b
      apply propext
      constructor
      · rintro (h | ⟨⟨h, _⟩, h2⟩)
        · exact .inl h
        · exact .inr ⟨h, h2⟩
      · rintro (h | ⟨h, h2⟩)
        · exact .inl h
        · exact .inr ⟨⟨h, .inr h2⟩, h2⟩
    have := back_ok (G' := ⟨G'.β, G'.act, fun b => G'.imm b ∧ (G.imm b ∨ w.heap.size ≤ b), G'.π⟩) (w' := w') (π := fun p => inHeap w (addr w p (.tuple vs))) (xs := xs) (vs := vs) (d := d) hs (fun b h => h.2) hg.pi (fun p => rfl) hxs (fun _ _ => .inr trivial) r u hfree' (immFree_ok r u hif hr)
    rw [e] at this
    exact this

theorem resK_store {o : Oper} {xs : List (TypeId × Operand)} (h : resK P o = some (.store, xs)) : ∃ t x y i, o.op = .store t x y ∧ P.info? t = some i ∧ isRowT P t = false ∧ i.size = 1 ∧ xs = [(t, x), (t, y)] := by
  obtain ⟨dst, op, type, pos, after, guard⟩ := o
  cases op <;> simp only [resK] at h
  case store t x y =>
    split at h
    · rename_i i hi
      split at h
      · cases h
      · split at h <;> cases h
        exact ⟨t, x, y, i, rfl, hi, by simpa using ‹¬ isRowT P t = true›, by assumption, rfl⟩
    · cases h
  all_goals
    (repeat' split at h) <;> first | (simp at h; done) | (have := resEql_kd h; simp at this; done) | (simp_all; done)
theorem resK_storeN {o : Oper} {xs : List (TypeId × Operand)} {n : Nat} (h : resK P o = some (.storeN n, xs)) : ∃ t x y i, o.op = .store t x y ∧ P.info? t = some i ∧ isRowT P t = true ∧ i.size = n ∧ xs = [(t, x), (t, y)] := by
  obtain ⟨dst, op, type, pos, after, guard⟩ := o
  cases op <;> simp only [resK] at h
  case store t x y =>
    split at h
    · rename_i i hi
      split at h
      · cases h
        exact ⟨t, x, y, i, rfl, hi, by assumption, rfl, rfl⟩
      · split at h <;> cases h
    · cases h
  all_goals
    (repeat' split at h) <;> first | (simp at h; done) | (have := resEql_kd h; simp at this; done) | (simp_all; done)
theorem resK_call {o : Oper} {xs : List (TypeId × Operand)} {f : FuncId} (h : resK P o = some (.call f, xs)) : ∃ c : Call, o.op = .call c ∧ c.callee = .value (.func f) ∧ xs = c.argTypes.toList.zip c.args.toList ∧ c.argTypes.size = c.args.size := by
  obtain ⟨dst, op, type, pos, after, guard⟩ := o
  cases op <;> simp only [resK] at h
  case call c =>
    split at h
    · rename_i g xs' hc
      split at h <;> simp at h
      obtain ⟨rfl, rfl⟩ := h
      exact ⟨c, rfl, hc, rfl, by assumption⟩
    all_goals
      (repeat' split at h) <;> first | (simp at h; done) | (have := resEql_kd h; simp at this; done) | (simp_all; done)
  all_goals
    (repeat' split at h) <;> first | (simp at h; done) | (have := resEql_kd h; simp at this; done) | (simp_all; done)
theorem resK_callv {o : Oper} {xs : List (TypeId × Operand)} (h : resK P o = some (.callv, xs)) : ∃ (c : Call) (t : Tmp), o.op = .call c ∧ c.callee = .value (.tmp t) ∧ xs = (0, .tmp t) :: c.argTypes.toList.zip c.args.toList ∧ c.argTypes.size = c.args.size := by
  obtain ⟨dst, op, type, pos, after, guard⟩ := o
  cases op <;> simp only [resK] at h
  case call c =>
    split at h
    · (repeat' split at h) <;> first | (simp at h; done) | (have := resEql_kd h; simp at this; done) | (simp_all; done)
    · rename_i xs' t hc
      split at h <;> simp at h
      subst h
      exact ⟨c, t, rfl, hc, rfl, by assumption⟩
    all_goals
      (repeat' split at h) <;> first | (simp at h; done) | (have := resEql_kd h; simp at this; done) | (simp_all; done)
  all_goals
    (repeat' split at h) <;> first | (simp at h; done) | (have := resEql_kd h; simp at this; done) | (simp_all; done)

theorem zip_eval {ts : Array TypeId} {args : Array Operand} (h : ts.size = args.size) : ((ts.toList.zip args.toList).map fun p => a.eval p.2) = (args.map a.eval).toList := by
  have : (fun p : TypeId × Operand => a.eval p.2) = a.eval ∘ Prod.snd := rfl
  rw [this, ← List.map_map, List.map_snd_zip (by simp [h])]
  simp

theorem resK_copy {o : Oper} {xs : List (TypeId × Operand)} (h : resK P o = some (.copy, xs)) : ∃ (X Y : Operand) (t u e : TypeId), o.op = .call ⟨.builtin .copy, #[X, Y], #[t, u]⟩ ∧ P.underlying t = some (.slice e) ∧ size1 P e = true ∧ xs = [(t, X), (u, Y)] := by
  obtain ⟨dst, op, type, pos, after, guard⟩ := o
  cases op <;> simp only [resK] at h
  case call c =>
    obtain ⟨callee, args, ts⟩ := c
    simp only at h
    split at h
    case h_5 =>
      rename_i x y hargs
      have ea := arr_of_list hargs; subst ea
      split at h
      · rename_i t u hts
        have et := arr_of_list hts; subst et
        split at h
        · rename_i e hte
          simp only [Option.some.injEq, Prod.mk.injEq, true_and] at h
          exact ⟨x, y, t, u, e, rfl, (sliceT_ok hte).1, (sliceT_ok hte).2, h.symm⟩
        · simp at h
      · simp at h
    all_goals (repeat' split at h) <;> simp at h
  all_goals
    (repeat' split at h) <;> first | (simp at h; done) | (have := resEql_kd h; simp at this; done) | (simp_all; done)
theorem Wrt.wrote {n b o j : Nat} {x : AV} {u : Value} (hs : SimG C G w) (ha : G.act n) (hb : G.β n 0 = some (b, o)) (hx : VR G w x u) (hn : x.has n = false) : Wrote G w (w.setCell ⟨b, o + j, none⟩ u) n b o j x u := by
  have hw := Wrt.set (j := j) hs ha hb u
  refine ⟨ha, hb, fun g hg => ?_, fun m hm => hw.kn hm, fun hsome => ?_, fun i hi => World.cell?_setCell_other _ _ _ _ (by simp; omega), hw.keep hn hx⟩
  · refine hw.keeps g fun c o' hat => ?_
    cases g with
    | nil => exact hat.elim
    | imm => exact hw.imm c hat
    | ro =>
      rcases hat with h | ⟨p, o2, h⟩
      · exact hw.imm c h
      · exact hw.par p c o2 h
    | par p => exact hw.par p c o' hat
    | own m => exact hw.own m 0 c o' hat.1 (fun e => by simp [Tag.beq, e.1] at hg) hat.2
    | row m i => exact hw.own m (i + 1) c o' hat.1 (fun e => by omega) hat.2
  · obtain ⟨z, hz⟩ := Option.isSome_iff_exists.1 hsome
    exact World.cell?_setCell_same _ _ _ hz
/-- one cell is stored -/
theorem store_sound {n b o j : Nat} {x old : AV} {u : Value} {t : TypeId} {i : TypeInfo} (hs : SimG C G w) (hi : P.info? t = some i) (h1 : i.size = 1) (ha : G.act n) (hb : G.β n 0 = some (b, o))
    (hcell : (w.cell? ⟨b, o + j, none⟩).isSome = true) (hx : VR G w x u) (hsg : x.single = true) (hn : x.has n = false) :
    (Instr.storeAt t (.pointer (some ⟨b, o + j, none⟩)) u).run P w = .ok () (w.setCell ⟨b, o + j, none⟩ u) ∧ SimG C G (w.setCell ⟨b, o + j, none⟩ u) ∧ Wrote G w (w.setCell ⟨b, o + j, none⟩ u) n b o j x u := by
  obtain ⟨hc1, hc2⟩ := single_cells hsg hx
  exact ⟨run_store1 hs hi h1 ha hb hcell hc1 hc2, (Wrt.set hs ha hb u).g, Wrt.wrote hs ha hb hx hn⟩

theorem resOp_inv {ops : Array Oper} {o : Oper} {s : VStep} (h : resOp P ops o = some s) : ∃ xs, resF P ops o = some (s.kd, xs) ∧ allSome (xs.map (resX P)) = some s.opds ∧ resG ops o = some s.guard ∧ s.dst = o.dst ∧ s.dst.getD 0 < 99999 := by
  unfold resOp at h
  split at h
  · split at h
    · split at h <;> cases h
      rename_i kd xs hk _ _ opds g ho hg hlt
      exact ⟨xs, hk, ho, hg, rfl, hlt⟩
    · cases h
  · cases h

theorem wp_of_run {o : Oper} {K : Act → World → Prop} {Q : Exit → Act → World → Prop} {v : Value} (hr : (execOp a.eval o).run P w = .ok (.value v) w') (h : K (a.put o.dst v) w') : o.wp P a w K Q := by
  unfold Oper.wp; rw [hr]; exact h
theorem wp_of_skip {o : Oper} {K : Act → World → Prop} {Q : Exit → Act → World → Prop} (hr : (execOp a.eval o).run P w = .ok .skip w') (h : K (a.put o.dst undef) w') : o.wp P a w K Q := by
  unfold Oper.wp; rw [hr]; exact h

theorem Sim.upd {n b o j : Nat} {x : AV} {u : Value} (hs : Sim C G σ a w) (hg : SimG C G w') (hw : Wrote G w w' n b o j x u) : Sim C G (Env.upd (.own n) j x σ) a w' := by
  have hl : (Env.upd (.own n) j x σ).length = σ.length := updL_len (G := G) (w := w) (w' := w') σ
  have hget : ∀ (σ : List AV) (s : Nat), (AV.updL (.own n) j x σ).getD s .any = AV.upd (.own n) j x (σ.getD s .any) := by
    intro σ
    induction σ with
    | nil => intro s; simp [AV.updL, AV.upd]
    | cons y r ih => intro s; cases s with
      | zero => simp [AV.updL]
      | succ s => simpa [AV.updL] using ih s
  refine ⟨hg, hs.defers, by rw [hl]; exact hs.size, fun s hsl => ?_, hs.hi⟩
  show VR G w' ((AV.updL (.own n) j x σ).getD s .any) _
  rw [hget]
  exact VR.upd hw _ _ (hs.ev s)

theorem hasL_all {n : Nat} : ∀ {xs : List AV}, AV.hasL n xs = false → ∀ x, x ∈ xs → x.has n = false
  | y :: r, h, x, hx => by
    simp only [AV.hasL, Bool.or_eq_false_iff] at h
    rcases List.mem_cons.1 hx with rfl | hx
    · exact h.1
    · exact hasL_all h.2 x hx

theorem storeN_sound {n b o : Nat} : ∀ (xs : List AV) (us : List Value) (j : Nat) {w : World} {σ : Env}, Sim C G σ a w → G.act n → G.β n 0 = some (b, o) → (∀ i, i < j + xs.length → (w.cell? ⟨b, o + i, none⟩).isSome = true) →
    VL G w xs us → (∀ x, x ∈ xs → x.single = true ∧ x.has n = false) → Sim C G (σ.updN (.own n) j xs) a (w.setCells b (o + j) us)
  | [], us, j, w, σ, hs, ha, hb, hc, hv, hx => by
    simp only [VL] at hv; subst hv
    exact hs
  | x :: r, us, j, w, σ, hs, ha, hb, hc, hv, hx => by
    simp only [VL] at hv
    obtain ⟨u, us', rfl, hxu, hr⟩ := hv
    obtain ⟨h1, h2⟩ := hx x (by simp)
    have hcj := hc j (by simp)
    have ok := (Wrt.set (j := j) hs.g ha hb u).ok
    have hw : Wrote G w (w.setCell ⟨b, o + j, none⟩ u) n b o j x u := Wrt.wrote hs.g ha hb hxu h2
    have hs' := hs.upd ok.g hw
    rw [World.setCells]
    have hvl : VL G (w.setCell ⟨b, o + j, none⟩ u) r us' := by
      have hh : AV.hasL n r = false := by
        have : ∀ (l : List AV), (∀ x, x ∈ l → x.has n = false) → AV.hasL n l = false := by
          intro l hl
          induction l with
          | nil => rfl
          | cons y t ih => simp [AV.hasL, hl y (by simp), ih (fun z hz => hl z (by simp [hz]))]
        exact this r (fun z hz => (hx z (by simp [hz])).2)
      have := ok.keep (.tup r) (.tuple us'.toArray) (fun m hm => by simp at hm; subst hm; simpa [AV.has] using hh) ⟨us'.toArray, rfl, by simpa using hr⟩
      obtain ⟨vs, hvs, hl⟩ := this
      cases hvs; simpa using hl
    have := storeN_sound r us' (j + 1) hs' ha hb (fun i hi => by
      by_cases he : i = j
      · subst he; rw [World.cell?_setCell_same' _ _ _ hcj]; rfl
      · rw [World.cell?_setCell_other _ _ _ _ (by simp; omega)]; exact hc i (by simp at hi ⊢; omega)) hvl (fun z hz => hx z (by simp [hz]))
    rw [← Nat.add_assoc] at this
    exact this

theorem cl_some {b : Nat} : ∀ {xs : List AV} {o : Nat}, CL G w b o xs → ∀ i, i < xs.length → (w.cell? ⟨b, o + i, none⟩).isSome = true := by
  intro xs o h i hi
  obtain ⟨u, hu, _⟩ := cl_get (j := i) (x := xs[i]) h (by simp [hi])
  rw [hu]; rfl

set_option maxHeartbeats 1000000 in
theorem evalK_lt {d : Nat} (hd : d < 99999) {k : K} {xs : List AV} {v : AV} {ns : List Nat} {o : Prop} (he : evalK d k xs = some (v, ns, o)) : ∀ n, n ∈ ns → n < HI := by
  have h8 : ∀ n, n ∈ [8 * d] → n < HI := fun n hn => by simp at hn; subst hn; unfold HI; omega
  have h0 : ∀ n, n ∈ ([] : List Nat) → n < HI := fun n hn => by cases hn
  cases k <;> simp only [evalK] at he <;> try (cases he; done)
  case app =>
    unfold eApp at he
    split at he
    · split at he
      · split at he <;> cases he
        intro n hn; simp at hn; subst hn; assumption
      · cases he
    · split at he
      · split at he <;> cases he
        exact h8
      · cases he
    · cases he
  case arr =>
    unfold eAppn at he; split at he
    · (repeat' split at he) <;> cases he
      exact h8
    · cases he
  case lit own e =>
    unfold eLit at he
    split at he
    · split at he <;> cases he
      exact h8
    · split at he <;> cases he
      cases own
      · exact h0
      · exact h8
  all_goals
    first
    | (unfold eMv at he) | (unfold ePick at he) | (unfold eBin at he) | (unfold eBinb at he) | (unfold eNot at he) | (unfold eNeg at he) | (unfold eConvI at he) | (unfold eConvF at he) | (unfold eConvC at he) | (unfold eIaddr at he) | (unfold eFaddr at he)
    | (unfold eLoad at he) | (unfold eLoadN at he) | (unfold eAlloc at he) | (unfold eBox at he) | (unfold eBoxN at he) | (unfold eNilsl at he) | (unfold eMksl at he) | (unfold eLen at he) | (unfold eSlice at he)
    | (unfold eExtract at he) | (unfold eNilck at he) | (unfold eAidx at he) | (unfold eMax at he) | (unfold eMin at he) | (unfold eCplx at he) | (unfold eRe at he) | (unfold eIm at he) | (unfold eIsnil at he) | (unfold eBuild at he) | skip
  all_goals (repeat' split at he) <;> cases he <;> first | exact h0 | exact h8
theorem callNames_lt {d : Nat} (hd : d < 99999) : ∀ n, n ∈ callNames d → n < HI := fun n hn => by rw [mem_callNames] at hn; unfold HI; omega
theorem evalCall_lt {VC : FuncId → List AV → AV → Prop} {d : Nat} (hd : d < 99999) {r : AV} {f : FuncId} {xs : List AV} {v : AV} {ns : List Nat} {o : Prop} (he : evalCall VC d r f xs = some (v, ns, o)) : ∀ n, n ∈ ns → n < HI := by
  unfold evalCall at he
  split at he <;> cases he
  exact callNames_lt hd

theorem stepW_ok {VC : FuncId → List AV → AV → Prop} (hVC : ∀ f args r, VC f args r → VCall P f args r) {ops : Array Oper} {o : Oper} {s : VStep} (hres : resOp P ops o = some s) (hs : Sim C G σ a w) {r : AV} {ob : Prop}
    (he : stepW VC s r σ = some (σ', ob)) (hob : ob) {K : Act → World → Prop} {Q : Exit → Act → World → Prop} (hK : ∀ a' w' G', Sim C G' σ' a' w' → K a' w') : o.wp P a w K Q := by
  obtain ⟨xs, hk, ho, _, hd, hlt⟩ := resOp_inv hres
  have hv := opds_ok hs xs s.opds ho
  generalize hvs : s.opds.map σ.ev = vs at hv
  unfold stepW at he
  rw [hvs] at he
  generalize hkd : s.kd = kd at hk he
  split at he
  · -- a cell
    rename_i n j old x
    split at he <;> cases he
    rename_i hsg
    obtain ⟨t, X, Y, i, hop, hi, hrow, h1, rfl⟩ := resK_store (resF_same hk (by simp) (by simp))
    obtain ⟨p, u, hpu, hp, hu⟩ := vl2 hv
    cases hpu
    obtain ⟨b, c, hpv, ⟨ha, hb⟩, z, hz, _⟩ := hp
    obtain ⟨hrun, hg, hw⟩ := store_sound (P := P) (x := x) (old := old) (u := a.eval Y) (t := t) hs.g hi h1 ha hb (by rw [hz]; rfl) hu hsg hob
    refine wp_of_skip (w' := w.setCell ⟨b, c + j, none⟩ (a.eval Y)) ?_ (hK _ _ _ ((hs.upd hg hw).forget _ _ |> fun h => by rw [hd] at *; exact h))
    have hpv' : a.eval X = .pointer (some ⟨b, c + j, none⟩) := hpv
    simp [execOp, hop, hpv', hrun]
  · -- a cell of a row
    rename_i n i j old k x
    cases he
    obtain ⟨t, X, Y, ti, hop, hi, hrow, h1, rfl⟩ := resK_store (resF_same hk (by simp) (by simp))
    obtain ⟨p, u, hpu, hp, hu⟩ := vl2 hv
    cases hpu
    obtain ⟨b, c, hpv, ⟨ha, hb⟩, z, hz, _⟩ := hp
    have hsc := single_cells (x := .f k x) rfl hu
    have hrun := run_store1 (P := P) (j := j) (t := t) hs.g hi h1 ha hb (by rw [hz]; rfl) hsc.1 hsc.2
    refine wp_of_skip (w' := w.setCell ⟨b, c + j, none⟩ (a.eval Y)) ?_ (hK _ _ _ (((hs.deep rfl (Wrt.set hs.g ha hb _).g (updR_ok hs.g ha hb hu) (fun _ _ => ⟨rfl, id⟩)).forget _ _) |> fun h => by rw [hd] at *; exact h))
    have hpv' : a.eval X = .pointer (some ⟨b, c + j, none⟩) := hpv
    simp [execOp, hop, hpv', hrun]
  · -- a row, stored twice
    rename_i n j k old m i q xs
    split at he <;> cases he
    rename_i hcond
    obtain ⟨rfl, rfl, hlt'⟩ := hcond
    obtain ⟨t, X, Y, ti, hop, hi, hrow, h1, rfl⟩ := resK_store (resF_same hk (by simp) (by simp))
    obtain ⟨p, u, hpu, hp, hu⟩ := vl2 hv
    cases hpu
    obtain ⟨_, b, c, hpv, ⟨ha, hb⟩, z, hz, _⟩ := hp
    have hsc := single_cells (x := .sl (.row m i) 0 (.f q xs)) rfl hu
    have hrun := run_store1 (P := P) (j := j) (t := t) hs.g hi h1 ha hb (by rw [hz]; rfl) hsc.1 hsc.2
    obtain ⟨hg, hf⟩ := swapC_ok (j := j) hs.g ha hb (frow_sl.1 hu)
    refine wp_of_skip (w' := w.setCell ⟨b, c + j, none⟩ (a.eval Y)) ?_ (hK _ _ _ (((hs.deep rfl hg hf (fun l hl => ⟨by simp only [Gh.swapRow]; rw [if_neg (by omega)], id⟩)).forget _ _) |> fun h => by rw [hd] at *; exact h))
    have hpv' : a.eval X = .pointer (some ⟨b, c + j, none⟩) := hpv
    simp [execOp, hop, hpv', hrun]
  · rename_i n j k h old m i q xs
    split at he <;> cases he
    rename_i hcond
    obtain ⟨rfl, rfl, hlt'⟩ := hcond
    obtain ⟨rfl, rfl⟩ := hob
    obtain ⟨t, X, Y, ti, hop, hi, hrow, h1, rfl⟩ := resK_store (resF_same hk (by simp) (by simp))
    obtain ⟨p, u, hpu, hp, hu⟩ := vl2 hv
    cases hpu
    obtain ⟨hho, b, c, hpv, ⟨ha, hb⟩, z, hz, _⟩ := hp
    have hsc := single_cells (x := .sl (.row m i) 0 (.f q xs)) rfl hu
    have hrun := run_store1 (P := P) (j := i) (t := t) hs.g hi h1 ha hb (by rw [hz]; rfl) hsc.1 hsc.2
    obtain ⟨hg, hf⟩ := fillS_ok (j := i) hs.g ha hb hho (frow_sl.1 hu)
    refine wp_of_skip (w' := w.setCell ⟨b, c + i, none⟩ (a.eval Y)) ?_ (hK _ _ _ (((hs.deep rfl hg hf (fun l hl => ⟨by simp only [Gh.swapRow]; rw [if_neg (by omega)], id⟩)).forget _ _) |> fun h => by rw [hd] at *; exact h))
    have hpv' : a.eval X = .pointer (some ⟨b, c + i, none⟩) := hpv
    simp [execOp, hop, hpv', hrun]
  · rename_i n old x
    split at he <;> cases he
    rename_i hsg
    obtain ⟨t, X, Y, i, hop, hi, hrow, h1, rfl⟩ := resK_store (resF_same hk (by simp) (by simp))
    obtain ⟨p, u, hpu, hp, hu⟩ := vl2 hv
    cases hpu
    obtain ⟨b, c, hpv, ⟨ha, hb⟩, hcl⟩ := hp
    obtain ⟨hrun, hg, hw⟩ := store_sound (P := P) (x := x) (old := old) (j := 0) (u := a.eval Y) (t := t) hs.g hi h1 ha hb (cl_some hcl 0 (by simp)) hu hsg hob
    refine wp_of_skip (w' := w.setCell ⟨b, c + 0, none⟩ (a.eval Y)) ?_ (hK _ _ _ ((hs.upd hg hw).forget _ _ |> fun h => by rw [hd] at *; exact h))
    have hpv' : a.eval X = .pointer (some ⟨b, c + 0, none⟩) := hpv
    simp only [Nat.add_zero] at hpv' hrun ⊢
    simp [execOp, hop, hpv', hrun]
  · rename_i m n cells xs'
    split at he <;> cases he
    rename_i hcond
    obtain ⟨hl1, hl2, hsing⟩ := hcond
    obtain ⟨t, X, Y, i, hop, hi, hrow, hsz, rfl⟩ := resK_storeN (resF_same hk (by simp) (by simp))
    obtain ⟨p, u, hpu, hp, hu⟩ := vl2 hv
    cases hpu
    obtain ⟨b, c, hpv, ⟨ha, hb⟩, hcl⟩ := hp
    obtain ⟨us, hyv, hvl⟩ := hu
    obtain ⟨hni, hbm, crow, erow, hrow'⟩ := hs.g.names n 0 b c ha hb
    have hall : ∀ x, x ∈ xs' → x.single = true ∧ x.has n = false := fun x hx => ⟨(List.all_eq_true.1 hsing) x hx, hasL_all hob x hx⟩
    have hus : us.toList.length = xs'.length := vl_len hvl
    have hone : ∀ z, z ∈ us.toList → z.oneCell' = true := by
      intro z hz
      obtain ⟨k, hk', rfl⟩ := List.getElem_of_mem hz
      have hkx : k < xs'.length := by omega
      obtain ⟨z', hz', hvr⟩ := vl_get (j := k) (x := xs'[k]) hvl (by simp [hkx])
      have : us.toList[k] = z' := by rw [List.getElem?_eq_getElem hk'] at hz'; exact Option.some.inj hz'
      rw [this]
      exact (single_cells (hall _ (List.getElem_mem hkx)).1 hvr).2
    have hrun := run_storeAt_mid (P := P) w b c t us (fun k hk' => ⟨cl_some hcl k (by rw [hl1, ← hl2, ← hus]; simpa using hk'), frozen_of_row w b (c + k) crow erow hrow'⟩) (by rw [hi]; simp only [Option.map_some]; rw [hsz]; congr 1; rw [← hl2, ← hus]; simp)
      (by rw [Array.all_eq_true_iff_forall_mem]; exact fun z hz => hone z (by simpa using hz))
    have hsim := storeN_sound xs' us.toList 0 hs ha hb (fun k hk' => cl_some hcl k (by omega)) hvl hall
    refine wp_of_skip (w' := w.setCells b c us.toList) ?_ (hK _ _ G ?_)
    · have hpv' : a.eval X = .pointer (some ⟨b, c, none⟩) := hpv
      have hyv' : a.eval Y = .agg us := hyv
      simp [execOp, hop, hpv', hyv', hrun]
    · rw [hd]
      exact hsim.forget _ _
  · -- cells are copied
    rename_i n off k ys g p q zs
    split at he <;> cases he
    rename_i hq; subst hq
    obtain ⟨X, Y, t, u, e, hop, hu, h1, rfl⟩ := resK_copy (resF_same hk (by simp) (by simp))
    obtain ⟨x, y, hxy, hx, hy⟩ := vl2 hv
    cases hxy
    have hsz : (P.info? e).map (·.size) = some 1 := by
      unfold size1 at h1
      cases hi : P.info? e with
      | none => simp [hi] at h1
      | some i => simp [hi] at h1; simp [h1]
    have hcl : ∀ v w', (Builtin.copy_ #[t, u] o.type #[a.eval X, a.eval Y]).run P w = .ok v w' → (execOp a.eval o).run P w = .ok (.value v) w' := by
      intro v w' hm
      obtain ⟨dst, op, type, pos, after, guard⟩ := o
      simp only at hop
      subst hop
      exact (run_callB _ (fun _ => by simp [builtin])).trans (run_value hm)
    have hmin : (zs.take ys.length).length = Nat.min zs.length ys.length := by rw [List.length_take, Nat.min_comm]
    obtain ⟨news, ad, m', hnl, hyv, hnews, hnok⟩ := srow_news hy
    have hyv' : a.eval Y = .slice ad zs.length m' := hyv
    have hi64 : ∀ {l : Nat}, l ≤ maxLen → VR G w (.i .i64 ((l : Nat) : Int)) (goInt l) := by
      intro l hl
      refine ⟨rfl, ?_, ?_⟩
      · show (-9223372036854775808 : Int) ≤ _; omega
      · show _ ≤ (9223372036854775807 : Int); unfold maxLen at hl; omega
    have nothing : ∀ (d : Option Addr) (c : Nat), a.eval X = .slice d ys.length c → Nat.min zs.length ys.length = 0 → o.wp P a w K Q := by
      intro d c hX h0
      have hr := run_copy_none (P := P) w t u o.type e d ad ys.length c zs.length m' hu hsz h0
      have hz : zs.take ys.length = [] := List.eq_nil_of_length_eq_zero (by rw [hmin]; exact h0)
      refine wp_of_run (v := goInt 0) (w' := w) (hcl _ _ (by rw [hX, hyv']; exact hr)) ?_
      rw [← hd]
      have h1 : Sim C G (Env.deep (AV.spl n off q (zs.take ys.length)) σ) a w := hs.deep (by simp [AV.spl, AV.drop, AV.has]) hs.g (fun v z h => by rw [hz]; exact spl_nil h) (fun _ _ => ⟨rfl, id⟩)
      have := h1.after (ns := []) (G' := G) (w' := w) ⟨hs.g, fun _ _ _ h => h, fun _ _ => ⟨rfl, id⟩⟩ (fun n h => nomatch h) (v := .i .i64 ((0 : Nat) : Int)) (u := goInt 0) (hi64 (Nat.zero_le _)) s.dst
      rw [h0] at hK
      exact hK _ _ _ this
    rcases hx with ⟨b, c, cap, hpv, ⟨ha, hb⟩, hn, hm, hcs, hsp⟩ | ⟨hn, ⟨d, hpv⟩, _⟩
    · by_cases h0 : Nat.min zs.length ys.length = 0
      · exact nothing _ _ hpv h0
      · have hne : zs.length ≠ 0 := fun h => h0 (by rw [h]; exact Nat.zero_min _)
        rcases hnews with h | ⟨b', o', had, hsrc⟩
        · exact absurd h hne
        · have hnl' : news.length = zs.length := hnl
          have htl : (news.take ys.length).length = Nat.min zs.length ys.length := by rw [List.length_take, hnl', Nat.min_comm]
          have htake : ∀ {j : Nat} {u : Value}, (news.take ys.length)[j]? = some u → j < ys.length ∧ news[j]? = some u := by
            intro j u hj
            have h1 := (List.getElem?_eq_some_iff.1 hj).1
            have h2 : (news.take ys.length).length ≤ ys.length := List.length_take_le ..
            have h3 : j < ys.length := by omega
            exact ⟨h3, by rw [List.getElem?_take_of_lt h3] at hj; exact hj⟩
          obtain ⟨hw, hf⟩ := spl_ok (off := off) (k := q) (zs := zs.take ys.length) (us := news.take ys.length) hs.g ha hb (by rw [htl, hmin]) (fun j u hj => by
            obtain ⟨hlt, hj⟩ := htake hj
            have := hnok j u hj
            have e : (zs.take ys.length).getD j 0 = zs.getD j 0 := by simp only [List.getD]; rw [List.getElem?_take_of_lt hlt]
            rw [e]; exact this) (fun j hj => by
            obtain ⟨z, hz, _⟩ := hcs j (Nat.lt_of_lt_of_le hj (List.length_take_le ..))
            rw [hz]; rfl)
          obtain ⟨_, _, crow, erow, hrow⟩ := hs.g.names n 0 b c ha hb
          have hr := run_copy_cells (P := P) w t u o.type e b (c + off) ys.length cap ⟨b', o', none⟩ zs.length m' (news.take ys.length) hu hsz htl
            (fun j v hj => by
              obtain ⟨hlt, hj⟩ := htake hj
              rw [Addr.add_mid]; exact hsrc j v hj)
            (fun j hj => by
              obtain ⟨z, hz, _⟩ := hcs j (Nat.lt_of_lt_of_le hj (List.length_take_le ..))
              rw [hz]; rfl) (fun j _ => frozen_of_row w b _ crow erow hrow) (fun v hv => by
              obtain ⟨j, hj, rfl⟩ := List.getElem_of_mem (List.mem_of_mem_take hv)
              obtain ⟨b2, hb2, _⟩ := hnok j news[j] (by simp [hj])
              rw [hb2]; rfl)
          have hpv' : a.eval X = .slice (some ⟨b, c + off, none⟩) ys.length cap := hpv
          refine wp_of_run (v := goInt (news.take ys.length).length) (w' := w.setCells b (c + off) (news.take ys.length)) (hcl _ _ (by rw [hpv', hyv', had]; exact hr)) ?_
          rw [← hd]
          have h1 : Sim C G (Env.deep (AV.spl n off q (zs.take ys.length)) σ) a (w.setCells b (c + off) (news.take ys.length)) := hs.deep (by simp [AV.spl, AV.drop, AV.has]) hw.g hf (fun _ _ => ⟨rfl, id⟩)
          rw [htl]
          have hle : Nat.min zs.length ys.length ≤ maxLen := by have : Nat.min zs.length ys.length ≤ ys.length := Nat.min_le_right _ _; have h2 : ys.length ≤ cap := hn; omega
          exact hK _ _ _ (h1.after (ns := []) (G' := G) (w' := w.setCells b (c + off) (news.take ys.length)) ⟨hw.g, fun _ _ _ h => h, fun _ _ => ⟨rfl, id⟩⟩ (fun n h => nomatch h) (v := .i .i64 ((Nat.min zs.length ys.length : Nat) : Int)) (by
            refine ⟨rfl, ?_, ?_⟩
            · show (-9223372036854775808 : Int) ≤ _; omega
            · show _ ≤ (9223372036854775807 : Int); unfold maxLen at hle; omega) s.dst)
    · exact nothing d 0 (by have hpv' : a.eval X = .slice d 0 0 := hpv; rw [hpv', show ys.length = 0 from hn]) (by have : Nat.min zs.length ys.length ≤ ys.length := Nat.min_le_right _ _; have : ys.length = 0 := hn; omega)
  · -- a call
    rename_i f
    split at he <;> cases he
    rename_i v ns ob' hev
    obtain ⟨c, hop, hcal, rfl, hsz⟩ := resK_call (resF_same hk (by simp) (by simp))
    rw [zip_eval hsz] at hv
    rcases call_sound hVC hs.g hv hev hob with ⟨henter, hcalls⟩ | ⟨v1, w1, hval, u, G2, hu, ok, hvr⟩
    rotate_left
    · cases hu
      have hrun : (execOp a.eval o).run P w = .ok (.value v1) w1 := by
        simp [execOp, hop, resolve, hcal, Act.eval, Deferred.ofValue, invoke, hval]
      refine wp_of_run hrun ?_
      rw [← hd]
      exact hK _ _ _ (hs.after ok (evalCall_lt hlt hev) hvr s.dst)
    have hrun : (execOp a.eval o).run P w = .ok (.enter f (c.args.map a.eval)) w := by
      simp [execOp, hop, resolve, hcal, Act.eval, Deferred.ofValue, invoke, henter]
    unfold Oper.wp; rw [hrun]
    rw [Oper.upon_enter]
    refine hcalls.mono ?_
    rintro e w' ⟨u, G2, rfl, ok, hvr⟩
    rw [← hd]
    exact hK _ _ _ (hs.after ok (by first | exact evalCall_lt hlt hev | exact evalK_lt hlt hev) hvr s.dst)
  · rename_i f caps ys
    split at he <;> cases he
    rename_i v ns ob' hev
    obtain ⟨c, t, hop, hcal, rfl, hsz⟩ := resK_callv (resF_same hk (by simp) (by simp))
    simp only [List.map_cons] at hv
    rw [zip_eval hsz] at hv
    simp only [VL] at hv
    obtain ⟨fv, us, hfu, hf, hys⟩ := hv
    cases hfu
    obtain ⟨cs, hfv, hcs⟩ := hf
    have happ : ∀ (xs ys : List AV) (us vs : List Value), VL G w xs us → VL G w ys vs → VL G w (xs ++ ys) (us ++ vs) := by
      intro xs
      induction xs with
      | nil => intro ys us vs h1 h2; simp only [VL] at h1; subst h1; simpa using h2
      | cons x r ih => intro ys us vs h1 h2; simp only [VL] at h1; obtain ⟨u, us', rfl, hx, hr⟩ := h1; exact ⟨u, us' ++ vs, rfl, hx, ih ys us' vs hr h2⟩
    have hv2 : VL G w (ys ++ caps) ((c.args.map a.eval) ++ cs).toList := by simpa using happ _ _ _ _ hys hcs
    have hfv' : a.eval (.tmp t) = .func (.func f) #[] cs := hfv
    rcases call_sound hVC hs.g hv2 hev hob with ⟨henter, hcalls⟩ | ⟨v1, w1, hval, u, G2, hu, ok, hvr⟩
    rotate_left
    · cases hu
      have hrun : (execOp a.eval o).run P w = .ok (.value v1) w1 := by
        simp [execOp, hop, resolve, hcal, hfv', Deferred.ofValue, invoke, hval]
      refine wp_of_run hrun ?_
      rw [← hd]
      exact hK _ _ _ (hs.after ok (evalCall_lt hlt hev) hvr s.dst)
    have hrun : (execOp a.eval o).run P w = .ok (.enter f ((c.args.map a.eval) ++ cs)) w := by
      simp [execOp, hop, resolve, hcal, hfv', Deferred.ofValue, invoke, henter]
    unfold Oper.wp; rw [hrun]
    rw [Oper.upon_enter]
    refine hcalls.mono ?_
    rintro e w' ⟨u, G2, rfl, ok, hvr⟩
    rw [← hd]
    exact hK _ _ _ (hs.after ok (by first | exact evalCall_lt hlt hev | exact evalK_lt hlt hev) hvr s.dst)
  · rename_i kd' vs' _ _ _ _ _
    split at he <;> cases he
    rename_i v ns ob' hev
    obtain ⟨u, w', G', hrun, ok, hvr⟩ := does_opF (P := P) hs.g hk hv hev hob
    refine wp_of_run hrun ?_
    rw [← hd]
    exact hK _ _ _ (hs.after ok (by first | exact evalCall_lt hlt hev | exact evalK_lt hlt hev) hvr s.dst)
end
end Go.Proofs.LV
