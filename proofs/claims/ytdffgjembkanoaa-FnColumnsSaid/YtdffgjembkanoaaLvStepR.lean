/- Literals of rows, stores of rows, appends to rows and of rows: sound, in the order of the text. -/
import Derived.Test.YtdffgjembkanoaaLvReg
namespace Go.Proofs.LV
open Go Go.RowKit
set_option linter.unusedVariables false
set_option linter.unusedSimpArgs false

section
variable {P : Program} {C : Ctx} {G G' : Gh} {w w' : World} {σ σ' : Env} {a : Act}

theorem resK_app {o : Oper} {xs : List (TypeId × Operand)} (h : resK P o = some (.app, xs)) :
    ∃ (X Y : Operand) (t e : TypeId) (i : TypeInfo) (z : Value), o.op = .call ⟨.builtin .append, #[X, Y], #[t, t]⟩ ∧ P.underlying t = some (.slice e) ∧ P.info? e = some i ∧ i.size = 1 ∧ i.zero = some z ∧ z.cells.size = 1 ∧ i.bytes ≤ 64 ∧ xs = [(t, X), (t, Y)] := by
  obtain ⟨dst, op, type, pos, after, guard⟩ := o
  cases op <;> simp only [resK] at h
  case call c =>
    obtain ⟨callee, args, ts⟩ := c
    simp only at h
    split at h
    · split at h <;> simp at h
    · split at h <;> simp at h
    · (repeat' split at h) <;> simp at h
    · rename_i x y hargs
      have ea := arr_of_list hargs; subst ea
      split at h
      · rename_i t u hts
        have et := arr_of_list hts; subst et
        split at h
        · rename_i htu; subst htu
          split at h
          · rename_i e hte
            split at h
            · rename_i i hi
              split at h <;> simp at h
              rename_i hcond
              obtain ⟨hb, hz⟩ := hcond
              obtain ⟨hu, h1⟩ := sliceT_ok hte
              have hsz : i.size = 1 := by unfold size1 at h1; simp [hi] at h1; exact h1
              cases hzv : i.zero with
              | none => simp [hzv] at hz
              | some z => exact ⟨x, y, t, e, i, z, rfl, hu, hi, hsz, hzv, by simpa [hzv] using hz, hb, h.symm⟩
            · simp at h
          · simp at h
        · simp at h
      · simp at h
    all_goals (repeat' split at h) <;> simp at h
  all_goals
    (repeat' split at h) <;> first | (simp at h; done) | (have := resEql_kd h; simp at this; done) | (simp_all; done)
theorem run_app {o : Oper} {X Y : Operand} {t : TypeId} (h : o.op = .call ⟨.builtin .append, #[X, Y], #[t, t]⟩) :
    (execOp a.eval o).run P w = (do pure (.value (← Builtin.append_ #[t, t] o.type #[a.eval X, a.eval Y])) : Sem Next).run P w := by
  obtain ⟨dst, op, type, pos, after, guard⟩ := o
  simp only at h
  subst h
  exact (run_callB _ (fun _ => by simp [builtin])).trans rfl
theorem resK_lits {o : Oper} {own : Bool} {e : Cont} {xs : List (TypeId × Operand)} (h : resK P o = some (.lit own e, xs)) :
    ∃ (t el : TypeId) (n : Nat) (parts : Array (Nat × Operand)) (i : TypeInfo) (z : Value), o.op = .buildSlice t n parts ∧ P.underlying t = some (.slice el) ∧ P.info? el = some i ∧ i.size = 1 ∧ i.zero = some z ∧ n = parts.size ∧ n ≤ 1000 ∧
      partsInOrder 0 parts.toList = true ∧ xs = parts.toList.map fun p => (el, p.2) := by
  obtain ⟨dst, op, type, pos, after, guard⟩ := o
  cases op <;> simp only [resK] at h
  case buildSlice t n parts =>
    split at h
    · rename_i el c hte hce
      split at h
      · rename_i hcond
        obtain ⟨hn, hn2, hord, hz⟩ := hcond
        simp only [Option.some.injEq, Prod.mk.injEq] at h
        obtain ⟨hu, h1⟩ := sliceT_ok hte
        cases hi : P.info? el with
        | none => simp [hi] at hz
        | some i =>
          cases hzv : i.zero with
          | none => simp [hi, hzv] at hz
          | some z =>
            refine ⟨t, el, n, parts, i, z, rfl, hu, hi, ?_, hzv, hn, hn2, hord, h.2.symm⟩
            unfold size1 at h1; simp [hi] at h1; exact h1
      · cases h
    · cases h
  case binOp op t x y u =>
    (repeat' split at h) <;> first | (have := resEql_kd h; cases this; done) | cases h | simp at h
  all_goals (repeat' split at h) <;> simp_all
theorem run_lits {o : Oper} {t el : TypeId} {n : Nat} {parts : Array (Nat × Operand)} {i : TypeInfo} {z : Value} (h : o.op = .buildSlice t n parts) (hu : P.underlying t = some (.slice el)) (hi : P.info? el = some i) (hsz : i.size = 1) (hz : i.zero = some z)
    (hn : n = parts.size) (hn2 : n ≤ 1000) (hord : partsInOrder 0 parts.toList = true) {us : List Value} (hus : ((parts.toList.map fun p => ((el, p.2) : TypeId × Operand)).map fun p => a.eval p.2) = us) (h1 : ∀ u, u ∈ us → u.cells = #[u]) :
    ∃ cells : Array Value, cells.toList = us ∧ (execOp a.eval o).run P w = .ok (.value (.slice (some ⟨w.heap.size, 0, none⟩) us.length us.length)) (w.alloc (.cells cells el)) := by
  have hlen : us.length = n := by rw [← hus, hn]; simp
  obtain ⟨cells, hc, hr⟩ := run_lit (P := P) (w := w) (parts := parts.map fun (i, x) => (i, a.eval x)) (us := us) hu hi hsz hz (by omega) (by rw [← hus]; simp [List.map_map, Function.comp_def])
    (fun j p hj => by
      simp only [Array.toList_map, List.getElem?_map, Option.map_eq_some_iff] at hj
      obtain ⟨q, hq, rfl⟩ := hj
      simpa using partsInOrder_ok 0 parts.toList hord j q hq) h1
  refine ⟨cells, hc, ?_⟩
  rw [hlen] at hr ⊢
  simp [execOp, h, hr]

/-- objects that are only read from now on -/
def Gh.frozen (G : Gh) (ms : List Nat) : Gh where
  β := fun m => if m ∈ ms then Fam.no else G.β m
  act := G.act
  imm := fun b => G.imm b ∨ ∃ m o, m ∈ ms ∧ G.act m ∧ G.β m 0 = some (b, o)
  π := G.π
theorem Sim.freeze (hs : Sim C G σ a w) {ms : List Nat} (hms : ∀ m, m ∈ ms → m < HI) {d : Nat} (hd : d ∉ ms) :
    Sim C (G.frozen ms) (Env.deep (AV.freeze ms d) σ) a w := by
  have hnew : ∀ m b o, m ∈ ms → G.act m → G.β m 0 = some (b, o) → b < w.heap.size ∧ ¬ C.M b ∧ C.base ≤ b := by
    intro m b o hm ha hb
    have h1 := hs.g.names m 0 b o ha hb
    have hM : ¬ C.M b := by
      intro h
      obtain ⟨_, n, i, o', hn, hha, hhb⟩ := hs.g.ml b h
      have hh := hs.hi n hn
      have := hms m hm
      exact hs.g.dist m 0 n i b o b o' ha (hh.2 hha) (fun e => by omega) hb (by rw [hh.1]; exact hhb) rfl
    exact ⟨hs.g.name_lt ha hb, hM, h1.2.1.resolve_right hM⟩
  have hβ : ∀ m, m ∉ ms → (G.frozen ms).β m = G.β m := fun m hm => by simp only [Gh.frozen, if_neg hm]
  have hg : SimG C (G.frozen ms) w := by
    refine ⟨hs.g.kept, fun n i b o ha hb => ?_, fun n i m j b o b' o' ha ha' hne hb hb' => ?_, ?_, hs.g.pars, hs.g.ml, hs.g.pi, ?_⟩
    · have hn : n ∉ ms := fun h => by simp [Gh.frozen, h, Fam.no] at hb
      rw [hβ n hn] at hb
      obtain ⟨h1, h2⟩ := hs.g.names n i b o ha hb
      refine ⟨?_, h2⟩
      rintro (h | ⟨m, o', hm, ha', hb'⟩)
      · exact h1 h
      · exact hs.g.dist n i m 0 b o b o' ha ha' (fun e => hn (e.1 ▸ hm)) hb hb' rfl
    · have hn : n ∉ ms := fun h => by simp [Gh.frozen, h, Fam.no] at hb
      have hm : m ∉ ms := fun h => by simp [Gh.frozen, h, Fam.no] at hb'
      rw [hβ n hn] at hb
      rw [hβ m hm] at hb'
      exact hs.g.dist n i m j b o b' o' ha ha' hne hb hb'
    · rintro b (h | ⟨m, o', hm, ha', hb'⟩)
      · exact hs.g.imms b h
      · have := hnew m b o' hm ha' hb'; exact ⟨this.1, this.2.1⟩
    · rintro b (h | ⟨m, o', hm, ha', hb'⟩)
      · exact hs.g.imI b h
      · exact .inr (hnew m b o' hm ha' hb').2.2
  have kimm : Keeps G (G.frozen ms) w w .imm := ⟨fun b o h => ⟨.inl h, rfl⟩, fun h => h⟩
  have gone : ∀ {x : AV} {y : Value}, (∀ m, m ∈ ms → x.has m = false) → VR G w x y → VR (G.frozen ms) w x y := by
    intro x y hx hv
    refine VR.mono kimm (fun p => ⟨fun b o h => ⟨h, rfl⟩, fun h => h⟩) x y (fun m hm => ?_) hv
    have hmn : m ∉ ms := fun h => by rw [hx m h] at hm; cases hm
    exact ⟨fun i b o ha h => ⟨⟨ha, by rw [hβ m hmn]; exact h⟩, rfl⟩, fun h => h, by rw [hβ m hmn]⟩
  refine hs.deep (by simp [AV.freeze, AV.has]) hg (fun v u hv => ?_) (fun n hn => ⟨hβ n (fun h => by have := hms n h; omega), id⟩)
  unfold AV.freeze
  split
  · rename_i m off k xs
    cases hc : ms.contains m with
    | true =>
      have hm : m ∈ ms := by simpa using hc
      simp only [cond_true, VR, Cont.len] at hv ⊢
      rcases hv with ⟨b, o, cap, rfl, hat, hn, hmx, hcs, hsp⟩ | ⟨hn, hx, _⟩
      · exact .inl ⟨b, o, cap, rfl, .inr ⟨m, o, hm, hat.1, hat.2⟩, hn, hmx, hcs, hsp⟩
      · exact .inr ⟨hn, hx, trivial⟩
    | false =>
      have hm : m ∉ ms := by simpa using hc
      exact drop_ok hv fun _ hv => gone (fun l hl => by simp only [AV.has, Tag.names]; simp; exact fun e => hm (e ▸ hl)) hv
  · cases hc : (ms.any (fun m => AV.has m v) || AV.has d v) with
    | true => simp [VR]
    | false =>
      simp only [Bool.or_eq_false_iff, List.any_eq_false] at hc
      exact gone (fun m hm => by simpa using hc.1 m hm) hv
theorem freeze_row {ms : List Nat} {m : Nat} (hm : m ∈ ms) {k : FloatKind} {xs : List Nat} {u : Value} (h : FRow G w (.own m) k xs u) : FRow (G.frozen ms) w .imm k xs u :=
  FRow.name h (fun b o hat => ⟨.inr ⟨m, o, hm, hat.1, hat.2⟩, rfl⟩) (fun _ => trivial)


set_option maxHeartbeats 1000000 in
theorem stepRA_ok {ops : Array Oper} {o : Oper} {s : VStep} (hres : resOp P ops o = some s) (hs : Sim C G σ a w) {ob : Prop}
    (he : stepRA s σ = some (σ', ob)) (hob : ob) {K : Act → World → Prop} {Q : Exit → Act → World → Prop} (hK : ∀ a' w' G', Sim C G' σ' a' w' → K a' w') : o.wp P a w K Q := by
  obtain ⟨xs, hk, ho, _, hd, hlt⟩ := resOp_inv hres
  have hv := opds_ok hs xs s.opds ho
  generalize hvs : s.opds.map σ.ev = vs at hv
  unfold stepRA at he
  rw [hvs] at he
  generalize hkd : s.kd = kd at hk he
  split at he
  · -- a row of one's own
    rename_i n j k h old m q ys
    split at he <;> cases he
    rename_i hcond
    obtain ⟨rfl, hmn, hmlt, hnlt⟩ := hcond
    obtain ⟨t, X, Y, ti, hop, hi, hrow, h1, rfl⟩ := resK_store (resF_same hk (by simp) (by simp))
    obtain ⟨p, u, hpu, hp, hu⟩ := vl2 hv
    cases hpu
    obtain ⟨hho, b, c, hpv, ⟨ha, hb⟩, z, hz, _⟩ := hp
    have hsc := single_cells (x := .sl (.own m) 0 (.f q ys)) rfl hu
    have hrun := run_store1 (P := P) (j := j) (t := t) hs.g hi h1 ha hb (by rw [hz]; rfl) hsc.1 hsc.2
    have hh : (G.β n).hole = none ∨ (G.β n).hole = some j := by
      rw [hho]
      cases h with
      | none => exact .inl rfl
      | some i => have hij : i = j := hob; exact .inr (by rw [hij])
    obtain ⟨hg, hf⟩ := fillC_ok (j := j) hs.g hmn ha hb hh (frow_sl.1 hu)
    refine wp_of_skip (w' := w.setCell ⟨b, c + j, none⟩ (a.eval Y)) ?_ (hK _ _ _ (((hs.deep (by simp [AV.fillC, AV.drop, AV.has]) hg hf (fun l hl => ⟨by simp only [Gh.putRow]; rw [if_neg (by omega), if_neg (by omega)], id⟩)).forget _ _) |> fun h => by rw [hd] at *; exact h))
    have hpv' : a.eval X = .pointer (some ⟨b, c + j, none⟩) := hpv
    simp [execOp, hop, hpv', hrun]
  · -- an append to a row
    rename_i n i k ys g off q zs
    split at he <;> cases he
    rename_i hcond
    obtain ⟨rfl, hg1, hg2, hdlt, hnlt, hnd⟩ := hcond
    obtain ⟨X, Y, t, e, ti, z, hop, hu, hi, h1, hz, hzc, hb, rfl⟩ := resK_app (resF_same hk (by simp) (by simp))
    obtain ⟨x, y, hxy, hx, hy⟩ := vl2 hv
    cases hxy
    have hfr := frow_sl.1 hx
    have hn : G.act n := by
      rcases hfr with ⟨_, _, _, _, h, _⟩ | ⟨_, _, h⟩
      · exact h.1
      · exact h
    have ok0 := StepOk.takeRow (i := i) hs.g hnd hn
    have hs1 : Sim C (G.takeRow n i (8 * s.dst.getD 0)) (Env.deep (AV.holeAt n i (8 * s.dst.getD 0)) σ) a w :=
      hs.deep (by simp [AV.holeAt, AV.drop, AV.has]) ok0.g (holeAt_ok hs.g hnd hn) (fun l hl => ok0.fix l (by simp; omega))
    have hx1 : FRow (G.takeRow n i (8 * s.dst.getD 0)) w (.own (8 * s.dst.getD 0)) q ys (a.eval X) :=
      FRow.name hfr (fun b o hat => ⟨⟨.inl rfl, by simp only [Gh.takeRow, if_true]; exact hat.2⟩, rfl⟩) (fun _ => .inl rfl)
    obtain ⟨news, ad, m', hnl, hyv, hnews, hnok⟩ := srow_news hy
    have gl : ∀ t, t < ys.length → (ys ++ zs).getD t 0 = ys.getD t 0 := fun t ht => by simp [List.getD, List.getElem?_append_left ht]
    have gr : ∀ t, (ys ++ zs).getD (ys.length + t) 0 = zs.getD t 0 := fun t => by simp [List.getD, List.getElem?_append_right (Nat.le_add_right ys.length t)]
    obtain ⟨u, w1, G1, hr, gn, hu1⟩ := app_gen (P := P) (ty := o.type) (E := fun t z => FR q ((ys ++ zs).getD t 0) z) hu hi h1 hz hzc hb ok0.g (SRow.map (fun t z ht h => by show FR q _ z; rw [gl t ht]; exact h) hx1) hnl hnews
      (fun t z ht => by show FR q _ z; rw [gr t]; exact hnok t z ht) (fun z hz => by
        obtain ⟨t, ht, rfl⟩ := List.getElem_of_mem hz
        obtain ⟨b', hb', _⟩ := hnok t news[t] (by simp [ht])
        rw [hb']; rfl) hob
    have hyv' : a.eval Y = .slice ad _ m' := hyv
    refine wp_of_run ((run_app hop).trans (by rw [hyv']; exact hr)) ?_
    rw [← hd]
    refine hK _ _ G1 (hs1.after gn.ok (fun l hl => by simp at hl; omega) (frow_sl.2 ?_) s.dst)
    have e : (ys ++ zs).length = ys.length + zs.length := List.length_append
    show SRow _ _ _ _ (ys ++ zs).length _ _
    rw [e]; exact hu1
  · -- an append of rows
    rename_i n k xss m q yss
    split at he <;> cases he
    rename_i hcond
    obtain ⟨hnm, hnlt, hmlt, rfl⟩ := hcond
    obtain ⟨X, Y, t, e, ti, z, hop, hu, hi, h1, hz, hzc, hb, rfl⟩ := resK_app (resF_same hk (by simp) (by simp))
    obtain ⟨x, y, hxy, hx, hy⟩ := vl2 hv
    cases hxy
    have hact : ∀ {l : Nat} {yss : List (List Nat)} {v : Value}, VR G w (.nw l 0 q yss none) v → G.act l := by
      intro l yss v h
      rcases h.2 with ⟨_, _, _, _, h, _⟩ | ⟨_, _, h⟩
      · exact h.1
      · exact h
    have hn := hact hx
    have hm := hact hy
    have ok0 := StepOk.steal (lx := xss.length) (ly := yss.length) hs.g hnm hm
    obtain ⟨hx1, hy1⟩ := rows_app hs.g hnm hm hn hx hy
    obtain ⟨news, ad, m', hnl, hyv, hnews, hnok⟩ := srow_news hy.2
    obtain ⟨u, w1, G1, hr, gn, hu1⟩ := app_gen (P := P) (ty := o.type) hu hi h1 hz hzc hb ok0.g hx1 hnl hnews
      (fun t z ht => hy1 t z (by have := (List.getElem?_eq_some_iff.1 ht).1; omega) (hnok t z ht)) (fun z hz => by
        obtain ⟨t, ht, rfl⟩ := List.getElem_of_mem hz
        rcases hnok t news[t] (by simp [ht]) with h | ⟨b, o, cap, h, _⟩ | ⟨_, ⟨a, h⟩, _⟩
        · cases h
        · rw [h]; rfl
        · rw [h]; rfl) hob
    have hyv' : a.eval Y = .slice ad _ m' := hyv
    refine wp_of_run ((run_app hop).trans (by rw [hyv']; exact hr)) ?_
    rw [← hd]
    have hvr : VR G1 w1 (.nw n 0 q (xss ++ yss) none) u := by
      refine ⟨by rw [gn.hole]; simp only [Gh.steal, if_true]; exact hx.1, ?_⟩
      have e : (xss ++ yss).length = xss.length + yss.length := List.length_append
      rw [e]
      exact SRow.map (fun t z ht h => NRow.mono gn.row h) hu1
    exact hK _ _ G1 (hs.after (ok0.then (gn.ok.weaken (by simp))) (fun l hl => by simp at hl; omega) hvr s.dst)
  · -- a literal
    rename_i k
    split at he
    · rename_i ms xss hrows
      split at he
      · rename_i hcond
        obtain ⟨hall, hdlt⟩ := hcond
        have hms : ∀ m, m ∈ ms → m < HI ∧ m ≠ 8 * s.dst.getD 0 := fun m hm => by
          have := (List.all_eq_true.1 hall) m hm
          simpa using this
        have hdn : 8 * s.dst.getD 0 ∉ ms := fun h => (hms _ h).2 rfl
        obtain ⟨t, el, n, parts, ti, z, hop, hu, hi, h1, hz, hn, hn2, hord, rfl⟩ := resK_lits (resF_same hk (by simp) (by simp))
        obtain ⟨hl1, hl2, hl3, hl4, hl5⟩ := rowsOf_ok hrows hv
        obtain ⟨cells, hc, hr⟩ := run_lits (a := a) (w := w) hop hu hi h1 hz hn hn2 hord rfl hl3
        generalize hus : ((parts.toList.map fun p => ((el, p.2) : TypeId × Operand)).map fun p => a.eval p.2) = us at *
        have hlen : us.length ≤ 1000 := by rw [← hus]; simp; omega
        split at he <;> cases he
        · rename_i hnd
          obtain ⟨ok0, hrow⟩ := gather_ok hs.g hrows hv hdn hnd
          have gn := Grown.new ok0.g (n := 8 * s.dst.getD 0) (.inl rfl) cells el
          have hvr : VR ((G.gather (8 * s.dst.getD 0) ms).mkG (8 * s.dst.getD 0) w.heap.size) (w.alloc (.cells cells el)) (.nw (8 * s.dst.getD 0) 0 k xss none) (.slice (some ⟨w.heap.size, 0, none⟩) us.length us.length) := by
            refine ⟨by rw [gn.hole]; simp [Gh.gather], ?_⟩
            have := slice_newE (G' := (G.gather (8 * s.dst.getD 0) ms).mkG (8 * s.dst.getD 0) w.heap.size) (w' := w.alloc (.cells cells el)) (g := .own (8 * s.dst.getD 0)) (l := us.length) (b := w.heap.size) (cells := us) (cap := us.length)
              (E := NRow ((G.gather (8 * s.dst.getD 0) ms).mkG (8 * s.dst.getD 0) w.heap.size) (w.alloc (.cells cells el)) (8 * s.dst.getD 0) 0 k xss none)
              ⟨.inl rfl, by simp [Gh.mkG]⟩ (Nat.le_refl _) (by unfold maxLen; omega) (Nat.le_refl _) (fun j u hj => cell_new w cells el j u (by rw [← hc] at hj; simpa using hj)) (fun j u hj hu => NRow.mono gn.row (hrow j u hu))
            rw [← hl1]; exact this
          refine wp_of_run hr ?_
          rw [← hd]
          refine hK _ _ _ (hs.after (ok0.then (gn.ok.weaken (by simp))) (fun l hl => ?_) hvr s.dst)
          rcases List.mem_cons.1 hl with rfl | hl
          · exact hdlt
          · exact (hms l hl).1
        · rename_i hnd
          have hs1 := hs.freeze (fun m hm => (hms m hm).1) hdn
          have ok1 := StepOk.new hs1.g (8 * s.dst.getD 0) cells el
          refine wp_of_run hr ?_
          rw [← hd]
          refine hK _ _ _ (hs1.after ok1 (fun l hl => by simp at hl; omega) (v := .sl (.own (8 * s.dst.getD 0)) 0 (.ff k xss)) (u := .slice (some ⟨w.heap.size, 0, none⟩) us.length us.length) ?_ s.dst)
          simp only [VR, Cont.len]
          rw [← hl1]
          refine slice_newE (G' := (G.frozen ms).mk1 (8 * s.dst.getD 0) w.heap.size 0) (w' := w.alloc (.cells cells el)) (g := .own (8 * s.dst.getD 0)) (l := us.length) (b := w.heap.size) (cells := us) (cap := us.length)
            ⟨.inl rfl, by simp [Gh.mk1]⟩ (Nat.le_refl _) (by unfold maxLen; omega) (Nat.le_refl _) (fun j u hj => cell_new w cells el j u (by rw [← hc] at hj; simpa using hj)) (fun j u hj hu => ?_)
          obtain ⟨m, hm, hf⟩ := hl5 j u hu
          have h2 := freeze_row (ms := ms) (List.mem_of_getElem? hm) hf
          exact SRow.mono (G := G.frozen ms) (w := w) (g := .imm) ⟨fun b o h => ⟨h, heap_alloc_old w _ b (hs1.g.imms b h).1⟩, fun h => h⟩ (fun _ _ _ h => h) h2
      · cases he
    · cases he
  · cases he
end
end Go.Proofs.LV
