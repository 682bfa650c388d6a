/- The remaining operations: signs, greatest and least, function values; then all of them together. -/
import Derived.Test.YtdffgjembkanoaaLvEval2
namespace Go.Proofs.LV
open Go Go.RowKit
set_option linter.unusedVariables false
set_option linter.unusedSimpArgs false

theorem xor_top (m b : Nat) (h : b < 2 ^ (m + 1)) : (b < 2 ^ m ∧ b ^^^ 2 ^ m = 2 ^ m + b) ∨ (2 ^ m ≤ b ∧ 2 ^ m + (b ^^^ 2 ^ m) = b) := by
  have key : ∀ c, c < 2 ^ m → c ^^^ 2 ^ m = 2 ^ m + c := by
    intro c hc
    apply Nat.eq_of_testBit_eq
    intro j
    rw [Nat.testBit_xor, Nat.testBit_two_pow]
    rcases Nat.lt_trichotomy j m with hj | hj | hj
    · rw [Nat.testBit_two_pow_add_gt hj, show decide (m = j) = false by simp; omega, Bool.xor_false]
    · subst hj; rw [Nat.testBit_two_pow_add_eq]; simp
    · have h1 : c.testBit j = false := Nat.testBit_lt_two_pow (Nat.lt_trans hc (Nat.pow_lt_pow_right (by omega) hj))
      have h2 : (2 ^ m + c).testBit j = false := Nat.testBit_lt_two_pow (by
        have : 2 ^ (m + 1) ≤ 2 ^ j := Nat.pow_le_pow_right (by omega) hj
        rw [Nat.pow_succ] at this; omega)
      rw [h1, h2, show decide (m = j) = false by simp; omega]; rfl
  rcases Nat.lt_or_ge b (2 ^ m) with hb | hb
  · exact .inl ⟨hb, key b hb⟩
  · refine .inr ⟨hb, ?_⟩
    have hc : b - 2 ^ m < 2 ^ m := by rw [Nat.pow_succ] at h; omega
    have e := key (b - 2 ^ m) hc
    have e2 : 2 ^ m + (b - 2 ^ m) = b := by omega
    rw [e2] at e
    have h3 : b ^^^ 2 ^ m = b - 2 ^ m := by
      have h4 : (b - 2 ^ m ^^^ 2 ^ m) ^^^ 2 ^ m = b - 2 ^ m := by rw [Nat.xor_assoc, Nat.xor_self, Nat.xor_zero]
      rw [e] at h4; exact h4
    omega

theorem isNaN_mod (k : FloatKind) (a b : Nat) (h : a % k.format.signWeight = b % k.format.signWeight) : (k.format.read a).isNaN = (k.format.read b).isNaN := by
  unfold Ieee.Format.read
  simp only [h]
  (repeat' split) <;> rfl

theorem neg_ok (k : FloatKind) {b : Nat} (h : b < 2 ^ k.format.width) : Op.negFloat k b < 2 ^ k.format.width ∧ canon k (Op.negFloat k b) = fneg k (canon k b) := by
  have hw : k.format.width = k.format.exponentBits + k.format.fractionBits + 1 := by cases k <;> rfl
  have hS : k.format.signWeight = 2 ^ (k.format.exponentBits + k.format.fractionBits) := rfl
  rw [hw] at h ⊢
  have hx := xor_top (k.format.exponentBits + k.format.fractionBits) b h
  have hmod : Op.negFloat k b % k.format.signWeight = b % k.format.signWeight := by
    unfold Op.negFloat
    rw [hS]
    rcases hx with ⟨h1, h2⟩ | ⟨h1, h2⟩
    · rw [h2, Nat.add_mod_left]
    · conv => rhs; rw [← h2]
      rw [Nat.add_mod_left]
  refine ⟨?_, ?_⟩
  · unfold Op.negFloat
    rw [Nat.pow_succ] at h ⊢
    rcases hx with ⟨h1, h2⟩ | ⟨h1, h2⟩ <;> omega
  · have hn := isNaN_mod k _ _ hmod
    by_cases hb : (k.format.read b).isNaN = true
    · have e1 : canon k b = fnan k := by unfold canon; rw [if_pos hb]
      have e2 : canon k (Op.negFloat k b) = fnan k := by unfold canon; rw [if_pos (by rw [hn]; exact hb)]
      rw [e1, e2]; unfold fneg; rw [if_pos (nan_fnan k)]
    · have e1 : canon k b = b := by unfold canon; rw [if_neg hb]
      have e2 : canon k (Op.negFloat k b) = Op.negFloat k b := by unfold canon; rw [if_neg (by rw [hn]; exact hb)]
      rw [e1, e2]; unfold fneg; rw [if_neg hb]

section
variable {P : Program} {C : Ctx} {G : Gh} {w : World}

theorem does_neg {x : Value} (hs : SimG C G w) {vs : List AV} {v : AV} {ns : List Nat} {ob : Prop}
    (hv : VL G w vs [x]) (he : eNeg vs = some (v, ns, ob)) : Does P C G w (do pure (.value (← Op.unary .neg x))) v ns := by
  unfold eNeg at he
  split at he <;> cases he
  · obtain ⟨u, hu, h1⟩ := vl1 hv
    cases hu
    obtain ⟨rfl, _⟩ := h1
    rename_i k n _
    exact Does.pure hs (run_value (u := .int k (k.wrap (0 - n))) (w' := w) (by simp [Op.unary, Op.intArith])) (Same.rfl' w) ⟨rfl, wrap_range _ _⟩
  · obtain ⟨u, hu, h1⟩ := vl1 hv
    cases hu
    obtain ⟨b, rfl, hb, rfl⟩ := h1
    exact Does.pure hs (run_value (u := .float _ (Op.negFloat _ b)) (w' := w) (by simp [Op.unary])) (Same.rfl' w) ⟨_, rfl, (neg_ok _ hb).1, (neg_ok _ hb).2⟩

theorem max2_ok {k : FloatKind} {a b : Nat} (ha : a < 2 ^ k.format.width) (hb : b < 2 ^ k.format.width) :
    ∃ r w', (Builtin.max2 (.float k a) (.float k b)).run P w = .ok (.float k r) w' ∧ Same w w' ∧ r < 2 ^ k.format.width ∧ canon k r = fmax k (canon k a) (canon k b) := by
  have ho := order_canon k a b
  unfold fmax
  rw [ho]
  cases h : k.format.order a b with
  | none =>
    refine ⟨(Question.nanMinMax k true a b).cut (w.tape w.drawn (.nanMinMax k true a b)), { w with drawn := w.drawn + 1 }, ?_, ⟨_, rfl⟩, ?_, ?_⟩
    · simp [Builtin.max2, h, choose, Sem.run, Question.forced]
    · have := (cut_nan k 0 0 (w.tape w.drawn (.nanMinMax k true a b))).2
      cases k <;> exact this
    · have := canon_cut k 0 0 (w.tape w.drawn (.nanMinMax k true a b))
      cases k <;> exact this
  | some c =>
    cases c with
    | lt => exact ⟨b, w, by simp [Builtin.max2, h], Same.rfl' w, hb, rfl⟩
    | gt => exact ⟨a, w, by simp [Builtin.max2, h], Same.rfl' w, ha, rfl⟩
    | eq =>
      have hna : canon k a = a := by
        rcases read_canon k a with ⟨h1, _⟩ | h1
        · unfold Ieee.Format.order at h; rw [order_nan (.inl h1)] at h; cases h
        · exact h1
      refine ⟨if (k.decode a).neg then b else a, w, by simp [Builtin.max2, h], Same.rfl' w, by split <;> assumption, ?_⟩
      simp only [hna]
      split <;> simp_all

theorem min2_ok {k : FloatKind} {a b : Nat} (ha : a < 2 ^ k.format.width) (hb : b < 2 ^ k.format.width) :
    ∃ r w', (Builtin.min2 (.float k a) (.float k b)).run P w = .ok (.float k r) w' ∧ Same w w' ∧ r < 2 ^ k.format.width ∧ canon k r = fmin k (canon k a) (canon k b) := by
  have ho := order_canon k a b
  unfold fmin
  rw [ho]
  cases h : k.format.order a b with
  | none =>
    refine ⟨(Question.nanMinMax k false a b).cut (w.tape w.drawn (.nanMinMax k false a b)), { w with drawn := w.drawn + 1 }, ?_, ⟨_, rfl⟩, ?_, ?_⟩
    · simp [Builtin.min2, h, choose, Sem.run, Question.forced]
    · have := (cut_nan k 0 0 (w.tape w.drawn (.nanMinMax k false a b))).2
      cases k <;> exact this
    · have := canon_cut k 0 0 (w.tape w.drawn (.nanMinMax k false a b))
      cases k <;> exact this
  | some c =>
    cases c with
    | lt => exact ⟨a, w, by simp [Builtin.min2, h], Same.rfl' w, ha, rfl⟩
    | gt => exact ⟨b, w, by simp [Builtin.min2, h], Same.rfl' w, hb, rfl⟩
    | eq =>
      have hna : canon k a = a := by
        rcases read_canon k a with ⟨h1, _⟩ | h1
        · unfold Ieee.Format.order at h; rw [order_nan (.inl h1)] at h; cases h
        · exact h1
      refine ⟨if (k.decode a).neg then a else b, w, by simp [Builtin.min2, h], Same.rfl' w, by split <;> assumption, ?_⟩
      simp only [hna]
      split <;> simp_all

theorem does_max {x y : Value} {ts : Array TypeId} {ty : TypeId} (hs : SimG C G w) {vs : List AV} {v : AV} {ns : List Nat} {ob : Prop}
    (hv : VL G w vs [x, y]) (he : eMax vs = some (v, ns, ob)) : Does P C G w (do pure (.value (← Builtin.max_ ts ty #[x, y]))) v ns := by
  have hrun : ∀ (x y : Value) u w', (Builtin.max2 x y).run P w = .ok u w' → (Builtin.max_ ts ty #[x, y]).run P w = .ok u w' := by
    intro x y u w' h
    simp [Builtin.max_, h]
  unfold eMax at he
  split at he
  · split at he <;> cases he
    rename_i hk; subst hk
    obtain ⟨u, u2, hu, ⟨rfl, h1⟩, ⟨rfl, h2⟩⟩ := vl2 hv
    cases hu
    rename_i k x y
    by_cases hxy : y > x
    · exact Does.pure hs (run_value (hrun _ _ (.int k y) w (by simp [Builtin.max2, hxy]))) (Same.rfl' w) (by simp [hxy, VR]; exact h2)
    · exact Does.pure hs (run_value (hrun _ _ (.int k x) w (by simp [Builtin.max2, hxy]))) (Same.rfl' w) (by simp [hxy, VR]; exact h1)
  · split at he <;> cases he
    rename_i hk; subst hk
    obtain ⟨u, u2, hu, ⟨a, rfl, h1, rfl⟩, ⟨b, rfl, h2, rfl⟩⟩ := vl2 hv
    cases hu
    obtain ⟨r, w', hr, hw, hlt, hc⟩ := max2_ok (P := P) (w := w) h1 h2
    exact Does.pure hs (run_value (hrun _ _ _ _ hr)) hw ⟨r, rfl, hlt, hc⟩
  · cases he

theorem does_min {x y : Value} {ts : Array TypeId} {ty : TypeId} (hs : SimG C G w) {vs : List AV} {v : AV} {ns : List Nat} {ob : Prop}
    (hv : VL G w vs [x, y]) (he : eMin vs = some (v, ns, ob)) : Does P C G w (do pure (.value (← Builtin.min_ ts ty #[x, y]))) v ns := by
  unfold eMin at he
  split at he
  · split at he <;> cases he
    rename_i hk; subst hk
    obtain ⟨u, u2, hu, ⟨rfl, h1⟩, ⟨rfl, h2⟩⟩ := vl2 hv
    cases hu
    rename_i k x y
    by_cases hxy : y < x
    · exact Does.pure hs (run_value (u := .int k y) (w' := w) (by simp [Builtin.min_, Builtin.min2, hxy])) (Same.rfl' w) (by simp [hxy, VR]; exact h2)
    · exact Does.pure hs (run_value (u := .int k x) (w' := w) (by simp [Builtin.min_, Builtin.min2, hxy])) (Same.rfl' w) (by simp [hxy, VR]; exact h1)
  · split at he <;> cases he
    rename_i hk; subst hk
    obtain ⟨u, u2, hu, ⟨a, rfl, h1, rfl⟩, ⟨b, rfl, h2, rfl⟩⟩ := vl2 hv
    cases hu
    obtain ⟨r, w', hr, hw, hlt, hc⟩ := min2_ok (P := P) (w := w) h1 h2
    have hrun : ∀ (x y : Value) u w', (Builtin.min2 x y).run P w = .ok u w' → (Builtin.min_ ts ty #[x, y]).run P w = .ok u w' := by
      intro x y u w' h
      simp [Builtin.min_, h]
    exact Does.pure hs (run_value (hrun _ _ _ _ hr)) hw ⟨r, rfl, hlt, hc⟩
  · cases he

theorem does_mkfn {f : FuncId} {us : Array Value} (hs : SimG C G w) {vs : List AV} (hv : VL G w vs us.toList) : Does P C G w (do pure (.value (← Instr.makeFunc (.func f) #[] us))) (.fn f vs) [] :=
  Does.pure hs (run_value (u := .func (.func f) #[] us) (w' := w) (by simp [Instr.makeFunc])) (Same.rfl' w) ⟨us, rfl, hv⟩
theorem does_isnil {t e : TypeId} {x : Value} {X Y : Operand} (hs : SimG C G w) {vs : List AV} {v : AV} {ns : List Nat} {ob : Prop} (ht : P.underlying t = some (.slice e))
    (hv : VL G w vs [x]) (he : eIsnil vs = some (v, ns, ob)) (hob : ob) : Does P C G w (do pure (.value (← (do eqGuard .eql t X Y x (.slice none 0 0); binOp .eql t x (.slice none 0 0) : Sem Value)))) v ns := by
  unfold eIsnil at he
  split at he <;> cases he
  rename_i g off xs
  obtain ⟨u, hu', h2⟩ := vl1 hv
  cases hu'
  rcases h2 with ⟨b, o, cap, rfl, _⟩ | ⟨hn, _⟩
  · have e1 : (Op.equal t (.slice (some ⟨b, o + off, none⟩) xs.len cap) (.slice none 0 0)).run P w = .ok false w := by
      unfold Op.equal
      rw [show Op.maxDepth = 9999 + 1 from rfl, Op.equalIn.eq_2]
      simp only [Sem.run_bind, run_underlying ht, Result.andThen_ok]
      rfl
    have e2 : (binOp .eql t (.slice (some ⟨b, o + off, none⟩) xs.len cap) (.slice none 0 0)).run P w = .ok (.bool false) w := by
      show (do pure (.bool (← Op.equal t (.slice (some ⟨b, o + off, none⟩) xs.len cap) (.slice none 0 0))) : Sem Value).run P w = _
      simp only [Sem.run_bind, e1, Result.andThen_ok]; rfl
    refine Does.pure hs (run_value (u := .bool false) (w' := w) ?_) (Same.rfl' w) rfl
    simp only [Sem.run_bind, eqGuard_plain (op := .eql) (t := t) (x := X) (y := Y) (a := .slice (some ⟨b, o + off, none⟩) xs.len cap) (b := .slice none 0 0) rfl, Result.andThen_ok, e2]
  · omega
theorem constNil_ok {t : TypeId} {c : Value} {y : AV} (h : constNil P t c = some y) : VR G w y c := by
  unfold constNil at h
  split at h
  · split at h <;> cases h
    rename_i e he
    refine .inr ⟨?_, ⟨none, rfl⟩, trivial⟩
    cases e <;> simp [Cont.sub, Cont.len]
  · exact constAV_ok h
theorem zeroNil_ok {fields : Array Field} {z : Value} {cs : List AV} (h : zeroCellsNil P fields z = some cs) : VL G w cs z.cells.toList := by
  have gen : ∀ (l : List (TypeId × Value)) (cs : List AV), allSome (l.map fun p => constNil P p.1 p.2) = some cs → VL G w cs (l.map (·.2)) := by
    intro l
    induction l with
    | nil => intro cs h; simp [allSome] at h; subst h; simp [VL]
    | cons p r ih =>
      intro cs h
      simp only [List.map_cons, allSome] at h
      cases hx : constNil P p.1 p.2 with
      | none => simp [hx, allSome] at h
      | some y =>
        simp only [hx, allSome] at h
        cases hr : allSome (r.map fun p => constNil P p.1 p.2) with
        | none => simp [hr] at h
        | some ys =>
          simp [hr] at h; subst h
          simp only [List.map_cons, VL]
          exact ⟨_, _, rfl, constNil_ok hx, ih ys hr⟩
  unfold zeroCellsNil at h
  split at h
  · rename_i hsz
    have := gen ((fields.toList.zip z.cells.toList).map fun p => (p.1.type, p.2)) cs (by rw [List.map_map]; exact h)
    rw [List.map_map] at this
    have e : List.map ((fun x : TypeId × Value => x.2) ∘ fun p : Field × Value => (p.1.type, p.2)) (fields.toList.zip z.cells.toList) = z.cells.toList := by
      have : ((fun x : TypeId × Value => x.2) ∘ fun p : Field × Value => (p.1.type, p.2)) = Prod.snd := rfl
      rw [this, List.map_snd_zip]
      simpa using Nat.le_of_eq hsz.symm
    rw [e] at this; exact this
  · cases h
theorem vl_set {G : Gh} {w : World} {x : AV} {u : Value} (hx : VR G w x u) : ∀ {xs : List AV} {us : List Value} {j : Nat}, VL G w xs us → VL G w (xs.set j x) (us.set j u)
  | [], us, j, h => by simp [VL] at h; subst h; simp [VL]
  | y :: r, us, 0, h => by
    simp only [VL] at h; obtain ⟨v, us', rfl, _, hr⟩ := h
    simp only [List.set_cons_zero, VL]; exact ⟨_, _, rfl, hx, hr⟩
  | y :: r, us, j + 1, h => by
    simp only [VL] at h; obtain ⟨v, us', rfl, hy, hr⟩ := h
    simp only [List.set_cons_succ, VL]; exact ⟨_, _, rfl, hy, vl_set hx hr⟩
theorem mapM_places {fields : List Field} (h : ∀ f ∈ fields, (P.info? f.type).isSome = true) : ∃ ps, fields.mapM (fun f => (P.info? f.type).map fun i => (f.offset, i.size)) = some ps ∧ ∀ (i : Nat) (f : Field) (it : TypeInfo), fields[i]? = some f → P.info? f.type = some it → ps[i]? = some (f.offset, it.size) := by
  induction fields with
  | nil => exact ⟨[], rfl, fun i f it h => by simp at h⟩
  | cons g r ih =>
    obtain ⟨ps, h1, h2⟩ := ih fun f hf => h f (List.mem_cons_of_mem _ hf)
    have hg := h g (List.mem_cons_self ..)
    cases hi : P.info? g.type with
    | none => simp [hi] at hg
    | some ig =>
      refine ⟨(g.offset, ig.size) :: ps, by simp [List.mapM_cons, hi, h1], fun i f it hf hit => ?_⟩
      cases i with
      | zero => simp at hf; subst hf; rw [hi] at hit; cases hit; rfl
      | succ i => simpa using h2 i f it (by simpa using hf) hit
theorem does_build {t : TypeId} {it : TypeInfo} {fields : Array Field} {z : Value} {cs : List AV} {parts : Array (Nat × Operand)} {ps : List (Nat × (TypeId × Operand))} {a : Act} (hs : SimG C G w) {vs : List AV} {v : AV} {ns : List Nat} {ob : Prop}
    (hu : P.underlying t = some (.struct fields)) (hi : P.info? t = some it) (hz : it.zero = some z) (hc : zeroCellsNil P fields z = some cs) (hp : partsAt P fields parts.toList = some ps) (hf : fields.all (fun f => (P.info? f.type).isSome) = true)
    (hv : VL G w vs ((ps.map (·.2)).map fun p => a.eval p.2)) (he : eBuild cs (ps.map (·.1)) vs = some (v, ns, ob)) : Does P C G w (do pure (.value (← Instr.build t (parts.map fun (i, x) => (i, a.eval x))))) v ns := by
  unfold eBuild at he
  split at he <;> cases he
  rename_i hcond
  obtain ⟨hlen, hsg, hlt⟩ := hcond
  obtain ⟨pl, hpl, hplace⟩ := mapM_places (P := P) (fields := fields.toList) (fun f hf' => by
    rw [Array.all_eq_true_iff_forall_mem] at hf
    exact hf f (by simpa using hf'))
  have gen : ∀ (l : List (Nat × Operand)) (ps : List (Nat × (TypeId × Operand))) (vs : List AV) (zs : List AV) (cells : Array Value),
      allSome (l.map fun p => match fields[p.1]? with | some f => if size1 P f.type = true then some (f.offset, (f.type, p.2)) else none | none => none) = some ps →
      VL G w vs ((ps.map (·.2)).map fun p => a.eval p.2) → vs.all AV.single = true → ((ps.map (·.1)).all fun i => decide (i < zs.length)) = true → VL G w zs cells.toList →
      ∃ cells', Instr.fill (pl.toArray[·]?) cells (l.map fun p => (p.1, a.eval p.2)) = some cells' ∧ VL G w (setAll zs (ps.map (·.1)) vs) cells'.toList := by
    intro l
    induction l with
    | nil =>
      intro ps vs zs cells hps hv _ _ hzs
      simp only [List.map_nil, allSome] at hps; cases hps
      have hv : vs = [] := by cases vs with | nil => rfl | cons x r => simp [VL] at hv
      subst hv
      exact ⟨cells, rfl, hzs⟩
    | cons p r ih =>
      intro ps vs zs cells hps hv hsg hlt hzs
      simp only [List.map_cons, allSome] at hps
      cases hfl : fields[p.1]? with
      | none => simp [hfl, allSome] at hps
      | some f =>
        by_cases h1 : size1 P f.type = true
        · simp only [hfl, h1, if_true] at hps
          simp only [allSome] at hps
          cases hr : allSome (r.map fun p => match fields[p.1]? with | some f => if size1 P f.type = true then some (f.offset, (f.type, p.2)) else none | none => none) with
          | none => simp [hr] at hps
          | some qs =>
            simp [hr] at hps; subst hps
            simp only [List.map_cons, VL] at hv
            obtain ⟨u, us, hus, hx, hrest⟩ := (by
              cases vs with
              | nil => simp [VL] at hv
              | cons x vr => simp only [VL] at hv; obtain ⟨u, us, h1, h2, h3⟩ := hv; exact ⟨x, vr, rfl, by cases h1; exact h2, by cases h1; exact h3⟩ : ∃ x vr, vs = x :: vr ∧ VR G w x (a.eval p.2) ∧ VL G w vr ((qs.map (·.2)).map fun p => a.eval p.2))
            subst hus
            simp only [List.all_cons, Bool.and_eq_true] at hsg
            simp only [List.map_cons, List.all_cons, Bool.and_eq_true, decide_eq_true_eq] at hlt
            have hsc := (single_cells hsg.1 hx).1
            have hcl := vl_len hzs
            cases hit : P.info? f.type with
            | none => simp [size1, hit] at h1
            | some ift =>
              have hsz : ift.size = 1 := by simp [size1, hit] at h1; exact h1
              have hpi := hplace p.1 f ift (by simpa using hfl) hit
              have hl2 : (cells.setIfInBounds f.offset (a.eval p.2)).toList = cells.toList.set f.offset (a.eval p.2) := by simp
              obtain ⟨cells', h2, h3⟩ := ih qs us (zs.set f.offset u) (cells.setIfInBounds f.offset (a.eval p.2)) hr hrest hsg.2 (by simpa using hlt.2) (by rw [hl2]; exact vl_set hx hzs)
              refine ⟨cells', ?_, by simpa [setAll] using h3⟩
              have hpi2 : pl.toArray[p.1]? = some (f.offset, 1) := by rw [List.getElem?_toArray, hpi, hsz]
              simp only [List.map_cons, Instr.fill, hpi2, hsc]
              have hnot : ¬ (f.offset + 1 > cells.size) := by
                have : cells.toList.length = cells.size := by simp
                omega
              simp only [List.size_toArray, List.length_cons, List.length_nil, Nat.zero_add, ne_eq, not_true_eq_false, false_or, hnot, or_self, if_false]
              simpa using h2
        · simp [hfl, h1, allSome] at hps
  obtain ⟨cells', h1, h2⟩ := gen parts.toList ps vs cs z.cells (by unfold partsAt at hp; exact hp) hv hsg hlt (zeroNil_ok hc)
  refine Does.pure hs (run_value (run_build w t _ cells' ?_)) (Same.rfl' w) ⟨cells', rfl, h2⟩
  unfold Program.built
  simp only [hi, hu, hz, hpl]
  simpa using h1

/-! ### arrays -/
theorem constsL_ok {t : TypeId} : ∀ (l : List Value) (cs : List AV), allSome (l.map (constAV P t)) = some cs → VL G w cs l
  | [], cs, h => by simp [allSome] at h; subst h; simp [VL]
  | p :: r, cs, h => by
    simp only [List.map_cons, allSome] at h
    cases hx : constAV P t p with
    | none => simp [hx, allSome] at h
    | some y =>
      simp only [hx, allSome] at h
      cases hr : allSome (r.map (constAV P t)) with
      | none => simp [hr] at h
      | some ys =>
        simp [hr] at h; subst h
        simp only [VL]
        exact ⟨_, _, rfl, constAV_ok hx, constsL_ok r ys hr⟩
theorem fillA_ok {a : Act} : ∀ (l : List (Nat × Operand)) (vs zs : List AV) (cells : Array Value), VL G w vs (l.map fun p => a.eval p.2) → vs.all AV.single = true → ((l.map (·.1)).all fun i => decide (i < zs.length)) = true → VL G w zs cells.toList →
    ∃ cells', Instr.fill (fun i => some (i * 1, 1)) cells (l.map fun p => (p.1, a.eval p.2)) = some cells' ∧ VL G w (setAll zs (l.map (·.1)) vs) cells'.toList
  | [], vs, zs, cells, hv, _, _, hzs => by
    have hv : vs = [] := by cases vs with | nil => rfl | cons x r => simp [VL] at hv
    subst hv
    exact ⟨cells, rfl, by simpa [setAll] using hzs⟩
  | p :: r, vs, zs, cells, hv, hsg, hlt, hzs => by
    simp only [List.map_cons] at hv
    obtain ⟨u, us, hus, hx, hrest⟩ := (by
      cases vs with
      | nil => simp [VL] at hv
      | cons x vr => simp only [VL] at hv; obtain ⟨u, us, h1, h2, h3⟩ := hv; exact ⟨x, vr, rfl, by cases h1; exact h2, by cases h1; exact h3⟩ : ∃ x vr, vs = x :: vr ∧ VR G w x (a.eval p.2) ∧ VL G w vr (r.map fun p => a.eval p.2))
    subst hus
    simp only [List.all_cons, Bool.and_eq_true] at hsg
    simp only [List.map_cons, List.all_cons, Bool.and_eq_true, decide_eq_true_eq] at hlt
    have hsc := (single_cells hsg.1 hx).1
    have hcl := vl_len hzs
    have hl2 : (cells.setIfInBounds p.1 (a.eval p.2)).toList = cells.toList.set p.1 (a.eval p.2) := by simp
    obtain ⟨cells', h2, h3⟩ := fillA_ok r us (zs.set p.1 u) (cells.setIfInBounds p.1 (a.eval p.2)) hrest hsg.2 (by simpa using hlt.2) (by rw [hl2]; exact vl_set hx hzs)
    refine ⟨cells', ?_, by simpa [setAll] using h3⟩
    have hnot : ¬ (p.1 + 1 > cells.size) := by
      have : cells.toList.length = cells.size := by simp
      omega
    simp only [List.map_cons, Instr.fill, hsc, Nat.mul_one]
    simp only [List.size_toArray, List.length_cons, List.length_nil, Nat.zero_add, ne_eq, not_true_eq_false, hnot, false_or, Bool.or_false, decide_false, if_false]
    simpa using h2
theorem does_buildA {t e : TypeId} {n : Nat} {it : TypeInfo} {z : Value} {cs : List AV} {parts : Array (Nat × Operand)} {a : Act} (hs : SimG C G w) {vs : List AV} {v : AV} {ns : List Nat} {ob : Prop}
    (hu : P.underlying t = some (.array n e)) (hi : P.info? t = some it) (hz : it.zero = some z) (hc : allSome (z.cells.toList.map (constAV P e)) = some cs) (h1 : size1 P e = true)
    (hv : VL G w vs ((parts.toList.map fun p => ((e, p.2) : TypeId × Operand)).map fun p => a.eval p.2)) (he : eBuild cs (parts.toList.map (·.1)) vs = some (v, ns, ob)) : Does P C G w (do pure (.value (← Instr.build t (parts.map fun (i, x) => (i, a.eval x))))) v ns := by
  unfold eBuild at he
  split at he <;> cases he
  rename_i hcond
  obtain ⟨hlen, hsg, hlt⟩ := hcond
  cases hie : P.info? e with
  | none => simp [size1, hie] at h1
  | some ie =>
    have hsz : ie.size = 1 := by simp [size1, hie] at h1; exact h1
    obtain ⟨cells', h2, h3⟩ := fillA_ok (a := a) parts.toList vs cs z.cells (by simpa [List.map_map, Function.comp_def] using hv) hsg hlt (constsL_ok _ _ hc)
    refine Does.pure hs (run_value (run_build w t _ cells' ?_)) (Same.rfl' w) ⟨cells', rfl, h3⟩
    unfold Program.built
    simp only [hi, hu, hz, hie, hsz]
    simpa using h2
theorem does_aidx {t e : TypeId} {n : Nat} {x i : Value} (hs : SimG C G w) {vs : List AV} {v : AV} {ns : List Nat} {ob : Prop} (hu : P.underlying t = some (.array n e)) (h1 : size1 P e = true) (hr : isRowT P e = false) (hd : (P.underlying e).isSome = true)
    (hv : VL G w vs [x, i]) (he : eAidx n vs = some (v, ns, ob)) (hob : ob) : Does P C G w (do pure (.value (← Instr.index t x i))) v ns := by
  unfold eAidx at he
  split at he
  · rename_i cells k m
    split at he
    · rename_i hl
      split at he <;> cases he
      rename_i c hc
      obtain ⟨u, z, hus, hx, hz⟩ := vl2 hv
      cases hus
      obtain ⟨us, rfl, hxs⟩ := hx
      obtain ⟨rfl, _⟩ := hz
      have hlc : us.toList.length = c.len ∧ ∀ j z, us.toList[j]? = some z → c.ok G w j z := by
        unfold contOf at hc
        split at hc
        · exact litOf_ok rfl hc hxs
        · exact litOf_ok rfl hc hxs
        · cases hc
      have hlen := vl_len hxs
      have hob' : 0 ≤ m ∧ m < n := hob
      have hm : m.toNat < us.size := by have : us.toList.length = us.size := by simp
                                        omega
      obtain ⟨d, hd'⟩ := Option.isSome_iff_exists.1 hd
      refine Does.pure hs (run_value (u := us[m.toNat]) (w' := w) ?_) (Same.rfl' w) (VR_get (hlc.2 m.toNat _ (by simp [hm])))
      simp only [Instr.index, asIntOf, Sem.run_bind, Sem.run_pure, Result.andThen_ok, run_underlying hu, hob', and_self, if_true, run_sizeOf1 h1, Nat.mul_one]
      simp [part, isAgg_run w d hd', hr, hm, asIntOf, hob', run_sizeOf1 h1]
    · cases he
  · cases he
end
end Go.Proofs.LV
