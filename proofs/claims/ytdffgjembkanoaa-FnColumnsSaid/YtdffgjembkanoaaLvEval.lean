/- One operation that is no call and no store: if its abstract evaluation gives v, the program's operation gives a value that reads as v. -/
import Derived.Test.YtdffgjembkanoaaLvMem
namespace Go.Proofs.LV
open Go Go.RowKit
set_option linter.unusedVariables false
set_option linter.unusedSimpArgs false

section
variable {P : Program} {C : Ctx} {G : Gh} {w : World}

theorem constAV_ok {t : TypeId} {c : Value} {y : AV} (h : constAV P t c = some y) : VR G w y c := by
  unfold constAV at h
  split at h
  · cases h; rfl
  · split at h <;> cases h; rename_i hr; exact ⟨rfl, hr⟩
  · split at h <;> cases h; rename_i hr; exact ⟨_, rfl, hr, rfl⟩
  · split at h <;> cases h; rename_i hr; exact ⟨_, _, rfl, hr, rfl, rfl⟩
  · split at h <;> cases h
    rename_i e he
    refine .inr ⟨?_, ⟨none, rfl⟩, trivial⟩
    cases e <;> simp [Cont.sub, Cont.len]
  · cases h; simp [VR]
  · cases h

theorem resX_ok {σ : Env} {a : Act} {x : TypeId × Operand} {p : Opd} (h : resX P x = some p) (hs : Sim C G σ a w) : VR G w (σ.ev p) (a.eval x.2) := by
  unfold resX at h
  split at h
  · cases h; exact hs.ev _
  · rename_i t v
    cases hc : constAV P t v with
    | none => simp [hc] at h
    | some y => simp [hc] at h; subst h; exact constAV_ok hc
  · cases h; exact ⟨#[], rfl, by simp [VL]⟩
  · cases h

theorem opds_ok {σ : Env} {a : Act} (hs : Sim C G σ a w) : ∀ (xs : List (TypeId × Operand)) (ps : List Opd), allSome (xs.map (resX P)) = some ps → VL G w (ps.map σ.ev) (xs.map fun p => a.eval p.2)
  | [], ps, h => by simp [allSome] at h; subst h; simp [VL]
  | x :: r, ps, h => by
    simp only [List.map_cons, allSome] at h
    cases hx : resX P x with
    | none => simp [hx, allSome] at h
    | some p =>
      simp only [hx, allSome] at h
      cases hr : allSome (r.map (resX P)) with
      | none => simp [hr] at h
      | some qs =>
        simp [hr] at h; subst h
        simp only [List.map_cons, VL]
        exact ⟨_, _, rfl, resX_ok hx hs, opds_ok hs r qs hr⟩

theorem vl1 {x : AV} {us : List Value} (h : VL G w [x] us) : ∃ u, us = [u] ∧ VR G w x u := by
  simp only [VL] at h; obtain ⟨u, us, rfl, hx, rfl⟩ := h; exact ⟨u, rfl, hx⟩
theorem vl2 {x y : AV} {us : List Value} (h : VL G w [x, y] us) : ∃ u v, us = [u, v] ∧ VR G w x u ∧ VR G w y v := by
  simp only [VL] at h; obtain ⟨u, us, rfl, hx, v, vs, rfl, hy, rfl⟩ := h; exact ⟨u, v, rfl, hx, hy⟩
theorem vl3 {x y z : AV} {us : List Value} (h : VL G w [x, y, z] us) : ∃ u v t, us = [u, v, t] ∧ VR G w x u ∧ VR G w y v ∧ VR G w z t := by
  simp only [VL] at h; obtain ⟨u, us, rfl, hx, v, vs, rfl, hy, t, ts, rfl, hz, rfl⟩ := h; exact ⟨u, v, t, rfl, hx, hy, hz⟩

theorem vl_get {G : Gh} {w : World} : ∀ {xs : List AV} {us : List Value} {j : Nat} {x : AV}, VL G w xs us → xs[j]? = some x → ∃ u, us[j]? = some u ∧ VR G w x u
  | [], us, j, x, h, hj => by simp at hj
  | y :: r, us, 0, x, h, hj => by simp only [VL] at h; obtain ⟨u, us, rfl, hx, hr⟩ := h; simp at hj; subst hj; exact ⟨u, rfl, hx⟩
  | y :: r, us, j + 1, x, h, hj => by
    simp only [VL] at h; obtain ⟨u, us, rfl, hx, hr⟩ := h
    simp only [List.getElem?_cons_succ] at hj ⊢
    exact vl_get hr hj
theorem vl_len {G : Gh} {w : World} : ∀ {xs : List AV} {us : List Value}, VL G w xs us → us.length = xs.length
  | [], us, h => by simp only [VL] at h; subst h; rfl
  | y :: r, us, h => by simp only [VL] at h; obtain ⟨u, us, rfl, hx, hr⟩ := h; simp [vl_len hr]

theorem cl_get {G : Gh} {w : World} {b : Nat} : ∀ {xs : List AV} {o j : Nat} {x : AV}, CL G w b o xs → xs[j]? = some x → ∃ u, w.cell? ⟨b, o + j, none⟩ = some u ∧ VR G w x u
  | [], o, j, x, h, hj => by simp at hj
  | y :: r, o, 0, x, h, hj => by simp only [CL] at h; simp at hj; subst hj; exact h.1
  | y :: r, o, j + 1, x, h, hj => by
    simp only [CL] at h
    simp only [List.getElem?_cons_succ] at hj
    have := cl_get h.2 hj
    rwa [show o + 1 + j = o + (j + 1) by omega] at this

/-- What an operation does: a value that reads as 'out' in a world that keeps the rest. -/
def Does (P : Program) (C : Ctx) (G : Gh) (w : World) (m : Sem Next) (v : AV) (ns : List Nat) : Prop :=
  ∃ u w' G', m.run P w = .ok (.value u) w' ∧ StepOk C G w G' w' ns ∧ VR G' w' v u

theorem Does.pure {m : Sem Next} {v : AV} {u : Value} {w' : World} {ns : List Nat} (hs : SimG C G w) (hr : m.run P w = .ok (.value u) w') (hw : Same w w') (hv : VR G w v u) : Does P C G w m v ns :=
  ⟨u, w', G, hr, StepOk.same hw hs ns, VR.same hw hv⟩

theorem run_value {s : Sem Value} {u : Value} {w' : World} (h : s.run P w = .ok u w') : (do pure (.value (← s)) : Sem Next).run P w = .ok (.value u) w' := by
  simp only [Sem.run_bind, h, Result.andThen_ok]; rfl

theorem run_sizeOf1 {t : TypeId} (h : size1 P t = true) (w : World) : (sizeOf t).run P w = .ok 1 w := by
  unfold size1 at h
  cases hi : P.info? t with
  | none => simp [hi] at h
  | some i => simp [hi] at h; simp [sizeOf, typeInfo, hi, h]

theorem sliceT_ok {t e : TypeId} (h : sliceT P t = some e) : P.underlying t = some (.slice e) ∧ size1 P e = true := by
  unfold sliceT at h
  split at h
  · rename_i e' hu
    split at h <;> cases h
    exact ⟨hu, by assumption⟩
  · cases h

theorem isAgg_run {t : TypeId} (w : World) : ∀ d, P.underlying t = some d → (isAgg t).run P w = .ok (isRowT P t) w := by
  intro d hd
  unfold isAgg isRowT
  simp only [Sem.run_bind, run_underlying hd, Result.andThen_ok, hd]
  cases d <;> rfl

/-- an address at work -/
theorem does_iaddr {t : TypeId} {x i : Value} {vs : List AV} {v : AV} {ns : List Nat} {ob : Prop} (hs : SimG C G w) {e : TypeId} (ht : sliceT P t = some e)
    (hv : VL G w vs [x, i]) (he : eIaddr vs = some (v, ns, ob)) (hob : ob) : Does P C G w (do pure (.value (← Instr.indexAt t x i))) v ns := by
  unfold eIaddr at he
  split at he <;> cases he
  rotate_left
  · rename_i m lo q xss hh k n
    obtain ⟨u, z, hu, h1, h2⟩ := vl2 hv
    cases hu
    obtain ⟨rfl, hk⟩ := h2
    obtain ⟨hu, h1z⟩ := sliceT_ok ht
    obtain ⟨hho, h1⟩ := h1
    rcases h1 with ⟨b, o, cap, rfl, hat, hn, hm, hc, hsp⟩ | ⟨hn, _, _⟩
    · obtain ⟨c, hcell, hok⟩ := hc n.toNat (by omega)
      refine Does.pure hs (run_value (u := .pointer (some ⟨b, o + (lo + n.toNat), none⟩)) (w' := w) ?_) (Same.rfl' w) ⟨hho, b, o, rfl, hat, c, by rw [← Nat.add_assoc]; exact hcell, ?_⟩
      · have hpos : 0 ≤ n ∧ n < xss.length := hob
        simp only [Instr.indexAt, asIntOf, Sem.run_bind, Sem.run_pure, Result.andThen_ok, run_underlying hu, hpos, and_self, if_true, run_sizeOf1 h1z, Nat.mul_one]
        have hadd : (⟨b, o + lo, none⟩ : Addr).add n.toNat = ⟨b, o + (lo + n.toNat), none⟩ := by rw [Addr.add_mid, Nat.add_assoc]
        simp [hadd, hpos, asIntOf, run_sizeOf1 h1z]
      · cases hh with
        | none =>
          rcases hok with hok | hok
          · cases hok
          · exact hok
        | some h => simp [rowAt, VR]
    · omega
  rename_i g off xs k n
  obtain ⟨u, z, hu, h1, h2⟩ := vl2 hv
  cases hu
  obtain ⟨rfl, hk⟩ := h2
  obtain ⟨hu, h1z⟩ := sliceT_ok ht
  rcases h1 with ⟨b, o, cap, rfl, hat, hn, hm, hc, hsp⟩ | ⟨hn, _, _⟩
  · obtain ⟨c, hcell, hok⟩ := hc n.toNat (by omega)
    refine Does.pure hs (run_value (u := .pointer (some ⟨b, o + (off + n.toNat), none⟩)) (w' := w) ?_) (Same.rfl' w) ⟨b, o, rfl, hat, c, by rw [← Nat.add_assoc]; exact hcell, VR_get hok⟩
    have hpos : 0 ≤ n ∧ n < xs.len := hob
    simp only [Instr.indexAt, asIntOf, Sem.run_bind, Sem.run_pure, Result.andThen_ok, run_underlying hu, hpos, and_self, if_true, run_sizeOf1 h1z, Nat.mul_one]
    have hadd : (⟨b, o + off, none⟩ : Addr).add n.toNat = ⟨b, o + (off + n.toNat), none⟩ := by rw [Addr.add_mid, Nat.add_assoc]
    simp [hadd, hpos, asIntOf, run_sizeOf1 h1z]
  · omega

theorem does_mv {o : Sem Next} {x : Value} (hs : SimG C G w) {vs : List AV} {v : AV} {ns : List Nat} {ob : Prop} (ho : o = pure (.value x))
    (hv : VL G w vs [x]) (he : eMv vs = some (v, ns, ob)) : Does P C G w o v ns := by
  unfold eMv at he
  split at he <;> cases he
  obtain ⟨u, hu, h1⟩ := vl1 hv
  cases hu; subst ho
  exact Does.pure hs (by simp) (Same.rfl' w) h1

theorem does_pick {c x y : Value} (hs : SimG C G w) {vs : List AV} {v : AV} {ns : List Nat} {ob : Prop}
    (hv : VL G w vs [c, x, y]) (he : ePick vs = some (v, ns, ob)) : Does P C G w (do pure (.value (if ← asBool c then x else y))) v ns := by
  unfold ePick at he
  split at he <;> cases he
  obtain ⟨u, u2, u3, hu, h1, h2, h3⟩ := vl3 hv
  cases hu
  obtain rfl := h1
  rename_i b _ _
  cases b
  · exact Does.pure hs (u := y) (w' := w) (by simp [asBool]) (Same.rfl' w) h3
  · exact Does.pure hs (u := x) (w' := w) (by simp [asBool]) (Same.rfl' w) h2

theorem does_bin {op : BinOp} {t u : TypeId} {X Y : Operand} {x y : Value} (hs : SimG C G w) {vs : List AV} {v : AV} {ns : List Nat} {ob : Prop}
    (hv : VL G w vs [x, y]) (he : eBin op vs = some (v, ns, ob)) (hob : ob) : Does P C G w (do pure (.value (← (do eqGuard op t X Y x y; binOp op t x y : Sem Value)))) v ns := by
  unfold eBin at he
  split at he
  · split at he <;> cases he
    rename_i hb
    obtain ⟨u, u2, hu, h1, h2⟩ := vl2 hv
    cases hu
    obtain ⟨r, w', hr, hw, hvr⟩ := bin_sound (P := P) op t X Y hb hob h1 h2
    exact Does.pure hs (run_value hr) hw hvr
  · cases he

theorem does_binb {op : BinOp} {t u : TypeId} {X Y : Operand} {x y : Value} (hs : SimG C G w) {vs : List AV} {v : AV} {ns : List Nat} {ob : Prop} (ht : P.underlying t = some .bool)
    (hv : VL G w vs [x, y]) (he : eBinb op vs = some (v, ns, ob)) : Does P C G w (do pure (.value (← (do eqGuard op t X Y x y; binOp op t x y : Sem Value)))) v ns := by
  unfold eBinb at he
  split at he
  · split at he <;> cases he
    rename_i hb
    obtain ⟨u, u2, hu, h1, h2⟩ := vl2 hv
    cases hu
    obtain ⟨r, hr, hvr⟩ := binb_sound (P := P) op t X Y ht hb h1 h2
    exact Does.pure hs (run_value hr) (Same.rfl' w) hvr
  · cases he

theorem does_not {x : Value} (hs : SimG C G w) {vs : List AV} {v : AV} {ns : List Nat} {ob : Prop}
    (hv : VL G w vs [x]) (he : eNot vs = some (v, ns, ob)) : Does P C G w (do pure (.value (← Op.unary .not x))) v ns := by
  unfold eNot at he
  split at he <;> cases he
  obtain ⟨u, hu, h1⟩ := vl1 hv
  cases hu
  obtain rfl := h1
  exact Does.pure hs (run_value (u := .bool _) (w' := w) (by simp [Op.unary])) (Same.rfl' w) rfl

theorem does_convI {k : IntKind} {src dst : TypeId} {x : Value} (hs : SimG C G w) {vs : List AV} {v : AV} {ns : List Nat} {ob : Prop} (h1 : (P.underlying src).isSome = true) (h2 : P.underlying dst = some (.int k))
    (hv : VL G w vs [x]) (he : eConvI k vs = some (v, ns, ob)) (hob : ob) : Does P C G w (do pure (.value (← convert src dst x))) v ns := by
  unfold eConvI at he
  split at he <;> cases he
  · obtain ⟨u, hu, h3⟩ := vl1 hv
    cases hu
    obtain ⟨rfl, _⟩ := h3
    exact Does.pure hs (run_value (conv_sound_ii src dst _ k _ h1 h2)) (Same.rfl' w) ⟨rfl, wrap_range _ _⟩
  · obtain ⟨u, hu, h3⟩ := vl1 hv
    cases hu
    obtain ⟨b, rfl, hb, rfl⟩ := h3
    obtain ⟨hr, hrange⟩ := conv_sound_fi (w := w) src dst _ k b h1 h2 hob
    exact Does.pure hs (run_value hr) (Same.rfl' w) ⟨rfl, hrange⟩

theorem does_convF {k : FloatKind} {src dst : TypeId} {x : Value} (hs : SimG C G w) {vs : List AV} {v : AV} {ns : List Nat} {ob : Prop} (h1 : (P.underlying src).isSome = true) (h2 : P.underlying dst = some (.float k))
    (hv : VL G w vs [x]) (he : eConvF k vs = some (v, ns, ob)) (hob : ob) : Does P C G w (do pure (.value (← convert src dst x))) v ns := by
  unfold eConvF at he
  split at he <;> cases he
  · obtain ⟨u, hu, h3⟩ := vl1 hv
    cases hu
    obtain ⟨rfl, _⟩ := h3
    exact Does.pure hs (run_value (conv_sound_if src dst _ k _ h1 h2)) (Same.rfl' w) ⟨_, rfl, (fofi_ok k _).1, (fofi_ok k _).2⟩
  · obtain ⟨u, hu, h3⟩ := vl1 hv
    cases hu
    obtain ⟨b, rfl, hb, rfl⟩ := h3
    obtain ⟨r, w', hr, hw, hlt, hc⟩ := conv_sound_ff (P := P) (w := w) src dst _ k b h1 h2 hb hob
    exact Does.pure hs (run_value hr) hw ⟨r, rfl, hlt, hc⟩

theorem does_convC {k : FloatKind} {src dst : TypeId} {x : Value} (hs : SimG C G w) {vs : List AV} {v : AV} {ns : List Nat} {ob : Prop} (h1 : (P.underlying src).isSome = true) (h2 : P.underlying dst = some (.complex k))
    (hv : VL G w vs [x]) (he : eConvC k vs = some (v, ns, ob)) (hob : ob) : Does P C G w (do pure (.value (← convert src dst x))) v ns := by
  unfold eConvC at he
  split at he <;> cases he
  obtain ⟨u, hu, h3⟩ := vl1 hv
  cases hu
  obtain ⟨a, b, rfl, hab, rfl, rfl⟩ := h3
  obtain ⟨r, q, w', hr, hw, hlt, e1, e2⟩ := conv_sound_cc (P := P) (w := w) src dst _ k a b h1 h2 hab.1 hab.2 hob.1 hob.2
  exact Does.pure hs (run_value hr) hw ⟨r, q, rfl, hlt, e1, e2⟩

theorem does_faddr {s : TypeId} {x : Value} (hs : SimG C G w) {vs : List AV} {v : AV} {ns : List Nat} {ob : Prop} {fields : Array Field} {f : Nat} {fd : Field}
    (hu : P.underlying s = some (.struct fields)) (hf : fields[f]? = some fd) (h1 : size1 P fd.type = true)
    (hv : VL G w vs [x]) (he : eFaddr fd.offset vs = some (v, ns, ob)) : Does P C G w (do pure (.value (← Instr.fieldAt s x f))) v ns := by
  unfold eFaddr at he
  split at he
  · split at he <;> cases he
    rename_i g cells y hy
    obtain ⟨u, hu', h2⟩ := vl1 hv
    cases hu'
    obtain ⟨b, o, rfl, hat, hc⟩ := h2
    obtain ⟨c, hcell, hvr⟩ := cl_get hc hy
    refine Does.pure hs (run_value (u := .pointer (some ⟨b, o + fd.offset, none⟩)) (w' := w) ?_) (Same.rfl' w) ⟨b, o, rfl, hat, c, hcell, hvr⟩
    simp [Instr.fieldAt, run_underlying hu, hf, Instr.sureAddr, fieldPlace, run_sizeOf1 h1, Addr.add_mid]
  · cases he

theorem run_load1 {t : TypeId} {d : TypeDesc} (hd : P.underlying t = some d) (hr : isRowT P t = false) {b o : Nat} {u : Value} (hc : w.cell? ⟨b, o, none⟩ = some u) :
    (Instr.loadAt t (.pointer (some ⟨b, o, none⟩))).run P w = .ok u w := by
  simp only [Instr.loadAt, Instr.sureAddr, Sem.run_bind, Sem.run_pure, Result.andThen_ok, loadVar, isAgg_run w d hd, hr]
  simp [load, Sem.run, hc]

theorem does_load {t : TypeId} {x : Value} {d : TypeDesc} (hs : SimG C G w) {vs : List AV} {v : AV} {ns : List Nat} {ob : Prop} (hd : P.underlying t = some d) (hr : isRowT P t = false)
    (hv : VL G w vs [x]) (he : eLoad vs = some (v, ns, ob)) : Does P C G w (do pure (.value (← Instr.loadAt t x))) v ns := by
  unfold eLoad at he
  split at he <;> cases he
  · obtain ⟨u, hu', h2⟩ := vl1 hv
    cases hu'
    obtain ⟨b, o, rfl, hat, c, hc, hvr⟩ := h2
    exact Does.pure hs (run_value (run_load1 hd hr hc)) (Same.rfl' w) hvr
  · obtain ⟨u, hu', h2⟩ := vl1 hv
    cases hu'
    obtain ⟨_, b, o, rfl, hat, c, hc, hvr⟩ := h2
    exact Does.pure hs (run_value (run_load1 hd hr hc)) (Same.rfl' w) hvr
  · obtain ⟨u, hu', h2⟩ := vl1 hv
    cases hu'
    obtain ⟨b, o, rfl, hat, hc⟩ := h2
    obtain ⟨c, hcell, hvr⟩ := cl_get (j := 0) hc rfl
    exact Does.pure hs (run_value (run_load1 hd hr hcell)) (Same.rfl' w) hvr

theorem cl_list {G : Gh} {w : World} {b : Nat} : ∀ {xs : List AV} {o : Nat}, CL G w b o xs → ∃ us : List Value, us.length = xs.length ∧ w.rangeAt b o us ∧ VL G w xs us
  | [], o, _ => ⟨[], rfl, fun j v h => by simp at h, rfl⟩
  | x :: r, o, h => by
    simp only [CL] at h
    obtain ⟨⟨u, hu, hx⟩, hr⟩ := h
    obtain ⟨us, hl, hrg, hvl⟩ := cl_list hr
    refine ⟨u :: us, by simp [hl], fun j v hj => ?_, ⟨u, us, rfl, hx, hvl⟩⟩
    cases j with
    | zero => simp at hj; subst hj; exact hu
    | succ j => simp at hj; rw [show o + (j + 1) = o + 1 + j by omega]; exact hrg j v hj

theorem does_loadN {t : TypeId} {x : Value} {d : TypeDesc} (hs : SimG C G w) {vs : List AV} {v : AV} {ns : List Nat} {ob : Prop} (hd : P.underlying t = some d) (hr : d.isRow = true) {n : Nat} (hi : (P.info? t).map (·.size) = some n)
    (hv : VL G w vs [x]) (he : eLoadN n vs = some (v, ns, ob)) : Does P C G w (do pure (.value (← Instr.loadAt t x))) v ns := by
  unfold eLoadN at he
  split at he
  · split at he <;> cases he
    rename_i hl
    obtain ⟨u, hu', h2⟩ := vl1 hv
    cases hu'
    obtain ⟨b, o, rfl, hat, hc⟩ := h2
    obtain ⟨us, hlen, hrg, hvl⟩ := cl_list hc
    refine Does.pure hs (run_value (run_loadAt_mid w b o t us d hrg hd hr (by rw [hi, hlen, hl]))) (Same.rfl' w) ⟨us.toArray, rfl, by simpa using hvl⟩
  · cases he

theorem srow_len {G : Gh} {w : World} {g : Tag} {off n : Nat} {E : Nat → Value → Prop} {v : Value} (h : SRow G w g off n E v) : ∃ a cap, v = .slice a n cap ∧ (n : Int) ≤ 9223372036854775807 := by
  rcases h with ⟨b, o, cap, rfl, _, hn, hm, _⟩ | ⟨rfl, ⟨a, rfl⟩, _⟩
  · exact ⟨_, _, rfl, by unfold maxLen at hm; omega⟩
  · exact ⟨_, _, rfl, by omega⟩

theorem does_len {t ty : TypeId} {e : TypeId} {x : Value} (hs : SimG C G w) {vs : List AV} {v : AV} {ns : List Nat} {ob : Prop} (ht : P.underlying t = some (.slice e))
    (hv : VL G w vs [x]) (he : eLen vs = some (v, ns, ob)) : Does P C G w (do pure (.value (← Builtin.len_ #[t] ty #[x]))) v ns := by
  unfold eLen at he
  split at he <;> cases he
  all_goals obtain ⟨u, hu', h2⟩ := vl1 hv
  all_goals cases hu'
  rotate_left
  all_goals first | obtain ⟨a, cap, rfl, hmax⟩ := srow_len h2.2 | obtain ⟨a, cap, rfl, hmax⟩ := srow_len h2
  all_goals
   refine Does.pure hs (run_value (u := .int .i64 _) (w' := w) ?_) (Same.rfl' w) ⟨rfl, ?_, ?_⟩
   · simp [Builtin.len_, run_underlying ht, goInt]
   · show (-9223372036854775808 : Int) ≤ _; omega
   · show _ ≤ (9223372036854775807 : Int); omega

theorem does_extract {j : Nat} {x : Value} (hs : SimG C G w) {vs : List AV} {v : AV} {ns : List Nat} {ob : Prop}
    (hv : VL G w vs [x]) (he : eExtract j vs = some (v, ns, ob)) : Does P C G w (do pure (.value (← Instr.extract x j))) v ns := by
  unfold eExtract at he
  split at he
  · split at he <;> cases he
    rename_i hj
    obtain ⟨u, hu', h2⟩ := vl1 hv
    cases hu'
    obtain ⟨us, rfl, hl⟩ := h2
    obtain ⟨c, hc, hvr⟩ := vl_get hl hj
    refine Does.pure hs (run_value (u := c) (w' := w) ?_) (Same.rfl' w) hvr
    have : us[j]? = some c := by simpa using hc
    simp [Instr.extract, this]
  · cases he

theorem does_nilck {x : Value} (hs : SimG C G w) {vs : List AV} {v : AV} {ns : List Nat} {ob : Prop} {o : Oper} {X : Operand} {a : Act} (ho : o.op = .nilCheck X) (hx : a.eval X = x)
    (hv : VL G w vs [x]) (he : eNilck vs = some (v, ns, ob)) : Does P C G w (execOp a.eval o) v ns := by
  unfold eNilck at he
  split at he <;> cases he
  obtain ⟨u, hu', h2⟩ := vl1 hv
  cases hu'
  obtain ⟨b, c, rfl, hat, hc⟩ := h2
  refine Does.pure hs (u := .pointer (some ⟨b, c, none⟩)) (w' := w) ?_ (Same.rfl' w) ⟨b, c, rfl, hat, hc⟩
  simp [execOp, ho, hx]

theorem run_complex (k : FloatKind) (a b : Nat) (ts : Array TypeId) (ty : TypeId) : (Builtin.complex_ ts ty #[.float k a, .float k b]).run P w = .ok (.complex k a b) w := by cases k <;> rfl

theorem does_cplx {x y : Value} {ts : Array TypeId} {ty : TypeId} (hs : SimG C G w) {vs : List AV} {v : AV} {ns : List Nat} {ob : Prop}
    (hv : VL G w vs [x, y]) (he : eCplx vs = some (v, ns, ob)) : Does P C G w (do pure (.value (← Builtin.complex_ ts ty #[x, y]))) v ns := by
  unfold eCplx at he
  split at he
  · split at he <;> cases he
    rename_i hk; subst hk
    obtain ⟨u, u2, hu, h1, h2⟩ := vl2 hv
    cases hu
    obtain ⟨a, rfl, ha, rfl⟩ := h1
    obtain ⟨b, rfl, hb, rfl⟩ := h2
    exact Does.pure hs (run_value (run_complex _ a b ts ty)) (Same.rfl' w) ⟨a, b, rfl, ⟨ha, hb⟩, rfl, rfl⟩
  · cases he
theorem does_re {x : Value} {ts : Array TypeId} {ty : TypeId} (hs : SimG C G w) {vs : List AV} {v : AV} {ns : List Nat} {ob : Prop}
    (hv : VL G w vs [x]) (he : eRe vs = some (v, ns, ob)) : Does P C G w (do pure (.value (← Builtin.real_ ts ty #[x]))) v ns := by
  unfold eRe at he
  split at he <;> cases he
  obtain ⟨u, hu', h2⟩ := vl1 hv
  cases hu'
  obtain ⟨a, b, rfl, ⟨ha, hb⟩, rfl, rfl⟩ := h2
  exact Does.pure hs (run_value (u := .float _ a) (w' := w) rfl) (Same.rfl' w) ⟨a, rfl, ha, rfl⟩
theorem does_im {x : Value} {ts : Array TypeId} {ty : TypeId} (hs : SimG C G w) {vs : List AV} {v : AV} {ns : List Nat} {ob : Prop}
    (hv : VL G w vs [x]) (he : eIm vs = some (v, ns, ob)) : Does P C G w (do pure (.value (← Builtin.imag_ ts ty #[x]))) v ns := by
  unfold eIm at he
  split at he <;> cases he
  obtain ⟨u, hu', h2⟩ := vl1 hv
  cases hu'
  obtain ⟨a, b, rfl, ⟨ha, hb⟩, rfl, rfl⟩ := h2
  exact Does.pure hs (run_value (u := .float _ b) (w' := w) rfl) (Same.rfl' w) ⟨b, rfl, hb, rfl⟩

theorem sub_len (xs : Cont) (lo n : Nat) (h : lo + n ≤ xs.len) : (xs.sub lo n).len = n := by
  cases xs <;> simp [Cont.sub, Cont.len] at * <;> omega
theorem getD_sub {α : Type} (xs : List α) (lo n j : Nat) (d : α) (h : j < n) : ((xs.drop lo).take n).getD j d = xs.getD (lo + j) d := by
  simp [List.getD, List.getElem?_take, h, List.getElem?_drop]
theorem sub_ok {G : Gh} {w : World} (xs : Cont) (lo n j : Nat) (u : Value) (h : j < n) (hx : xs.ok G w (lo + j) u) : (xs.sub lo n).ok G w j u := by
  cases xs <;> simp only [Cont.sub, Cont.ok] at * <;> rw [getD_sub _ _ _ _ _ h] <;> exact hx

theorem srow_slice {G : Gh} {w : World} {g : Tag} {off : Nat} {xs : Cont} {b o cap l h : Nat} {e : TypeId} (hat : G.at g b o) (hlh : l ≤ h) (hh : h ≤ xs.len) (hn : xs.len ≤ cap) (hm : cap ≤ maxLen)
    (hc : ∀ j, j < xs.len → ∃ u, w.cell? ⟨b, o + off + j, none⟩ = some u ∧ xs.ok G w j u) (hsp : ∀ j, j < cap → (w.cell? ⟨b, o + off + j, none⟩).isSome = true) :
    VR G w (.sl g (off + l) (xs.sub l (h - l))) (.slice (some (if cap = l then ⟨b, o + off, none⟩ else ⟨b, o + off + l, none⟩)) (h - l) (cap - l)) := by
  simp only [VR]
  rw [sub_len xs l (h - l) (by omega)]
  by_cases hcl : cap = l
  · refine .inr ⟨by omega, ⟨_, by rw [show h - l = 0 by omega, show cap - l = 0 by omega]⟩, ?_⟩
    cases g with
    | own n => exact hat.1
    | row n i => exact hat.1
    | _ => trivial
  · rw [if_neg hcl]
    refine .inl ⟨b, o, cap - l, by rw [Nat.add_assoc], hat, by omega, by omega, fun j hj => ?_, fun j hj => ?_⟩
    · obtain ⟨u, hu, hok⟩ := hc (l + j) (by omega)
      exact ⟨u, by rw [show o + (off + l) + j = o + off + (l + j) by omega]; exact hu, sub_ok xs l (h - l) j u hj hok⟩
    · have := hsp (l + j) (by omega)
      rwa [show o + off + (l + j) = o + (off + l) + j by omega] at this

theorem run_sliceBound {k : IntKind} {i : Int} {y : Nat} {c : BoundsCode} (h0 : 0 ≤ i) (h1 : i ≤ y) : (Instr.sliceBound (.int k i) y c).run P w = .ok i.toNat w := by
  simp [Instr.sliceBound, asIntOf, h0, h1]

theorem run_sliceAt {t e : TypeId} {a : Option Addr} {len cap l h : Nat} {lo hi : Option Value} (ht : P.underlying t = some (.slice e)) (h1 : size1 P e = true)
    (hb : (Instr.sliceBounds true len cap lo hi none).run P w = .ok (l, h, cap) w) :
    (Instr.sliceAt t (.slice a len cap) lo hi none).run P w = .ok (.slice (if cap = l then a else a.map (·.add l)) (h - l) (cap - l)) w := by
  simp [Instr.sliceAt, Instr.slice, run_underlying ht, hb, run_sizeOf1 h1]

theorem does_slice {t e : TypeId} {xs : List Value} {lo hi : Option Value} {blo bhi : Bool} (hs : SimG C G w) {vs : List AV} {v : AV} {ns : List Nat} {ob : Prop} (ht : sliceT P t = some e) {x : Value}
    (hxs : (blo = true ∧ bhi = true ∧ ∃ l h, lo = some l ∧ hi = some h ∧ xs = [x, l, h]) ∨ (blo = true ∧ bhi = false ∧ ∃ l, lo = some l ∧ hi = none ∧ xs = [x, l]) ∨ (blo = false ∧ bhi = true ∧ ∃ h, lo = none ∧ hi = some h ∧ xs = [x, h]))
    (hv : VL G w vs xs) (he : eSlice blo bhi false vs = some (v, ns, ob)) (hob : ob) : Does P C G w (do pure (.value (← Instr.sliceAt t x lo hi none))) v ns := by
  obtain ⟨hu, h1z⟩ := sliceT_ok ht
  unfold eSlice at he
  split at he <;> cases he
  · rename_i g off ys k1 l k2 h _
    rcases hxs with ⟨_, _, L, H, rfl, rfl, rfl⟩ | ⟨_, h2, _⟩ | ⟨h2, _⟩
    · obtain ⟨u1, u2, u3, hu', h1, ⟨rfl, _⟩, ⟨rfl, _⟩⟩ := vl3 hv
      cases hu'
      obtain ⟨p1, p2, p3⟩ := hob
      rcases h1 with ⟨b, o, cap, rfl, hat, hn, hm, hc, hsp⟩ | ⟨hn, ⟨a, rfl⟩, hvd⟩
      · have hb : (Instr.sliceBounds true ys.len cap (some (.int k1 l)) (some (.int k2 h)) none).run P w = .ok (l.toNat, h.toNat, cap) w := by
          simp [Instr.sliceBounds, run_sliceBound (P := P) (w := w) (k := k2) (i := h) (y := cap) (c := .sliceAcap) (by omega) (by omega),
            run_sliceBound (P := P) (w := w) (k := k1) (i := l) (y := h.toNat) (c := .sliceB) p1 (by omega)]
        have hv' := srow_slice (e := e) hat (l := l.toNat) (h := h.toNat) (by omega) (by omega) hn hm hc hsp
        refine Does.pure hs (run_value (run_sliceAt hu h1z hb)) (Same.rfl' w) ?_
        have : (if cap = l.toNat then some (⟨b, o + off, none⟩ : Addr) else Option.map (fun x : Addr => x.add l.toNat) (some ⟨b, o + off, none⟩)) = some (if cap = l.toNat then ⟨b, o + off, none⟩ else ⟨b, o + off + l.toNat, none⟩) := by
          split <;> simp [Addr.add_mid]
        rw [this]
        exact hv'
      · have e1 : l.toNat = 0 := by omega
        have e2 : h.toNat = 0 := by omega
        have hb : (Instr.sliceBounds true 0 0 (some (.int k1 l)) (some (.int k2 h)) none).run P w = .ok (l.toNat, h.toNat, 0) w := by
          simp [Instr.sliceBounds, run_sliceBound (P := P) (w := w) (k := k2) (i := h) (y := 0) (c := .sliceAcap) (by omega) (by omega),
            run_sliceBound (P := P) (w := w) (k := k1) (i := l) (y := h.toNat) (c := .sliceB) p1 (by omega)]
        rw [hn] at *
        refine Does.pure hs (run_value (run_sliceAt hu h1z hb)) (Same.rfl' w) ?_
        refine .inr ⟨by rw [sub_len _ _ _ (by omega)]; omega, ⟨a, ?_⟩, hvd⟩
        rw [e1, e2]; rfl
    · cases h2
    · cases h2
  · rename_i n b0 q ys hh k1 l _
    rcases hxs with ⟨_, h2, _⟩ | ⟨_, _, L, rfl, rfl, rfl⟩ | ⟨h2, _⟩
    · cases h2
    · obtain ⟨u1, u2, hu', h1, ⟨rfl, _⟩⟩ := vl2 hv
      cases hu'
      obtain ⟨p1, p2⟩ := hob
      have hlen : (ys.drop l.toNat).length = ys.length - l.toNat := List.length_drop
      obtain ⟨hho, h1⟩ := h1
      rcases h1 with ⟨b, o, cap, rfl, hat, hn, hm, hc, hsp⟩ | ⟨hn, ⟨a, rfl⟩, hvd⟩
      · have hb : (Instr.sliceBounds true ys.length cap (some (.int k1 l)) none none).run P w = .ok (l.toNat, ys.length, cap) w := by
          simp [Instr.sliceBounds, run_sliceBound (P := P) (w := w) (k := k1) (i := l) (y := ys.length) (c := .sliceB) p1 (by omega)]
        refine Does.pure hs (run_value (run_sliceAt hu h1z hb)) (Same.rfl' w) ?_
        have : (if cap = l.toNat then some (⟨b, o + b0, none⟩ : Addr) else Option.map (fun x : Addr => x.add l.toNat) (some ⟨b, o + b0, none⟩)) = some (if cap = l.toNat then ⟨b, o + b0, none⟩ else ⟨b, o + b0 + l.toNat, none⟩) := by
          split <;> simp [Addr.add_mid]
        rw [this]
        simp only [VR]
        rw [hlen]
        refine ⟨hho, ?_⟩
        by_cases hcl : cap = l.toNat
        · exact .inr ⟨by omega, ⟨_, by rw [show ys.length - l.toNat = 0 by omega, show cap - l.toNat = 0 by omega]⟩, hat.1⟩
        · rw [if_neg hcl]
          refine .inl ⟨b, o, cap - l.toNat, by rw [Nat.add_assoc], hat, by omega, by omega, fun j hj => ?_, fun j hj => ?_⟩
          · obtain ⟨u, hu, hok⟩ := hc (l.toNat + j) (by omega)
            refine ⟨u, by rw [show o + (b0 + l.toNat) + j = o + b0 + (l.toNat + j) by omega]; exact hu, ?_⟩
            have e : (ys.drop l.toNat).getD j [] = ys.getD (l.toNat + j) [] := by simp [List.getD, List.getElem?_drop]
            unfold NRow at hok ⊢
            rw [e, Nat.add_assoc]; exact hok
          · have := hsp (l.toNat + j) (by omega)
            rwa [show o + b0 + (l.toNat + j) = o + (b0 + l.toNat) + j by omega] at this
      · have e1 : l.toNat = 0 := by omega
        have hb : (Instr.sliceBounds true 0 0 (some (.int k1 l)) none none).run P w = .ok (l.toNat, 0, 0) w := by
          simp [Instr.sliceBounds, run_sliceBound (P := P) (w := w) (k := k1) (i := l) (y := 0) (c := .sliceB) p1 (by omega)]
        have hd0 : (ys.drop l.toNat).length = 0 := by rw [hlen]; omega
        rw [hn] at *
        refine Does.pure hs (run_value (run_sliceAt hu h1z hb)) (Same.rfl' w) ?_
        refine ⟨hho, .inr ⟨hd0, ⟨a, ?_⟩, hvd⟩⟩
        rw [e1]; rfl
    · cases h2
  · rename_i g off ys k1 l _
    rcases hxs with ⟨_, h2, _⟩ | ⟨_, _, L, rfl, rfl, rfl⟩ | ⟨h2, _⟩
    · cases h2
    · obtain ⟨u1, u2, hu', h1, ⟨rfl, _⟩⟩ := vl2 hv
      cases hu'
      obtain ⟨p1, p2⟩ := hob
      rcases h1 with ⟨b, o, cap, rfl, hat, hn, hm, hc, hsp⟩ | ⟨hn, ⟨a, rfl⟩, hvd⟩
      · have hb : (Instr.sliceBounds true ys.len cap (some (.int k1 l)) none none).run P w = .ok (l.toNat, ys.len, cap) w := by
          simp [Instr.sliceBounds, run_sliceBound (P := P) (w := w) (k := k1) (i := l) (y := ys.len) (c := .sliceB) p1 (by omega)]
        have hv' := srow_slice (e := e) hat (l := l.toNat) (h := ys.len) (by omega) (Nat.le_refl _) hn hm hc hsp
        refine Does.pure hs (run_value (run_sliceAt hu h1z hb)) (Same.rfl' w) ?_
        have : (if cap = l.toNat then some (⟨b, o + off, none⟩ : Addr) else Option.map (fun x : Addr => x.add l.toNat) (some ⟨b, o + off, none⟩)) = some (if cap = l.toNat then ⟨b, o + off, none⟩ else ⟨b, o + off + l.toNat, none⟩) := by
          split <;> simp [Addr.add_mid]
        rw [this]
        exact hv'
      · have e1 : l.toNat = 0 := by omega
        have hb : (Instr.sliceBounds true 0 0 (some (.int k1 l)) none none).run P w = .ok (l.toNat, 0, 0) w := by
          simp [Instr.sliceBounds, run_sliceBound (P := P) (w := w) (k := k1) (i := l) (y := 0) (c := .sliceB) p1 (by omega)]
        rw [hn] at *
        refine Does.pure hs (run_value (run_sliceAt hu h1z hb)) (Same.rfl' w) ?_
        refine .inr ⟨by rw [sub_len _ _ _ (by omega)]; omega, ⟨a, ?_⟩, hvd⟩
        rw [e1]; rfl
    · cases h2
  · rename_i g off ys k1 h _
    rcases hxs with ⟨h2, _⟩ | ⟨h2, _⟩ | ⟨_, _, H, rfl, rfl, rfl⟩
    · cases h2
    · cases h2
    · obtain ⟨u1, u2, hu', h1, ⟨rfl, _⟩⟩ := vl2 hv
      cases hu'
      obtain ⟨p1, p2⟩ := hob
      rcases h1 with ⟨b, o, cap, rfl, hat, hn, hm, hc, hsp⟩ | ⟨hn, ⟨a, rfl⟩, hvd⟩
      · have hb : (Instr.sliceBounds true ys.len cap none (some (.int k1 h)) none).run P w = .ok (0, h.toNat, cap) w := by
          simp [Instr.sliceBounds, run_sliceBound (P := P) (w := w) (k := k1) (i := h) (y := cap) (c := .sliceAcap) p1 (by omega)]
        have hv' := srow_slice (e := e) hat (l := 0) (h := h.toNat) (by omega) (by omega) hn hm hc hsp
        refine Does.pure hs (run_value (run_sliceAt hu h1z hb)) (Same.rfl' w) ?_
        have : (if cap = 0 then some (⟨b, o + off, none⟩ : Addr) else Option.map (fun x : Addr => x.add 0) (some ⟨b, o + off, none⟩)) = some (if cap = 0 then ⟨b, o + off, none⟩ else ⟨b, o + off + 0, none⟩) := by
          split <;> simp [Addr.add_mid]
        rw [this]
        exact hv'
      · have e1 : h.toNat = 0 := by omega
        have hb : (Instr.sliceBounds true 0 0 none (some (.int k1 h)) none).run P w = .ok (0, h.toNat, 0) w := by
          simp [Instr.sliceBounds, run_sliceBound (P := P) (w := w) (k := k1) (i := h) (y := 0) (c := .sliceAcap) p1 (by omega)]
        rw [hn] at *
        refine Does.pure hs (run_value (run_sliceAt hu h1z hb)) (Same.rfl' w) ?_
        refine .inr ⟨by rw [sub_len _ _ _ (by omega)]; omega, ⟨a, ?_⟩, hvd⟩
        rw [e1]; rfl
  · rename_i heq; cases heq
theorem does_slice3 {t e : TypeId} {x h m : Value} (hs : SimG C G w) {vs : List AV} {v : AV} {ns : List Nat} {ob : Prop} (ht : sliceT P t = some e)
    (hv : VL G w vs [x, h, m]) (he : eSlice false true true vs = some (v, ns, ob)) (hob : ob) : Does P C G w (do pure (.value (← Instr.sliceAt t x none (some h) (some m)))) v ns := by
  obtain ⟨hu, h1z⟩ := sliceT_ok ht
  unfold eSlice at he
  split at he
  all_goals first | (rename_i heq; cases heq; done) | cases he
  rename_i g off ys k1 _ k2 _ _ _ _
  obtain ⟨u1, u2, u3, hu', h1, ⟨rfl, _⟩, ⟨rfl, _⟩⟩ := vl3 hv
  cases hu'
  obtain ⟨rfl, rfl⟩ := hob
  have key : ∀ (a : Option Addr) (n cap : Nat), Does P C G w (do pure (.value (← Instr.sliceAt t (.slice a n cap) none (some (.int k1 0)) (some (.int k2 0))))) (.sl .nil 0 (Cont.sub 0 0 ys)) [] := by
    intro a n cap
    refine Does.pure hs (run_value (u := .slice a 0 0) (w' := w) ?_) (Same.rfl' w) (.inr ⟨by rw [sub_len _ _ _ (by omega)], ⟨a, rfl⟩, trivial⟩)
    simp [Instr.sliceAt, Instr.slice, run_underlying hu, Instr.sliceBounds, run_sliceBound, run_sizeOf1 h1z]
  rcases h1 with ⟨b, o, cap, rfl, _⟩ | ⟨_, ⟨a, rfl⟩, _⟩
  · exact key _ _ _
  · exact key _ _ _
end
end Go.Proofs.LV
