/- Regions whose order is drawn and one call of which writes its arguments. -/
import Derived.Test.YtdffgjembkanoaaLvAny
namespace Go.Proofs.LV
open Go Go.RowKit
set_option linter.unusedVariables false
set_option linter.unusedSimpArgs false

/-! ### what is not spoken of stays as it is -/
theorem look_names {μ : Nat → Option New} {g : Tag} {N : New} (h : g.look μ = some N) : ∃ n, μ n = some N ∧ g.names n = true := by
  cases g <;> simp only [Tag.look] at h <;> first | cases h | exact ⟨_, h, by simp [Tag.names]⟩
mutual
theorem swap_id {μ : Nat → Option New} : ∀ (v : AV), (∀ n N, μ n = some N → v.has n = false) → AV.swap μ v = v
  | .any, _ => by simp [AV.swap]
  | .b _, _ => by simp [AV.swap]
  | .i _ _, _ => by simp [AV.swap]
  | .f _ _, _ => by simp [AV.swap]
  | .c _ _ _, _ => by simp [AV.swap]
  | .sl g off xs, h => by
    have : g.look μ = none := by
      cases hl : g.look μ with
      | none => rfl
      | some N => obtain ⟨n, h1, h2⟩ := look_names hl; have := h n N h1; simp [AV.has, h2] at this
    simp [AV.swap, this]
  | .bx g cells, h => by
    have : g.look μ = none := by
      cases hl : g.look μ with
      | none => rfl
      | some N => obtain ⟨n, h1, h2⟩ := look_names hl; have := h n N h1; simp [AV.has, h2] at this
    simp only [AV.swap, this]
    rw [swapL_id cells (fun n N hn => by have := h n N hn; simp only [AV.has, Bool.or_eq_false_iff] at this; exact this.2)]
  | .ad g idx x, h => by
    have : g.look μ = none := by
      cases hl : g.look μ with
      | none => rfl
      | some N => obtain ⟨n, h1, h2⟩ := look_names hl; have := h n N h1; simp [AV.has, h2] at this
    simp only [AV.swap, this]
    rw [swap_id x (fun n N hn => by have := h n N hn; simp only [AV.has, Bool.or_eq_false_iff] at this; exact this.2)]
  | .agg cells, h => by simp only [AV.swap]; rw [swapL_id cells (fun n N hn => by simpa [AV.has] using h n N hn)]
  | .tup cells, h => by simp only [AV.swap]; rw [swapL_id cells (fun n N hn => by simpa [AV.has] using h n N hn)]
  | .fn f cells, h => by simp only [AV.swap]; rw [swapL_id cells (fun n N hn => by simpa [AV.has] using h n N hn)]
  | .nw n lo k xss hh, h => by
    have : μ n = none := by
      cases hl : μ n with
      | none => rfl
      | some N => have := h n N hl; simp [AV.has] at this
    simp [AV.swap, this]
  | .na n ix k hh x, h => by
    have : μ n = none := by
      cases hl : μ n with
      | none => rfl
      | some N => have := h n N hl; simp [AV.has] at this
    simp only [AV.swap, this]
    rw [swap_id x (fun n N hn => by have := h n N hn; simp only [AV.has, Bool.or_eq_false_iff] at this; exact this.2)]
theorem swapL_id {μ : Nat → Option New} : ∀ (xs : List AV), (∀ n N, μ n = some N → AV.hasL n xs = false) → AV.swapL μ xs = xs
  | [], _ => rfl
  | x :: r, h => by
    simp only [AV.swapL]
    rw [swap_id x (fun n N hn => by have := h n N hn; simp only [AV.hasL, Bool.or_eq_false_iff] at this; exact this.1), swapL_id r (fun n N hn => by have := h n N hn; simp only [AV.hasL, Bool.or_eq_false_iff] at this; exact this.2)]
end
mutual
theorem lens_id {μ : Nat → Option New} : ∀ (v : AV), (∀ n N, μ n = some N → v.has n = false) → AV.lens μ v = []
  | .any, _ => by simp [AV.lens]
  | .b _, _ => by simp [AV.lens]
  | .i _ _, _ => by simp [AV.lens]
  | .f _ _, _ => by simp [AV.lens]
  | .c _ _ _, _ => by simp [AV.lens]
  | .sl g off xs, h => by
    have : g.look μ = none := by
      cases hl : g.look μ with
      | none => rfl
      | some N => obtain ⟨n, h1, h2⟩ := look_names hl; have := h n N h1; simp [AV.has, h2] at this
    simp [AV.lens, this]
  | .bx g cells, h => by
    have : g.look μ = none := by
      cases hl : g.look μ with
      | none => rfl
      | some N => obtain ⟨n, h1, h2⟩ := look_names hl; have := h n N h1; simp [AV.has, h2] at this
    simp only [AV.lens, this]
    exact lensL_id cells (fun n N hn => by have := h n N hn; simp only [AV.has, Bool.or_eq_false_iff] at this; exact this.2)
  | .ad g idx x, h => by
    have : g.look μ = none := by
      cases hl : g.look μ with
      | none => rfl
      | some N => obtain ⟨n, h1, h2⟩ := look_names hl; have := h n N h1; simp [AV.has, h2] at this
    simp only [AV.lens, this]
    exact lens_id x (fun n N hn => by have := h n N hn; simp only [AV.has, Bool.or_eq_false_iff] at this; exact this.2)
  | .agg cells, h => by simp only [AV.lens]; exact lensL_id cells (fun n N hn => by simpa [AV.has] using h n N hn)
  | .tup cells, h => by simp only [AV.lens]; exact lensL_id cells (fun n N hn => by simpa [AV.has] using h n N hn)
  | .fn f cells, h => by simp only [AV.lens]; exact lensL_id cells (fun n N hn => by simpa [AV.has] using h n N hn)
  | .nw n lo k xss hh, h => by
    have : μ n = none := by
      cases hl : μ n with
      | none => rfl
      | some N => have := h n N hl; simp [AV.has] at this
    simp [AV.lens, this]
  | .na n ix k hh x, h => by
    have : μ n = none := by
      cases hl : μ n with
      | none => rfl
      | some N => have := h n N hl; simp [AV.has] at this
    simp only [AV.lens, this]
    exact lens_id x (fun n N hn => by have := h n N hn; simp only [AV.has, Bool.or_eq_false_iff] at this; exact this.2)
theorem lensL_id {μ : Nat → Option New} : ∀ (xs : List AV), (∀ n N, μ n = some N → AV.hasL n xs = false) → AV.lensL μ xs = []
  | [], _ => rfl
  | x :: r, h => by
    simp only [AV.lensL]
    rw [lens_id x (fun n N hn => by have := h n N hn; simp only [AV.hasL, Bool.or_eq_false_iff] at this; exact this.1), lensL_id r (fun n N hn => by have := h n N hn; simp only [AV.hasL, Bool.or_eq_false_iff] at this; exact this.2)]
    rfl
end
theorem cellOut_has {x : AV} (h : x.cellOut = true) (n : Nat) : x.has n = false := by
  unfold AV.cellOut at h
  split at h <;> simp_all [AV.has, Tag.names]
mutual
theorem swap_has {μ : Nat → Option New} (hg : ∀ n N, μ n = some N → N.good = true) {l : Nat} : ∀ (v : AV), v.has l = false → (AV.swap μ v).has l = false
  | .any, h => by simp [AV.swap, AV.has]
  | .b _, h => by simp [AV.swap, AV.has]
  | .i _ _, h => by simp [AV.swap, AV.has]
  | .f _ _, h => by simp [AV.swap, AV.has]
  | .c _ _ _, h => by simp [AV.swap, AV.has]
  | .sl g off xs, h => by
    simp only [AV.swap]
    split
    · split
      · simpa [AV.has] using h
      · rfl
    · rfl
    · exact h
  | .bx g cells, h => by
    simp only [AV.has, Bool.or_eq_false_iff] at h
    simp only [AV.swap]
    split
    · rename_i cs hl
      split
      · obtain ⟨n, h1, _⟩ := look_names hl
        have hgd := hg n _ h1
        simp only [New.good, List.all_eq_true] at hgd
        simp only [AV.has, h.1, Bool.false_or]
        exact hasL_of fun x hx => cellOut_has (hgd x hx) l
      · rfl
    · rfl
    · simp only [AV.has, h.1, Bool.false_or]; exact swapL_has hg cells h.2
  | .ad g idx x, h => by
    simp only [AV.has, Bool.or_eq_false_iff] at h
    simp only [AV.swap]
    split
    · rfl
    · simp [AV.has, h.1, swap_has hg x h.2]
  | .agg cells, h => by simp only [AV.has] at h; simp only [AV.swap, AV.has]; exact swapL_has hg cells h
  | .tup cells, h => by simp only [AV.has] at h; simp only [AV.swap, AV.has]; exact swapL_has hg cells h
  | .fn f cells, h => by simp only [AV.has] at h; simp only [AV.swap, AV.has]; exact swapL_has hg cells h
  | .nw n lo k xss hh, h => by
    simp only [AV.swap]
    split
    · split
      · simpa [AV.has] using h
      · rfl
    · rfl
    · exact h
  | .na n ix k hh x, h => by
    simp only [AV.has, Bool.or_eq_false_iff] at h
    simp only [AV.swap]
    split
    · rfl
    · simp [AV.has, h.1, swap_has hg x h.2]
theorem swapL_has {μ : Nat → Option New} (hg : ∀ n N, μ n = some N → N.good = true) {l : Nat} : ∀ (xs : List AV), AV.hasL l xs = false → AV.hasL l (AV.swapL μ xs) = false
  | [], h => rfl
  | x :: r, h => by
    simp only [AV.hasL, Bool.or_eq_false_iff] at h
    simp [AV.swapL, AV.hasL, swap_has hg x h.1, swapL_has hg r h.2]
end
theorem swapL_set {μ : Nat → Option New} : ∀ (xs : List AV) (d : Nat) (v : AV), AV.swapL μ (xs.set d v) = (AV.swapL μ xs).set d (AV.swap μ v)
  | [], d, v => by simp [AV.swapL]
  | x :: r, 0, v => by simp [AV.swapL]
  | x :: r, d + 1, v => by simp [AV.swapL, swapL_set r d v]
theorem swapL_put {μ : Nat → Option New} (σ : Env) (d : Option Nat) (v : AV) : AV.swapL μ (Env.put d v σ) = Env.put d (AV.swap μ v) (AV.swapL μ σ) := by
  cases d with
  | none => rfl
  | some d => exact swapL_set σ d v
/-- a slot that is put anew owes nothing, and owed nothing -/
theorem lens_set {μ : Nat → Option New} {v : AV} (hv : AV.lens μ v = []) : ∀ (xs : List AV) (d : Nat), AV.lens μ (xs.getD d .any) = [] → AV.lensL μ (xs.set d v) = AV.lensL μ xs
  | [], d, _ => by simp
  | x :: r, 0, h => by simp at h; simp [AV.lensL, hv, h]
  | x :: r, d + 1, h => by simp only [List.set_cons_succ, AV.lensL]; rw [lens_set hv r d (by simpa using h)]
theorem lens_put {μ : Nat → Option New} {v : AV} (hv : AV.lens μ v = []) (σ : Env) (d : Option Nat) (h : ∀ j, d = some j → AV.lens μ (σ.getD j .any) = []) : AV.lensL μ (Env.put d v σ) = AV.lensL μ σ := by
  cases d with
  | none => rfl
  | some d => exact lens_set hv σ d (h d rfl)

/-! ### the call that writes -/
/-- what the call does to an environment that does not speak of what it makes -/
structure MCall (VC : FuncId → List AV → AV → Prop) (y : VStep) (ry : AV) (vs : List AV) (μ : Nat → Option New) (vb : AV) (p : Prop) : Prop where
  step : ∀ τ : Env, y.opds.map τ.ev = vs → (∀ n, n ∈ callNames (y.dst.getD 0) → ∀ j, (τ.getD j .any).has n = false) → stepM VC y ry τ = some (Env.put y.dst vb (AV.swapL μ τ), obsAll (p :: AV.lensL μ τ))
  good : ∀ n N, μ n = some N → N.good = true ∧ n ∈ dedup (AV.nmsL vs)
  back : ∀ n, n ∉ callNames (y.dst.getD 0) → vb.has n = false
theorem stepM_inv {VC : FuncId → List AV → AV → Prop} {y : VStep} {ry : AV} {σ σ' : Env} {o : Prop} (h : stepM VC y ry σ = some (σ', o)) : ∃ μ vb p, MCall VC y ry (y.opds.map σ.ev) μ vb p := by
  unfold stepM at h
  split at h
  · rename_i f r0 outs hkd
    simp only at h
    split at h
    · rename_i hcond
      refine ⟨newC (mnames y σ) outs, AV.back (y.dst.getD 0) [] r0, VC f (AV.mviewL (mnames y σ) (mvals y σ)) (.bx .nil [r0, .tup outs]), fun τ hτ hfr => ?_, fun n N hN => ?_, fun n hn => ?_⟩
      · have e1 : mvals y τ = mvals y σ := hτ
        have e2 : mnames y τ = mnames y σ := by unfold mnames; rw [hτ]
        have e3 : τ.scrubs (callNames (y.dst.getD 0)) = τ := scrubs_none hfr
        unfold stepM
        simp only [hkd, e1, e2, e3]
        rw [if_pos hcond]
      · unfold newC at hN
        cases hc : (mnames y σ).contains n with
        | false => rw [hc] at hN; cases hN
        | true =>
          have hmem : n ∈ mnames y σ := by simpa using hc
          have := (List.all_eq_true.1 hcond.2.2) n hmem
          simp only [Bool.and_eq_true] at this
          have h2 := this.2
          unfold newC at h2
          rw [hc] at hN h2
          simp only [cond_true] at hN h2
          rw [hN] at h2
          exact ⟨h2, hmem⟩
      · exact back_has (by rfl) hn r0
    · cases h
  · cases h
theorem callNames_sub {y : VStep} {f : FuncId} (h : y.kd = .call f) : ∀ n, n ∈ callNames (y.dst.getD 0) → n ∈ y.names := by
  intro n hn; unfold VStep.names; rw [h]; exact hn

/-- its slots -/
def VStep.slots (s : VStep) : List Nat := s.reads ++ (match s.dst with | some d => [d] | none => [])

theorem evalS_free {VC : FuncId → List AV → AV → Prop} {s : VStep} {r : AV} {σ : Env} {v : AV} {ns : List Nat} {o : Prop} {n : Nat} (hk : s.kd.special = false) (hc : s.clean = true)
    (he : evalS VC s r σ = some (v, ns, o)) (hσ : ∀ j, j ∈ s.reads → (σ.getD j .any).has n = false) (hn : n ∉ s.names) : v.has n = false := by
  have hτ : ∀ j, j ∈ s.reads → List.getD (clearFrom s.reads 0 σ) j .any = σ.getD j .any := by
    intro j hj
    have : ∀ (σ : List AV) (a j : Nat), a + j ∈ s.reads → (clearFrom s.reads a σ).getD j .any = σ.getD j .any := by
      intro σ
      induction σ with
      | nil => intro a j _; simp [clearFrom]
      | cons x r ih =>
        intro a j hj
        cases j with
        | zero => simp only [clearFrom, List.getD_cons_zero]; rw [show s.reads.contains a = true by simpa using hj]; rfl
        | succ j => simp only [clearFrom, List.getD_cons_succ]; exact ih (a + 1) j (by rw [show a + 1 + j = a + (j + 1) by omega]; exact hj)
    exact this σ 0 j (by simpa using hj)
  have hnot : ∀ j, j ∉ s.reads → List.getD (clearFrom s.reads 0 σ) j .any = .any := by
    intro j hj
    have : ∀ (σ : List AV) (a j : Nat), a + j ∉ s.reads → (clearFrom s.reads a σ).getD j .any = .any := by
      intro σ
      induction σ with
      | nil => intro a j _; simp [clearFrom]
      | cons x r ih =>
        intro a j hj
        cases j with
        | zero => simp only [clearFrom, List.getD_cons_zero]; rw [show s.reads.contains a = false by simpa using hj]; rfl
        | succ j => simp only [clearFrom, List.getD_cons_succ]; exact ih (a + 1) j (by rw [show a + 1 + j = a + (j + 1) by omega]; exact hj)
    exact this σ 0 j (by simpa using hj)
  rw [evalS_congr (τ := clearFrom s.reads 0 σ) (fun n hn => (hτ n hn).symm)] at he
  refine evalS_has hk hc he (fun j => ?_) hn
  by_cases hj : j ∈ s.reads
  · rw [hτ j hj]; exact hσ j hj
  · rw [hnot j hj]; rfl

section
variable {VC : FuncId → List AV → AV → Prop} {N : List Nat} {x y : VStep} {rx ry : AV} {σ : Env}

/-- both orders of the call y and an operation x that has nothing to do with it lead to the same -/
theorem call_swap (hM : ry.isM = true) (hgy : y.guard = none) (hNM : (rx.isM && x.guard.isNone) = false) (hs : freeSwap x y = true) (cx : x.clean = true) (cy : y.clean = true) (fx : Fresh x σ) (fy : Fresh y σ) {f : FuncId} (hkd : y.kd = .call f)
    (hap : ∀ j, j ∈ x.slots → ∀ n, n ∈ N → (σ.getD j .any).has n = false) (hN : ∀ n, n ∈ N → n ∉ x.names) {l : List (VStep × AV)} {Q : Env → Prop} :
    RunTo (stepX VC (.q N)) ((x, rx) :: (y, ry) :: l) σ Q ↔ RunTo (stepX VC (.q N)) ((y, ry) :: (x, rx) :: l) σ Q := by
  have Ex : ∀ τ, stepX VC (.q N) x rx τ = stepE VC x rx τ := by intro τ; simp only [stepX, hNM, cond_false]
  have Ey : ∀ τ, stepX VC (.q N) y ry τ = bif (mnames y τ).all (fun n => N.contains n) then stepM VC y ry τ else none := by
    intro τ; simp only [stepX, hM, hgy, Option.isNone_none, Bool.and_self, cond_true]
  unfold freeSwap at hs
  simp only [Bool.and_eq_true, Bool.not_eq_true', List.all_eq_true, VStep.fixed, Bool.or_eq_false_iff, beq_eq_false_iff_ne, ne_eq] at hs
  obtain ⟨⟨⟨⟨⟨kx, dx⟩, ky, dy⟩, hne⟩, hrx⟩, hry⟩ := hs
  have hxr : ∀ j, j ∈ x.reads → j ∈ x.slots := fun j hj => by unfold VStep.slots; simp [hj]
  have hxd : ∀ j, x.dst = some j → j ∈ x.slots := fun j hj => by unfold VStep.slots; simp [hj]
  have fyc : ∀ n, n ∈ callNames (y.dst.getD 0) → n ∈ y.names := callNames_sub hkd
  -- what y reads x does not write
  have hvals : ∀ v (τ : Env), y.opds.map (Env.put x.dst v τ).ev = y.opds.map τ.ev := by
    intro v τ
    apply List.map_congr_left
    intro p hp
    cases p with
    | k v => rfl
    | t n =>
      have hn : n ∈ y.reads := by
        unfold VStep.reads
        simp only [List.mem_append, List.mem_filterMap]
        exact .inl ⟨.t n, hp, rfl⟩
      exact put_ne (hry n hn)
  -- the final environments
  have comm : ∀ (vx vb : AV) (τ : Env), Env.put x.dst vx (Env.put y.dst vb τ) = Env.put y.dst vb (Env.put x.dst vx τ) := by
    intro vx vb τ
    cases hd : x.dst with
    | none => rfl
    | some d =>
      cases he : y.dst with
      | none => rfl
      | some e =>
        simp only [Env.put]
        rw [List.set_comm _ _ (fun h => hne (by rw [hd, he, h]))]
  -- with the call's change known
  have main : ∀ (μ : Nat → Option New) (vb : AV) (p : Prop), MCall VC y ry (y.opds.map σ.ev) μ vb p → (mnames y σ).all (fun n => N.contains n) = true → ∀ (vx : AV) (nsx : List Nat) (ox : Prop), evalS VC x rx σ = some (vx, nsx, ox) →
      AV.swap μ vx = vx ∧ evalS VC x rx (Env.put y.dst vb (AV.swapL μ σ)) = some (vx, nsx, ox) ∧ (σ.scrubs nsx = σ) ∧ (Env.put y.dst vb (AV.swapL μ σ)).scrubs nsx = Env.put y.dst vb (AV.swapL μ σ) ∧
      stepM VC y ry (Env.put x.dst vx σ) = some (Env.put y.dst vb (Env.put x.dst vx (AV.swapL μ σ)), obsAll (p :: AV.lensL μ σ)) ∧ stepM VC y ry σ = some (Env.put y.dst vb (AV.swapL μ σ), obsAll (p :: AV.lensL μ σ)) ∧
      (mnames y (Env.put x.dst vx σ)).all (fun n => N.contains n) = true := by
    intro μ vb p hm hall vx nsx ox hex
    have hμN : ∀ n N', μ n = some N' → n ∈ N := by
      intro n N' h
      have := (List.all_eq_true.1 hall) n (hm.good n N' h).2
      simpa using this
    have hσ : ∀ j, j ∈ x.slots → AV.swap μ (σ.getD j .any) = σ.getD j .any := fun j hj => swap_id _ (fun n N' h => hap j hj n (hμN n N' h))
    have hvx : ∀ n, n ∈ N → vx.has n = false := fun n hn => evalS_free kx cx hex (fun j hj => hap j (hxr j hj) n hn) (hN n hn)
    have e1 : AV.swap μ vx = vx := swap_id _ (fun n N' h => hvx n (hμN n N' h))
    have hvxy : ∀ n, n ∈ y.names → vx.has n = false := fun n hn => evalS_has kx cx hex (fy n hn) (fun h => names_apart hne dx dy h hn)
    have sx : σ.scrubs nsx = σ := scrubs_none fun n hn => fx n (evalS_names kx hex n hn)
    have hvb : ∀ n, n ∈ x.names → vb.has n = false := fun n hn => hm.back n (fun h => names_apart hne dx dy hn (fyc n h))
    refine ⟨e1, ?_, sx, ?_, ?_, hm.step σ rfl (fun n hn => fy n (fyc n hn)), ?_⟩
    · rw [← hex]
      refine (evalS_congr fun n hn => ?_).symm
      rw [put_ne (fun e => hrx n hn e), swapL_get, hσ n (hxr n hn)]
    · exact scrubs_none fun n hn j => put_get (fun j => by rw [swapL_get]; exact swap_has (fun n N' h => (hm.good n N' h).1) _ (fx n (evalS_names kx hex n hn) j)) (hvb n (evalS_names kx hex n hn))
    · have := hm.step (Env.put x.dst vx σ) (hvals vx σ) (fun n hn j => put_get (fy n (fyc n hn)) (hvxy n (fyc n hn)))
      rw [this, swapL_put, e1]
      congr 2
      rw [lens_put (lens_id _ (fun n N' h => hvx n (hμN n N' h))) σ x.dst (fun j hj => lens_id _ (fun n N' h => hap j (hxd j hj) n (hμN n N' h)))]
    · have : mnames y (Env.put x.dst vx σ) = mnames y σ := by unfold mnames; rw [hvals]
      rw [this]; exact hall
  constructor
  · rintro ⟨σ1, ox, h1, hox, σ2, oy, h2, hoy, h3⟩
    rw [Ex, stepE_evalS kx] at h1
    split at h1 <;> cases h1
    rename_i vx nsx hex
    have sx : σ.scrubs nsx = σ := scrubs_none fun n hn => fx n (evalS_names kx hex n hn)
    rw [sx] at h2
    rw [Ey] at h2
    cases hall : (mnames y (Env.put x.dst vx σ)).all (fun n => N.contains n) with
    | false => rw [hall] at h2; cases h2
    | true =>
      rw [hall] at h2
      simp only [cond_true] at h2
      obtain ⟨μ, vb, p, hm⟩ := stepM_inv h2
      rw [hvals] at hm
      have hall' : (mnames y σ).all (fun n => N.contains n) = true := by
        have : mnames y (Env.put x.dst vx σ) = mnames y σ := by unfold mnames; rw [hvals]
        rw [← this]; exact hall
      obtain ⟨e1, e2, e3, e4, e5, e6, e7⟩ := main μ vb p hm hall' vx nsx ox hex
      rw [e5] at h2; cases h2
      refine ⟨_, _, by rw [Ey, hall']; exact e6, hoy, _, ox, by rw [Ex, stepE_evalS kx, e2], hox, ?_⟩
      rw [e4, comm]
      exact h3
  · rintro ⟨σ1, oy, h1, hoy, σ2, ox, h2, hox, h3⟩
    rw [Ey] at h1
    cases hall : (mnames y σ).all (fun n => N.contains n) with
    | false => rw [hall] at h1; cases h1
    | true =>
      rw [hall] at h1
      simp only [cond_true] at h1
      obtain ⟨μ, vb, p, hm⟩ := stepM_inv h1
      have h1' := hm.step σ rfl (fun n hn => fy n (fyc n hn))
      rw [h1'] at h1; cases h1
      rw [Ex, stepE_evalS kx] at h2
      have hμN : ∀ n N', μ n = some N' → n ∈ N := by
        intro n N' h
        have := (List.all_eq_true.1 hall) n (hm.good n N' h).2
        simpa using this
      have ec : evalS VC x rx (Env.put y.dst vb (AV.swapL μ σ)) = evalS VC x rx σ := evalS_congr fun n hn => by
        rw [put_ne (fun e => hrx n hn e), swapL_get, swap_id _ (fun m N' h => hap n (hxr n hn) m (hμN m N' h))]
      rw [ec] at h2
      split at h2 <;> cases h2
      rename_i vx nsx hex
      obtain ⟨e1, e2, e3, e4, e5, e6, e7⟩ := main μ vb p hm hall vx nsx ox hex
      refine ⟨_, ox, by rw [Ex, stepE_evalS kx, hex], hox, _, _, by rw [e3, Ey, e7]; exact e5, hoy, ?_⟩
      rw [e4, comm] at h3
      exact h3
end

/-! ### the check -/
def K.isCall1 : K → Bool
  | .call _ => true
  | _ => false
/-- it may stand ahead of the call at iy or behind it -/
def qFree (ss : List VStep) (iy i : Nat) : Bool := !(i == iy) && freeSwap (ss.getD i .nil) (ss.getD iy .nil)
def qSlots (ss : List VStep) (iy : Nat) : List Nat := (List.range ss.length).flatMap fun i => bif qFree ss iy i then (ss.getD i .nil).slots else []
/-- the one call stands at iy; what may change places with it does not speak of N -/
def qOk (ss : List VStep) (iy : Nat) (N : List Nat) (σ : Env) : Bool :=
  (ss.getD iy .nil).kd.isCall1 && (ss.getD iy .nil).guard.isNone && decide (iy < ss.length) &&
  ((List.range ss.length).all fun i => (i == iy) || !(ss.getD i .nil).kd.isCall) &&
  ((List.range iy).all fun p => qFree ss iy p || (!(ss.getD p .nil).fixed && (match (ss.getD p .nil).dst with | some d => !(qSlots ss iy).contains d | none => true))) &&
  (N.all fun n => !(regNames ss).contains n) &&
  ((qSlots ss iy).all fun j => N.all fun n => !(σ.getD j .any).has n)

theorem freeSwap_symm {x y : VStep} (h : freeSwap x y = true) : freeSwap y x = true := by
  unfold freeSwap at h ⊢
  simp only [Bool.and_eq_true, Bool.not_eq_true', List.all_eq_true, beq_eq_false_iff_ne, ne_eq] at h ⊢
  obtain ⟨⟨⟨⟨a, b⟩, c⟩, d⟩, e⟩ := h
  exact ⟨⟨⟨⟨b, a⟩, fun e => c e.symm⟩, e⟩, d⟩
theorem swapOk_call_l {x y : VStep} (hx : x.kd.isCall1 = true) (h : swapOk x y = true) : freeSwap x y = true := by
  unfold swapOk storeSwap appSwap at h
  have h1 : x.kd.light = false := by revert hx; cases x.kd <;> simp [K.isCall1, K.light]
  have h2 : x.kd.isApp = false := by revert hx; cases x.kd <;> simp [K.isCall1, K.isApp]
  simpa [h1, h2] using h
theorem swapOk_call_r {x y : VStep} (hy : y.kd.isCall1 = true) (h : swapOk x y = true) : freeSwap x y = true := by
  unfold swapOk storeSwap appSwap at h
  have h1 : y.kd.light = false := by revert hy; cases y.kd <;> simp [K.isCall1, K.light]
  have h2 : y.kd.stores = false := by revert hy; cases y.kd <;> simp [K.isCall1, K.stores]
  have h3 : y.kd.strict = false := by revert hy; cases y.kd <;> simp [K.isCall1, K.strict]
  simpa [h1, h2, h3] using h
theorem entry_snd {ss : List VStep} {rs : List AV} {i : Nat} (hi : i < ss.length) (hc : (ss.getD i .nil).kd.isCall = false) : (entry ss rs i).2 = .any := by
  have gen : ∀ (ss : List VStep) (rs : List AV) (i : Nat), i < ss.length → (ss.getD i .nil).kd.isCall = false → (entry ss rs i).2 = .any := by
    intro ss
    induction ss with
    | nil => intro rs i hi; simp at hi
    | cons s l ih =>
      intro rs i hi hc
      cases i with
      | zero =>
        simp only [List.getD_cons_zero] at hc
        simp [entry, zipR, hc]
      | succ i =>
        simp only [List.getD_cons_succ] at hc
        have := ih (bif s.kd.isCall then rs.tail else rs) i (by simpa using hi) hc
        simpa [entry, zipR] using this
  exact gen ss rs i hi hc
theorem stepM_keeps {VC : FuncId → List AV → AV → Prop} {y : VStep} {ry : AV} {σ σ' : Env} {o : Prop} {f : FuncId} (hkd : y.kd = .call f) (fy : Fresh y σ) (h : stepM VC y ry σ = some (σ', o)) {n : Nat} (hn : n ∉ y.names)
    (hσ : ∀ j, (σ.getD j .any).has n = false) : ∀ j, (σ'.getD j .any).has n = false := by
  obtain ⟨μ, vb, p, hm⟩ := stepM_inv h
  rw [hm.step σ rfl (fun m hm' => fy m (callNames_sub hkd m hm'))] at h
  cases h
  exact fun j => put_get (fun j => by rw [swapL_get]; exact swap_has (fun n N' h => (hm.good n N' h).1) _ (hσ j)) (hm.back n (fun h => hn (callNames_sub hkd n h)))

section
variable {P : Program} {C : Ctx} {VC : FuncId → List AV → AV → Prop}
theorem drawQ_ok (hVC : ∀ f args r, VC f args r → VCall P f args r) (hm : P.follows .mixedOrders = true) {id : Nat} {ops : Array Oper} {ss : List VStep} {rs : List AV} {Q : Exit → Act → World → Prop} {σ σ' : Env} {os : List Prop} {G : Gh} {a : Act} {w : World}
    {iy : Nat} {N : List Nat} (hss : allSome (ops.toList.map (resOp P ops)) = some ss) (hok : drawOk ops ss = true) (hs : Sim C G σ a w) (hq : qOk ss iy N (σ.scrubs (regNames ss)) = true)
    (hr : runX VC (.q N) ss rs (σ.scrubs (regNames ss)) = some (σ', os)) (hos : ∀ p, p ∈ os → p) (hQ : ∀ a' w' G', Sim C G' σ' a' w' → Q .normal a' w') : (Code.region id ops true).wp P Q a w := by
  refine wp_region_any hm ?_
  have hlen : ss.length = ops.size := by have := allSome_len hss; simpa using this.symm
  unfold qOk at hq
  simp only [Bool.and_eq_true, decide_eq_true_eq, List.all_eq_true, List.mem_range, Bool.or_eq_true, beq_iff_eq, Bool.not_eq_true', Option.isNone_iff_eq_none] at hq
  obtain ⟨⟨⟨⟨⟨⟨q1, q2⟩, q3⟩, q4⟩, q5⟩, q6⟩, q7⟩ := hq
  obtain ⟨f, hkd⟩ : ∃ f, (ss.getD iy .nil).kd = .call f := by
    revert q1
    cases (ss.getD iy .nil).kd <;> simp [K.isCall1]
  have nocall : ∀ z, z < ss.length → z ≠ iy → (ss.getD z .nil).kd.isCall = false := fun z hz hne => (q4 z hz).resolve_left hne
  have hNn : ∀ n, n ∈ N → ∀ z, z < ss.length → n ∉ (ss.getD z .nil).names := by
    intro n hn z hz h
    have := q6 n hn
    have h2 : n ∈ regNames ss := by
      refine List.mem_flatMap.2 ⟨ss[z], List.getElem_mem hz, ?_⟩
      simpa [List.getD, List.getElem?_eq_getElem hz] using h
    simp [h2] at this
  have hslots : ∀ z, z < ss.length → qFree ss iy z = true → ∀ j, j ∈ (ss.getD z .nil).slots → j ∈ qSlots ss iy := by
    intro z hz hf j hj
    refine List.mem_flatMap.2 ⟨z, List.mem_range.2 hz, ?_⟩
    rw [hf]; exact hj
  have disj : ∀ y z, y < ops.size → z < ops.size → z ≠ y → Disj (ss.getD z .nil) (ss.getD y .nil) := by
    intro y z hy hz hne
    rcases Nat.lt_or_gt_of_ne hne with h | h
    · exact ((drawOk_inv hok hy).2 z h).1
    · exact ((drawOk_inv hok hz).2 y h).2
  refine any_order (m := .q N) (rs := rs) (J := fun S σ => (∀ z, S z → Fresh (ss.getD z .nil) σ) ∧ (S iy → ∀ j, j ∈ qSlots ss iy → ∀ n, n ∈ N → (σ.getD j .any).has n = false)) hVC hss hok hQ ?_ ?_ ops.size _ G _ a _ (by simp) (by rw [rem_all]; simp) ?_ ((hs.scrubs (regNames ss)).drew _) ⟨?_, ?_⟩ ?_
  · -- a step keeps what is told
    intro S y σ σ1 o hlt hJ hy hsw h
    have hyl := hlt y hy
    have hyl' : y < ss.length := by omega
    have ey := entry_fst (rs := rs) hyl'
    by_cases hyi : y = iy
    · subst hyi
      refine ⟨fun z hz n hn => ?_, fun h => absurd rfl h.2⟩
      have hd := disj y z hyl (hlt z hz.1) hz.2 n hn
      have hf := hJ.1 z hz.1 n hn
      rw [ey] at h
      cases hM : (entry ss rs y).2.isM with
      | true =>
        simp only [stepX, hM, q2, Option.isNone_none, Bool.and_self, cond_true] at h
        cases hall : (mnames (ss.getD y .nil) σ).all (fun n => N.contains n) with
        | false => rw [hall] at h; cases h
        | true => rw [hall] at h; exact stepM_keeps hkd (hJ.1 y hy) h hd hf
      | false =>
        simp only [stepX, hM, Bool.false_and, cond_false] at h
        exact step_keeps (drawOk_inv hok hyl).1 h hd hf
    · have er := entry_snd (rs := rs) hyl' (nocall y hyl' hyi)
      rw [ey, er] at h
      have h : stepE VC (ss.getD y .nil) .any σ = some (σ1, o) := by simpa only [stepX, AV.isM, Bool.false_and, cond_false] using h
      refine ⟨fun z hz n hn => step_keeps (drawOk_inv hok hyl).1 h (disj y z hyl (hlt z hz.1) hz.2 n hn) (hJ.1 z hz.1 n hn), fun hSi j hj n hn => ?_⟩
      have hold := hJ.2 hSi.1
      have hnot : (ss.getD y .nil).kd.special = false ∧ ((∀ j, j ∈ (ss.getD y .nil).slots → j ∈ qSlots ss iy) ∨ ∀ d, (ss.getD y .nil).dst = some d → d ∉ qSlots ss iy) := by
        have fromF : qFree ss iy y = true → (ss.getD y .nil).kd.special = false ∧ ((∀ j, j ∈ (ss.getD y .nil).slots → j ∈ qSlots ss iy) ∨ ∀ d, (ss.getD y .nil).dst = some d → d ∉ qSlots ss iy) := by
          intro hF
          refine ⟨?_, .inl (hslots y hyl' hF)⟩
          unfold qFree at hF
          simp only [Bool.and_eq_true, freeSwap, Bool.not_eq_true', VStep.fixed, Bool.or_eq_false_iff] at hF
          exact hF.2.1.1.1.1.1
        rcases Nat.lt_or_gt_of_ne hyi with hlt' | hgt
        · rcases q5 y hlt' with hF | hF
          · exact fromF hF
          · refine ⟨?_, .inr fun d hd => ?_⟩
            · have := hF.1; unfold VStep.fixed at this; simp only [Bool.or_eq_false_iff] at this; exact this.1
            · have := hF.2; rw [hd] at this; simpa using this
        · have := hsw iy hSi.1 hgt
          rw [entry_fst (rs := rs) q3, ey] at this
          have hfs := freeSwap_symm (swapOk_call_l q1 this)
          exact fromF (by unfold qFree; rw [hfs]; simp [hyi])
      rw [stepE_evalS hnot.1] at h
      split at h <;> cases h
      rename_i v ns hev
      have hsc : ((σ.scrubs ns).getD j .any).has n = false := by
        rcases scrubs_get ns σ j with h | ⟨h, _⟩
        · rw [h]; rfl
        · rw [h]; exact hold j hj n hn
      cases hd : (ss.getD y .nil).dst with
      | none => exact hsc
      | some d =>
        by_cases hdj : d = j
        · subst hdj
          rcases hnot.2 with hF | hF
          · have hv : v.has n = false := evalS_free hnot.1 (drawOk_inv hok hyl).1 hev (fun i hi => hold i (hF i (by unfold VStep.slots; exact List.mem_append_left _ hi)) n hn) (hNn n hn y hyl')
            simp only [Env.put, List.getD, List.getElem?_set]
            simp only [if_true]
            split
            · exact hv
            · rfl
          · exact absurd hj (hF d hd)
        · have : List.getD (Env.put (some d) v (σ.scrubs ns)) j .any = (σ.scrubs ns).getD j .any := put_ne (fun e => hdj (Option.some.inj e))
          rw [this]; exact hsc
  · -- two of them change places
    intro S y x σ l Q hlt hJ hy hx hyx hsw h
    have hyl := hlt y hy
    have hxl := hlt x hx
    have ey := entry_fst (rs := rs) (show y < ss.length by omega)
    have ex := entry_fst (rs := rs) (show x < ss.length by omega)
    have quiet : ∀ z, z < ss.length → z ≠ iy → ((entry ss rs z).2.isM && (entry ss rs z).1.guard.isNone) = false := by
      intro z hz hne
      rw [entry_snd (rs := rs) hz (nocall z hz hne)]; rfl
    cases hact : (entry ss rs iy).2.isM with
    | false =>
      have all : ∀ z, z < ss.length → ((entry ss rs z).2.isM && (entry ss rs z).1.guard.isNone) = false := by
        intro z hz
        by_cases hzi : z = iy
        · subst hzi; rw [hact]; rfl
        · exact quiet z hz hzi
      have ay := all y (by omega)
      have ax := all x (by omega)
      generalize entry ss rs y = ey' at *
      generalize entry ss rs x = ex' at *
      obtain ⟨sy, ry⟩ := ey'
      obtain ⟨sx, rx⟩ := ex'
      simp only at ey ex ay ax
      exact swap_one (VC := VC) (fun _ => by simp only [stepX, ay, cond_false]) (fun _ => by simp only [stepX, ax, cond_false]) hsw (by rw [ey]; exact (drawOk_inv hok hyl).1) (by rw [ex]; exact (drawOk_inv hok hxl).1) (by rw [ey]; exact hJ.1 y hy) (by rw [ex]; exact hJ.1 x hx) h
    | true =>
      by_cases hyi : y = iy
      · subst hyi
        have hxi : x ≠ y := by omega
        have hfs : freeSwap (ss.getD x .nil) (ss.getD y .nil) = true := freeSwap_symm (swapOk_call_l q1 (by rw [← ey, ← ex]; exact hsw))
        have qx := quiet x (by omega) hxi
        have hsl := hslots x (by omega) (by unfold qFree; rw [hfs]; simp [hxi])
        generalize entry ss rs y = ey' at *
        generalize entry ss rs x = ex' at *
        obtain ⟨sy, ry⟩ := ey'
        obtain ⟨sx, rx⟩ := ex'
        simp only at ey ex qx hact
        subst ey; subst ex
        exact (call_swap hact q2 qx hfs (drawOk_inv hok hxl).1 (drawOk_inv hok hyl).1 (hJ.1 x hx) (hJ.1 y hy) hkd (fun j hj n hn => hJ.2 hy j (hsl j hj) n hn) (fun n hn => hNn n hn x (by omega))).2 h
      · by_cases hxi : x = iy
        · subst hxi
          have hfs : freeSwap (ss.getD y .nil) (ss.getD x .nil) = true := swapOk_call_r q1 (by rw [← ey, ← ex]; exact hsw)
          have qy := quiet y (by omega) hyi
          have hsl := hslots y (by omega) (by unfold qFree; rw [hfs]; simp [hyi])
          generalize entry ss rs y = ey' at *
          generalize entry ss rs x = ex' at *
          obtain ⟨sy, ry⟩ := ey'
          obtain ⟨sx, rx⟩ := ex'
          simp only at ey ex qy hact
          subst ey; subst ex
          exact (call_swap hact q2 qy hfs (drawOk_inv hok hyl).1 (drawOk_inv hok hxl).1 (hJ.1 y hy) (hJ.1 x hx) hkd (fun j hj n hn => hJ.2 hx j (hsl j hj) n hn) (fun n hn => hNn n hn y (by omega))).1 h
        · have ay := quiet y (by omega) hyi
          have ax := quiet x (by omega) hxi
          generalize entry ss rs y = ey' at *
          generalize entry ss rs x = ex' at *
          obtain ⟨sy, ry⟩ := ey'
          obtain ⟨sx, rx⟩ := ex'
          simp only at ey ex ay ax
          exact swap_one (VC := VC) (fun _ => by simp only [stepX, ay, cond_false]) (fun _ => by simp only [stepX, ax, cond_false]) hsw (by rw [ey]; exact (drawOk_inv hok hyl).1) (by rw [ex]; exact (drawOk_inv hok hxl).1) (by rw [ey]; exact hJ.1 y hy) (by rw [ex]; exact hJ.1 x hx) h
  · intro i x hi hin
    simp [hin] at hi
  · intro i hi
    rw [rem_all] at hi
    exact scrubs_fresh ss σ i (by have := List.mem_range.1 hi; omega)
  · intro _ j hj n hn
    exact q7 j hj n hn
  · rw [rem_all, run_entries ss rs hlen]
    exact runTo_of_run hr hos
end
end Go.Proofs.LV
