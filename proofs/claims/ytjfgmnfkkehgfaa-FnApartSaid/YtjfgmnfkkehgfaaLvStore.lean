/- Stores: what the environment reads behind them. And how an environment goes on behind an operation. -/
import Derived.Test.YtjfgmnfkkehgfaaLvStep
namespace Go.Proofs.LV
open Go Go.RowKit
set_option linter.unusedVariables false
set_option linter.unusedSimpArgs false

/-! ### the environment behind an operation -/
theorem scrub_get (n : Nat) (σ : Env) (s : Nat) : (σ.scrub n).getD s .any = .any ∨ ((σ.scrub n).getD s .any = σ.getD s .any ∧ (σ.getD s .any).has n = false) := by
  unfold Env.scrub
  simp only [List.getD, List.getElem?_map]
  cases h : σ[s]? with
  | none => simp
  | some v =>
    simp only [Option.map_some, Option.getD_some]
    split
    · exact .inl rfl
    · exact .inr ⟨rfl, by simp_all⟩
theorem scrub_len (n : Nat) (σ : Env) : (σ.scrub n).length = σ.length := by simp [Env.scrub]
theorem scrubs_get : ∀ (ns : List Nat) (σ : Env) (s : Nat), (σ.scrubs ns).getD s .any = .any ∨ ((σ.scrubs ns).getD s .any = σ.getD s .any ∧ ∀ n, n ∈ ns → (σ.getD s .any).has n = false)
  | [], σ, s => .inr ⟨rfl, fun n h => by cases h⟩
  | n :: r, σ, s => by
    have ih := scrubs_get r (σ.scrub n) s
    show ((σ.scrub n).scrubs r).getD s .any = .any ∨ _
    rcases ih with h | ⟨h1, h2⟩
    · exact .inl h
    · rcases scrub_get n σ s with h3 | ⟨h3, h4⟩
      · exact .inl (h1.trans h3)
      · refine .inr ⟨h1.trans h3, fun m hm => ?_⟩
        rcases List.mem_cons.1 hm with rfl | hm
        · exact h4
        · rw [← h3]; exact h2 m hm
theorem scrubs_len : ∀ (ns : List Nat) (σ : Env), (σ.scrubs ns).length = σ.length
  | [], σ => rfl
  | n :: r, σ => by
    show ((σ.scrub n).scrubs r).length = _
    rw [scrubs_len r, scrub_len]

section
variable {P : Program} {C : Ctx} {G G' : Gh} {w w' : World} {σ : Env} {a : Act}

theorem Sim.after (hs : Sim C G σ a w) {ns : List Nat} (ok : StepOk C G w G' w' ns) (hh : ∀ n, n ∈ ns → n < HI) {v : AV} {u : Value} (hv : VR G' w' v u) (d : Option Nat) : Sim C G' ((σ.scrubs ns).put d v) (a.put d u) w' := by
  have base : ∀ s, VR G' w' ((σ.scrubs ns).getD s .any) (a.tmps.getD s undef) := by
    intro s
    rcases scrubs_get ns σ s with h | ⟨h1, h2⟩
    · rw [h]; simp [VR]
    · rw [h1]; exact ok.keep _ _ h2 (hs.ev s)
  have hi : ∀ n, HI ≤ n → G'.β n = C.hb n ∧ (C.ha n → G'.act n) := fun n hn =>
    have hf := ok.fix n (fun h => absurd (hh n h) (by omega))
    ⟨hf.1.trans (hs.hi n hn).1, fun h => hf.2 ((hs.hi n hn).2 h)⟩
  cases d with
  | none => exact ⟨ok.g, hs.defers, by simpa [Env.put, Act.put, scrubs_len] using hs.size, fun s _ => base s, hi⟩
  | some d =>
    refine ⟨ok.g, hs.defers, by simpa [Env.put, Act.put, scrubs_len] using hs.size, fun s hsl => ?_, hi⟩
    simp only [Env.put, Act.put, List.length_set, scrubs_len] at hsl ⊢
    by_cases hd : d = s
    · subst hd
      have h1 : ((σ.scrubs ns).set d v).getD d .any = v := by simp [List.getD, scrubs_len, hsl]
      have h2 : (a.tmps.setIfInBounds d u).getD d undef = u := by simp [Array.getD, hs.size, hsl]
      rw [h1, h2]; exact hv
    · have h1 : ((σ.scrubs ns).set d v).getD s .any = (σ.scrubs ns).getD s .any := by simp [List.getD, List.getElem?_set_ne hd]
      have h2 : (a.tmps.setIfInBounds d u).getD s undef = a.tmps.getD s undef := by
        simp [Array.getElem?_setIfInBounds_ne hd]
      rw [h1, h2]; exact base s

/-- a slot of which nothing is told any more -/
theorem Sim.forget (hs : Sim C G σ a w) (d : Option Nat) (u : Value) : Sim C G (σ.put d .any) (a.put d u) w := by
  have := hs.after (ns := []) (G' := G) (w' := w) ⟨hs.g, fun _ _ _ h => h, fun _ _ => ⟨rfl, id⟩⟩ (fun n h => nomatch h) (v := .any) (u := u) trivial d
  exact this

/-- a slot of an operation that was passed by -/
theorem Sim.skip (hs : Sim C G σ a w) (d : Option Nat) : Sim C G (σ.put d (.tup [])) (a.put d undef) w := by
  have := hs.after (ns := []) (G' := G) (w' := w) ⟨hs.g, fun _ _ _ h => h, fun _ _ => ⟨rfl, id⟩⟩ (fun n h => nomatch h) (v := .tup []) (u := undef) ⟨#[], rfl, by simp [VL]⟩ d
  exact this

/-! ### one cell of object n is written -/
structure Wrote (G : Gh) (w w' : World) (n b o j : Nat) (x : AV) (u : Value) : Prop where
  act : G.act n
  at_ : G.β n 0 = some (b, o)
  keeps : ∀ g : Tag, g.beq (.own n) = false → Keeps G G w w' g
  kn : ∀ m, m ≠ n → KeepsN G G w w' m
  cell : (w.cell? ⟨b, o + j, none⟩).isSome = true → w'.cell? ⟨b, o + j, none⟩ = some u
  other : ∀ i, i ≠ o + j → w'.cell? ⟨b, i, none⟩ = w.cell? ⟨b, i, none⟩
  val : VR G w' x u

theorem keeps_imm {n b o j : Nat} {x : AV} {u : Value} (h : Wrote G w w' n b o j x u) : Keeps G G w w' .imm := h.keeps _ rfl

theorem set_ok {j : Nat} {x : AV} {xs ys : Cont} (h : Cont.set j x xs = some ys) : ys.len = xs.len ∧ (∀ i u, i ≠ j → xs.ok G w i u → ys.ok G w i u) ∧ (∀ u, j < xs.len → VR G w x u → ys.ok G w j u) := by
  have gd : ∀ {α : Type} (l : List α) (d y : α) (i : Nat), (i ≠ j → (l.set j y).getD i d = l.getD i d) ∧ (j < l.length → (l.set j y).getD j d = y) := by
    intro α l d y i
    refine ⟨fun hi => by simp [List.getD, List.getElem?_set_ne (Ne.symm hi)], fun hj => by simp [List.getD, hj]⟩
  unfold Cont.set at h
  split at h
  case h_5 => cases h
  case h_3 =>
    cases h
    refine ⟨by simp [Cont.len], fun i u hi hx => ?_, fun u hj hx => ?_⟩
    · simp only [Cont.ok] at *; rw [(gd _ _ _ i).1 hi]; exact hx
    · simp only [Cont.ok, Cont.len] at *; rw [(gd _ _ _ 0).2 hj]; exact hx
  all_goals
    split at h <;> cases h
    rename_i hk; subst hk
    refine ⟨by simp [Cont.len], fun i u hi hx => ?_, fun u hj hx => ?_⟩
    · simp only [Cont.ok] at *; rw [(gd _ _ _ i).1 hi]; exact hx
    · simp only [Cont.ok, Cont.len] at *; rw [(gd _ _ _ 0).2 hj]; exact hx

theorem names_of_beq {g : Tag} {n : Nat} (h : g.beq (.own n) = true) : g = .own n := by
  cases g <;> simp [Tag.beq] at h; subst h; rfl
/-- cells of the written block, but for the written one -/
def CLx (G : Gh) (w : World) (b o j : Nat) : List AV → Prop
  | [] => True
  | x :: r => (o ≠ j → ∃ u, w.cell? ⟨b, o, none⟩ = some u ∧ VR G w x u) ∧ CLx G w b (o + 1) j r

theorem cl_of_clx {b j : Nat} {x : AV} {u : Value} : ∀ (cells : List AV) (o : Nat), CLx G w b o j cells → (o ≤ j → j < o + cells.length → w.cell? ⟨b, j, none⟩ = some u ∧ VR G w x u) → CL G w b o (if o ≤ j then cells.set (j - o) x else cells)
  | [], o, h, _ => by simp [CL]
  | y :: r, o, h, hu => by
    simp only [CLx] at h
    have ih := cl_of_clx (x := x) (u := u) r (o + 1) h.2 (fun h1 h2 => hu (by omega) (by simp; omega))
    by_cases hoj : o ≤ j
    · rw [if_pos hoj]
      by_cases he : o = j
      · subst he
        simp only [Nat.sub_self, List.set_cons_zero, CL]
        rw [if_neg (by omega)] at ih
        obtain ⟨h1, h2⟩ := hu (Nat.le_refl _) (by simp)
        exact ⟨⟨u, h1, h2⟩, ih⟩
      · rw [if_pos (by omega)] at ih
        rw [show j - o = (j - (o + 1)) + 1 by omega]
        simp only [List.set_cons_succ, CL]
        exact ⟨h.1 he, ih⟩
    · rw [if_neg hoj]
      rw [if_neg (by omega)] at ih
      simp only [CL]
      exact ⟨h.1 (by omega), ih⟩

mutual
theorem VR.upd {n b o j : Nat} {x : AV} {u : Value} (hw : Wrote G w w' n b o j x u) : ∀ (y : AV) (v : Value), VR G w y v → VR G w' (AV.upd (.own n) j x y) v
  | .any, v, _ => by simp [AV.upd, VR]
  | .b c, v, h => by simpa [AV.upd, VR] using h
  | .i k c, v, h => by simpa [AV.upd, VR] using h
  | .f k c, v, h => by simpa [AV.upd, VR] using h
  | .c k c d, v, h => by simpa [AV.upd, VR] using h
  | .sl g off xs, v, h => by
    simp only [AV.upd]
    cases hg : g.beq (.own n) with
    | false =>
      simp only [Bool.false_eq_true, if_false]
      simp only [VR] at h ⊢
      exact SRow.mono (hw.keeps g hg) (fun _ _ _ h => Cont.ok.mono (keeps_imm hw) h) h
    | true =>
      obtain rfl := names_of_beq hg
      simp only [if_true]
      simp only [VR] at h
      have main : ∀ ys : Cont, ys.len = xs.len → (∀ i z, i < xs.len → o + off + i ≠ o + j → xs.ok G w i z → ys.ok G w' i z) → (∀ i, i < xs.len → o + off + i = o + j → w'.cell? ⟨b, o + j, none⟩ = some u → ys.ok G w' i u) →
          VR G w' (.sl (.own n) off ys) v := by
        intro ys hl h1 h2
        simp only [VR]
        rcases h with ⟨b', o', cap, rfl, ⟨ha, hb⟩, hn, hm, hc, hsp⟩ | ⟨hn, ha, hv⟩
        · rw [hw.at_] at hb; cases hb
          rw [hl]
          refine .inl ⟨b, o, cap, rfl, ⟨hw.act, hw.at_⟩, hn, hm, fun i hi => ?_, fun i hi => ?_⟩
          · obtain ⟨z, hz, hok⟩ := hc i hi
            by_cases he : o + off + i = o + j
            · rw [he] at hz ⊢
              have hcell := hw.cell (by rw [hz]; rfl)
              exact ⟨u, hcell, h2 i hi he hcell⟩
            · exact ⟨z, by rw [hw.other _ he]; exact hz, h1 i z hi he hok⟩
          · have := hsp i hi
            by_cases he : o + off + i = o + j
            · rw [he] at this ⊢; rw [hw.cell this]; rfl
            · rw [hw.other _ he]; exact this
        · exact .inr ⟨by omega, ha, hv⟩
      by_cases hoj : off ≤ j
      · simp only [hoj, if_true]
        split
        · rename_i ys hys
          obtain ⟨hl, h1, h2⟩ := set_ok (G := G) (w := w') hys
          refine main ys hl (fun i z hi hne hok => h1 i z (by omega) (Cont.ok.mono (keeps_imm hw) hok)) (fun i hi he hcell => ?_)
          have : i = j - off := by omega
          subst this
          exact h2 u hi hw.val
        · simp [VR]
      · simp only [hoj, if_false]
        exact main xs rfl (fun i z hi hne hok => Cont.ok.mono (keeps_imm hw) hok) (fun i hi he _ => by omega)
  | .nw m lo k xss hh, v, h => by
    simp only [AV.upd]
    cases hg : (Tag.own n).names m with
    | true => simp [VR]
    | false =>
      have hm : m ≠ n := fun e => by simp [Tag.names, e] at hg
      exact VR.mono (keeps_imm hw) (fun _ => hw.keeps _ rfl) (.nw m lo k xss hh) v (fun a ha => by
        have : m = a := by simpa [AV.has] using ha
        exact hw.kn a (this ▸ hm)) h
  | .na m ix k hh y, v, h => by
    simp only [VR] at h
    obtain ⟨hho, b', o', rfl, hat, z, hz, hy⟩ := h
    have hy' := VR.upd hw y z hy
    simp only [AV.upd]
    cases hg : (Tag.own n).names m with
    | true => simp [VR]
    | false =>
      have hm : m ≠ n := fun e => by simp [Tag.names, e] at hg
      obtain ⟨h1, h2⟩ := (hw.kn m hm).own.1 b' o' hat
      exact ⟨hho, b', o', rfl, h1, z, (World.cell?_of_block (w := w) (a := ⟨b', o' + ix, none⟩) h2).trans hz, hy'⟩
  | .bx g cells, v, h => by
    simp only [VR] at h
    obtain ⟨b', o', rfl, hat, hc⟩ := h
    simp only [AV.upd]
    cases hg : g.beq (.own n) with
    | false =>
      simp only [Bool.false_eq_true, if_false]
      simp only [VR]
      have hk := hw.keeps g hg
      obtain ⟨h1, h2⟩ := hk.1 b' o' hat
      exact ⟨b', o', rfl, h1, CL.upd hw cells b' o' (fun i => World.cell?_of_block (w := w) (a := ⟨b', i, none⟩) h2) hc⟩
    | true =>
      obtain rfl := names_of_beq hg
      simp only [if_true, VR]
      obtain ⟨ha, hb⟩ := hat
      rw [hw.at_] at hb; cases hb
      refine ⟨b, o, rfl, ⟨hw.act, hw.at_⟩, ?_⟩
      have hx := CLx.upd hw cells o hc
      have := cl_of_clx (x := x) (u := u) (AV.updL (.own n) j x cells) o hx (fun _ hlt => ⟨hw.cell ?_, hw.val⟩)
      · rw [if_pos (by omega)] at this
        rwa [show o + j - o = j by omega] at this
      · rw [updL_len] at hlt
        have hj : j < cells.length := by omega
        obtain ⟨z, hz, _⟩ := cl_get (j := j) (x := cells[j]) hc (by simp [hj])
        rw [hz]; rfl
  | .ad g idx y, v, h => by
    simp only [VR] at h
    obtain ⟨b', o', rfl, hat, z, hz, hy⟩ := h
    simp only [AV.upd]
    have hy' := VR.upd hw y z hy
    cases hg : g.beq (.own n) with
    | false =>
      simp only [Bool.false_eq_true, if_false]
      simp only [VR]
      have hk := hw.keeps g hg
      obtain ⟨h1, h2⟩ := hk.1 b' o' hat
      exact ⟨b', o', rfl, h1, z, (World.cell?_of_block (w := w) (a := ⟨b', o' + idx, none⟩) h2).trans hz, hy'⟩
    | true =>
      obtain rfl := names_of_beq hg
      obtain ⟨ha, hb⟩ := hat
      rw [hw.at_] at hb; cases hb
      simp only [if_true]
      by_cases hi : idx = j
      · subst hi
        simp only [beq_self_eq_true, if_true, VR]
        exact ⟨b, o, rfl, ⟨hw.act, hw.at_⟩, u, hw.cell (by rw [hz]; rfl), hw.val⟩
      · have : (idx == j) = false := by simpa using hi
        simp only [this, Bool.false_eq_true, if_false, VR]
        exact ⟨b, o, rfl, ⟨hw.act, hw.at_⟩, z, by rw [hw.other _ (by omega)]; exact hz, hy'⟩
  | .agg cells, v, h => by
    simp only [VR] at h
    obtain ⟨vs, rfl, hv⟩ := h
    simp only [AV.upd, VR]
    exact ⟨vs, rfl, VL.upd hw cells vs.toList hv⟩
  | .tup cells, v, h => by
    simp only [VR] at h
    obtain ⟨vs, rfl, hv⟩ := h
    simp only [AV.upd, VR]
    exact ⟨vs, rfl, VL.upd hw cells vs.toList hv⟩
  | .fn f cells, v, h => by
    simp only [VR] at h
    obtain ⟨vs, rfl, hv⟩ := h
    simp only [AV.upd, VR]
    exact ⟨vs, rfl, VL.upd hw cells vs.toList hv⟩
theorem VL.upd {n b o j : Nat} {x : AV} {u : Value} (hw : Wrote G w w' n b o j x u) : ∀ (xs : List AV) (vs : List Value), VL G w xs vs → VL G w' (AV.updL (.own n) j x xs) vs
  | [], vs, h => by simpa [AV.updL, VL] using h
  | y :: r, vs, h => by
    simp only [VL] at h
    obtain ⟨z, zs, rfl, hy, hr⟩ := h
    simp only [AV.updL, VL]
    exact ⟨z, zs, rfl, VR.upd hw y z hy, VL.upd hw r zs hr⟩
theorem CL.upd {n b o j : Nat} {x : AV} {u : Value} (hw : Wrote G w w' n b o j x u) : ∀ (xs : List AV) (b' o' : Nat), (∀ i, w'.cell? ⟨b', i, none⟩ = w.cell? ⟨b', i, none⟩) → CL G w b' o' xs → CL G w' b' o' (AV.updL (.own n) j x xs)
  | [], b', o', _, h => by simp [AV.updL, CL]
  | y :: r, b', o', hc, h => by
    simp only [CL] at h
    simp only [AV.updL, CL]
    obtain ⟨⟨z, hz, hy⟩, hr⟩ := h
    exact ⟨⟨z, by rw [hc]; exact hz, VR.upd hw y z hy⟩, CL.upd hw r b' (o' + 1) hc hr⟩
theorem CLx.upd {n b o j : Nat} {x : AV} {u : Value} (hw : Wrote G w w' n b o j x u) : ∀ (xs : List AV) (o' : Nat), CL G w b o' xs → CLx G w' b o' (o + j) (AV.updL (.own n) j x xs)
  | [], o', h => by simp [AV.updL, CLx]
  | y :: r, o', h => by
    simp only [CL] at h
    simp only [AV.updL, CLx]
    obtain ⟨⟨z, hz, hy⟩, hr⟩ := h
    exact ⟨fun hne => ⟨z, by rw [hw.other _ hne]; exact hz, VR.upd hw y z hy⟩, CLx.upd hw r (o' + 1) hr⟩
theorem updL_len {g : Tag} {j : Nat} {x : AV} : ∀ (xs : List AV), (AV.updL g j x xs).length = xs.length
  | [] => rfl
  | y :: r => by simp [AV.updL, updL_len r]
end
end
end Go.Proofs.LV
