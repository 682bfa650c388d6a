/- Rows of lists of lists: written, exchanged, filled in, appended to. What it does to the tie. -/
import Derived.Test.YtdffgjembkanoaaLvCall
namespace Go.Proofs.LV
open Go Go.RowKit
set_option linter.unusedVariables false
set_option linter.unusedSimpArgs false

section
variable {P : Program} {C : Ctx} {G G' : Gh} {w w' : World} {σ σ' : Env} {a : Act}

mutual
theorem VR.deep {f : AV → AV} (hf : ∀ v u, VR G w v u → VR G' w' (f v) u) : ∀ (v : AV) (u : Value), VR G w v u → VR G' w' (AV.deep f v) u
  | .tup xs, u, h => by
    simp only [VR] at h; obtain ⟨vs, rfl, hv⟩ := h
    simp only [AV.deep, VR]; exact ⟨vs, rfl, VL.deep hf xs vs.toList hv⟩
  | .any, u, h => by simpa [AV.deep] using hf _ _ h
  | .b _, u, h => by simpa [AV.deep] using hf _ _ h
  | .i _ _, u, h => by simpa [AV.deep] using hf _ _ h
  | .f _ _, u, h => by simpa [AV.deep] using hf _ _ h
  | .c _ _ _, u, h => by simpa [AV.deep] using hf _ _ h
  | .sl _ _ _, u, h => by simpa [AV.deep] using hf _ _ h
  | .bx _ _, u, h => by simpa [AV.deep] using hf _ _ h
  | .ad _ _ _, u, h => by simpa [AV.deep] using hf _ _ h
  | .agg _, u, h => by simpa [AV.deep] using hf _ _ h
  | .fn _ _, u, h => by simpa [AV.deep] using hf _ _ h
  | .nw _ _ _ _ _, u, h => by simpa [AV.deep] using hf _ _ h
  | .na _ _ _ _ _, u, h => by simpa [AV.deep] using hf _ _ h
theorem VL.deep {f : AV → AV} (hf : ∀ v u, VR G w v u → VR G' w' (f v) u) : ∀ (xs : List AV) (vs : List Value), VL G w xs vs → VL G' w' (AV.deepL f xs) vs
  | [], vs, h => by simpa [AV.deepL, VL] using h
  | x :: r, vs, h => by
    simp only [VL] at h; obtain ⟨u, us, rfl, hx, hr⟩ := h
    simp only [AV.deepL, VL]; exact ⟨u, us, rfl, VR.deep hf x u hx, VL.deep hf r us hr⟩
end
theorem deepL_len {f : AV → AV} : ∀ xs : List AV, (AV.deepL f xs).length = xs.length
  | [] => rfl
  | x :: r => by simp [AV.deepL, deepL_len r]
theorem deepL_get {f : AV → AV} (hf : f .any = .any) : ∀ (xs : List AV) (s : Nat), (AV.deepL f xs).getD s .any = AV.deep f (xs.getD s .any)
  | [], s => by simp [AV.deepL, AV.deep, hf]
  | x :: r, 0 => by simp [AV.deepL]
  | x :: r, s + 1 => by simpa [AV.deepL] using deepL_get hf r s
theorem Sim.deep (hs : Sim C G σ a w) {f : AV → AV} (h0 : f .any = .any) (hg : SimG C G' w') (hf : ∀ v u, VR G w v u → VR G' w' (f v) u) (hfix : ∀ n, HI ≤ n → G'.β n = G.β n ∧ (G.act n → G'.act n)) :
    Sim C G' (Env.deep f σ) a w' := by
  refine ⟨hg, hs.defers, by rw [Env.deep, deepL_len]; exact hs.size, fun s hsl => ?_, fun n hn => ⟨(hfix n hn).1.trans (hs.hi n hn).1, fun h => (hfix n hn).2 ((hs.hi n hn).2 h)⟩⟩
  rw [Env.deep, deepL_get h0]
  exact VR.deep hf _ _ (hs.ev s)
theorem drop_ok {n : Nat} {v : AV} {u : Value} (h : VR G w v u) (hk : v.has n = false → VR G w v u → VR G' w' v u) : VR G' w' (v.drop n) u := by
  unfold AV.drop
  cases hv : v.has n with
  | true => simp [VR]
  | false => exact hk hv h

/-- a row of numbers -/
abbrev FRow (G : Gh) (w : World) (g : Tag) (k : FloatKind) (xs : List Nat) (u : Value) : Prop := SRow G w g 0 xs.length (fun i z => FR k (xs.getD i 0) z) u
theorem frow_sl {g : Tag} {k : FloatKind} {xs : List Nat} {u : Value} : VR G w (.sl g 0 (.f k xs)) u ↔ FRow G w g k xs u := by
  simp only [VR, Cont.len]; exact Iff.rfl
theorem getD_set_same {α : Type} (l : List α) (j : Nat) (y d : α) (h : j < l.length) : (l.set j y).getD j d = y := by simp [List.getD, h]
theorem getD_set_other {α : Type} (l : List α) (j i : Nat) (y d : α) (h : i ≠ j) : (l.set j y).getD i d = l.getD i d := by simp [List.getD, List.getElem?_set_ne (Ne.symm h)]
/-- the same row, by another name -/
theorem FRow.name {g g' : Tag} {k : FloatKind} {xs : List Nat} {u : Value} (h : FRow G w g k xs u) (hat : ∀ b o, G.at g b o → G'.at g' b o ∧ w'.heap[b]? = w.heap[b]?) (hv : G.void g → G'.void g') : FRow G' w' g' k xs u := by
  rcases h with ⟨b, o, cap, rfl, h, hn, hm, hc, hs⟩ | ⟨hn, ha, hvo⟩
  · obtain ⟨h1, h2⟩ := hat b o h
    refine .inl ⟨b, o, cap, rfl, h1, hn, hm, fun j hj => ?_, fun j hj => ?_⟩
    · obtain ⟨z, hz, hf⟩ := hc j hj
      exact ⟨z, (World.cell?_of_block (w := w) (a := ⟨b, o + 0 + j, none⟩) h2).trans hz, hf⟩
    · rw [World.cell?_of_block (w := w) (a := ⟨b, o + 0 + j, none⟩) h2]; exact hs j hj
  · exact .inr ⟨hn, ha, hv hvo⟩

/-! ### a cell of a row is written -/
theorem Wrt.set (hs : SimG C G w) {n i b o j : Nat} (ha : G.act n) (hb : G.β n i = some (b, o)) (u : Value) : Wrt C G w (w.setCell ⟨b, o + j, none⟩ u) n i b := by
  have hrest := setCells_rest b [u] (o + j) w
  exact Wrt.of hs ha hb rfl rfl rfl hrest.1 (fun k hk => Below.heap_setCell w ⟨b, o + j, none⟩ u k hk) (setCells_row b [u] (o + j) w)
theorem run_store1 (hs : SimG C G w) {n i b o j : Nat} {u : Value} {t : TypeId} {ti : TypeInfo} (hi : P.info? t = some ti) (h1 : ti.size = 1) (ha : G.act n) (hb : G.β n i = some (b, o))
    (hcell : (w.cell? ⟨b, o + j, none⟩).isSome = true) (hc1 : u.cells = #[u]) (hc2 : u.oneCell' = true) :
    (Instr.storeAt t (.pointer (some ⟨b, o + j, none⟩)) u).run P w = .ok () (w.setCell ⟨b, o + j, none⟩ u) := by
  obtain ⟨hni, hbm, crow, erow, hrow⟩ := hs.names n i b o ha hb
  have hfro : w.frozen? ⟨b, o + j, none⟩ = false := frozen_of_row w b (o + j) crow erow hrow
  have hst := run_storeCells_cells (P := P) b (o + j) [u] 0 w (fun k hk => by simp at hk; subst hk; simpa using hcell) (fun k hk => by simp at hk; subst hk; simpa using hfro) (fun z hz => by simp at hz; subst hz; exact hc2)
  have hset : w.setCells b (o + j + 0) [u] = w.setCell ⟨b, o + j, none⟩ u := rfl
  rw [hset] at hst
  simp [Instr.storeAt, Instr.sureAddr, storeVar, hc1, sizeOf, typeInfo, hi, h1, hst]

/-- rows of object n behind a store into cell j of its row i -/
theorem row_upd (hs : SimG C G w) {n i b o j x : Nat} {k : FloatKind} {u : Value} (ha : G.act n) (hb : G.β n (i + 1) = some (b, o)) (hx : FR k x u) {c : Nat} {xs : List Nat} {z : Value}
    (h : FRow G w (.row n c) k xs z) : FRow G (w.setCell ⟨b, o + j, none⟩ u) (.row n c) k (if c = i then xs.set j x else xs) z := by
  have hw := Wrt.set (j := j) hs ha hb u
  by_cases hc : c = i
  · subst hc
    rw [if_pos rfl]
    rcases h with ⟨b', o', cap, rfl, ⟨ha', hb'⟩, hn, hm, hcs, hsp⟩ | ⟨hn, hv, hvo⟩
    · rw [hb] at hb'; cases hb'
      refine .inl ⟨b, o, cap, by rw [List.length_set], ⟨ha, hb⟩, by simpa using hn, hm, fun t ht => ?_, fun t ht => ?_⟩
      · rw [List.length_set] at ht
        obtain ⟨y, hy, hf⟩ := hcs t ht
        by_cases htj : t = j
        · subst htj
          refine ⟨u, ?_, by show FR k ((xs.set t x).getD t 0) u; rw [getD_set_same _ _ _ _ ht]; exact hx⟩
          rw [show o + 0 + t = o + t by omega] at hy ⊢
          exact World.cell?_setCell_same _ _ _ hy
        · exact ⟨y, by rw [World.cell?_setCell_other _ _ _ _ (by simp; omega)]; exact hy, by show FR k ((xs.set j x).getD t 0) y; rw [getD_set_other _ _ _ _ _ htj]; exact hf⟩
      · by_cases htj : t = j
        · subst htj
          have := hsp t ht
          rw [show o + 0 + t = o + t by omega] at this ⊢
          rw [World.cell?_setCell_same' _ _ _ this]; rfl
        · rw [World.cell?_setCell_other _ _ _ _ (by simp; omega)]; exact hsp t ht
    · exact .inr ⟨by simpa using hn, by simpa using hv, hvo⟩
  · rw [if_neg hc]
    exact FRow.name h (fun c' o' hat => ⟨hat, hw.other c' (hw.own n (c + 1) c' o' hat.1 (fun e => hc (by omega)) hat.2)⟩) (fun h => h)
theorem updR_ok (hs : SimG C G w) {n i b o j x : Nat} {k : FloatKind} {u : Value} (ha : G.act n) (hb : G.β n (i + 1) = some (b, o)) (hx : FR k x u) :
    ∀ (v : AV) (z : Value), VR G w v z → VR G (w.setCell ⟨b, o + j, none⟩ u) (AV.updR n i j k x v) z := by
  intro v z hv
  have hw := Wrt.set (j := j) hs ha hb u
  unfold AV.updR
  split
  · rename_i m c q xs
    split
    · rename_i hm; subst hm
      split
      · rename_i hq; subst hq
        exact frow_sl.2 (row_upd hs ha hb hx (frow_sl.1 hv))
      · simp [VR]
    · rename_i hm
      exact hw.keep (by simpa [AV.has, Tag.names] using hm) hv
  · rename_i m lo q xss h
    split
    · rename_i hm; subst hm
      split
      · rename_i hq; subst hq
        simp only [VR] at hv ⊢
        refine ⟨hv.1, ?_⟩
        have hl : (if lo ≤ i then xss.set (i - lo) ((xss.getD (i - lo) []).set j x) else xss).length = xss.length := by split <;> simp
        rw [hl]
        refine SRow.mono (hw.keeps _ fun c o' hat => hw.own m 0 c o' hat.1 (fun e => by omega) hat.2) (fun t y ht hy => ?_) hv.2
        rcases hy with hy | hy
        · exact .inl hy
        · refine .inr ?_
          have := row_upd (j := j) hs ha hb hx (k := q) (xs := xss.getD t []) hy
          have e : (if lo ≤ i then xss.set (i - lo) ((xss.getD (i - lo) []).set j x) else xss).getD t [] = (if lo + t = i then (xss.getD t []).set j x else xss.getD t []) := by
            by_cases hlo : lo ≤ i
            · rw [if_pos hlo]
              by_cases hti : lo + t = i
              · rw [if_pos hti, show i - lo = t by omega, getD_set_same _ _ _ _ ht]
              · rw [if_neg hti, getD_set_other _ _ _ _ _ (by omega)]
            · rw [if_neg hlo, if_neg (by omega)]
          rw [e]
          exact this
      · simp [VR]
    · rename_i hm
      exact hw.keep (by simpa [AV.has] using hm) hv
  · exact drop_ok hv fun h hv => hw.keep h hv

/-! ### a cell of a list of lists is written -/
/-- object n's own block, behind a store of u into cell j -/
theorem own_set (hs : SimG C G w) {n b o j : Nat} {u : Value} (ha : G.act n) (hb : G.β n 0 = some (b, o)) {l : Nat} {E E' : Nat → Value → Prop} {z : Value} (h : SRow G w (.own n) 0 l E z)
    (hat : G'.act n ∧ G'.β n 0 = some (b, o)) (hv : G'.act n) (h1 : ∀ t y, t < l → t ≠ j → E t y → E' t y) (h2 : j < l → E' j u) : SRow G' (w.setCell ⟨b, o + j, none⟩ u) (.own n) 0 l E' z := by
  rcases h with ⟨b', o', cap, rfl, ⟨ha', hb'⟩, hn, hm, hcs, hsp⟩ | ⟨hn, hx, hvo⟩
  · rw [hb] at hb'; cases hb'
    refine .inl ⟨b, o, cap, rfl, hat, hn, hm, fun t ht => ?_, fun t ht => ?_⟩
    · obtain ⟨y, hy, hf⟩ := hcs t ht
      by_cases htj : t = j
      · subst htj
        refine ⟨u, ?_, h2 ht⟩
        rw [show o + 0 + t = o + t by omega] at hy ⊢
        exact World.cell?_setCell_same _ _ _ hy
      · exact ⟨y, by rw [World.cell?_setCell_other _ _ _ _ (by simp; omega)]; exact hy, h1 t y ht htj hf⟩
    · by_cases htj : t = j
      · subst htj
        have := hsp t ht
        rw [show o + 0 + t = o + t by omega] at this ⊢
        rw [World.cell?_setCell_same' _ _ _ this]; rfl
      · rw [World.cell?_setCell_other _ _ _ _ (by simp; omega)]; exact hsp t ht
  · exact .inr ⟨hn, hx, hv⟩
theorem swn_succ (j i t : Nat) : swn (j + 1) (i + 1) (t + 1) = swn j i t + 1 := by
  unfold swn
  by_cases h1 : t = j
  · simp [h1]
  · by_cases h2 : t = i
    · subst h2; simp [h1]
    · simp [h1, h2]
theorem swn_zero (j i : Nat) : swn (j + 1) (i + 1) 0 = 0 := by unfold swn; simp

theorem swapC_ok (hs : SimG C G w) {n i b o j : Nat} {k : FloatKind} {xs : List Nat} {u : Value} (ha : G.act n) (hb : G.β n 0 = some (b, o)) (hu : FRow G w (.row n i) k xs u) :
    SimG C (G.swapRow n i j (some i)) (w.setCell ⟨b, o + j, none⟩ u) ∧ ∀ (v : AV) (z : Value), VR G w v z → VR (G.swapRow n i j (some i)) (w.setCell ⟨b, o + j, none⟩ u) (AV.swapC n j i k xs v) z := by
  have hw := Wrt.set (j := j) hs ha hb u
  have ok := StepOk.swapRow hw.g n i j (some i)
  refine ⟨ok.g, fun v z hv => ?_⟩
  have gone : ∀ {x : AV} {y : Value}, x.has n = false → VR G w x y → VR (G.swapRow n i j (some i)) (w.setCell ⟨b, o + j, none⟩ u) x y := fun h hx => ok.keep _ _ (fun m hm => by simp at hm; subst hm; exact h) (hw.keep h hx)
  have row : ∀ (c : Nat) (q : FloatKind) (ct : List Nat) (z : Value), FRow G w (.row n c) q ct z → FRow (G.swapRow n i j (some i)) (w.setCell ⟨b, o + j, none⟩ u) (.row n (swn j i c)) q ct z := by
    intro c q ct z h
    refine FRow.name h (fun b' o' hat => ⟨⟨hat.1, ?_⟩, hw.other b' (hw.own n (c + 1) b' o' hat.1 (fun e => by omega) hat.2)⟩) (fun h => h)
    simp only [Gh.swapRow, if_true, swn_succ, swn_swn]
    exact hat.2
  unfold AV.swapC
  split
  · rename_i m c off q ct
    split
    · rename_i hm; subst hm
      simp only [VR] at hv ⊢
      rcases hv with ⟨b', o', cap, rfl, hat, hn, hmx, hc, hsp⟩ | ⟨hn, hx, hvo⟩
      · have h2 := hw.other b' (hw.own m (c + 1) b' o' hat.1 (fun e => by omega) hat.2)
        refine .inl ⟨b', o', cap, rfl, ⟨hat.1, by simp only [Gh.swapRow, if_true, swn_succ, swn_swn]; exact hat.2⟩, hn, hmx, fun t ht => ?_, fun t ht => ?_⟩
        · obtain ⟨y, hy, hf⟩ := hc t ht
          exact ⟨y, (World.cell?_of_block (w := w) (a := ⟨b', o' + off + t, none⟩) h2).trans hy, hf⟩
        · rw [World.cell?_of_block (w := w) (a := ⟨b', o' + off + t, none⟩) h2]; exact hsp t ht
      · exact .inr ⟨hn, hx, hvo⟩
    · rename_i hm
      exact gone (by simpa [AV.has, Tag.names] using hm) hv
  · rename_i m q xss
    split
    · rename_i hm; subst hm
      split
      · rename_i hq; subst hq
        simp only [VR] at hv ⊢
        refine ⟨by simp [Gh.swapRow], ?_⟩
        rw [List.length_set]
        refine own_set hs ha hb hv.2 ⟨ha, by simp only [Gh.swapRow, if_true, swn_zero]; exact hb⟩ ha (fun t y ht htj hy => ?_) (fun hj => ?_)
        · by_cases hti : t = i
          · subst hti; exact .inl (by simp)
          · rcases hy with hy | hy
            · cases hy
            · refine .inr ?_
              have := row (0 + t) q _ y hy
              have e : swn j i (0 + t) = 0 + t := by unfold swn; rw [if_neg (by omega), if_neg (by omega)]
              rw [e] at this
              rw [getD_set_other _ _ _ _ _ htj]
              exact this
        · refine .inr ?_
          have := row i q xs u hu
          have e : swn j i i = 0 + j := by
            unfold swn
            by_cases h : i = j
            · rw [if_pos h]; omega
            · rw [if_neg h, if_pos rfl]; omega
          rw [e] at this
          rw [getD_set_same _ _ _ _ hj]
          exact this
      · simp [VR]
    · rename_i hm
      exact gone (by simpa [AV.has] using hm) hv
  · exact drop_ok hv fun h hv => gone h hv

theorem fillS_ok (hs : SimG C G w) {n b o j : Nat} {k : FloatKind} {xs : List Nat} {u : Value} (ha : G.act n) (hb : G.β n 0 = some (b, o)) (hh : (G.β n).hole = some j) (hu : FRow G w (.row n j) k xs u) :
    SimG C (G.swapRow n j j none) (w.setCell ⟨b, o + j, none⟩ u) ∧ ∀ (v : AV) (z : Value), VR G w v z → VR (G.swapRow n j j none) (w.setCell ⟨b, o + j, none⟩ u) (AV.fillS n j k xs v) z := by
  have hw := Wrt.set (j := j) hs ha hb u
  have ok := StepOk.swapRow hw.g n j j none
  refine ⟨ok.g, fun v z hv => ?_⟩
  have gone : ∀ {x : AV} {y : Value}, x.has n = false → VR G w x y → VR (G.swapRow n j j none) (w.setCell ⟨b, o + j, none⟩ u) x y := fun h hx => ok.keep _ _ (fun m hm => by simp at hm; subst hm; exact h) (hw.keep h hx)
  have e : ∀ t, swn (j + 1) (j + 1) t = t := by intro t; unfold swn; split <;> simp_all
  have hrow : ∀ c, Keeps G (G.swapRow n j j none) w (w.setCell ⟨b, o + j, none⟩ u) (.row n c) := fun c =>
    ⟨fun b' o' hat => ⟨⟨hat.1, by simp only [Gh.swapRow, if_true, e]; exact hat.2⟩, hw.other b' (hw.own n (c + 1) b' o' hat.1 (fun e => by omega) hat.2)⟩, fun h => h⟩
  unfold AV.fillS
  split
  · rename_i m q xss h
    split
    · rename_i hm; subst hm
      split
      · rename_i hq; subst hq
        simp only [VR] at hv ⊢
        refine ⟨by simp [Gh.swapRow], ?_⟩
        rw [List.length_set]
        refine own_set hs ha hb hv.2 ⟨ha, by simp only [Gh.swapRow, if_true, e]; exact hb⟩ ha (fun t y ht htj hy => ?_) (fun hj => ?_)
        · rcases hy with hy | hy
          · rw [← hv.1, hh] at hy
            simp only [Option.some.injEq] at hy
            omega
          · refine .inr ?_
            rw [getD_set_other _ _ _ _ _ htj]
            exact SRow.mono (hrow _) (fun _ _ _ h => h) hy
        · refine .inr ?_
          rw [getD_set_same _ _ _ _ hj, Nat.zero_add]
          exact SRow.mono (hrow _) (fun _ _ _ h => h) hu
      · simp [VR]
    · rename_i hm
      exact gone (by simpa [AV.has] using hm) hv
  · rename_i m c off q ct
    by_cases hm : m = n
    · subst hm
      simp only [VR] at hv ⊢
      exact SRow.mono (hrow _) (fun _ _ _ h => h) hv
    · exact gone (by simpa [AV.has, Tag.names] using hm) hv
  · exact drop_ok hv fun h hv => gone h hv

theorem fillC_ok (hs : SimG C G w) {n m b o j : Nat} {k : FloatKind} {xs : List Nat} {u : Value} (hmn : m ≠ n) (ha : G.act n) (hb : G.β n 0 = some (b, o)) (hh : (G.β n).hole = none ∨ (G.β n).hole = some j) (hu : FRow G w (.own m) k xs u) :
    SimG C (G.putRow n j m) (w.setCell ⟨b, o + j, none⟩ u) ∧ ∀ (v : AV) (z : Value), VR G w v z → VR (G.putRow n j m) (w.setCell ⟨b, o + j, none⟩ u) (AV.fillC n m j k xs v) z := by
  have hw := Wrt.set (j := j) hs ha hb u
  have ham : G.act m := by
    rcases hu with ⟨_, _, _, _, h, _⟩ | ⟨_, _, h⟩
    · exact h.1
    · exact h
  have ok := StepOk.putRow (j := j) hw.g (Ne.symm hmn) ham
  refine ⟨ok.g, fun v z hv => ?_⟩
  have gone : ∀ {x : AV} {y : Value}, x.has n = false → x.has m = false → VR G w x y → VR (G.putRow n j m) (w.setCell ⟨b, o + j, none⟩ u) x y := fun h h2 hx =>
    ok.keep _ _ (fun l hl => by simp at hl; rcases hl with rfl | rfl; exact h; exact h2) (hw.keep h hx)
  unfold AV.fillC
  split
  · rename_i l q xss h
    split
    · rename_i hl; subst hl
      split
      · rename_i hq; subst hq
        simp only [VR] at hv ⊢
        refine ⟨by simp [Gh.putRow], ?_⟩
        rw [List.length_set]
        refine own_set hs ha hb hv.2 ⟨ha, by simp only [Gh.putRow, if_true]; rw [if_neg (by omega)]; exact hb⟩ ha (fun t y ht htj hy => ?_) (fun hj => ?_)
        · rcases hy with hy | hy
          · rw [← hv.1] at hy
            rcases hh with hh | hh
            · rw [hh] at hy; cases hy
            · rw [hh] at hy
              simp only [Option.some.injEq] at hy
              omega
          · refine .inr ?_
            rw [getD_set_other _ _ _ _ _ htj]
            refine SRow.mono (G := G) (w := w) (g := .row l (0 + t)) ⟨fun b' o' hat => ⟨⟨hat.1, ?_⟩, hw.other b' (hw.own l (0 + t + 1) b' o' hat.1 (fun e => by omega) hat.2)⟩, fun h => h⟩ (fun _ _ _ h => h) hy
            simp only [Gh.putRow, if_true]
            rw [if_neg (by omega)]
            exact hat.2
        · refine .inr ?_
          rw [getD_set_same _ _ _ _ hj]
          refine FRow.name hu (fun b' o' hat => ⟨⟨ha, ?_⟩, hw.other b' (hw.own m 0 b' o' hat.1 (fun e => hmn e.1) hat.2)⟩) (fun _ => ha)
          simp only [Gh.putRow, if_true]
          rw [if_pos (by omega)]
          exact hat.2
      · simp [VR]
    · rename_i hl
      exact drop_ok hv fun h hv => gone (by simpa [AV.has] using hl) h hv
  · unfold AV.drop
    cases h1 : AV.has n v with
    | true => simp [AV.has, VR]
    | false =>
      simp only [cond_false]
      cases h2 : AV.has m v with
      | true => simp [VR]
      | false => exact gone h1 h2 hv

/-! ### cells copied -/
theorem splice_len (xs : List Nat) (off : Nat) (zs : List Nat) : (splice xs off zs).length = xs.length := by
  unfold splice
  rw [List.length_take, List.length_append, List.length_append, List.length_take, List.length_drop]
  omega
theorem splice_get (xs : List Nat) (off : Nat) (zs : List Nat) (t : Nat) (ht : t < xs.length) : (splice xs off zs).getD t 0 = if off ≤ t ∧ t < off + zs.length then zs.getD (t - off) 0 else xs.getD t 0 := by
  unfold splice
  have e : (xs.take off).length = min off xs.length := List.length_take
  simp only [List.getD]
  rw [List.getElem?_take_of_lt ht]
  by_cases h1 : t < off
  · rw [if_neg (by omega), List.append_assoc, List.getElem?_append_left (by omega), List.getElem?_take_of_lt h1]
  · by_cases h2 : t < off + zs.length
    · rw [if_pos (by omega), List.append_assoc, List.getElem?_append_right (by omega), List.getElem?_append_left (by omega), e, show min off xs.length = off by omega]
    · rw [if_neg (by omega), List.getElem?_append_right (by rw [List.length_append]; omega), List.getElem?_drop]
      congr 2
      rw [List.length_append, e]
      omega
theorem spl_ok (hs : SimG C G w) {n b o off : Nat} {k : FloatKind} {zs : List Nat} {us : List Value} (ha : G.act n) (hb : G.β n 0 = some (b, o)) (hl : us.length = zs.length) (hu : ∀ j u, us[j]? = some u → FR k (zs.getD j 0) u)
    (hc : ∀ j, j < us.length → (w.cell? ⟨b, o + off + j, none⟩).isSome = true) : Wrt C G w (w.setCells b (o + off) us) n 0 b ∧ ∀ (v : AV) (z : Value), VR G w v z → VR G (w.setCells b (o + off) us) (AV.spl n off k zs v) z := by
  obtain ⟨r1, r2, r3, r4⟩ := setCells_rest b us (o + off) w
  have hw : Wrt C G w (w.setCells b (o + off) us) n 0 b := Wrt.of hs ha hb r2 r3 r4 r1 (fun k hk => setCells_other b us _ w k hk) (setCells_row b us _ w)
  have hin := World.cell?_setCells_in b us (o + off) w hc
  have hcell : ∀ t, (w.setCells b (o + off) us).cell? ⟨b, o + t, none⟩ = if off ≤ t ∧ t < off + us.length then us[t - off]? else w.cell? ⟨b, o + t, none⟩ := by
    intro t
    by_cases h : off ≤ t ∧ t < off + us.length
    · rw [if_pos h]
      have := hin (t - off) (by omega)
      rw [show o + off + (t - off) = o + t by omega] at this
      rw [this, List.getElem?_eq_getElem (by omega)]
    · rw [if_neg h]
      rcases Nat.lt_or_ge t off with h1 | h1
      · exact World.cell?_setCells_out b us (o + off) w ⟨b, o + t, none⟩ (fun _ _ => .inl (by simp; omega))
      · exact World.cell?_setCells_out b us (o + off) w ⟨b, o + t, none⟩ (fun _ _ => .inr (by simp; omega))
  refine ⟨hw, fun v z hv => ?_⟩
  unfold AV.spl
  split
  · rename_i m q xs
    split
    · rename_i hm; subst hm
      split
      · rename_i hq; subst hq
        refine frow_sl.2 ?_
        rcases frow_sl.1 hv with ⟨b', o', cap, rfl, ⟨ha', hb'⟩, hn, hmx, hcs, hsp⟩ | ⟨hn, hv0, hvo⟩
        · rw [hb] at hb'; cases hb'
          refine .inl ⟨b, o, cap, by rw [splice_len], ⟨ha, hb⟩, by rw [splice_len]; exact hn, hmx, fun t ht => ?_, fun t ht => ?_⟩
          · rw [splice_len] at ht
            show ∃ u, _ ∧ FR q ((splice xs off zs).getD t 0) u
            rw [splice_get xs off zs t ht, Nat.add_zero, hcell t, hl]
            by_cases h : off ≤ t ∧ t < off + zs.length
            · rw [if_pos h, if_pos h]
              have hlt : t - off < us.length := by omega
              exact ⟨us[t - off], by rw [List.getElem?_eq_getElem hlt], hu (t - off) _ (by rw [List.getElem?_eq_getElem hlt])⟩
            · rw [if_neg h, if_neg h]
              obtain ⟨y, hy, hf⟩ := hcs t ht
              rw [Nat.add_zero] at hy
              exact ⟨y, hy, hf⟩
          · have := hsp t ht
            rw [Nat.add_zero] at this ⊢
            rw [hcell t]
            split
            · rw [List.getElem?_eq_getElem (by omega)]; rfl
            · exact this
        · exact .inr ⟨by rw [splice_len]; exact hn, hv0, hvo⟩
      · simp [VR]
    · rename_i hm
      exact hw.keep (by simpa [AV.has, Tag.names] using hm) hv
  · exact drop_ok hv fun h hv => hw.keep h hv
theorem splice_nil (xs : List Nat) (off : Nat) : splice xs off [] = xs := by
  unfold splice
  simp
theorem spl_nil {n off : Nat} {k : FloatKind} {v : AV} {z : Value} (h : VR G w v z) : VR G w (AV.spl n off k [] v) z := by
  unfold AV.spl
  split
  · split
    · split
      · rename_i hm _ hq; rw [splice_nil]; exact h
      · simp [VR]
    · exact h
  · exact drop_ok h fun _ h => h

/-! ### appends -/
theorem holeAt_ok (hs : SimG C G w) {n i d : Nat} (hnd : n ≠ d) (hn : G.act n) :
    ∀ (v : AV) (z : Value), VR G w v z → VR (G.takeRow n i d) w (AV.holeAt n i d v) z := by
  intro v z hv
  have ok := StepOk.takeRow (i := i) hs hnd hn
  have gone : ∀ {x : AV} {y : Value}, x.has n = false → x.has d = false → VR G w x y → VR (G.takeRow n i d) w x y := fun h h2 hx =>
    ok.keep _ _ (fun l hl => by simp at hl; rcases hl with rfl | rfl; exact h; exact h2) hx
  unfold AV.holeAt
  split
  · rename_i l lo q xss
    split
    · rename_i hl; subst hl
      simp only [VR] at hv ⊢
      refine ⟨by simp [Gh.takeRow, if_neg hnd], ?_⟩
      refine SRow.mono (G := G) (w := w) (g := .own l) ⟨fun b o hat => ⟨⟨.inr hat.1, by simp only [Gh.takeRow, if_neg hnd, if_true]; rw [if_neg (by omega)]; exact hat.2⟩, rfl⟩, fun h => .inr h⟩ (fun t y ht hy => ?_) hv.2
      by_cases hti : i = lo + t
      · exact .inl (by rw [hti])
      · rcases hy with hy | hy
        · cases hy
        · refine .inr (SRow.mono (G := G) (w := w) (g := .row l (lo + t)) ⟨fun b o hat => ⟨⟨.inr hat.1, by simp only [Gh.takeRow, if_neg hnd, if_true]; rw [if_neg (by omega)]; exact hat.2⟩, rfl⟩, fun h => .inr h⟩ (fun _ _ _ h => h) hy)
    · rename_i hl
      exact drop_ok hv fun h hv => gone (by simpa [AV.has] using hl) h hv
  · unfold AV.drop
    cases h1 : AV.has n v with
    | true => simp [AV.has, VR]
    | false =>
      simp only [cond_false]
      cases h2 : AV.has d v with
      | true => simp [VR]
      | false => exact gone h1 h2 hv
theorem rows_app {k : FloatKind} {xss yss : List (List Nat)} {n m : Nat} (hs : SimG C G w) (hnm : n ≠ m) (hm : G.act m) (hn : G.act n) {x y : Value}
    (hx : VR G w (.nw n 0 k xss none) x) (hy : VR G w (.nw m 0 k yss none) y) :
    SRow (G.steal n m xss.length yss.length) w (.own n) 0 xss.length (NRow (G.steal n m xss.length yss.length) w n 0 k (xss ++ yss) none) x ∧
    ∀ t u, t < yss.length → NRow G w m 0 k yss none t u → NRow (G.steal n m xss.length yss.length) w n 0 k (xss ++ yss) none (xss.length + t) u := by
  have gl : ∀ t, t < xss.length → (xss ++ yss).getD t [] = xss.getD t [] := fun t ht => by simp [List.getD, List.getElem?_append_left ht]
  have gr : ∀ t, (xss ++ yss).getD (xss.length + t) [] = yss.getD t [] := fun t => by simp [List.getD, List.getElem?_append_right (Nat.le_add_right xss.length t)]
  refine ⟨?_, fun t u ht h => ?_⟩
  · refine SRow.mono (G := G) (w := w) (g := .own n) ⟨fun b o hat => ⟨⟨hat.1, by simp only [Gh.steal, if_true]; rw [if_pos (Nat.zero_le _)]; exact hat.2⟩, rfl⟩, fun h => h⟩ (fun t u ht h => ?_) hx.2
    rcases h with h | h
    · cases h
    · refine .inr ?_
      rw [gl t ht]
      exact SRow.mono (G := G) (w := w) (g := .row n (0 + t)) ⟨fun b o hat => ⟨⟨hat.1, by simp only [Gh.steal, if_true]; rw [if_pos (by omega)]; exact hat.2⟩, rfl⟩, fun h => h⟩ (fun _ _ _ h => h) h
  · rcases h with h | h
    · cases h
    · refine .inr ?_
      rw [gr t]
      refine FRow.name h (fun b o hat => ⟨⟨hn, ?_⟩, rfl⟩) (fun _ => hn)
      simp only [Gh.steal, if_true]
      rw [if_neg (by omega), if_pos (by omega), show 0 + (xss.length + t) + 1 - xss.length = 0 + t + 1 by omega]
      exact hat.2

/-! ### literals -/
theorem rowsOf_ok {k : FloatKind} : ∀ {xs : List AV} {ms : List Nat} {xss : List (List Nat)} {us : List Value}, rowsOf k xs = some (ms, xss) → VL G w xs us →
    us.length = xss.length ∧ ms.length = xss.length ∧ (∀ u, u ∈ us → u.cells = #[u]) ∧ (∀ m, m ∈ ms → G.act m) ∧ ∀ t u, us[t]? = some u → ∃ m, ms[t]? = some m ∧ FRow G w (.own m) k (xss.getD t []) u
  | [], ms, xss, us, h, hv => by
    simp only [rowsOf] at h; cases h
    simp only [VL] at hv; subst hv
    exact ⟨rfl, rfl, by simp, by simp, fun t u h => by simp at h⟩
  | x :: r, ms, xss, us, h, hv => by
    simp only [VL] at hv
    obtain ⟨u, us', rfl, hx, hr⟩ := hv
    unfold rowsOf at h
    split at h
    · rename_i heq; cases heq
    · rename_i m q ys r' heq
      cases heq
      split at h
      · rename_i hq; subst hq
        split at h
        · rename_i ms' xss' hrec
          cases h
          obtain ⟨h1, h2, h3, h4, h5⟩ := rowsOf_ok hrec hr
          have hfr := frow_sl.1 hx
          refine ⟨by simp [h1], by simp [h2], fun z hz => ?_, fun l hl => ?_, fun t z hz => ?_⟩
          · rcases List.mem_cons.1 hz with rfl | hz
            · rcases hfr with ⟨b, o, cap, rfl, _⟩ | ⟨_, ⟨a, rfl⟩, _⟩ <;> rfl
            · exact h3 z hz
          · rcases List.mem_cons.1 hl with rfl | hl
            · rcases hfr with ⟨_, _, _, _, h, _⟩ | ⟨_, _, h⟩
              · exact h.1
              · exact h
            · exact h4 l hl
          · cases t with
            | zero => simp at hz; subst hz; exact ⟨m, rfl, by simpa using hfr⟩
            | succ t => simpa using h5 t z (by simpa using hz)
        · cases h
      · cases h
    · cases h
/-- the rows of a literal, as rows of the new object -/
theorem gather_ok (hs : SimG C G w) {k : FloatKind} {xs : List AV} {ms : List Nat} {xss : List (List Nat)} {us : List Value} {n : Nat} (h : rowsOf k xs = some (ms, xss)) (hv : VL G w xs us) (hn : n ∉ ms) (hnd : ms.Nodup) :
    StepOk C G w (G.gather n ms) w (n :: ms) ∧ ∀ t u, us[t]? = some u → NRow (G.gather n ms) w n 0 k xss none t u := by
  obtain ⟨h1, h2, h3, h4, h5⟩ := rowsOf_ok h hv
  refine ⟨StepOk.gather hs hn hnd h4, fun t u hu => .inr ?_⟩
  obtain ⟨m, hm, hf⟩ := h5 t u hu
  refine FRow.name hf (fun b o hat => ⟨⟨.inl rfl, ?_⟩, rfl⟩) (fun _ => .inl rfl)
  simp only [Gh.gather, if_true, Nat.zero_add]
  rw [hm]
  exact hat.2
end
end Go.Proofs.LV
