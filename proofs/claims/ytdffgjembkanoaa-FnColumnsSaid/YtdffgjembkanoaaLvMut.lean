/- Calls that write their arguments: sound. -/
import Derived.Test.YtdffgjembkanoaaLvStepR
namespace Go.Proofs.LV
open Go Go.RowKit
set_option linter.unusedVariables false
set_option linter.unusedSimpArgs false

theorem dedup_mem : ∀ {ns : List Nat} {n : Nat}, n ∈ dedup ns ↔ n ∈ ns
  | [], n => by simp [dedup]
  | m :: r, n => by
    simp only [dedup, List.mem_cons, List.mem_filter, dedup_mem (ns := r)]
    by_cases h : n = m
    · simp [h]
    · simp [h]
theorem dedup_nodup : ∀ (ns : List Nat), (dedup ns).Nodup
  | [] => by simp [dedup]
  | m :: r => by
    simp only [dedup, List.nodup_cons, List.mem_filter]
    refine ⟨fun h => ?_, (dedup_nodup r).filter _⟩
    simp at h
theorem nodup_inj : ∀ {ns : List Nat} {i j n : Nat}, ns.Nodup → ns[i]? = some n → ns[j]? = some n → i = j
  | [], i, j, n, _, h, _ => by simp at h
  | m :: r, 0, 0, n, _, _, _ => rfl
  | m :: r, 0, j + 1, n, hn, h1, h2 => by
    simp at h1 h2; subst h1
    exact absurd (List.mem_of_getElem? h2) (List.nodup_cons.1 hn).1
  | m :: r, i + 1, 0, n, hn, h1, h2 => by
    simp at h1 h2; subst h2
    exact absurd (List.mem_of_getElem? h1) (List.nodup_cons.1 hn).1
  | m :: r, i + 1, j + 1, n, hn, h1, h2 => by
    simp at h1 h2
    exact congrArg (· + 1) (nodup_inj (List.nodup_cons.1 hn).2 h1 h2)
theorem idx_get {ns : List Nat} {n : Nat} (h : n ∈ ns) : ns[ns.idxOf n]? = some n := by
  rw [List.getElem?_eq_getElem (List.idxOf_lt_length_iff.2 h), List.getElem_idxOf]

theorem cell_row {w w' : World} {b a : Nat} {cells cells' : Array Value} {e e' : TypeId} {f f' : Nat × Nat} (h : w.heap[b]? = some (.cells cells e f)) (h' : w'.heap[b]? = some (.cells cells' e' f')) (hs : cells'.size = cells.size)
    (hc : (w.cell? ⟨b, a, none⟩).isSome = true) : (w'.cell? ⟨b, a, none⟩).isSome = true := by
  simp only [World.cell?, h, h', Option.isSome_none, Bool.false_eq_true, if_false] at hc ⊢
  rw [Option.isSome_iff_exists] at hc ⊢
  obtain ⟨v, hv⟩ := hc
  have := (Array.getElem?_eq_some_iff.1 hv).1
  exact ⟨cells'[a]'(by omega), Array.getElem?_eq_getElem (by omega)⟩

/-- the ghosts of the arguments that are written -/
def mβ (G : Gh) (ns : List Nat) (m : Nat) : Fam := if HI ≤ m then (match ns[m - HI]? with | some n => G.β n | none => Fam.no) else Fam.no
def mact (G : Gh) (ns : List Nat) (m : Nat) : Prop := HI ≤ m ∧ ∃ n, ns[m - HI]? = some n ∧ G.act n
theorem mβ_get {G : Gh} {ns : List Nat} {k n : Nat} (h : ns[k]? = some n) : mβ G ns (HI + k) = G.β n := by simp [mβ, h]
theorem mact_get {G : Gh} {ns : List Nat} {k n : Nat} (h : ns[k]? = some n) : mact G ns (HI + k) ↔ G.act n := by simp [mact, h]

/-- memory that is only read -/
def Gh.rd (G : Gh) (b : Nat) : Prop := G.imm b ∨ ∃ p o, G.π p = some (b, o)
/-- what an object reads as anew, in memory -/
def New.holds (G : Gh) (w : World) (n b o : Nat) : New → Prop
  | .sl ys => ∀ j, j < ys.len → ∃ u, w.cell? ⟨b, o + j, none⟩ = some u ∧ ys.ok G w j u
  | .bx cells => CL G w b o cells
  | .nw k yss => ∀ j, j < yss.length → ∃ u, w.cell? ⟨b, o + j, none⟩ = some u ∧ NRow G w n 0 k yss none j u
def New.av (n : Nat) : New → AV
  | .sl ys => .sl (.own n) 0 ys
  | .bx cells => .bx (.own n) cells
  | .nw k yss => .nw n 0 k yss none

section
variable {P : Program} {C : Ctx} {G G' : Gh} {w w' : World} {σ σ' : Env} {a : Act}

theorem cellRo_ok {β : Nat → Fam} {act : Nat → Prop} {x : AV} {v : Value} (hc : x.cellIn = true) (h : VR G w x v) : VR ⟨β, act, G.rd, fun _ => none⟩ w x.cellRo v := by
  have row : ∀ (g : Tag) (off : Nat) (xs : Cont), (∀ b o, G.at g b o → G.rd b) → xs.flat = true → VR G w (.sl g off xs) v → VR ⟨β, act, G.rd, fun _ => none⟩ w (.sl .ro 0 xs) v := by
    intro g off xs hg hf h
    simp only [VR] at h ⊢
    rcases h with ⟨b, o, cap, rfl, hat, hn, hm, hc, hs⟩ | ⟨hn, ha, hv⟩
    · refine .inl ⟨b, o + off, cap, rfl, .inl (hg b o hat), hn, hm, fun j hj => ?_, hs⟩
      obtain ⟨u, hu, hok⟩ := hc j hj
      exact ⟨u, hu, flat_ok hf hok⟩
    · exact .inr ⟨hn, ha, trivial⟩
  cases x with
  | b c => simpa [AV.cellRo, VR] using h
  | i k n => simpa [AV.cellRo, VR] using h
  | f k n => simpa [AV.cellRo, VR] using h
  | c k n m => simpa [AV.cellRo, VR] using h
  | sl g off xs =>
    cases g with
    | nil => exact row .nil off xs (fun _ _ h => False.elim h) (by simpa [AV.cellIn] using hc) h
    | imm => exact row .imm off xs (fun _ _ h => .inl h) (by simpa [AV.cellIn] using hc) h
    | ro => exact row .ro off xs (fun _ _ h => h) (by simpa [AV.cellIn] using hc) h
    | par p => exact row (.par p) off xs (fun b o h => .inr ⟨p, o, h⟩) (by simpa [AV.cellIn] using hc) h
    | own n => simp [AV.cellIn] at hc
    | row n i => simp [AV.cellIn] at hc
  | _ => simp [AV.cellIn] at hc
theorem cellsRo_ok {β : Nat → Fam} {act : Nat → Prop} {b : Nat} : ∀ (xs : List AV) (o : Nat), xs.all AV.cellIn = true → CL G w b o xs → CL ⟨β, act, G.rd, fun _ => none⟩ w b o (xs.map AV.cellRo)
  | [], o, _, h => by simp [CL]
  | x :: r, o, hc, h => by
    simp only [List.all_cons, Bool.and_eq_true] at hc
    simp only [CL] at h
    obtain ⟨⟨u, hu, hx⟩, hr⟩ := h
    simp only [List.map_cons, CL]
    exact ⟨⟨u, hu, cellRo_ok hc.1 hx⟩, cellsRo_ok r (o + 1) hc.2 hr⟩
/-- a cell behind the call -/
theorem cellOut_ok {G1 G2 : Gh} {x : AV} {v : Value} (hc : x.cellOut = true) (hr : ∀ b o, G1.at .ro b o → G2.at .ro b o) (h : VR G1 w x v) : VR G2 w x v := by
  cases x with
  | b c => simpa [VR] using h
  | i k n => simpa [VR] using h
  | f k n => simpa [VR] using h
  | c k n m => simpa [VR] using h
  | sl g off xs =>
    cases g with
    | ro =>
      cases off with
      | zero =>
        simp only [AV.cellOut] at hc
        simp only [VR] at h ⊢
        rcases h with ⟨b, o, cap, rfl, hat, hn, hm, hcs, hs⟩ | ⟨hn, ha, hv⟩
        · refine .inl ⟨b, o, cap, rfl, hr b o hat, hn, hm, fun j hj => ?_, hs⟩
          obtain ⟨u, hu, hok⟩ := hcs j hj
          exact ⟨u, hu, flat_ok hc hok⟩
        · exact .inr ⟨hn, ha, trivial⟩
      | succ n => simp [AV.cellOut] at hc
    | _ => simp [AV.cellOut] at hc
  | _ => simp [AV.cellOut] at hc
theorem cellsOut_ok {G1 G2 : Gh} {b : Nat} (hr : ∀ b o, G1.at .ro b o → G2.at .ro b o) : ∀ (xs : List AV) (o : Nat), xs.all AV.cellOut = true → CL G1 w b o xs → CL G2 w b o xs
  | [], o, _, h => by simp [CL]
  | x :: r, o, hc, h => by
    simp only [List.all_cons, Bool.and_eq_true] at hc
    simp only [CL] at h ⊢
    obtain ⟨⟨u, hu, hx⟩, hr'⟩ := h
    exact ⟨⟨u, hu, cellOut_ok hc.1 hr hx⟩, cellsOut_ok hr r (o + 1) hc.2 hr'⟩

mutual
theorem mview_ok {ns : List Nat} : ∀ (x : AV) (v : Value), x.mOk = true → (∀ n, n ∈ x.nms → n ∈ ns) → VR G w x v → VR ⟨mβ G ns, mact G ns, G.rd, fun _ => none⟩ w (x.mview ns) v
  | .any, v, hm, _, _ => by simp [AV.mOk] at hm
  | .b c, v, _, _, h => by simpa [AV.mview, VR] using h
  | .i k c, v, _, _, h => by simpa [AV.mview, VR] using h
  | .f k c, v, _, _, h => by simpa [AV.mview, VR] using h
  | .c k c d, v, _, _, h => by simpa [AV.mview, VR] using h
  | .bx .nil _, v, hm, _, _ => by simp [AV.mOk] at hm
  | .bx .imm _, v, hm, _, _ => by simp [AV.mOk] at hm
  | .bx .ro _, v, hm, _, _ => by simp [AV.mOk] at hm
  | .bx (.par _) _, v, hm, _, _ => by simp [AV.mOk] at hm
  | .bx (.own n) cells, v, hm, hn, h => by
    have hget := idx_get (hn n (by simp [AV.nms]))
    simp only [VR] at h; obtain ⟨b, o, rfl, ⟨ha, hb⟩, hc⟩ := h
    simp only [AV.mview, VR]
    exact ⟨b, o, rfl, ⟨(mact_get hget).2 ha, by show mβ G ns _ _ = _; rw [mβ_get hget]; exact hb⟩, cellsRo_ok cells o (by simpa [AV.mOk] using hm) hc⟩
  | .bx (.row _ _) _, v, hm, _, _ => by simp [AV.mOk] at hm
  | .sl (.row _ _) _ _, v, hm, _, _ => by simp [AV.mOk] at hm
  | .na _ _ _ _ _, v, hm, _, _ => by simp [AV.mOk] at hm
  | .nw _ (_ + 1) _ _ _, v, hm, _, _ => by simp [AV.mOk] at hm
  | .nw _ 0 _ _ (some _), v, hm, _, _ => by simp [AV.mOk] at hm
  | .nw n 0 k xss none, v, hm, hn, h => by
    have hget := idx_get (hn n (by simp [AV.nms]))
    have hβ := mβ_get (G := G) hget
    have hact := mact_get (G := G) hget
    simp only [AV.mview, VR] at h ⊢
    refine ⟨by rw [hβ]; exact h.1, ?_⟩
    have row : ∀ t u, NRow G w n 0 k xss none t u → NRow ⟨mβ G ns, mact G ns, G.rd, fun _ => none⟩ w (HI + ns.idxOf n) 0 k xss none t u := by
      intro t u h
      rcases h with h | h
      · cases h
      · exact .inr (FRow.name h (fun b o hat => ⟨⟨hact.2 hat.1, by show mβ G ns _ _ = _; rw [hβ]; exact hat.2⟩, rfl⟩) (fun hv => hact.2 hv))
    rcases h.2 with ⟨b, o, cap, rfl, ⟨ha, hb⟩, hn', hmx, hcs, hsp⟩ | ⟨hn', ha, hv⟩
    · refine .inl ⟨b, o, cap, rfl, ⟨hact.2 ha, by show mβ G ns _ _ = _; rw [hβ]; exact hb⟩, hn', hmx, fun j hj => ?_, hsp⟩
      obtain ⟨u, hu, hok⟩ := hcs j hj
      exact ⟨u, hu, row j u hok⟩
    · exact .inr ⟨hn', ha, hact.2 hv⟩
  | .ad _ _ _, v, hm, _, _ => by simp [AV.mOk] at hm
  | .tup _, v, hm, _, _ => by simp [AV.mOk] at hm
  | .fn f [], v, _, _, h => by simpa [AV.mview, VR, VL] using h
  | .fn f (_ :: _), v, hm, _, _ => by simp [AV.mOk] at hm
  | .agg cells, v, hm, hn, h => by
    simp only [VR] at h; obtain ⟨vs, rfl, hv⟩ := h
    simp only [AV.mview, VR]; exact ⟨vs, rfl, mviewL_ok cells vs.toList (by simpa [AV.mOk] using hm) (fun n h => hn n (by simpa [AV.nms] using h)) hv⟩
  | .sl .nil _ _, v, hm, _, _ => by simp [AV.mOk] at hm
  | .sl .imm _ _, v, hm, _, _ => by simp [AV.mOk] at hm
  | .sl .ro _ _, v, hm, _, _ => by simp [AV.mOk] at hm
  | .sl (.par _) _ _, v, hm, _, _ => by simp [AV.mOk] at hm
  | .sl (.own n) (_ + 1) _, v, hm, _, _ => by simp [AV.mOk] at hm
  | .sl (.own n) 0 xs, v, hm, hn, h => by
    have hmem := hn n (by simp [AV.nms])
    have hget := idx_get hmem
    simp only [AV.mOk] at hm
    simp only [AV.mview, VR] at h ⊢
    rcases h with ⟨b, o, cap, rfl, ⟨ha, hb⟩, hn', hmx, hcs, hsp⟩ | ⟨hn', ha, hv⟩
    · refine .inl ⟨b, o, cap, rfl, ⟨(mact_get hget).2 ha, by show mβ G ns _ _ = _; rw [mβ_get hget]; exact hb⟩, hn', hmx, fun j hj => ?_, hsp⟩
      obtain ⟨u, hu, hok⟩ := hcs j hj
      exact ⟨u, hu, flat_ok hm hok⟩
    · exact .inr ⟨hn', ha, (mact_get hget).2 hv⟩
theorem mviewL_ok {ns : List Nat} : ∀ (xs : List AV) (vs : List Value), AV.mOkL xs = true → (∀ n, n ∈ AV.nmsL xs → n ∈ ns) → VL G w xs vs → VL ⟨mβ G ns, mact G ns, G.rd, fun _ => none⟩ w (AV.mviewL ns xs) vs
  | [], vs, _, _, h => by simpa [AV.mviewL, VL] using h
  | x :: r, vs, hm, hn, h => by
    simp only [VL] at h; obtain ⟨u, us, rfl, hx, hr⟩ := h
    simp only [AV.mOkL, Bool.and_eq_true] at hm
    simp only [AV.mviewL, VL]; exact ⟨u, us, rfl, mview_ok x u hm.1 (fun n h => hn n (by simp [AV.nmsL, h])) hx, mviewL_ok r us hm.2 (fun n h => hn n (by simp [AV.nmsL, h])) hr⟩
end

mutual
/-- what the object reads as: some value tells it -/
theorem newOf_ok {n : Nat} {N : New} : ∀ (x : AV) (v : Value), x.newOf n = some N → VR G w x v → ∃ u, VR G w (N.av n) u
  | .sl (.own m) 0 xs, v, h, hv => by
    simp only [AV.newOf] at h
    cases hm : (m == n) with
    | false => rw [hm] at h; cases h
    | true =>
      rw [hm] at h; cases h
      have : m = n := by simpa using hm
      subst this; exact ⟨v, hv⟩
  | .bx (.own m) cells, v, h, hv => by
    simp only [AV.newOf] at h
    cases hm : (m == n) with
    | false => rw [hm] at h; cases h
    | true =>
      rw [hm] at h; cases h
      have : m = n := by simpa using hm
      subst this; exact ⟨v, hv⟩
  | .agg cells, v, h, hv => by
    simp only [AV.newOf] at h
    simp only [VR] at hv; obtain ⟨vs, rfl, hv⟩ := hv
    exact newOfL_ok cells vs.toList h hv
  | .nw m 0 k xss none, v, h, hv => by
    simp only [AV.newOf] at h
    cases hm : (m == n) with
    | false => rw [hm] at h; cases h
    | true =>
      rw [hm] at h; cases h
      have : m = n := by simpa using hm
      subst this; exact ⟨v, hv⟩
  | .nw _ (_ + 1) _ _ _, v, h, _ => by simp [AV.newOf] at h
  | .nw _ 0 _ _ (some _), v, h, _ => by simp [AV.newOf] at h
  | .na _ _ _ _ _, v, h, _ => by simp [AV.newOf] at h
  | .bx (.row _ _) _, v, h, _ => by simp [AV.newOf] at h
  | .sl (.row _ _) _ _, v, h, _ => by simp [AV.newOf] at h
  | .any, v, h, _ => by simp [AV.newOf] at h
  | .b _, v, h, _ => by simp [AV.newOf] at h
  | .i _ _, v, h, _ => by simp [AV.newOf] at h
  | .f _ _, v, h, _ => by simp [AV.newOf] at h
  | .c _ _ _, v, h, _ => by simp [AV.newOf] at h
  | .bx .nil _, v, h, _ => by simp [AV.newOf] at h
  | .bx .imm _, v, h, _ => by simp [AV.newOf] at h
  | .bx .ro _, v, h, _ => by simp [AV.newOf] at h
  | .bx (.par _) _, v, h, _ => by simp [AV.newOf] at h
  | .ad _ _ _, v, h, _ => by simp [AV.newOf] at h
  | .tup _, v, h, _ => by simp [AV.newOf] at h
  | .fn _ _, v, h, _ => by simp [AV.newOf] at h
  | .sl .nil _ _, v, h, _ => by simp [AV.newOf] at h
  | .sl .imm _ _, v, h, _ => by simp [AV.newOf] at h
  | .sl .ro _ _, v, h, _ => by simp [AV.newOf] at h
  | .sl (.par _) _ _, v, h, _ => by simp [AV.newOf] at h
  | .sl (.own _) (_ + 1) _, v, h, _ => by simp [AV.newOf] at h
theorem newOfL_ok {n : Nat} {N : New} : ∀ (xs : List AV) (vs : List Value), AV.newOfL n xs = some N → VL G w xs vs → ∃ u, VR G w (N.av n) u
  | [], vs, h, _ => by simp [AV.newOfL] at h
  | x :: r, vs, h, hv => by
    simp only [VL] at hv; obtain ⟨u, us, rfl, hx, hr⟩ := hv
    simp only [AV.newOfL] at h
    split at h
    · cases h; rename_i hy; exact newOf_ok x u hy hx
    · exact newOfL_ok r us h hr
end

/-- behind the call -/
structure Swapped (G G2 : Gh) (w w' : World) (d : Nat) (μ : Nat → Option New) : Prop where
  keep : ∀ g : Tag, g.look μ = none → (∀ n, n ∈ callNames d → g.names n = false) → Keeps G G2 w w' g
  kn : ∀ n, μ n = none → n ∉ callNames d → KeepsN G G2 w w' n
  new : ∀ n N, μ n = some N → (G.act n → G2.act n ∧ G2.β n = G.β n ∧ ∀ b o, G.β n 0 = some (b, o) → N.holds G2 w' n b o ∧
    (∀ i, (w.cell? ⟨b, i, none⟩).isSome = true → (w'.cell? ⟨b, i, none⟩).isSome = true))

theorem obs_app : ∀ {ps qs : List Prop}, obsAll (ps ++ qs) → obsAll ps ∧ obsAll qs
  | [], qs, h => ⟨trivial, h⟩
  | p :: r, qs, h => ⟨⟨h.1, (obs_app h.2).1⟩, (obs_app h.2).2⟩

mutual
theorem VR.swap {G2 : Gh} {d : Nat} {μ : Nat → Option New} (hw : Swapped G G2 w w' d μ) : ∀ (x : AV) (v : Value), (∀ n, n ∈ callNames d → x.has n = false) → obsAll (x.lens μ) → VR G w x v → VR G2 w' (x.swap μ) v
  | .any, v, _, _, _ => by simp [AV.swap, VR]
  | .b c, v, _, _, h => by simpa [AV.swap, VR] using h
  | .i k c, v, _, _, h => by simpa [AV.swap, VR] using h
  | .f k c, v, _, _, h => by simpa [AV.swap, VR] using h
  | .c k c d, v, _, _, h => by simpa [AV.swap, VR] using h
  | .sl g off xs, v, hn, ho, h => by
    simp only [AV.swap]
    simp only [AV.lens] at ho
    split
    · rename_i ys hy
      rw [hy] at ho
      split
      · rename_i n
        simp only [Tag.look] at hy
        have hnew := hw.new n _ hy
        have hl : xs.len = ys.len := ho.1
        simp only [VR] at h ⊢
        rcases h with ⟨b, o, cap, rfl, ⟨ha, hb⟩, hle, hm, hc, hsp⟩ | ⟨h0, ha, hv⟩
        · obtain ⟨ha2, hb2, hcell⟩ := hnew ha
          obtain ⟨h1, h2⟩ := hcell b o hb
          rw [hl] at hle ⊢
          exact .inl ⟨b, o, cap, rfl, ⟨ha2, by rw [hb2]; exact hb⟩, hle, hm, fun j hj => h1 j hj, fun j hj => h2 _ (hsp j hj)⟩
        · exact .inr ⟨by omega, ha, (hnew hv).1⟩
      · simp [VR]
    · simp [VR]
    · rename_i hy
      simp only [VR] at h ⊢
      have hi := hw.keep .imm rfl (fun _ _ => rfl)
      exact SRow.mono (hw.keep g hy (fun n hc => by simpa [AV.has] using hn n hc)) (fun _ _ _ h => Cont.ok.mono hi h) h
  | .nw n lo k xss hh, v, hn, ho, h => by
    simp only [AV.swap]
    simp only [AV.lens] at ho
    split
    · rename_i q yss hy
      rw [hy] at ho
      split
      · have hnew := hw.new n _ hy
        have hl : xss.length = yss.length := ho.1
        simp only [VR] at h ⊢
        obtain ⟨hho, h⟩ := h
        rcases h with ⟨b, o, cap, rfl, ⟨ha, hb⟩, hle, hm, hc, hsp⟩ | ⟨h0, ha, hv⟩
        · obtain ⟨ha2, hb2, hcell⟩ := hnew ha
          obtain ⟨h1, h2⟩ := hcell b o hb
          refine ⟨by rw [hb2]; exact hho, ?_⟩
          rw [hl] at hle ⊢
          exact .inl ⟨b, o, cap, rfl, ⟨ha2, by rw [hb2]; exact hb⟩, hle, hm, fun j hj => h1 j hj, fun j hj => h2 _ (hsp j hj)⟩
        · exact ⟨by rw [(hnew hv).2.1]; exact hho, .inr ⟨by omega, ha, (hnew hv).1⟩⟩
      · simp [VR]
    · simp [VR]
    · rename_i hy
      have hk := hw.kn n hy (fun hc => by have := hn n hc; simp [AV.has] at this)
      simp only [VR] at h ⊢
      exact ⟨hk.2.2.trans h.1, SRow.mono hk.own (fun _ _ _ h => NRow.mono hk.row h) h.2⟩
  | .na n ix k hh y, v, hn, ho, h => by
    simp only [AV.swap]
    simp only [AV.lens] at ho
    split
    · simp [VR]
    · rename_i hy
      rw [hy] at ho
      simp only [VR] at h ⊢
      obtain ⟨hho, b, o, rfl, hat, z, hz, hyv⟩ := h
      have hk := hw.kn n hy (fun hc => by have := hn n hc; simp [AV.has] at this)
      obtain ⟨h1, h2⟩ := hk.own.1 b o hat
      exact ⟨hk.2.2.trans hho, b, o, rfl, h1, z, (World.cell?_of_block (w := w) (a := ⟨b, o + ix, none⟩) h2).trans hz, VR.swap hw y z (fun n hc => by have := hn n hc; simp only [AV.has, Bool.or_eq_false_iff] at this; exact this.2) ho hyv⟩
  | .bx g cells, v, hn, ho, h => by
    simp only [AV.swap]
    simp only [AV.lens] at ho
    split
    · rename_i cs hy
      split
      · rename_i n
        simp only [Tag.look] at hy
        simp only [VR] at h ⊢
        obtain ⟨b, o, rfl, ⟨ha, hb⟩, hc⟩ := h
        obtain ⟨ha2, hb2, hcell⟩ := hw.new n _ hy ha
        exact ⟨b, o, rfl, ⟨ha2, by rw [hb2]; exact hb⟩, (hcell b o hb).1⟩
      · simp [VR]
    · simp [VR]
    · rename_i hy
      rw [hy] at ho
      simp only [VR] at h ⊢
      obtain ⟨b, o, rfl, hat, hc⟩ := h
      have hk := hw.keep g hy (fun n hc => by have := hn n hc; simp only [AV.has, Bool.or_eq_false_iff] at this; exact this.1)
      obtain ⟨h1, h2⟩ := hk.1 b o hat
      exact ⟨b, o, rfl, h1, CL.swap hw cells b o h2 (fun n hc => by have := hn n hc; simp only [AV.has, Bool.or_eq_false_iff] at this; exact this.2) ho hc⟩
  | .ad g idx y, v, hn, ho, h => by
    simp only [AV.swap]
    simp only [AV.lens] at ho
    split
    · simp [VR]
    · rename_i hy
      rw [hy] at ho
      simp only [VR] at h ⊢
      obtain ⟨b, o, rfl, hat, z, hz, hyv⟩ := h
      have hk := hw.keep g hy (fun n hc => by have := hn n hc; simp only [AV.has, Bool.or_eq_false_iff] at this; exact this.1)
      obtain ⟨h1, h2⟩ := hk.1 b o hat
      exact ⟨b, o, rfl, h1, z, (World.cell?_of_block (w := w) (a := ⟨b, o + idx, none⟩) h2).trans hz, VR.swap hw y z (fun n hc => by have := hn n hc; simp only [AV.has, Bool.or_eq_false_iff] at this; exact this.2) ho hyv⟩
  | .agg cells, v, hn, ho, h => by
    simp only [VR] at h; obtain ⟨vs, rfl, hv⟩ := h
    simp only [AV.swap, VR]
    exact ⟨vs, rfl, VL.swap hw cells vs.toList (fun n hc => by simpa [AV.has] using hn n hc) (by simpa [AV.lens] using ho) hv⟩
  | .tup cells, v, hn, ho, h => by
    simp only [VR] at h; obtain ⟨vs, rfl, hv⟩ := h
    simp only [AV.swap, VR]
    exact ⟨vs, rfl, VL.swap hw cells vs.toList (fun n hc => by simpa [AV.has] using hn n hc) (by simpa [AV.lens] using ho) hv⟩
  | .fn f cells, v, hn, ho, h => by
    simp only [VR] at h; obtain ⟨vs, rfl, hv⟩ := h
    simp only [AV.swap, VR]
    exact ⟨vs, rfl, VL.swap hw cells vs.toList (fun n hc => by simpa [AV.has] using hn n hc) (by simpa [AV.lens] using ho) hv⟩
theorem VL.swap {G2 : Gh} {d : Nat} {μ : Nat → Option New} (hw : Swapped G G2 w w' d μ) : ∀ (xs : List AV) (vs : List Value), (∀ n, n ∈ callNames d → AV.hasL n xs = false) → obsAll (AV.lensL μ xs) → VL G w xs vs → VL G2 w' (AV.swapL μ xs) vs
  | [], vs, _, _, h => by simpa [AV.swapL, VL] using h
  | x :: r, vs, hn, ho, h => by
    simp only [VL] at h; obtain ⟨u, us, rfl, hx, hr⟩ := h
    simp only [AV.lensL] at ho
    obtain ⟨ho1, ho2⟩ := obs_app ho
    simp only [AV.swapL, VL]
    exact ⟨u, us, rfl, VR.swap hw x u (fun n hc => by have := hn n hc; simp only [AV.hasL, Bool.or_eq_false_iff] at this; exact this.1) ho1 hx,
      VL.swap hw r us (fun n hc => by have := hn n hc; simp only [AV.hasL, Bool.or_eq_false_iff] at this; exact this.2) ho2 hr⟩
theorem CL.swap {G2 : Gh} {d : Nat} {μ : Nat → Option New} (hw : Swapped G G2 w w' d μ) : ∀ (xs : List AV) (b o : Nat), w'.heap[b]? = w.heap[b]? → (∀ n, n ∈ callNames d → AV.hasL n xs = false) → obsAll (AV.lensL μ xs) →
    CL G w b o xs → CL G2 w' b o (AV.swapL μ xs)
  | [], b, o, _, _, _, h => by simp [AV.swapL, CL]
  | x :: r, b, o, hb, hn, ho, h => by
    simp only [CL] at h
    obtain ⟨⟨u, hu, hx⟩, hr⟩ := h
    simp only [AV.lensL] at ho
    obtain ⟨ho1, ho2⟩ := obs_app ho
    simp only [AV.swapL, CL]
    exact ⟨⟨u, (World.cell?_of_block (w := w) (a := ⟨b, o, none⟩) hb).trans hu, VR.swap hw x u (fun n hc => by have := hn n hc; simp only [AV.hasL, Bool.or_eq_false_iff] at this; exact this.1) ho1 hx⟩,
      CL.swap hw r b (o + 1) hb (fun n hc => by have := hn n hc; simp only [AV.hasL, Bool.or_eq_false_iff] at this; exact this.2) ho2 hr⟩
end

theorem mut_block (hs : SimG C G w) {ns : List Nat} {b : Nat} (h : mutAt (mβ G ns) (mact G ns) b) : ∃ n i o, n ∈ ns ∧ G.act n ∧ G.β n i = some (b, o) := by
  obtain ⟨m, i, o, ⟨hm, n, hn, ha⟩, hb⟩ := h
  simp only [mβ, hm, if_true, hn] at hb
  exact ⟨n, i, o, List.mem_of_getElem? hn, ha, hb⟩

theorem calledM_ok (hs : SimG C G w) {β : Nat → Fam} {act : Nat → Prop} (hmu : ∀ b, mutAt β act b → ∃ n i o, G.act n ∧ G.β n i = some (b, o)) (hg : SimG ⟨w.heap.size, w, mutAt β act, fun _ => none, G.rd, β, act⟩ G' w')
    (hnew : ∀ m i b o, G'.act m → G'.β m i = some (b, o) → w.heap.size ≤ b) (d : Nat) : SimG C (G.called G' d w.heap.size) w' := by
  have hold : ∀ k, k < w.heap.size → ¬ mutAt β act k → w'.heap[k]? = w.heap[k]? := fun k hk hm => hg.kept.block k hk hm
  refine ⟨⟨hg.kept.os.trans hs.kept.os, hg.kept.tape.trans hs.kept.tape, hg.kept.output.trans hs.kept.output, Nat.le_trans hs.kept.size hg.kept.size, Nat.le_trans hs.kept.le hg.kept.size, fun k hk hm => ?_, fun k cells e hk h => ?_⟩, ?_, ?_, ?_, hs.pars, hs.ml, hs.pi,
    fun b hb => hb.elim (hs.imI b) (fun h => .inr (Nat.le_trans hs.kept.le h.2))⟩
  · rw [hold k (Nat.lt_of_lt_of_le hk hs.kept.le) (fun h => ?_)]
    · exact hs.kept.block k hk hm
    · obtain ⟨n, i, o, ha, hb⟩ := hmu _ h
      rcases (hs.names n i k o ha hb).2.1 with h' | h'
      · omega
      · exact hm h'
  · obtain ⟨c1, h1, hs1⟩ := hs.kept.rows k cells e hk h
    obtain ⟨c2, h2, hs2⟩ := hg.kept.rows k c1 e (Nat.lt_of_lt_of_le hk hs.kept.le) h1
    exact ⟨c2, h2, hs2.trans hs1⟩
  · intro m i b o ha hb
    simp only [Gh.called] at ha hb ⊢
    by_cases hm : m ∈ callNames d
    · rw [if_pos hm] at ha hb
      obtain ⟨h1, h2, h3⟩ := hg.names _ i b o ha hb
      have hle := hnew _ i b o ha hb
      refine ⟨?_, .inl (Nat.le_trans hs.kept.le hle), h3⟩
      rintro (h | ⟨h, _⟩)
      · have := (hs.imms b h).1; omega
      · exact h1 h
    · rw [if_neg hm] at ha hb
      obtain ⟨h1, h2, c1, e1, h3⟩ := hs.names m i b o ha hb
      have hlt := hs.name_lt ha hb
      obtain ⟨c2, h4, _⟩ := hg.kept.rows b c1 e1 hlt h3
      refine ⟨?_, h2, c2, e1, h4⟩
      rintro (h | ⟨_, h⟩)
      · exact h1 h
      · omega
  · intro m i m' i' b o b' o' ha ha' hne hb hb'
    simp only [Gh.called] at ha ha' hb hb'
    by_cases hm : m ∈ callNames d <;> by_cases hm' : m' ∈ callNames d
    · rw [if_pos hm] at ha hb; rw [if_pos hm'] at ha' hb'
      rw [mem_callNames] at hm hm'
      exact hg.dist _ _ _ _ b o b' o' ha ha' (fun e => hne ⟨by omega, e.2⟩) hb hb'
    · rw [if_pos hm] at ha hb; rw [if_neg hm'] at ha' hb'
      have := hnew _ _ b o ha hb
      have := hs.name_lt ha' hb'
      omega
    · rw [if_neg hm] at ha hb; rw [if_pos hm'] at ha' hb'
      have := hnew _ _ b' o' ha' hb'
      have := hs.name_lt ha hb
      omega
    · rw [if_neg hm] at ha hb; rw [if_neg hm'] at ha' hb'
      exact hs.dist m i m' i' b o b' o' ha ha' hne hb hb'
  · rintro b (h | ⟨h, h2⟩)
    · have := hs.imms b h; exact ⟨Nat.lt_of_lt_of_le this.1 hg.kept.size, this.2⟩
    · exact ⟨(hg.imms b h).1, fun hM => by have := (hs.ml b hM).1; have := hs.kept.le; omega⟩

theorem swapped_ok (hs : SimG C G w) {ns : List Nat} (hg : SimG ⟨w.heap.size, w, mutAt (mβ G ns) (mact G ns), fun _ => none, G.rd, mβ G ns, mact G ns⟩ G' w') {outs : List AV} {vs : List Value}
    (hout : VL ⟨mβ G ns, mact G ns, G'.imm, fun _ => none⟩ w' outs vs) {d : Nat} (hns : ∀ n, n ∈ ns → n ∉ callNames d ∧ ∃ N, newC ns outs n = some N ∧ N.good = true) :
    Swapped G (G.called G' d w.heap.size) w w' d (newC ns outs) := by
  have hold : ∀ k, k < w.heap.size → ¬ mutAt (mβ G ns) (mact G ns) k → w'.heap[k]? = w.heap[k]? := fun k hk hm => hg.kept.block k hk hm
  have kimm : Keeps G (G.called G' d w.heap.size) w w' .imm := by
    refine ⟨fun b o h => ⟨.inl h, hold b (hs.imms b h).1 (fun hm => ?_)⟩, fun h => h⟩
    obtain ⟨n, i, o', _, ha, hb⟩ := mut_block hs hm
    exact (hs.names n i b o' ha hb).1 h
  have kpar : ∀ p, Keeps G (G.called G' d w.heap.size) w w' (.par p) := by
    intro p
    refine ⟨fun b o h => ⟨h, hold b (hs.par_lt h) (fun hm => ?_)⟩, fun h => h⟩
    obtain ⟨n, i, o', _, ha, hb⟩ := mut_block hs hm
    have h1 := hs.pars p b o h
    rcases (hs.names n i b o' ha hb).2.1 with h' | h'
    · omega
    · exact h1.2 h'
  have kn : ∀ m', newC ns outs m' = none → m' ∉ callNames d → KeepsN G (G.called G' d w.heap.size) w w' m' := by
    intro m' hl hm
    refine ⟨fun i b o ha hb => ⟨⟨by simp only [Gh.called, if_neg hm]; exact ha, by simp only [Gh.called, if_neg hm]; exact hb⟩, hold b (hs.name_lt ha hb) (fun hmu => ?_)⟩, fun h => ?_, by simp only [Gh.called, if_neg hm]⟩
    · obtain ⟨n, i', o', hn, ha', hb'⟩ := mut_block hs hmu
      have hne : m' ≠ n := by
        rintro rfl
        obtain ⟨_, ys, hy, _⟩ := hns m' hn
        rw [hy] at hl; cases hl
      exact hs.dist m' i n i' b o b o' ha ha' (fun e => hne e.1) hb hb' rfl
    · show (if m' ∈ callNames d then _ else _); rw [if_neg hm]; exact h
  refine ⟨fun g hl hc => ?_, kn, fun n N hy => ?_⟩
  · refine keeps_of_has kimm kpar g (fun m hgm => ?_)
    have hm : m ∉ callNames d := fun h => by rw [hc m h] at hgm; cases hgm
    refine kn m ?_ hm
    cases g <;> simp [Tag.names] at hgm <;> subst hgm <;> exact hl
  · have hn : n ∈ ns := by
      unfold newC at hy
      cases hc : ns.contains n with
      | false => rw [hc] at hy; cases hy
      | true => simpa using hc
    obtain ⟨hnc, N', hy', hgood⟩ := hns n hn
    have : N' = N := by rw [hy] at hy'; cases hy'; rfl
    subst this
    refine fun ha => ⟨by simp only [Gh.called, if_neg hnc]; exact ha, by simp only [Gh.called, if_neg hnc], fun b o hb => ⟨?_, fun i hi => ?_⟩⟩
    · have hget := idx_get hn
      unfold newC at hy
      rw [show ns.contains n = true by simpa using hn] at hy
      obtain ⟨u, hu⟩ := newOfL_ok outs vs hy hout
      cases N' with
      | sl ys =>
        intro j hj
        simp only [New.av, VR] at hu
        rcases hu with ⟨b', o', cap, rfl, ⟨ha', hb'⟩, _, _, hcs, _⟩ | ⟨h0, _⟩
        · simp only at hb'
          rw [mβ_get hget, hb] at hb'; cases hb'
          obtain ⟨z, hz, hok⟩ := hcs j hj
          exact ⟨z, by simpa using hz, flat_ok hgood hok⟩
        · omega
      | nw k yss =>
        intro j hj
        simp only [New.av, VR] at hu
        rcases hu.2 with ⟨b', o', cap, rfl, ⟨ha', hb'⟩, _, _, hcs, _⟩ | ⟨h0, _⟩
        · simp only at hb'
          rw [mβ_get hget, hb] at hb'; cases hb'
          obtain ⟨z, hz, hok⟩ := hcs j hj
          refine ⟨z, by simpa using hz, ?_⟩
          rcases hok with hok | hok
          · cases hok
          · refine .inr (FRow.name hok (fun b'' o'' hat => ⟨⟨by show (if n ∈ callNames d then _ else _); rw [if_neg hnc]; exact ha, ?_⟩, rfl⟩) (fun _ => by show (if n ∈ callNames d then _ else _); rw [if_neg hnc]; exact ha))
            have h2 := hat.2
            simp only at h2
            rw [mβ_get hget] at h2
            simp only [Gh.called, if_neg hnc]
            exact h2
        · omega
      | bx cells =>
        simp only [New.av, VR] at hu
        obtain ⟨b', o', rfl, ⟨ha', hb'⟩, hcs⟩ := hu
        simp only at hb'
        rw [mβ_get hget, hb] at hb'; cases hb'
        refine cellsOut_ok (fun b o h => ?_) cells o hgood hcs
        rcases h with h | ⟨p, o', h⟩
        · rcases hg.imI b h with (h2 | h2) | h2
          · exact .inl (.inl h2)
          · exact .inr h2
          · exact .inl (.inr ⟨h, h2⟩)
        · cases h
    · obtain ⟨_, _, c1, e1, h3⟩ := hs.names n 0 b o ha hb
      obtain ⟨c2, h4, h5⟩ := hg.kept.rows b c1 e1 (hs.name_lt ha hb) h3
      exact cell_row h3 h4 h5 hi

theorem inHeap_none (p : List Nat) (w : World) : inHeap w (addr w p (.tuple #[])) = none := by
  cases p <;> simp [addr, inHeap]

theorem callM_sound {VC : FuncId → List AV → AV → Prop} (hVC : ∀ f args r, VC f args r → VCall P f args r) (hs : SimG C G w) {d : Nat} {r0 : AV} {outs : List AV} {f : FuncId} {xs : List AV} {vs : Array Value} (hv : VL G w xs vs.toList)
    (hm : AV.mOkL xs = true) (hp : r0.parFree = true) (hf : r0.immFree = true) {ns : List Nat} (hnd : ns.Nodup) (hcov : ∀ n, n ∈ AV.nmsL xs → n ∈ ns) (hns : ∀ n, n ∈ ns → n ∉ callNames d ∧ ∃ N, newC ns outs n = some N ∧ N.good = true)
    (hob : VC f (AV.mviewL ns xs) (.bx .nil [r0, .tup outs])) :
    (∀ (vs : Array Value) (w : World), (callFunc f vs).run P w = .ok (.enter f vs) w) ∧ Calls P f vs w fun e w' => ∃ u G2, e = .returned u ∧ SimG C G2 w' ∧ (∀ n, n ∉ callNames d → G2.β n = G.β n ∧ (G.act n → G2.act n)) ∧ VR G2 w' (AV.back d [] r0) u ∧
      Swapped G G2 w w' d (newC ns outs) := by
  obtain ⟨henter, hruns⟩ : VCallM P f (AV.mviewL ns xs) r0 outs := hVC f _ _ hob
  refine ⟨henter, ?_⟩
  refine (hruns w G.rd (mβ G ns) (mact G ns) vs (fun b h => h.elim (fun h => (hs.imms b h).1) (fun ⟨p, o, h⟩ => hs.par_lt h)) (fun n h => h.1) (fun m i b o ha hb => ?_) (fun m i m' i' b o b' o' ha ha' hne hb hb' => ?_) (mviewL_ok xs vs.toList hm hcov hv)).mono ?_
  · obtain ⟨hm, n, hn, ha⟩ := ha
    simp only [mβ, hm, if_true, hn] at hb
    have := hs.names n i b o ha hb
    refine ⟨?_, this.2.2⟩
    rintro (h | ⟨p, o', h⟩)
    · exact this.1 h
    · have h1 := hs.pars p b o' h
      rcases this.2.1 with h' | h'
      · omega
      · exact h1.2 h'
  · obtain ⟨hm, n, hn, ha⟩ := ha
    obtain ⟨hm', n', hn', ha'⟩ := ha'
    simp only [mβ, hm, if_true, hn] at hb
    simp only [mβ, hm', if_true, hn'] at hb'
    refine hs.dist n i n' i' b o b' o' ha ha' (fun e => hne ⟨?_, e.2⟩) hb hb'
    obtain ⟨e, _⟩ := e
    subst e
    have := nodup_inj hnd hn hn'
    omega
  · rintro e w' ⟨u, G', rfl, hg, hnew, hr, hout⟩
    refine ⟨u, G.called G' d w.heap.size, rfl, calledM_ok hs (fun b h => by obtain ⟨n, i, o, _, h1, h2⟩ := mut_block hs h; exact ⟨n, i, o, h1, h2⟩) hg hnew d, fun n hn => ?_, ?_, swapped_ok hs hg hout hns⟩
    · simp only [Gh.called]; rw [if_neg hn, if_neg hn]; exact ⟨rfl, id⟩
    · have e : G.called ⟨G'.β, G'.act, fun b => G'.imm b ∧ (G.imm b ∨ w.heap.size ≤ b), G'.π⟩ d w.heap.size = G.called G' d w.heap.size := by
        unfold Gh.called
        congr 1
        funext b
        apply propext
        constructor
        · rintro (h | ⟨⟨h, _⟩, h2⟩)
          · exact .inl h
          · exact .inr ⟨h, h2⟩
        · rintro (h | ⟨h, h2⟩)
          · exact .inl h
          · exact .inr ⟨⟨h, .inr h2⟩, h2⟩
      have := back_ok (G' := ⟨G'.β, G'.act, fun b => G'.imm b ∧ (G.imm b ∨ w.heap.size ≤ b), G'.π⟩) (w' := w') (π := fun _ => none) (xs := []) (vs := #[]) (d := d) hs (fun b h => h.2) hg.pi (fun p => (inHeap_none p w).symm) ⟨#[], rfl, by simp [VL]⟩ (fun _ _ => .inr trivial) r0 u (.inl hp) (immFree_ok r0 u hf hr)
      rw [e] at this
      exact this

theorem swapL_len {μ : Nat → Option New} : ∀ (xs : List AV), (AV.swapL μ xs).length = xs.length
  | [] => rfl
  | _ :: r => by simp [AV.swapL, swapL_len r]
theorem swapL_get {μ : Nat → Option New} : ∀ (xs : List AV) (s : Nat), (AV.swapL μ xs).getD s .any = AV.swap μ (xs.getD s .any)
  | [], s => by simp [AV.swapL, AV.swap]
  | x :: r, 0 => by simp [AV.swapL]
  | x :: r, s + 1 => by simpa [AV.swapL] using swapL_get r s
theorem lensL_get {μ : Nat → Option New} : ∀ (xs : List AV) (s : Nat), obsAll (AV.lensL μ xs) → obsAll (AV.lens μ (xs.getD s .any))
  | [], s, h => by simp [AV.lens, obsAll]
  | x :: r, 0, h => by simp only [AV.lensL] at h; simpa using (obs_app h).1
  | x :: r, s + 1, h => by simp only [AV.lensL] at h; simpa using lensL_get r s (obs_app h).2

theorem Sim.swap (hs : Sim C G σ a w) {G2 : Gh} {d : Nat} {μ : Nat → Option New} (hg : SimG C G2 w') (hfix : ∀ n, n ∉ callNames d → G2.β n = G.β n ∧ (G.act n → G2.act n)) (hd : d < 99999) (hw : Swapped G G2 w w' d μ)
    (ho : obsAll (AV.lensL μ (σ.scrubs (callNames d)))) {v : AV} {u : Value} (hv : VR G2 w' v u) (dst : Option Nat) : Sim C G2 (Env.put dst v (AV.swapL μ (σ.scrubs (callNames d)))) (a.put dst u) w' := by
  have base : ∀ s, VR G2 w' ((AV.swapL μ (σ.scrubs (callNames d))).getD s .any) (a.tmps.getD s undef) := by
    intro s
    rw [swapL_get]
    have hl := lensL_get (σ.scrubs (callNames d)) s ho
    rcases scrubs_get (callNames d) σ s with h | ⟨h1, h2⟩
    · rw [h]; simp [AV.swap, VR]
    · rw [h1] at hl ⊢; exact VR.swap hw _ _ h2 hl (hs.ev s)
  have hi : ∀ n, HI ≤ n → G2.β n = C.hb n ∧ (C.ha n → G2.act n) := fun n hn =>
    have hf := hfix n (fun h => absurd (callNames_lt hd n h) (by omega))
    ⟨hf.1.trans (hs.hi n hn).1, fun h => hf.2 ((hs.hi n hn).2 h)⟩
  cases dst with
  | none => exact ⟨hg, hs.defers, by simpa [Env.put, Act.put, scrubs_len, swapL_len] using hs.size, fun s _ => base s, hi⟩
  | some t =>
    refine ⟨hg, hs.defers, by simpa [Env.put, Act.put, scrubs_len, swapL_len] using hs.size, fun s hsl => ?_, hi⟩
    simp only [Env.put, Act.put, List.length_set, scrubs_len, swapL_len] at hsl ⊢
    by_cases hd : t = s
    · subst hd
      have h1 : ((AV.swapL μ (σ.scrubs (callNames d))).set t v).getD t .any = v := by simp [List.getD, scrubs_len, swapL_len, hsl]
      have h2 : (a.tmps.setIfInBounds t u).getD t undef = u := by simp [Array.getD, hs.size, hsl]
      rw [h1, h2]; exact hv
    · have h1 : ((AV.swapL μ (σ.scrubs (callNames d))).set t v).getD s .any = (AV.swapL μ (σ.scrubs (callNames d))).getD s .any := by simp [List.getD, List.getElem?_set_ne hd]
      have h2 : (a.tmps.setIfInBounds t u).getD s undef = a.tmps.getD s undef := by
        simp [Array.getElem?_setIfInBounds_ne hd]
      rw [h1, h2]; exact base s

theorem stepM_ok {VC : FuncId → List AV → AV → Prop} (hVC : ∀ f args r, VC f args r → VCall P f args r) {ops : Array Oper} {o : Oper} {s : VStep} (hres : resOp P ops o = some s) (hs : Sim C G σ a w) {r : AV} {ob : Prop}
    (he : stepM VC s r σ = some (σ', ob)) (hob : ob) {K : Act → World → Prop} {Q : Exit → Act → World → Prop} (hK : ∀ a' w' G', Sim C G' σ' a' w' → K a' w') : o.wp P a w K Q := by
  obtain ⟨xs, hk, ho, _, hd, hlt⟩ := resOp_inv hres
  have hv := opds_ok hs xs s.opds ho
  unfold stepM at he
  split at he
  · rename_i f r0 outs hkd
    simp only at he
    split at he <;> cases he
    rename_i hcond
    obtain ⟨hm, ⟨hp, hif⟩, hns⟩ := hcond
    rw [hkd] at hk
    obtain ⟨c, hop, hcal, rfl, hsz⟩ := resK_call (resF_same hk (by simp) (by simp))
    rw [zip_eval hsz] at hv
    have hns' : ∀ n, n ∈ mnames s σ → n ∉ callNames (s.dst.getD 0) ∧ ∃ N, newC (mnames s σ) outs n = some N ∧ N.good = true := by
      intro n hn
      have := (List.all_eq_true.1 hns) n hn
      simp only [Bool.and_eq_true] at this
      refine ⟨by simpa using this.1, ?_⟩
      have h2 := this.2
      split at h2
      · rename_i ys hy; exact ⟨ys, hy, h2⟩
      · cases h2
    obtain ⟨henter, hcalls⟩ := callM_sound hVC hs.g hv hm hp hif (dedup_nodup _) (fun n h => dedup_mem.2 h) hns' hob.1
    have hrun : (execOp a.eval o).run P w = .ok (.enter f (c.args.map a.eval)) w := by
      simp [execOp, hop, resolve, hcal, Act.eval, Deferred.ofValue, invoke, henter]
    unfold Oper.wp; rw [hrun]
    rw [Oper.upon_enter]
    refine hcalls.mono ?_
    rintro e w' ⟨u, G2, rfl, hg, hfix, hvr, hsw⟩
    rw [← hd]
    exact hK _ _ _ (hs.swap hg hfix hlt hsw hob.2 hvr s.dst)
  · cases he

/-! ### calls that write a row -/
/-- the ghosts of the row -/
def rβ (G : Gh) (n i m : Nat) : Fam := if m = HI then ⟨fun t => if t = 0 then G.β n (i + 1) else none, none⟩ else Fam.no
theorem rβ_get {n i m t b o : Nat} (h : rβ G n i m t = some (b, o)) : m = HI ∧ t = 0 ∧ G.β n (i + 1) = some (b, o) := by
  unfold rβ at h
  split at h
  · rename_i hm
    dsimp only at h
    split at h
    · exact ⟨hm, by assumption, h⟩
    · cases h
  · cases h
theorem num_ok {G1 : Gh} {w1 : World} : ∀ {xs : List AV} {vs : List Value}, xs.all AV.num = true → VL G w xs vs → VL G1 w1 xs vs
  | [], vs, _, h => by simpa [VL] using h
  | x :: r, vs, hn, h => by
    simp only [List.all_cons, Bool.and_eq_true] at hn
    simp only [VL] at h ⊢
    obtain ⟨u, us, rfl, hx, hr⟩ := h
    refine ⟨u, us, rfl, ?_, num_ok hn.2 hr⟩
    cases x <;> simp [AV.num] at hn <;> simpa [VR] using hx
theorem rowLensL_get {n i : Nat} {ys : List Nat} : ∀ (xs : List AV) (s : Nat), obsAll (rowLensL n i ys xs) → obsAll (AV.rowLens n i ys (xs.getD s .any))
  | [], s, h => by simp [AV.rowLens, obsAll]
  | x :: r, 0, h => by simp only [rowLensL] at h; simpa using (obs_app h).1
  | x :: r, s + 1, h => by simp only [rowLensL] at h; simpa using rowLensL_get r s (obs_app h).2

/-- behind the call, a row of object n -/
theorem putRow_row {G2 : Gh} {n i : Nat} {k : FloatKind} {ys : List Nat} {u0 : Value} (h2 : ∀ c, G2.act n ∧ G2.β n c = G.β n c) (hold : ∀ c b o, ¬ (c = i + 1) → G.β n c = some (b, o) → w'.heap[b]? = w.heap[b]?)
    (hout : ∀ b o, G.β n (i + 1) = some (b, o) → (∀ j, j < ys.length → ∃ u, w'.cell? ⟨b, o + j, none⟩ = some u ∧ FR k (ys.getD j 0) u) ∧ ∀ t, (w.cell? ⟨b, t, none⟩).isSome = true → (w'.cell? ⟨b, t, none⟩).isSome = true)
    {c : Nat} {xs : List Nat} {z : Value} (h : FRow G w (.row n c) k xs z) (hl : c = i → xs.length = ys.length) : FRow G2 w' (.row n c) k (if c = i then ys else xs) z := by
  by_cases hc : c = i
  · subst hc
    rw [if_pos rfl]
    have hl := hl rfl
    rcases h with ⟨b, o, cap, rfl, ⟨ha, hb⟩, hn, hm, hcs, hsp⟩ | ⟨hn, hv, hvo⟩
    · obtain ⟨h3, h4⟩ := hout b o hb
      refine .inl ⟨b, o, cap, by rw [hl], ⟨(h2 0).1, by rw [(h2 _).2]; exact hb⟩, by omega, hm, fun j hj => ?_, fun j hj => h4 _ (hsp j hj)⟩
      obtain ⟨u, hu, hf⟩ := h3 j hj
      exact ⟨u, by rw [Nat.add_zero]; exact hu, hf⟩
    · exact .inr ⟨by omega, by obtain ⟨a, e⟩ := hv; exact ⟨a, e⟩, (h2 0).1⟩
  · rw [if_neg hc]
    exact FRow.name h (fun b o hat => ⟨⟨(h2 0).1, by rw [(h2 _).2]; exact hat.2⟩, hold (c + 1) b o (by omega) hat.2⟩) (fun _ => (h2 0).1)

set_option maxHeartbeats 1000000 in
theorem stepMR_ok {VC : FuncId → List AV → AV → Prop} (hVC : ∀ f args r, VC f args r → VCall P f args r) {ops : Array Oper} {o : Oper} {s : VStep} (hres : resOp P ops o = some s) (hs : Sim C G σ a w) {r : AV} {ob : Prop}
    (he : stepMR VC s r σ = some (σ', ob)) (hob : ob) {K : Act → World → Prop} {Q : Exit → Act → World → Prop} (hK : ∀ a' w' G', Sim C G' σ' a' w' → K a' w') : o.wp P a w K Q := by
  obtain ⟨xs, hk, ho, _, hd, hlt⟩ := resOp_inv hres
  have hv := opds_ok hs xs s.opds ho
  unfold stepMR at he
  split at he
  · rename_i f r0 m q ys outs n i k zs rest hkd hvals
    split at he <;> cases he
    rename_i hcond
    obtain ⟨⟨rfl, rfl⟩, hnum, ⟨hp, hif⟩, hnd⟩ := hcond
    have hnd' : n ∉ callNames (s.dst.getD 0) := by simpa using hnd
    generalize hdd : s.dst.getD 0 = d at *
    rw [hkd] at hk
    obtain ⟨c, hop, hcal, rfl, hsz⟩ := resK_call (resF_same hk (by simp) (by simp))
    rw [zip_eval hsz] at hv
    unfold mvals at hvals
    rw [hvals] at hv
    simp only [VL] at hv
    obtain ⟨u0, us, hvs, hu0, hus⟩ := hv
    have hfr := frow_sl.1 hu0
    have hact : G.act n := by
      rcases hfr with ⟨_, _, _, _, h, _⟩ | ⟨_, _, h⟩
      · exact h.1
      · exact h
    obtain ⟨hvc, hlens⟩ := hob
    obtain ⟨henter, hruns⟩ : VCallM P f (.sl (.own HI) 0 (.f q zs) :: rest) r0 (.sl (.own HI) 0 (.f q ys) :: outs) := hVC f _ _ hvc
    have hrun : (execOp a.eval o).run P w = .ok (.enter f (c.args.map a.eval)) w := by
      simp [execOp, hop, resolve, hcal, Act.eval, Deferred.ofValue, invoke, henter]
    unfold Oper.wp; rw [hrun]
    rw [Oper.upon_enter]
    refine (hruns w G.rd (rβ G n i) (fun l => l = HI ∧ G.act n) (c.args.map a.eval) (fun b h => h.elim (fun h => (hs.g.imms b h).1) (fun ⟨p, o, h⟩ => hs.g.par_lt h)) (fun l h => by rw [h.1]; exact Nat.le_refl _)
      (fun l t b o ha hb => ?_) (fun l t l' t' b o b' o' ha ha' hne hb hb' => ?_) ?_).mono ?_
    · obtain ⟨_, _, hb⟩ := rβ_get hb
      have := hs.g.names n (i + 1) b o hact hb
      refine ⟨?_, this.2.2⟩
      rintro (h | ⟨p, o', h⟩)
      · exact this.1 h
      · have h1 := hs.g.pars p b o' h
        rcases this.2.1 with h' | h'
        · omega
        · exact h1.2 h'
    · obtain ⟨e1, e2, _⟩ := rβ_get hb
      obtain ⟨e3, e4, _⟩ := rβ_get hb'
      exact absurd ⟨e1.trans e3.symm, e2.trans e4.symm⟩ hne
    · rw [hvs]
      simp only [VL]
      refine ⟨u0, us, rfl, frow_sl.2 (FRow.name hfr (fun b o hat => ⟨⟨⟨rfl, hact⟩, ?_⟩, rfl⟩) (fun _ => ⟨rfl, hact⟩)), num_ok hnum hus⟩
      show rβ G n i HI 0 = _
      simp only [rβ, if_true]; exact hat.2
    · rintro e w' ⟨u, G', rfl, hg, hnew, hr, hout⟩
      have hmu : ∀ b, mutAt (rβ G n i) (fun l => l = HI ∧ G.act n) b → ∃ o, G.β n (i + 1) = some (b, o) := by
        rintro b ⟨l, t, o, _, hb⟩
        exact ⟨o, (rβ_get hb).2.2⟩
      have hold : ∀ k, k < w.heap.size → (∀ o, G.β n (i + 1) ≠ some (k, o)) → w'.heap[k]? = w.heap[k]? := fun k hk hm => hg.kept.block k hk (fun h => by obtain ⟨o, ho⟩ := hmu k h; exact hm o ho)
      have hG2 := calledM_ok hs.g (fun b h => by obtain ⟨o, ho⟩ := hmu b h; exact ⟨n, i + 1, o, hact, ho⟩) hg hnew d
      have hfix : ∀ l, l ∉ callNames d → (G.called G' d w.heap.size).β l = G.β l ∧ (G.act l → (G.called G' d w.heap.size).act l) := by
        intro l hl; simp only [Gh.called]; rw [if_neg hl, if_neg hl]; exact ⟨rfl, id⟩
      have kimm : Keeps G (G.called G' d w.heap.size) w w' .imm := ⟨fun b o h => ⟨.inl h, hold b (hs.g.imms b h).1 (fun o' ho' => (hs.g.names n (i + 1) b o' hact ho').1 h)⟩, fun h => h⟩
      have kpar : ∀ p, Keeps G (G.called G' d w.heap.size) w w' (.par p) := by
        intro p
        refine ⟨fun b o h => ⟨h, hold b (hs.g.par_lt h) (fun o' ho' => ?_)⟩, fun h => h⟩
        have h1 := hs.g.pars p b o h
        rcases (hs.g.names n (i + 1) b o' hact ho').2.1 with h' | h'
        · omega
        · exact h1.2 h'
      have kn : ∀ l, l ≠ n → l ∉ callNames d → KeepsN G (G.called G' d w.heap.size) w w' l := by
        intro l hl hc
        refine ⟨fun t b o ha hb => ⟨⟨(hfix l hc).2 ha, by rw [(hfix l hc).1]; exact hb⟩, hold b (hs.g.name_lt ha hb) (fun o' ho' => hs.g.dist l t n (i + 1) b o b o' ha hact (fun e => hl e.1) hb ho' rfl)⟩, (hfix l hc).2, by rw [(hfix l hc).1]⟩
      have h2n : ∀ c, (G.called G' d w.heap.size).act n ∧ (G.called G' d w.heap.size).β n c = G.β n c := fun c => ⟨(hfix n hnd').2 hact, by rw [(hfix n hnd').1]⟩
      have holdN : ∀ c b o, ¬ (c = i + 1) → G.β n c = some (b, o) → w'.heap[b]? = w.heap[b]? := fun c b o hc hb => hold b (hs.g.name_lt hact hb) (fun o' ho' => hs.g.dist n c n (i + 1) b o b o' hact hact (fun e => hc e.2) hb ho' rfl)
      have hcells : ∀ b o, G.β n (i + 1) = some (b, o) → (∀ j, j < ys.length → ∃ u, w'.cell? ⟨b, o + j, none⟩ = some u ∧ FR q (ys.getD j 0) u) ∧ ∀ t, (w.cell? ⟨b, t, none⟩).isSome = true → (w'.cell? ⟨b, t, none⟩).isSome = true := by
        intro b o hb
        refine ⟨fun j hj => ?_, fun t ht => ?_⟩
        · rw [hvs] at hout
          simp only [VL] at hout
          obtain ⟨v0, vs0, hcons, hv0, _⟩ := hout
          cases hcons
          rcases frow_sl.1 hv0 with ⟨b', o', cap, rfl, ⟨_, hb'⟩, _, _, hcs, _⟩ | ⟨h0, _⟩
          · obtain ⟨_, _, hb'⟩ := rβ_get (G := G) (n := n) (i := i) (m := HI) (t := 0) hb'
            rw [hb] at hb'; cases hb'
            obtain ⟨z, hz, hok⟩ := hcs j hj
            exact ⟨z, by simpa using hz, hok⟩
          · omega
        · obtain ⟨_, _, c1, e1, h3⟩ := hs.g.names n (i + 1) b o hact hb
          obtain ⟨c2, h4, h5⟩ := hg.kept.rows b c1 e1 (hs.g.name_lt hact hb) h3
          exact cell_row h3 h4 h5 ht
      have hval : ∀ (v : AV) (z : Value), (∀ l, l ∈ callNames d → v.has l = false) → obsAll (AV.rowLens n i ys v) → VR G w v z → VR (G.called G' d w.heap.size) w' (AV.putRow n i q ys v) z := by
        intro v z hn ho hv
        have gone : ∀ {x : AV} {y : Value}, (∀ l, l ∈ callNames d → x.has l = false) → x.has n = false → VR G w x y → VR (G.called G' d w.heap.size) w' x y := fun h1 h2 hx =>
          VR.mono kimm kpar _ _ (fun l hl => kn l (fun e => by rw [e, h2] at hl; cases hl) (fun h => by rw [h1 l h] at hl; cases hl)) hx
        unfold AV.putRow
        split
        · rename_i l c q' xs'
          split
          · rename_i hl; subst hl
            split
            · rename_i hq; subst hq
              simp only [AV.rowLens, if_true, obsAll, and_true] at ho
              exact frow_sl.2 (putRow_row (u0 := u0) h2n holdN hcells (frow_sl.1 hv) ho)
            · simp [VR]
          · rename_i hl
            exact gone hn (by simpa [AV.has, Tag.names] using hl) hv
        · rename_i l lo q' xss h
          split
          · rename_i hl; subst hl
            split
            · rename_i hq; subst hq
              simp only [AV.rowLens, if_true, obsAll, and_true] at ho
              simp only [VR] at hv ⊢
              have hll : (if lo ≤ i then xss.set (i - lo) ys else xss).length = xss.length := by split <;> simp
              refine ⟨by rw [(hfix l hnd').1]; exact hv.1, ?_⟩
              rw [hll]
              refine SRow.mono (G := G) (w := w) (g := .own l) ⟨fun b o hat => ⟨⟨(h2n 0).1, by rw [(h2n 0).2]; exact hat.2⟩, holdN 0 b o (by omega) hat.2⟩, fun _ => (h2n 0).1⟩ (fun t y ht hy => ?_) hv.2
              rcases hy with hy | hy
              · exact .inl hy
              · refine .inr ?_
                have := putRow_row (u0 := u0) h2n holdN hcells (c := lo + t) hy (fun hc => by have := ho (by omega) (by omega); rwa [show i - lo = t by omega] at this)
                have e : (if lo ≤ i then xss.set (i - lo) ys else xss).getD t [] = (if lo + t = i then ys else xss.getD t []) := by
                  by_cases hlo : lo ≤ i
                  · rw [if_pos hlo]
                    by_cases hti : lo + t = i
                    · rw [if_pos hti, show i - lo = t by omega, getD_set_same _ _ _ _ ht]
                    · rw [if_neg hti, getD_set_other _ _ _ _ _ (by omega)]
                  · rw [if_neg hlo, if_neg (by omega)]
                rw [e]
                exact this
            · simp [VR]
          · rename_i hl
            exact gone hn (by simpa [AV.has] using hl) hv
        · cases hh : v.has n with
          | true => simp [VR]
          | false => exact gone hn hh hv
      have base : ∀ s, VR (G.called G' d w.heap.size) w' (List.getD ((σ.scrubs (callNames d)).map (AV.putRow n i q ys)) s .any) (a.tmps.getD s undef) := by
        intro s
        have e : List.getD ((σ.scrubs (callNames d)).map (AV.putRow n i q ys)) s .any = AV.putRow n i q ys ((σ.scrubs (callNames d)).getD s .any) := by
          simp only [List.getD, List.getElem?_map]
          cases (σ.scrubs (callNames d))[s]? with
          | none => simp [AV.putRow, AV.has]
          | some v => rfl
        rw [e]
        have hl := rowLensL_get (σ.scrubs (callNames d)) s hlens
        rcases scrubs_get (callNames d) σ s with h | ⟨h1, h2⟩
        · rw [h]; simp [AV.putRow, AV.has, VR]
        · rw [h1] at hl ⊢; exact hval _ _ h2 hl (hs.ev s)
      have hback : VR (G.called G' d w.heap.size) w' (AV.back d [] r0) u := by
        have e : G.called ⟨G'.β, G'.act, fun b => G'.imm b ∧ (G.imm b ∨ w.heap.size ≤ b), G'.π⟩ d w.heap.size = G.called G' d w.heap.size := by
          unfold Gh.called
          congr 1
          funext b
          apply propext
          constructor
          · rintro (h | ⟨⟨h, _⟩, h2⟩)
            · exact .inl h
            · exact .inr ⟨h, h2⟩
          · rintro (h | ⟨h, h2⟩)
            · exact .inl h
            · exact .inr ⟨⟨h, .inr h2⟩, h2⟩
        have := back_ok (G' := ⟨G'.β, G'.act, fun b => G'.imm b ∧ (G.imm b ∨ w.heap.size ≤ b), G'.π⟩) (w' := w') (π := fun _ => none) (xs := []) (vs := #[]) (d := d) hs.g (fun b h => h.2) hg.pi (fun p => (inHeap_none p w).symm) ⟨#[], rfl, by simp [VL]⟩ (fun _ _ => .inr trivial) r0 u (.inl hp) (immFree_ok r0 u hif hr)
        rw [e] at this
        exact this
      have hsim : Sim C (G.called G' d w.heap.size) ((σ.scrubs (callNames d)).map (AV.putRow n i q ys)) a w' := by
        refine ⟨hG2, hs.defers, by rw [List.length_map, scrubs_len]; exact hs.size, fun s _ => base s, fun l hl => ?_⟩
        have hf := hfix l (fun h => absurd (callNames_lt (by omega) l h) (by omega))
        exact ⟨hf.1.trans (hs.hi l hl).1, fun h => hf.2 ((hs.hi l hl).2 h)⟩
      rw [← hd]
      refine hK _ _ (G.called G' d w.heap.size) ?_
      exact hsim.after (G' := G.called G' d w.heap.size) (w' := w') (ns := []) ⟨hsim.g, fun _ _ _ h => h, fun _ _ => ⟨rfl, id⟩⟩ (fun n h => nomatch h) hback s.dst
  · cases he
end
end Go.Proofs.LV
