/- A whole function: from a run of its typed body to its contract. -/
import Derived.Test.YtdffgjembkanoaaLvAnyX
namespace Go.Proofs.LV
open Go Go.RowKit
set_option linter.unusedVariables false
set_option linter.unusedSimpArgs false

/-- a result variable -/
def resVar (P : Program) (σ : Env) : ResultVar → AV
  | .tmp t => σ.getD t .any
  | .cell t ty => match σ.getD t .any with
    | .bx _ cells => if isRowT P ty = true ∧ (P.info? ty).map (·.size) = some cells.length then .agg cells else .any
    | _ => .any
def resOut (P : Program) (rs : List ResultVar) (σ : Env) : AV :=
  match rs with
  | [x] => resVar P σ x
  | xs => .tup (xs.map (resVar P σ))

mutual
/-- the objects of a result, numbered anew -/
def AV.ren (ns : List Nat) : AV → AV
  | .sl (.own n) off xs => if ns.contains n then .sl (.own (ns.idxOf n)) off xs else .any
  | .agg cells => .agg (AV.renL ns cells)
  | .tup xs => .tup (AV.renL ns xs)
  | .bx (.own n) cells => if ns.contains n then .bx (.own (ns.idxOf n)) (AV.renL ns cells) else .any
  | .bx _ _ => .any
  | .ad _ _ _ => .any
  | .fn _ _ => .any
  | v => v
def AV.renL (ns : List Nat) : List AV → List AV
  | [] => []
  | x :: r => AV.ren ns x :: AV.renL ns r
end

def Gh.ren (G : Gh) (ns : List Nat) : Gh where
  β := fun j => match ns[j]? with | some n => G.β n | none => none
  act := fun j => match ns[j]? with | some n => G.act n | none => False
  imm := G.imm
  π := G.π

section
variable {P : Program} {C : Ctx} {G : Gh} {w : World}

theorem ren_simG (hs : SimG C G w) {ns : List Nat} (hn : ns.Nodup) : SimG C (G.ren ns) w := by
  refine ⟨hs.kept, ?_, ?_, hs.imms, hs.pars, hs.ml, hs.pi, hs.imI⟩
  · intro j b o ha hb
    simp only [Gh.ren] at ha hb
    split at ha
    · rename_i n hj; rw [hj] at hb; exact hs.names n b o ha hb
    · exact ha.elim
  · intro j j' b o b' o' ha ha' hne hb hb'
    simp only [Gh.ren] at ha ha' hb hb'
    split at ha
    · rename_i n hj
      split at ha'
      · rename_i n' hj'
        rw [hj] at hb; rw [hj'] at hb'
        refine hs.dist n n' b o b' o' ha ha' (fun e => hne ?_) hb hb'
        subst e
        exact nodup_inj hn hj hj'
      · exact ha'.elim
    · exact ha.elim

theorem ok_ren {ns : List Nat} {xs : Cont} {j : Nat} {u : Value} (h : xs.ok G w j u) : xs.ok (G.ren ns) w j u :=
  Cont.ok.mono ⟨fun b o h => ⟨h, rfl⟩, fun h => h⟩ h

mutual
theorem VR.ren {ns : List Nat} : ∀ (x : AV) (v : Value), VR G w x v → VR (G.ren ns) w (x.ren ns) v
  | .any, v, _ => by simp [AV.ren, VR]
  | .b c, v, h => by simpa [AV.ren, VR] using h
  | .i k c, v, h => by simpa [AV.ren, VR] using h
  | .f k c, v, h => by simpa [AV.ren, VR] using h
  | .c k c d, v, h => by simpa [AV.ren, VR] using h
  | .bx .nil cells, v, h => by simp [AV.ren, VR]
  | .bx .imm cells, v, h => by simp [AV.ren, VR]
  | .bx .ro cells, v, h => by simp [AV.ren, VR]
  | .bx (.par _) cells, v, h => by simp [AV.ren, VR]
  | .bx (.own n) cells, v, h => by
    simp only [AV.ren]
    split
    · rename_i hc
      have hmem : n ∈ ns := by simpa using hc
      have hget : ns[ns.idxOf n]? = some n := by
        rw [List.getElem?_eq_getElem (List.idxOf_lt_length_iff.2 hmem), List.getElem_idxOf]
      simp only [VR] at h ⊢
      obtain ⟨b, o, rfl, ⟨ha, hb⟩, hcl⟩ := h
      exact ⟨b, o, rfl, ⟨by simp only [Gh.ren, hget]; exact ha, by simp only [Gh.ren, hget]; exact hb⟩, CL.ren cells b o hcl⟩
    · simp [VR]
  | .ad g i x, v, h => by simp [AV.ren, VR]
  | .fn f cells, v, h => by simp [AV.ren, VR]
  | .agg cells, v, h => by
    simp only [VR] at h; obtain ⟨vs, rfl, hv⟩ := h
    simp only [AV.ren, VR]; exact ⟨vs, rfl, VL.ren cells vs.toList hv⟩
  | .tup cells, v, h => by
    simp only [VR] at h; obtain ⟨vs, rfl, hv⟩ := h
    simp only [AV.ren, VR]; exact ⟨vs, rfl, VL.ren cells vs.toList hv⟩
  | .sl .nil off xs, v, h => by
    simp only [AV.ren, VR] at h ⊢
    exact SRow.mono ⟨fun b o h => h.elim, fun h => h⟩ (fun _ _ _ h => ok_ren h) h
  | .sl .imm off xs, v, h => by
    simp only [AV.ren, VR] at h ⊢
    exact SRow.mono ⟨fun b o h => ⟨h, rfl⟩, fun h => h⟩ (fun _ _ _ h => ok_ren h) h
  | .sl .ro off xs, v, h => by
    simp only [AV.ren, VR] at h ⊢
    exact SRow.mono ⟨fun b o h => ⟨h, rfl⟩, fun h => h⟩ (fun _ _ _ h => ok_ren h) h
  | .sl (.par p) off xs, v, h => by
    simp only [AV.ren, VR] at h ⊢
    exact SRow.mono ⟨fun b o h => ⟨h, rfl⟩, fun h => h⟩ (fun _ _ _ h => ok_ren h) h
  | .sl (.own n) off xs, v, h => by
    simp only [AV.ren]
    split
    · rename_i hc
      have hmem : n ∈ ns := by simpa using hc
      have hget : ns[ns.idxOf n]? = some n := by
        rw [List.getElem?_eq_getElem (List.idxOf_lt_length_iff.2 hmem), List.getElem_idxOf]
      simp only [VR] at h ⊢
      rcases h with ⟨b, o, cap, rfl, ⟨ha, hb⟩, hn, hm, hcs, hsp⟩ | ⟨hn, ha, hv⟩
      · refine .inl ⟨b, o, cap, rfl, ⟨by simp only [Gh.ren, hget]; exact ha, by simp only [Gh.ren, hget]; exact hb⟩, hn, hm, fun j hj => ?_, hsp⟩
        obtain ⟨u, hu, hok⟩ := hcs j hj
        exact ⟨u, hu, ok_ren hok⟩
      · refine .inr ⟨hn, ha, ?_⟩
        show (G.ren ns).act _
        simp only [Gh.ren, hget]; exact hv
    · simp [VR]
theorem VL.ren {ns : List Nat} : ∀ (xs : List AV) (vs : List Value), VL G w xs vs → VL (G.ren ns) w (AV.renL ns xs) vs
  | [], vs, h => by simpa [AV.renL, VL] using h
  | x :: r, vs, h => by
    simp only [VL] at h; obtain ⟨u, us, rfl, hx, hr⟩ := h
    simp only [AV.renL, VL]; exact ⟨u, us, rfl, VR.ren x u hx, VL.ren r us hr⟩
theorem CL.ren {ns : List Nat} : ∀ (xs : List AV) (b o : Nat), CL G w b o xs → CL (G.ren ns) w b o (AV.renL ns xs)
  | [], b, o, h => by simp [AV.renL, CL]
  | x :: r, b, o, h => by
    simp only [CL] at h; obtain ⟨⟨u, hu, hx⟩, hr⟩ := h
    simp only [AV.renL, CL]; exact ⟨⟨u, hu, VR.ren x u hx⟩, CL.ren r b (o + 1) hr⟩
end

mutual
/-- a slice that is nothing passes for a slice of any object: r tells which -/
def AV.as : AV → AV → AV
  | .sl g o _, v => match v with | .sl .nil _ ys => .sl g o ys | v => v
  | .agg rs, v => match v with | .agg vs => .agg (AV.asL rs vs) | v => v
  | .tup rs, v => match v with | .tup vs => .tup (AV.asL rs vs) | v => v
  | _, v => v
def AV.asL : List AV → List AV → List AV
  | r :: rs, v => match v with | v :: vs => AV.as r v :: AV.asL rs vs | [] => []
  | [], v => v
end
def AV.fin (r v : AV) : AV := AV.as r (v.ren (dedup v.nms))

open Classical in
/-- all objects that are not there are there, as nothing -/
noncomputable def Gh.fill (G : Gh) : Gh where
  β := fun n => if G.act n then G.β n else none
  act := fun _ => True
  imm := G.imm
  π := G.π
theorem fill_simG (hs : SimG C G w) : SimG C G.fill w := by
  refine ⟨hs.kept, fun n b o _ hb => ?_, fun n m b o b' o' _ _ hne hb hb' => ?_, hs.imms, hs.pars, hs.ml, hs.pi, hs.imI⟩
  · simp only [Gh.fill] at hb
    split at hb
    · rename_i ha; exact hs.names n b o ha hb
    · cases hb
  · simp only [Gh.fill] at hb hb'
    split at hb
    · rename_i ha
      split at hb'
      · rename_i ha'; exact hs.dist n m b o b' o' ha ha' hne hb hb'
      · cases hb'
    · cases hb
theorem keeps_fill (g : Tag) : Keeps G G.fill w w g := by
  cases g with
  | nil => exact ⟨fun _ _ h => h.elim, fun h => h⟩
  | imm => exact ⟨fun _ _ h => ⟨h, rfl⟩, fun h => h⟩
  | ro => exact ⟨fun _ _ h => ⟨h, rfl⟩, fun h => h⟩
  | par p => exact ⟨fun _ _ h => ⟨h, rfl⟩, fun h => h⟩
  | own n => exact ⟨fun b o h => ⟨⟨trivial, by simp only [Gh.fill]; rw [if_pos h.1]; exact h.2⟩, rfl⟩, fun _ => trivial⟩
theorem VR.fill {x : AV} {v : Value} (h : VR G w x v) : VR G.fill w x v := VR.mono (keeps_fill _) (fun _ => keeps_fill _) x v (fun _ _ => keeps_fill _) h
mutual
theorem VR.as : ∀ (r x : AV) (v : Value), VR G.fill w x v → VR G.fill w (AV.as r x) v
  | .sl g o c, x, v, h => by
    unfold AV.as
    split
    · simp only [VR] at h ⊢
      rcases h with ⟨_, _, _, _, h, _⟩ | ⟨h0, ha, _⟩
      · exact h.elim
      · refine .inr ⟨h0, ha, ?_⟩
        cases g <;> trivial
    · exact h
  | .agg rs, x, v, h => by
    unfold AV.as
    split
    · simp only [VR] at h ⊢
      obtain ⟨vs, rfl, hv⟩ := h
      exact ⟨vs, rfl, VL.as rs _ vs.toList hv⟩
    · exact h
  | .tup rs, x, v, h => by
    unfold AV.as
    split
    · simp only [VR] at h ⊢
      obtain ⟨vs, rfl, hv⟩ := h
      exact ⟨vs, rfl, VL.as rs _ vs.toList hv⟩
    · exact h
  | .any, x, v, h => by unfold AV.as; exact h
  | .b _, x, v, h => by unfold AV.as; exact h
  | .i _ _, x, v, h => by unfold AV.as; exact h
  | .f _ _, x, v, h => by unfold AV.as; exact h
  | .c _ _ _, x, v, h => by unfold AV.as; exact h
  | .bx _ _, x, v, h => by unfold AV.as; exact h
  | .ad _ _ _, x, v, h => by unfold AV.as; exact h
  | .fn _ _, x, v, h => by unfold AV.as; exact h
theorem VL.as : ∀ (rs xs : List AV) (vs : List Value), VL G.fill w xs vs → VL G.fill w (AV.asL rs xs) vs
  | [], xs, vs, h => by unfold AV.asL; exact h
  | r :: rs, [], vs, h => by unfold AV.asL; exact h
  | r :: rs, x :: xs, vs, h => by
    unfold AV.asL
    simp only [VL] at h ⊢
    obtain ⟨u, us, rfl, hx, hr⟩ := h
    exact ⟨u, us, rfl, VR.as r x u hx, VL.as rs xs us hr⟩
end
theorem VR.fin (hs : SimG C G w) (r x : AV) (v : Value) (h : VR G w x v) : SimG C (G.ren (dedup x.nms)).fill w ∧ VR (G.ren (dedup x.nms)).fill w (AV.fin r x) v :=
  ⟨fill_simG (ren_simG hs (dedup_nodup _)), VR.as r _ v (VR.fill (VR.ren x v h))⟩

/-- can the variable be read? -/
def resOk (P : Program) (σ : Env) : ResultVar → Bool
  | .tmp _ => true
  | .cell t ty => match σ.getD t .any with
    | .bx _ cells => isRowT P ty && (P.info? ty).map (·.size) == some cells.length
    | _ => false

def readVar (tmps : Array Value) : ResultVar → Sem Value
  | .tmp t => pure (tmps.getD t undef)
  | .cell a t => do loadVar t (← asAddr (tmps.getD a undef))

theorem readVar_ok {σ : Env} {a : Act} (hs : Sim C G σ a w) {x : ResultVar} (h : resOk P σ x = true) : ∃ v, (readVar a.tmps x).run P w = .ok v w ∧ VR G w (resVar P σ x) v := by
  cases x with
  | tmp t => exact ⟨_, rfl, hs.ev t⟩
  | cell t ty =>
    have hv := hs.ev t
    simp only [resOk, resVar] at h ⊢
    split at h
    · rename_i g cells hg
      rw [hg] at hv
      simp only [Bool.and_eq_true, beq_iff_eq] at h
      obtain ⟨b, o, hp, hat, hc⟩ := hv
      obtain ⟨us, hlen, hrg, hvl⟩ := cl_list hc
      cases hd : P.underlying ty with
      | none => unfold isRowT at h; simp [hd] at h
      | some d =>
        have hrow : d.isRow = true := by
          have := h.1; unfold isRowT at this; rw [hd] at this; cases d <;> simp_all
        have hl := run_loadVar_mid (P := P) w b o ty us d hrg hd hrow (by rw [h.2, hlen])
        refine ⟨.agg us.toArray, ?_, ?_⟩
        · simp only [readVar, hp]
          simp [asAddr, hl]
        · simp only [h.1, h.2, and_self, if_true]
          exact ⟨us.toArray, rfl, by simpa using hvl⟩
    · cases h

theorem results_eq (fn : Func) (tmps : Array Value) : results fn tmps = (do
    let vs ← fn.results.mapM (readVar tmps)
    pure (if h : vs.size = 1 then vs[0] else .tuple vs)) := by
  unfold results
  congr 1

theorem results_ok {σ : Env} {a : Act} (hs : Sim C G σ a w) {fn : Func} {rs : List ResultVar} (hr : fn.results = rs.toArray) (hl : 0 ≤ rs.length ∧ rs.length ≤ 4) (hok : rs.all (resOk P σ) = true) :
    ∃ v, (results fn a.tmps).run P w = .ok v w ∧ VR G w (resOut P rs σ) v := by
  rw [results_eq, hr]
  match rs, hl, hok with
  | [x], _, hok =>
    obtain ⟨v, hv, hx⟩ := readVar_ok (P := P) hs (x := x) (by simpa using hok)
    exact ⟨v, by simp [hv], hx⟩
  | [x, y], _, hok =>
    simp at hok
    obtain ⟨v, hv, hx⟩ := readVar_ok (P := P) hs (x := x) hok.1
    obtain ⟨v2, hv2, hy⟩ := readVar_ok (P := P) hs (x := y) hok.2
    exact ⟨.tuple #[v, v2], by simp [hv, hv2], ⟨#[v, v2], rfl, v, [v2], rfl, hx, v2, [], rfl, hy, rfl⟩⟩
  | [x, y, z], _, hok =>
    simp at hok
    obtain ⟨v, hv, hx⟩ := readVar_ok (P := P) hs (x := x) hok.1
    obtain ⟨v2, hv2, hy⟩ := readVar_ok (P := P) hs (x := y) hok.2.1
    obtain ⟨v3, hv3, hz⟩ := readVar_ok (P := P) hs (x := z) hok.2.2
    exact ⟨.tuple #[v, v2, v3], by simp [hv, hv2, hv3], ⟨#[v, v2, v3], rfl, v, [v2, v3], rfl, hx, v2, [v3], rfl, hy, v3, [], rfl, hz, rfl⟩⟩
  | [x, y, z, u], _, hok =>
    simp at hok
    obtain ⟨v, hv, hx⟩ := readVar_ok (P := P) hs (x := x) hok.1
    obtain ⟨v2, hv2, hy⟩ := readVar_ok (P := P) hs (x := y) hok.2.1
    obtain ⟨v3, hv3, hz⟩ := readVar_ok (P := P) hs (x := z) hok.2.2.1
    obtain ⟨v4, hv4, hu⟩ := readVar_ok (P := P) hs (x := u) hok.2.2.2
    exact ⟨.tuple #[v, v2, v3, v4], by simp [hv, hv2, hv3, hv4], ⟨#[v, v2, v3, v4], rfl, v, [v2, v3, v4], rfl, hx, v2, [v3, v4], rfl, hy, v3, [v4], rfl, hz, v4, [], rfl, hu, rfl⟩⟩
  | [], _, _ => exact ⟨.tuple #[], by simp, ⟨#[], rfl, rfl⟩⟩
  | _ :: _ :: _ :: _ :: _ :: _, h, _ => simp at h

/-- the environment at the function's door -/
def startEnv (n : Nat) (args : List AV) : Env := args ++ List.replicate (n - args.length) .any

theorem start_env (hg : SimG C G w) (hhi : ∀ n, HI ≤ n → G.β n = C.hb n ∧ (C.ha n → G.act n)) {args : List AV} {vs : Array Value} (hv : VL G w args vs.toList) (n : Nat) :
    Sim C G (startEnv n args) { tmps := vs ++ Array.replicate (n - vs.size) undef, defers := [] } w := by
  have hl : vs.size = args.length := by have := vl_len hv; simpa using this
  refine ⟨hg, rfl, by simp [startEnv, hl], fun s hs => ?_, hhi⟩
  rcases Nat.lt_or_ge s args.length with hlt | hge
  · obtain ⟨u, hu, hx⟩ := vl_get (j := s) (x := args[s]) hv (by simp [hlt])
    have h1 : (startEnv n args).getD s .any = args[s] := by simp [startEnv, List.getD, List.getElem?_append_left hlt, hlt]
    have h2 : (vs ++ Array.replicate (n - vs.size) undef).getD s undef = u := by
      have : vs[s]? = some u := by simpa using hu
      have hs' : s < vs.size := by omega
      simp [Array.getElem?_append_left hs', this]
    show VR _ _ _ ((vs ++ Array.replicate (n - vs.size) undef).getD s undef)
    rw [h1, h2]; exact hx
  · have h1 : (startEnv n args).getD s .any = .any := by
      simp only [startEnv, List.getD, List.getElem?_append_right hge, List.getElem?_replicate]
      split <;> rfl
    rw [h1]; trivial

theorem start_sim {I : Nat → Prop} {π : List Nat → Option (Nat × Nat)} {args : List AV} {vs : Array Value} (hI : ∀ b, I b → b < w.heap.size) (hπ : ∀ p b o, π p = some (b, o) → b < w.heap.size) (hv : VL (argGh I π) w args vs.toList) (n : Nat) :
    Sim ⟨w.heap.size, w, fun _ => False, π, I, fun _ => none, fun _ => False⟩ (argGh I π) (startEnv n args) { tmps := vs ++ Array.replicate (n - vs.size) undef, defers := [] } w :=
  start_env (C := ⟨w.heap.size, w, fun _ => False, π, I, fun _ => none, fun _ => False⟩) (G := argGh I π) ⟨⟨rfl, rfl, rfl, Nat.le_refl _, Nat.le_refl _, fun _ _ _ => rfl, fun _ c _ _ h => ⟨c, h, rfl⟩⟩, fun n b o h => h.elim, fun n m b o b' o' h => h.elim, fun b h => ⟨hI b h, fun h => h⟩, fun p b o h => ⟨hπ p b o h, fun h => h⟩, fun b h => h.elim, rfl, fun b h => .inl h⟩
    (fun n _ => ⟨rfl, fun h => h⟩) hv n
theorem start_simM {I : Nat → Prop} {β : Nat → Option (Nat × Nat)} {act : Nat → Prop} {args : List AV} {vs : Array Value} (hI : ∀ b, I b → b < w.heap.size)
    (hn : ∀ n b o, act n → β n = some (b, o) → ¬ I b ∧ ∃ cells e, w.heap[b]? = some (.cells cells e (0, 0))) (hd : ∀ n m b o b' o', act n → act m → n ≠ m → β n = some (b, o) → β m = some (b', o') → b ≠ b') (hv : VL ⟨β, act, I, fun _ => none⟩ w args vs.toList) (n : Nat) :
    Sim ⟨w.heap.size, w, mutAt β act, fun _ => none, I, β, act⟩ ⟨β, act, I, fun _ => none⟩ (startEnv n args) { tmps := vs ++ Array.replicate (n - vs.size) undef, defers := [] } w := by
  refine start_env (C := ⟨w.heap.size, w, mutAt β act, fun _ => none, I, β, act⟩) (G := ⟨β, act, I, fun _ => none⟩) ⟨⟨rfl, rfl, rfl, Nat.le_refl _, Nat.le_refl _, fun _ _ _ => rfl, fun _ c _ _ h => ⟨c, h, rfl⟩⟩, fun n b o ha hb => ⟨(hn n b o ha hb).1, .inr ⟨n, o, ha, hb⟩, (hn n b o ha hb).2⟩, hd, fun b h => ⟨hI b h, ?_⟩, fun p b o h => (by cases h), ?_, rfl, fun b h => .inl h⟩
    (fun n _ => ⟨rfl, fun h => h⟩) hv n
  · rintro ⟨n, o, ha, hb⟩; exact (hn n b o ha hb).1 h
  · rintro b ⟨n, o, ha, hb⟩
    obtain ⟨_, c, e, h⟩ := hn n b o ha hb
    exact (Array.getElem?_eq_some_iff.1 h).1

mutual
/-- what an argument that is written reads as at the end: slot src tells it, object by object -/
def AV.outs (σ : Env) (src : List Nat) : AV → Option AV
  | .sl (.own n) 0 _ => match σ.getD (src.getD (n - HI) 0) .any with
    | .sl (.own m) 0 ys => bif m == n && ys.flat then some (.sl (.own n) 0 ys) else none
    | _ => none
  | .bx (.own n) _ => match σ.getD (src.getD (n - HI) 0) .any with
    | .bx (.own m) cells => bif m == n && cells.all AV.cellOut then some (.bx (.own n) cells) else none
    | _ => none
  | .b x => some (.b x)
  | .i k x => some (.i k x)
  | .f k x => some (.f k x)
  | .c k x y => some (.c k x y)
  | .fn h [] => some (.fn h [])
  | .agg cells => match AV.outsL σ src cells with | some xs => some (.agg xs) | none => none
  | _ => none
def AV.outsL (σ : Env) (src : List Nat) : List AV → Option (List AV)
  | [] => some []
  | x :: r => match AV.outs σ src x with
    | some y => match AV.outsL σ src r with | some ys => some (y :: ys) | none => none
    | none => none
end
mutual
def AV.outLens : AV → AV → List Prop
  | .sl _ _ xs, v => match v with | .sl _ _ ys => [xs.len = ys.len] | _ => []
  | .agg cells, v => match v with | .agg ys => AV.outLensL cells ys | _ => []
  | _, _ => []
def AV.outLensL : List AV → List AV → List Prop
  | x :: r, v => match v with | y :: ys => AV.outLens x y ++ AV.outLensL r ys | [] => []
  | [], _ => []
end

mutual
theorem outs_ok {I : Nat → Prop} {β : Nat → Option (Nat × Nat)} {act : Nat → Prop} {σ : Env} {a : Act} {w' : World} (hs : Sim ⟨w.heap.size, w, mutAt β act, fun _ => none, I, β, act⟩ G σ a w')
    (hn : ∀ n b o, act n → β n = some (b, o) → ¬ I b ∧ ∃ cells e, w.heap[b]? = some (.cells cells e (0, 0))) (hhi : ∀ n, act n → HI ≤ n) {src : List Nat} :
    ∀ (x y : AV) (v : Value), x.outs σ src = some y → obsAll (AV.outLens x y) → VR ⟨β, act, I, fun _ => none⟩ w x v → VR ⟨β, act, G.imm, fun _ => none⟩ w' y v
  | .any, y, v, h, _, _ => by simp [AV.outs] at h
  | .b c, y, v, h, _, hv => by simp only [AV.outs] at h; cases h; simpa [VR] using hv
  | .i k c, y, v, h, _, hv => by simp only [AV.outs] at h; cases h; simpa [VR] using hv
  | .f k c, y, v, h, _, hv => by simp only [AV.outs] at h; cases h; simpa [VR] using hv
  | .c k c d, y, v, h, _, hv => by simp only [AV.outs] at h; cases h; simpa [VR] using hv
  | .bx .nil _, y, v, h, _, _ => by simp [AV.outs] at h
  | .bx .imm _, y, v, h, _, _ => by simp [AV.outs] at h
  | .bx .ro _, y, v, h, _, _ => by simp [AV.outs] at h
  | .bx (.par _) _, y, v, h, _, _ => by simp [AV.outs] at h
  | .bx (.own n) cs, y, v, h, _, hv => by
    simp only [AV.outs] at h
    have hev := hs.ev (src.getD (n - HI) 0)
    split at h
    · rename_i m cells hm
      rw [hm] at hev
      cases hc : m == n && cells.all AV.cellOut with
      | false => rw [hc] at h; cases h
      | true =>
        rw [hc] at h; cases h
        simp only [Bool.and_eq_true, beq_iff_eq] at hc
        obtain ⟨rfl, hco⟩ := hc
        simp only [VR] at hev hv ⊢
        obtain ⟨b, o, rfl, ⟨ha, hb⟩, _⟩ := hv
        obtain ⟨b', o', _, ⟨ha', hb'⟩, hcl⟩ := hev
        rw [(hs.hi m (hhi m ha)).1] at hb'
        simp only at hb hb'
        rw [hb] at hb'; cases hb'
        refine ⟨b, o, rfl, ⟨ha, hb⟩, cellsOut_ok (fun b o h => ?_) cells o hco hcl⟩
        rcases h with h | ⟨p, o', h⟩
        · exact .inl h
        · rw [hs.g.pi] at h; cases h
    · cases h
  | .ad _ _ _, y, v, h, _, _ => by simp [AV.outs] at h
  | .tup _, y, v, h, _, _ => by simp [AV.outs] at h
  | .fn f [], y, v, h, _, hv => by simp only [AV.outs] at h; cases h; simpa [VR, VL] using hv
  | .fn f (_ :: _), y, v, h, _, _ => by simp [AV.outs] at h
  | .sl .nil _ _, y, v, h, _, _ => by simp [AV.outs] at h
  | .sl .imm _ _, y, v, h, _, _ => by simp [AV.outs] at h
  | .sl .ro _ _, y, v, h, _, _ => by simp [AV.outs] at h
  | .sl (.par _) _ _, y, v, h, _, _ => by simp [AV.outs] at h
  | .sl (.own n) (_ + 1) _, y, v, h, _, _ => by simp [AV.outs] at h
  | .sl (.own n) 0 xs, y, v, h, ho, hv => by
    simp only [AV.outs] at h
    have hev := hs.ev (src.getD (n - HI) 0)
    split at h
    · rename_i m ys hm
      rw [hm] at hev
      cases hc : m == n && ys.flat with
      | false => rw [hc] at h; cases h
      | true =>
        rw [hc] at h; cases h
        simp only [Bool.and_eq_true, beq_iff_eq] at hc
        obtain ⟨rfl, hfl⟩ := hc
        have hl : xs.len = ys.len := ho.1
        simp only [VR] at hev hv ⊢
        rcases hv with ⟨b, o, cap, rfl, ⟨ha, hb⟩, hle, hmx, hcs, hsp⟩ | ⟨h0, ha, hv⟩
        · have hh := hs.hi m (hhi m ha)
          simp only at hb
          obtain ⟨_, c1, e1, hrow⟩ := hn m b o ha hb
          obtain ⟨c2, h2, hs2⟩ := hs.g.kept.rows b c1 e1 (Array.getElem?_eq_some_iff.1 hrow).1 hrow
          rw [hl] at hle ⊢
          refine .inl ⟨b, o, cap, rfl, ⟨ha, hb⟩, hle, hmx, fun j hj => ?_, fun j hj => cell_row hrow h2 hs2 (hsp j hj)⟩
          rcases hev with ⟨b', o', cap', hveq, ⟨ha', hb'⟩, _, _, hcs', _⟩ | ⟨h0, _⟩
          · rw [hh.1] at hb'
            simp only at hb'
            rw [hb] at hb'; cases hb'
            obtain ⟨u, hu, hok⟩ := hcs' j hj
            exact ⟨u, hu, flat_ok hfl hok⟩
          · omega
        · exact .inr ⟨by omega, ha, hv⟩
    · cases h
  | .agg cells, y, v, h, ho, hv => by
    simp only [AV.outs] at h
    split at h
    · rename_i ys hy; cases h
      simp only [AV.outLens] at ho
      simp only [VR] at hv ⊢
      obtain ⟨vs, rfl, hv⟩ := hv
      exact ⟨vs, rfl, outsL_ok hs hn hhi cells ys vs.toList hy ho hv⟩
    · cases h
theorem outsL_ok {I : Nat → Prop} {β : Nat → Option (Nat × Nat)} {act : Nat → Prop} {σ : Env} {a : Act} {w' : World} (hs : Sim ⟨w.heap.size, w, mutAt β act, fun _ => none, I, β, act⟩ G σ a w')
    (hn : ∀ n b o, act n → β n = some (b, o) → ¬ I b ∧ ∃ cells e, w.heap[b]? = some (.cells cells e (0, 0))) (hhi : ∀ n, act n → HI ≤ n) {src : List Nat} :
    ∀ (xs ys : List AV) (vs : List Value), AV.outsL σ src xs = some ys → obsAll (AV.outLensL xs ys) → VL ⟨β, act, I, fun _ => none⟩ w xs vs → VL ⟨β, act, G.imm, fun _ => none⟩ w' ys vs
  | [], ys, vs, h, _, hv => by simp only [AV.outsL] at h; cases h; simpa [VL] using hv
  | x :: r, ys, vs, h, ho, hv => by
    simp only [AV.outsL] at h
    split at h
    · rename_i y hy
      split at h
      · rename_i ys' hys; cases h
        simp only [AV.outLensL] at ho
        obtain ⟨h1, h2⟩ := obs_app ho
        simp only [VL] at hv ⊢
        obtain ⟨u, us, rfl, hx, hr⟩ := hv
        exact ⟨u, us, rfl, outs_ok hs hn hhi x y u hy h1 hx, outsL_ok hs hn hhi r ys' us hys h2 hr⟩
      · cases h
    · cases h
end

/-- FROM A RUN OF THE BODY TO THE CONTRACT -/
theorem vcall_of_exec {f : FuncId} {fn : Func} {c0 : Code} {vc : VCode} {ps : List Nat} {args : List AV} {rs : List ResultVar} {e : Ex} {σ' : Env} {r : AV}
    (hf : P.funcs[f]? = some fn) (hb : fn.body = some c0) (hc : resC P c0 = some vc) (hrs : fn.results = rs.toArray) (hlen : 0 ≤ rs.length ∧ rs.length ≤ 4)
    (henter : ∀ (vs : Array Value) (w : World), (callFunc f vs).run P w = .ok (.enter f vs) w)
    (he : e = .normal ∨ e = .ret) (hrun : Exec (VCall P) ps vc (startEnv fn.ntmps args) e σ') (hok : rs.all (resOk P σ') = true) (hr : AV.fin r (resOut P rs σ') = r) (hM : r.isM = false) : VCall P f args r := by
  refine VCallN.to hM ⟨fun w I π vs hI hπ hv => .inl ⟨henter _ _, ?_⟩⟩
  refine calls_of_wp hf hb ?_
  have hs := start_sim hI hπ hv fn.ntmps
  refine (exec_ok (C := ⟨w.heap.size, w, fun _ => False, π, I, fun _ => none, fun _ => False⟩) (fun _ _ _ h => h) hrun).1 c0 hc hs (fun a' w' G' hs' => ?_)
  obtain ⟨v, hres, hvr⟩ := results_ok hs' hrs hlen hok
  have hfin := VR.fin hs'.g r _ v hvr
  rw [hr] at hfin
  have fin : bodyPost P fn (fun e w' => ∃ v G', e = .returned v ∧ SimG ⟨w.heap.size, w, fun _ => False, π, I, fun _ => none, fun _ => False⟩ G' w' ∧ VR G' w' r v) .ret a' w' :=
    ⟨hs'.defers, v, hres, v, _, rfl, hfin.1, hfin.2⟩
  rcases he with rfl | rfl
  · exact fin
  · exact fin
theorem vcallM_of_exec {f : FuncId} {fn : Func} {c0 : Code} {vc : VCode} {ps : List Nat} {args : List AV} {rs : List ResultVar} {e : Ex} {σ' : Env} {r : AV} {outs : List AV} {src : List Nat}
    (hf : P.funcs[f]? = some fn) (hb : fn.body = some c0) (hc : resC P c0 = some vc) (hrs : fn.results = rs.toArray) (hlen : 0 ≤ rs.length ∧ rs.length ≤ 4)
    (henter : ∀ (vs : Array Value) (w : World), (callFunc f vs).run P w = .ok (.enter f vs) w)
    (he : e = .normal ∨ e = .ret) (hrun : Exec (VCall P) ps vc (startEnv fn.ntmps args) e σ') (hok : rs.all (resOk P σ') = true) (hr : AV.fin r (resOut P rs σ') = r) (hlo : ∀ n, n ∈ (resOut P rs σ').nms → n < HI)
    (ho : AV.outsL σ' src args = some outs) (hol : obsAll (AV.outLensL args outs)) : VCall P f args (AV.M r outs) := by
  show VCallM P f args r outs
  refine ⟨henter, fun w I β act vs hI hhi hn hd hv => ?_⟩
  refine calls_of_wp hf hb ?_
  have hs := start_simM hI hn hd hv fn.ntmps
  refine (exec_ok (C := ⟨w.heap.size, w, mutAt β act, fun _ => none, I, β, act⟩) (fun _ _ _ h => h) hrun).1 c0 hc hs (fun a' w' G' hs' => ?_)
  obtain ⟨v, hres, hvr⟩ := results_ok hs' hrs hlen hok
  have hfin := VR.fin hs'.g r _ v hvr
  rw [hr] at hfin
  have hnew : ∀ n b o, (G'.ren (dedup (resOut P rs σ').nms)).fill.act n → (G'.ren (dedup (resOut P rs σ').nms)).fill.β n = some (b, o) → w.heap.size ≤ b := by
    intro n b o _ hb
    simp only [Gh.fill] at hb
    split at hb
    · rename_i ha
      simp only [Gh.ren] at ha hb
      split at ha
      · rename_i m hm
        rw [hm] at hb
        simp only at hb
        have hmlt := hlo m (dedup_mem.1 (List.mem_of_getElem? hm))
        rcases (hs'.g.names m b o ha hb).2.1 with h | ⟨k, o', hk, hkb⟩
        · exact h
        · have hh := hs'.hi k (hhi k hk)
          have := hhi k hk
          exact absurd rfl (hs'.g.dist m k b o b o' ha (hh.2 hk) (by omega) hb (hh.1.trans hkb))
      · exact ha.elim
    · cases hb
  have fin : bodyPost P fn (fun e w' => ∃ v G', e = .returned v ∧ SimG ⟨w.heap.size, w, mutAt β act, fun _ => none, I, β, act⟩ G' w' ∧ (∀ n b o, G'.act n → G'.β n = some (b, o) → w.heap.size ≤ b) ∧ VR G' w' r v ∧
      VL ⟨β, act, G'.imm, fun _ => none⟩ w' outs vs.toList) .ret a' w' :=
    ⟨hs'.defers, v, hres, v, _, rfl, hfin.1, hnew, hfin.2, outsL_ok hs' hn hhi args outs vs.toList ho hol hv⟩
  rcases he with rfl | rfl
  · exact fin
  · exact fin
end
end Go.Proofs.LV
