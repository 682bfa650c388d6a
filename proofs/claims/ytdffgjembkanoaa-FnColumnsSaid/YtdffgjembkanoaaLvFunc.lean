/- A whole function: from a run of its typed body to its contract. -/
import Derived.Test.YtdffgjembkanoaaLvCode
namespace Go.Proofs.LV
open Go Go.RowKit
set_option linter.unusedVariables false
set_option linter.unusedSimpArgs false

/-- a result variable -/
def resVar (P : Program) (σ : Env) : ResultVar → AV
  | .tmp t => σ.getD t .any
  | .cell t ty => match σ.getD t .any with
    | .bx _ cells => if isRowT P ty = true ∧ (P.info? ty).map (·.size) = some cells.length then .agg cells else .any
    | _ => .any
def resOut (P : Program) (rs : List ResultVar) (σ : Env) : AV :=
  match rs with
  | [x] => resVar P σ x
  | xs => .tup (xs.map (resVar P σ))

mutual
/-- the objects of a result, numbered anew -/
def AV.ren (ns : List Nat) : AV → AV
  | .sl (.own n) off xs => if ns.contains n then .sl (.own (ns.idxOf n)) off xs else .any
  | .agg cells => .agg (AV.renL ns cells)
  | .tup xs => .tup (AV.renL ns xs)
  | .bx (.own n) cells => if ns.contains n then .bx (.own (ns.idxOf n)) (AV.renL ns cells) else .any
  | .bx _ _ => .any
  | .ad _ _ _ => .any
  | .fn _ _ => .any
  | .sl (.row _ _) _ _ => .any
  | .nw n lo k xss none => if ns.contains n then .nw (ns.idxOf n) lo k xss none else .any
  | .nw _ _ _ _ (some _) => .any
  | .na _ _ _ _ _ => .any
  | v => v
def AV.renL (ns : List Nat) : List AV → List AV
  | [] => []
  | x :: r => AV.ren ns x :: AV.renL ns r
end

def Gh.ren (G : Gh) (ns : List Nat) : Gh where
  β := fun j => match ns[j]? with | some n => ⟨(G.β n).blk, none⟩ | none => Fam.no
  act := fun j => match ns[j]? with | some n => G.act n | none => False
  imm := G.imm
  π := G.π

section
variable {P : Program} {C : Ctx} {G : Gh} {w : World}

theorem ren_simG (hs : SimG C G w) {ns : List Nat} (hn : ns.Nodup) : SimG C (G.ren ns) w := by
  refine ⟨hs.kept, ?_, ?_, hs.imms, hs.pars, hs.ml, hs.pi, hs.imI⟩
  · intro j i b o ha hb
    simp only [Gh.ren] at ha hb
    split at ha
    · rename_i n hj; rw [hj] at hb; exact hs.names n i b o ha hb
    · exact ha.elim
  · intro j i j' i' b o b' o' ha ha' hne hb hb'
    simp only [Gh.ren] at ha ha' hb hb'
    split at ha
    · rename_i n hj
      split at ha'
      · rename_i n' hj'
        rw [hj] at hb; rw [hj'] at hb'
        refine hs.dist n i n' i' b o b' o' ha ha' (fun e => hne ⟨?_, e.2⟩) hb hb'
        obtain ⟨e, _⟩ := e
        subst e
        exact nodup_inj hn hj hj'
      · exact ha'.elim
    · exact ha.elim
theorem ren_hole {ns : List Nat} (n : Nat) : ((G.ren ns).β n).hole = none := by
  simp only [Gh.ren]
  split <;> rfl

theorem ok_ren {ns : List Nat} {xs : Cont} {j : Nat} {u : Value} (h : xs.ok G w j u) : xs.ok (G.ren ns) w j u :=
  Cont.ok.mono ⟨fun b o h => ⟨h, rfl⟩, fun h => h⟩ h

mutual
theorem VR.ren {ns : List Nat} : ∀ (x : AV) (v : Value), VR G w x v → VR (G.ren ns) w (x.ren ns) v
  | .any, v, _ => by simp [AV.ren, VR]
  | .b c, v, h => by simpa [AV.ren, VR] using h
  | .i k c, v, h => by simpa [AV.ren, VR] using h
  | .f k c, v, h => by simpa [AV.ren, VR] using h
  | .c k c d, v, h => by simpa [AV.ren, VR] using h
  | .bx .nil cells, v, h => by simp [AV.ren, VR]
  | .bx .imm cells, v, h => by simp [AV.ren, VR]
  | .bx .ro cells, v, h => by simp [AV.ren, VR]
  | .bx (.row _ _) cells, v, h => by simp [AV.ren, VR]
  | .sl (.row _ _) off xs, v, h => by simp [AV.ren, VR]
  | .na _ _ _ _ _, v, h => by simp [AV.ren, VR]
  | .nw _ _ _ _ (some _), v, h => by simp [AV.ren, VR]
  | .nw n lo k xss none, v, h => by
    simp only [AV.ren]
    split
    · rename_i hc
      have hmem : n ∈ ns := by simpa using hc
      have hget : ns[ns.idxOf n]? = some n := by
        rw [List.getElem?_eq_getElem (List.idxOf_lt_length_iff.2 hmem), List.getElem_idxOf]
      have hat : ∀ i b o, G.act n → G.β n i = some (b, o) → (G.ren ns).act (ns.idxOf n) ∧ (G.ren ns).β (ns.idxOf n) i = some (b, o) := fun i b o ha hb => ⟨by simp only [Gh.ren, hget]; exact ha, by simp only [Gh.ren, hget]; exact hb⟩
      have hvo : G.act n → (G.ren ns).act (ns.idxOf n) := fun ha => by simp only [Gh.ren, hget]; exact ha
      simp only [VR] at h ⊢
      refine ⟨ren_hole _, ?_⟩
      have row : ∀ t u, NRow G w n lo k xss none t u → NRow (G.ren ns) w (ns.idxOf n) lo k xss none t u := by
        intro t u h
        rcases h with h | h
        · cases h
        · exact .inr (FRow.name h (fun b o ht => ⟨hat _ b o ht.1 ht.2, rfl⟩) hvo)
      rcases h.2 with ⟨b, o, cap, rfl, ⟨ha, hb⟩, hn, hm, hcs, hsp⟩ | ⟨hn, ha, hv⟩
      · refine .inl ⟨b, o, cap, rfl, hat 0 b o ha hb, hn, hm, fun j hj => ?_, hsp⟩
        obtain ⟨u, hu, hok⟩ := hcs j hj
        exact ⟨u, hu, row j u hok⟩
      · exact .inr ⟨hn, ha, hvo hv⟩
    · simp [VR]
  | .bx (.par _) cells, v, h => by simp [AV.ren, VR]
  | .bx (.own n) cells, v, h => by
    simp only [AV.ren]
    split
    · rename_i hc
      have hmem : n ∈ ns := by simpa using hc
      have hget : ns[ns.idxOf n]? = some n := by
        rw [List.getElem?_eq_getElem (List.idxOf_lt_length_iff.2 hmem), List.getElem_idxOf]
      simp only [VR] at h ⊢
      obtain ⟨b, o, rfl, ⟨ha, hb⟩, hcl⟩ := h
      exact ⟨b, o, rfl, ⟨by simp only [Gh.ren, hget]; exact ha, by simp only [Gh.ren, hget]; exact hb⟩, CL.ren cells b o hcl⟩
    · simp [VR]
  | .ad g i x, v, h => by simp [AV.ren, VR]
  | .fn f cells, v, h => by simp [AV.ren, VR]
  | .agg cells, v, h => by
    simp only [VR] at h; obtain ⟨vs, rfl, hv⟩ := h
    simp only [AV.ren, VR]; exact ⟨vs, rfl, VL.ren cells vs.toList hv⟩
  | .tup cells, v, h => by
    simp only [VR] at h; obtain ⟨vs, rfl, hv⟩ := h
    simp only [AV.ren, VR]; exact ⟨vs, rfl, VL.ren cells vs.toList hv⟩
  | .sl .nil off xs, v, h => by
    simp only [AV.ren, VR] at h ⊢
    exact SRow.mono ⟨fun b o h => h.elim, fun h => h⟩ (fun _ _ _ h => ok_ren h) h
  | .sl .imm off xs, v, h => by
    simp only [AV.ren, VR] at h ⊢
    exact SRow.mono ⟨fun b o h => ⟨h, rfl⟩, fun h => h⟩ (fun _ _ _ h => ok_ren h) h
  | .sl .ro off xs, v, h => by
    simp only [AV.ren, VR] at h ⊢
    exact SRow.mono ⟨fun b o h => ⟨h, rfl⟩, fun h => h⟩ (fun _ _ _ h => ok_ren h) h
  | .sl (.par p) off xs, v, h => by
    simp only [AV.ren, VR] at h ⊢
    exact SRow.mono ⟨fun b o h => ⟨h, rfl⟩, fun h => h⟩ (fun _ _ _ h => ok_ren h) h
  | .sl (.own n) off xs, v, h => by
    simp only [AV.ren]
    split
    · rename_i hc
      have hmem : n ∈ ns := by simpa using hc
      have hget : ns[ns.idxOf n]? = some n := by
        rw [List.getElem?_eq_getElem (List.idxOf_lt_length_iff.2 hmem), List.getElem_idxOf]
      simp only [VR] at h ⊢
      rcases h with ⟨b, o, cap, rfl, ⟨ha, hb⟩, hn, hm, hcs, hsp⟩ | ⟨hn, ha, hv⟩
      · refine .inl ⟨b, o, cap, rfl, ⟨by simp only [Gh.ren, hget]; exact ha, by simp only [Gh.ren, hget]; exact hb⟩, hn, hm, fun j hj => ?_, hsp⟩
        obtain ⟨u, hu, hok⟩ := hcs j hj
        exact ⟨u, hu, ok_ren hok⟩
      · refine .inr ⟨hn, ha, ?_⟩
        show (G.ren ns).act _
        simp only [Gh.ren, hget]; exact hv
    · simp [VR]
theorem VL.ren {ns : List Nat} : ∀ (xs : List AV) (vs : List Value), VL G w xs vs → VL (G.ren ns) w (AV.renL ns xs) vs
  | [], vs, h => by simpa [AV.renL, VL] using h
  | x :: r, vs, h => by
    simp only [VL] at h; obtain ⟨u, us, rfl, hx, hr⟩ := h
    simp only [AV.renL, VL]; exact ⟨u, us, rfl, VR.ren x u hx, VL.ren r us hr⟩
theorem CL.ren {ns : List Nat} : ∀ (xs : List AV) (b o : Nat), CL G w b o xs → CL (G.ren ns) w b o (AV.renL ns xs)
  | [], b, o, h => by simp [AV.renL, CL]
  | x :: r, b, o, h => by
    simp only [CL] at h; obtain ⟨⟨u, hu, hx⟩, hr⟩ := h
    simp only [AV.renL, CL]; exact ⟨⟨u, hu, VR.ren x u hx⟩, CL.ren r b (o + 1) hr⟩
end

mutual
/-- a slice that is nothing passes for a slice of any object: r tells which -/
def AV.as : AV → AV → AV
  | .sl g o _, v => match v with | .sl .nil _ ys => .sl g o ys | v => v
  | .nw n lo _ _ none, v => match v with | .sl .nil _ (.ff k ys) => .nw n lo k ys none | v => v
  | .agg rs, v => match v with | .agg vs => .agg (AV.asL rs vs) | v => v
  | .tup rs, v => match v with | .tup vs => .tup (AV.asL rs vs) | v => v
  | _, v => v
def AV.asL : List AV → List AV → List AV
  | r :: rs, v => match v with | v :: vs => AV.as r v :: AV.asL rs vs | [] => []
  | [], v => v
end
def AV.fin (r v : AV) : AV := AV.as r (v.ren (dedup v.nms))

open Classical in
/-- all objects that are not there are there, as nothing -/
noncomputable def Gh.fill (G : Gh) : Gh where
  β := fun n => if G.act n then G.β n else Fam.no
  act := fun _ => True
  imm := G.imm
  π := G.π
theorem fill_simG (hs : SimG C G w) : SimG C G.fill w := by
  refine ⟨hs.kept, fun n i b o _ hb => ?_, fun n i m j b o b' o' _ _ hne hb hb' => ?_, hs.imms, hs.pars, hs.ml, hs.pi, hs.imI⟩
  · simp only [Gh.fill] at hb
    split at hb
    · rename_i ha; exact hs.names n i b o ha hb
    · cases hb
  · simp only [Gh.fill] at hb hb'
    split at hb
    · rename_i ha
      split at hb'
      · rename_i ha'; exact hs.dist n i m j b o b' o' ha ha' hne hb hb'
      · cases hb'
    · cases hb
theorem fill_hole (hh : ∀ n, (G.β n).hole = none) (n : Nat) : (G.fill.β n).hole = none := by
  simp only [Gh.fill]
  split
  · exact hh n
  · rfl
theorem keepsN_fill (hh : ∀ n, (G.β n).hole = none) (n : Nat) : KeepsN G G.fill w w n :=
  ⟨fun i b o ha hb => ⟨⟨trivial, by simp only [Gh.fill]; rw [if_pos ha]; exact hb⟩, rfl⟩, fun _ => trivial, (fill_hole hh n).trans (hh n).symm⟩
theorem VR.fill (hh : ∀ n, (G.β n).hole = none) {x : AV} {v : Value} (h : VR G w x v) : VR G.fill w x v :=
  VR.mono (G := G) (G' := G.fill) (w := w) (w' := w) ⟨fun _ _ h => ⟨h, rfl⟩, fun h => h⟩ (fun _ => ⟨fun _ _ h => ⟨h, rfl⟩, fun h => h⟩) x v (fun n _ => keepsN_fill hh n) h
mutual
theorem VR.as (hh : ∀ n, (G.β n).hole = none) : ∀ (r x : AV) (v : Value), VR G.fill w x v → VR G.fill w (AV.as r x) v
  | .sl g o c, x, v, h => by
    unfold AV.as
    split
    · simp only [VR] at h ⊢
      rcases h with ⟨_, _, _, _, h, _⟩ | ⟨h0, ha, _⟩
      · exact h.elim
      · refine .inr ⟨h0, ha, ?_⟩
        cases g <;> trivial
    · exact h
  | .agg rs, x, v, h => by
    unfold AV.as
    split
    · simp only [VR] at h ⊢
      obtain ⟨vs, rfl, hv⟩ := h
      exact ⟨vs, rfl, VL.as hh rs _ vs.toList hv⟩
    · exact h
  | .tup rs, x, v, h => by
    unfold AV.as
    split
    · simp only [VR] at h ⊢
      obtain ⟨vs, rfl, hv⟩ := h
      exact ⟨vs, rfl, VL.as hh rs _ vs.toList hv⟩
    · exact h
  | .nw n lo q xss none, x, v, h => by
    unfold AV.as
    split
    · simp only [VR, Cont.len] at h ⊢
      rcases h with ⟨_, _, _, _, h, _⟩ | ⟨h0, ha, _⟩
      · exact h.elim
      · exact ⟨fill_hole hh n, .inr ⟨h0, ha, trivial⟩⟩
    · exact h
  | .nw _ _ _ _ (some _), x, v, h => by unfold AV.as; exact h
  | .na _ _ _ _ _, x, v, h => by unfold AV.as; exact h
  | .any, x, v, h => by unfold AV.as; exact h
  | .b _, x, v, h => by unfold AV.as; exact h
  | .i _ _, x, v, h => by unfold AV.as; exact h
  | .f _ _, x, v, h => by unfold AV.as; exact h
  | .c _ _ _, x, v, h => by unfold AV.as; exact h
  | .bx _ _, x, v, h => by unfold AV.as; exact h
  | .ad _ _ _, x, v, h => by unfold AV.as; exact h
  | .fn _ _, x, v, h => by unfold AV.as; exact h
theorem VL.as (hh : ∀ n, (G.β n).hole = none) : ∀ (rs xs : List AV) (vs : List Value), VL G.fill w xs vs → VL G.fill w (AV.asL rs xs) vs
  | [], xs, vs, h => by unfold AV.asL; exact h
  | r :: rs, [], vs, h => by unfold AV.asL; exact h
  | r :: rs, x :: xs, vs, h => by
    unfold AV.asL
    simp only [VL] at h ⊢
    obtain ⟨u, us, rfl, hx, hr⟩ := h
    exact ⟨u, us, rfl, VR.as hh r x u hx, VL.as hh rs xs us hr⟩
end
theorem VR.fin (hs : SimG C G w) (r x : AV) (v : Value) (h : VR G w x v) : SimG C (G.ren (dedup x.nms)).fill w ∧ VR (G.ren (dedup x.nms)).fill w (AV.fin r x) v :=
  ⟨fill_simG (ren_simG hs (dedup_nodup _)), VR.as ren_hole r _ v (VR.fill ren_hole (VR.ren x v h))⟩

/-- can the variable be read? -/
def resOk (P : Program) (σ : Env) : ResultVar → Bool
  | .tmp _ => true
  | .cell t ty => match σ.getD t .any with
    | .bx _ cells => isRowT P ty && (P.info? ty).map (·.size) == some cells.length
    | _ => false

def readVar (tmps : Array Value) : ResultVar → Sem Value
  | .tmp t => pure (tmps.getD t undef)
  | .cell a t => do loadVar t (← asAddr (tmps.getD a undef))

theorem readVar_ok {σ : Env} {a : Act} (hs : Sim C G σ a w) {x : ResultVar} (h : resOk P σ x = true) : ∃ v, (readVar a.tmps x).run P w = .ok v w ∧ VR G w (resVar P σ x) v := by
  cases x with
  | tmp t => exact ⟨_, rfl, hs.ev t⟩
  | cell t ty =>
    have hv := hs.ev t
    simp only [resOk, resVar] at h ⊢
    split at h
    · rename_i g cells hg
      rw [hg] at hv
      simp only [Bool.and_eq_true, beq_iff_eq] at h
      obtain ⟨b, o, hp, hat, hc⟩ := hv
      obtain ⟨us, hlen, hrg, hvl⟩ := cl_list hc
      cases hd : P.underlying ty with
      | none => unfold isRowT at h; simp [hd] at h
      | some d =>
        have hrow : d.isRow = true := by
          have := h.1; unfold isRowT at this; rw [hd] at this; cases d <;> simp_all
        have hl := run_loadVar_mid (P := P) w b o ty us d hrg hd hrow (by rw [h.2, hlen])
        refine ⟨.agg us.toArray, ?_, ?_⟩
        · simp only [readVar, hp]
          simp [asAddr, hl]
        · simp only [h.1, h.2, and_self, if_true]
          exact ⟨us.toArray, rfl, by simpa using hvl⟩
    · cases h

theorem results_eq (fn : Func) (tmps : Array Value) : results fn tmps = (do
    let vs ← fn.results.mapM (readVar tmps)
    pure (if h : vs.size = 1 then vs[0] else .tuple vs)) := by
  unfold results
  congr 1

theorem results_ok {σ : Env} {a : Act} (hs : Sim C G σ a w) {fn : Func} {rs : List ResultVar} (hr : fn.results = rs.toArray) (hl : 0 ≤ rs.length ∧ rs.length ≤ 4) (hok : rs.all (resOk P σ) = true) :
    ∃ v, (results fn a.tmps).run P w = .ok v w ∧ VR G w (resOut P rs σ) v := by
  rw [results_eq, hr]
  match rs, hl, hok with
  | [x], _, hok =>
    obtain ⟨v, hv, hx⟩ := readVar_ok (P := P) hs (x := x) (by simpa using hok)
    exact ⟨v, by simp [hv], hx⟩
  | [x, y], _, hok =>
    simp at hok
    obtain ⟨v, hv, hx⟩ := readVar_ok (P := P) hs (x := x) hok.1
    obtain ⟨v2, hv2, hy⟩ := readVar_ok (P := P) hs (x := y) hok.2
    exact ⟨.tuple #[v, v2], by simp [hv, hv2], ⟨#[v, v2], rfl, v, [v2], rfl, hx, v2, [], rfl, hy, rfl⟩⟩
  | [x, y, z], _, hok =>
    simp at hok
    obtain ⟨v, hv, hx⟩ := readVar_ok (P := P) hs (x := x) hok.1
    obtain ⟨v2, hv2, hy⟩ := readVar_ok (P := P) hs (x := y) hok.2.1
    obtain ⟨v3, hv3, hz⟩ := readVar_ok (P := P) hs (x := z) hok.2.2
    exact ⟨.tuple #[v, v2, v3], by simp [hv, hv2, hv3], ⟨#[v, v2, v3], rfl, v, [v2, v3], rfl, hx, v2, [v3], rfl, hy, v3, [], rfl, hz, rfl⟩⟩
  | [x, y, z, u], _, hok =>
    simp at hok
    obtain ⟨v, hv, hx⟩ := readVar_ok (P := P) hs (x := x) hok.1
    obtain ⟨v2, hv2, hy⟩ := readVar_ok (P := P) hs (x := y) hok.2.1
    obtain ⟨v3, hv3, hz⟩ := readVar_ok (P := P) hs (x := z) hok.2.2.1
    obtain ⟨v4, hv4, hu⟩ := readVar_ok (P := P) hs (x := u) hok.2.2.2
    exact ⟨.tuple #[v, v2, v3, v4], by simp [hv, hv2, hv3, hv4], ⟨#[v, v2, v3, v4], rfl, v, [v2, v3, v4], rfl, hx, v2, [v3, v4], rfl, hy, v3, [v4], rfl, hz, v4, [], rfl, hu, rfl⟩⟩
  | [], _, _ => exact ⟨.tuple #[], by simp, ⟨#[], rfl, rfl⟩⟩
  | _ :: _ :: _ :: _ :: _ :: _, h, _ => simp at h

/-- the environment at the function's door -/
def startEnv (n : Nat) (args : List AV) : Env := args ++ List.replicate (n - args.length) .any

theorem start_env (hg : SimG C G w) (hhi : ∀ n, HI ≤ n → G.β n = C.hb n ∧ (C.ha n → G.act n)) {args : List AV} {vs : Array Value} (hv : VL G w args vs.toList) (n : Nat) :
    Sim C G (startEnv n args) { tmps := vs ++ Array.replicate (n - vs.size) undef, defers := [] } w := by
  have hl : vs.size = args.length := by have := vl_len hv; simpa using this
  refine ⟨hg, rfl, by simp [startEnv, hl], fun s hs => ?_, hhi⟩
  rcases Nat.lt_or_ge s args.length with hlt | hge
  · obtain ⟨u, hu, hx⟩ := vl_get (j := s) (x := args[s]) hv (by simp [hlt])
    have h1 : (startEnv n args).getD s .any = args[s] := by simp [startEnv, List.getD, List.getElem?_append_left hlt, hlt]
    have h2 : (vs ++ Array.replicate (n - vs.size) undef).getD s undef = u := by
      have : vs[s]? = some u := by simpa using hu
      have hs' : s < vs.size := by omega
      simp [Array.getElem?_append_left hs', this]
    show VR _ _ _ ((vs ++ Array.replicate (n - vs.size) undef).getD s undef)
    rw [h1, h2]; exact hx
  · have h1 : (startEnv n args).getD s .any = .any := by
      simp only [startEnv, List.getD, List.getElem?_append_right hge, List.getElem?_replicate]
      split <;> rfl
    rw [h1]; trivial

theorem start_sim {I : Nat → Prop} {π : List Nat → Option (Nat × Nat)} {args : List AV} {vs : Array Value} (hI : ∀ b, I b → b < w.heap.size) (hπ : ∀ p b o, π p = some (b, o) → b < w.heap.size) (hv : VL (argGh I π) w args vs.toList) (n : Nat) :
    Sim ⟨w.heap.size, w, fun _ => False, π, I, fun _ => Fam.no, fun _ => False⟩ (argGh I π) (startEnv n args) { tmps := vs ++ Array.replicate (n - vs.size) undef, defers := [] } w :=
  start_env (C := ⟨w.heap.size, w, fun _ => False, π, I, fun _ => Fam.no, fun _ => False⟩) (G := argGh I π) ⟨⟨rfl, rfl, rfl, Nat.le_refl _, Nat.le_refl _, fun _ _ _ => rfl, fun _ c _ _ h => ⟨c, h, rfl⟩⟩, fun n i b o h => h.elim, fun n i m j b o b' o' h => h.elim, fun b h => ⟨hI b h, fun h => h⟩, fun p b o h => ⟨hπ p b o h, fun h => h⟩, fun b h => h.elim, rfl, fun b h => .inl h⟩
    (fun n _ => ⟨rfl, fun h => h⟩) hv n
theorem start_simM {I : Nat → Prop} {β : Nat → Fam} {act : Nat → Prop} {args : List AV} {vs : Array Value} (hI : ∀ b, I b → b < w.heap.size) (hhi : ∀ n, act n → HI ≤ n)
    (hn : ∀ n i b o, act n → β n i = some (b, o) → ¬ I b ∧ ∃ cells e, w.heap[b]? = some (.cells cells e (0, 0))) (hd : ∀ n i m j b o b' o', act n → act m → ¬ (n = m ∧ i = j) → β n i = some (b, o) → β m j = some (b', o') → b ≠ b') (hv : VL ⟨β, act, I, fun _ => none⟩ w args vs.toList) (n : Nat) :
    Sim ⟨w.heap.size, w, mutAt β act, fun _ => none, I, β, act⟩ ⟨β, act, I, fun _ => none⟩ (startEnv n args) { tmps := vs ++ Array.replicate (n - vs.size) undef, defers := [] } w := by
  refine start_env (C := ⟨w.heap.size, w, mutAt β act, fun _ => none, I, β, act⟩) (G := ⟨β, act, I, fun _ => none⟩) ⟨⟨rfl, rfl, rfl, Nat.le_refl _, Nat.le_refl _, fun _ _ _ => rfl, fun _ c _ _ h => ⟨c, h, rfl⟩⟩, fun n i b o ha hb => ⟨(hn n i b o ha hb).1, .inr ⟨n, i, o, ha, hb⟩, (hn n i b o ha hb).2⟩, hd, fun b h => ⟨hI b h, ?_⟩, fun p b o h => (by cases h), ?_, rfl, fun b h => .inl h⟩
    (fun n _ => ⟨rfl, fun h => h⟩) hv n
  · rintro ⟨n, i, o, ha, hb⟩; exact (hn n i b o ha hb).1 h
  · rintro b ⟨n, i, o, ha, hb⟩
    obtain ⟨_, c, e, h⟩ := hn n i b o ha hb
    exact ⟨(Array.getElem?_eq_some_iff.1 h).1, n, i, o, hhi n ha, ha, hb⟩

mutual
/-- what an argument that is written reads as at the end: slot src tells it, object by object -/
def AV.outs (σ : Env) (src : List Nat) : AV → Option AV
  | .sl (.own n) 0 _ => match σ.getD (src.getD (n - HI) 0) .any with
    | .sl (.own m) 0 ys => bif m == n && ys.flat then some (.sl (.own n) 0 ys) else none
    | _ => none
  | .bx (.own n) _ => match σ.getD (src.getD (n - HI) 0) .any with
    | .bx (.own m) cells => bif m == n && cells.all AV.cellOut then some (.bx (.own n) cells) else none
    | _ => none
  | .nw n 0 _ _ none => match σ.getD (src.getD (n - HI) 0) .any with
    | .nw m 0 q yss none => bif m == n then some (.nw n 0 q yss none) else none
    | _ => none
  | .b x => some (.b x)
  | .i k x => some (.i k x)
  | .f k x => some (.f k x)
  | .c k x y => some (.c k x y)
  | .fn h [] => some (.fn h [])
  | .agg cells => match AV.outsL σ src cells with | some xs => some (.agg xs) | none => none
  | _ => none
def AV.outsL (σ : Env) (src : List Nat) : List AV → Option (List AV)
  | [] => some []
  | x :: r => match AV.outs σ src x with
    | some y => match AV.outsL σ src r with | some ys => some (y :: ys) | none => none
    | none => none
end
mutual
def AV.outLens : AV → AV → List Prop
  | .sl _ _ xs, v => match v with | .sl _ _ ys => [xs.len = ys.len] | _ => []
  | .nw _ _ _ xss _, v => match v with | .nw _ _ _ yss _ => [xss.length = yss.length] | _ => []
  | .agg cells, v => match v with | .agg ys => AV.outLensL cells ys | _ => []
  | _, _ => []
def AV.outLensL : List AV → List AV → List Prop
  | x :: r, v => match v with | y :: ys => AV.outLens x y ++ AV.outLensL r ys | [] => []
  | [], _ => []
end

mutual
theorem outs_ok {I : Nat → Prop} {β : Nat → Fam} {act : Nat → Prop} {σ : Env} {a : Act} {w' : World} (hs : Sim ⟨w.heap.size, w, mutAt β act, fun _ => none, I, β, act⟩ G σ a w')
    (hn : ∀ n i b o, act n → β n i = some (b, o) → ¬ I b ∧ ∃ cells e, w.heap[b]? = some (.cells cells e (0, 0))) (hhi : ∀ n, act n → HI ≤ n) {src : List Nat} :
    ∀ (x y : AV) (v : Value), x.outs σ src = some y → obsAll (AV.outLens x y) → VR ⟨β, act, I, fun _ => none⟩ w x v → VR ⟨β, act, G.imm, fun _ => none⟩ w' y v
  | .any, y, v, h, _, _ => by simp [AV.outs] at h
  | .b c, y, v, h, _, hv => by simp only [AV.outs] at h; cases h; simpa [VR] using hv
  | .i k c, y, v, h, _, hv => by simp only [AV.outs] at h; cases h; simpa [VR] using hv
  | .f k c, y, v, h, _, hv => by simp only [AV.outs] at h; cases h; simpa [VR] using hv
  | .c k c d, y, v, h, _, hv => by simp only [AV.outs] at h; cases h; simpa [VR] using hv
  | .bx .nil _, y, v, h, _, _ => by simp [AV.outs] at h
  | .bx .imm _, y, v, h, _, _ => by simp [AV.outs] at h
  | .bx .ro _, y, v, h, _, _ => by simp [AV.outs] at h
  | .bx (.row _ _) _, y, v, h, _, _ => by simp [AV.outs] at h
  | .sl (.row _ _) _ _, y, v, h, _, _ => by simp [AV.outs] at h
  | .na _ _ _ _ _, y, v, h, _, _ => by simp [AV.outs] at h
  | .nw _ (_ + 1) _ _ _, y, v, h, _, _ => by simp [AV.outs] at h
  | .nw _ 0 _ _ (some _), y, v, h, _, _ => by simp [AV.outs] at h
  | .nw n 0 k xss none, y, v, h, ho, hv => by
    simp only [AV.outs] at h
    have hev := hs.ev (src.getD (n - HI) 0)
    split at h
    · rename_i m q yss hm
      rw [hm] at hev
      cases hc : m == n with
      | false => rw [hc] at h; cases h
      | true =>
        rw [hc] at h; cases h
        obtain rfl : m = n := by simpa using hc
        have hl : xss.length = yss.length := ho.1
        simp only [VR] at hev hv ⊢
        obtain ⟨hho, hv⟩ := hv
        refine ⟨hho, ?_⟩
        rcases hv with ⟨b, o, cap, rfl, ⟨ha, hb⟩, hle, hmx, hcs, hsp⟩ | ⟨h0, ha, hv⟩
        · have hh := hs.hi m (hhi m ha)
          simp only at hb
          obtain ⟨_, c1, e1, hrow⟩ := hn m 0 b o ha hb
          obtain ⟨c2, h2, hs2⟩ := hs.g.kept.rows b c1 e1 (Array.getElem?_eq_some_iff.1 hrow).1 hrow
          rw [hl] at hle ⊢
          refine .inl ⟨b, o, cap, rfl, ⟨ha, hb⟩, hle, hmx, fun j hj => ?_, fun j hj => cell_row hrow h2 hs2 (hsp j hj)⟩
          rcases hev.2 with ⟨b', o', cap', hveq, ⟨ha', hb'⟩, _, _, hcs', _⟩ | ⟨h0, _⟩
          · rw [hh.1] at hb'
            simp only at hb'
            rw [hb] at hb'; cases hb'
            obtain ⟨u, hu, hok⟩ := hcs' j hj
            refine ⟨u, hu, ?_⟩
            rcases hok with hok | hok
            · cases hok
            · refine .inr (FRow.name hok (fun b o hat => ⟨⟨ha, ?_⟩, rfl⟩) (fun _ => ha))
              have := hat.2
              rw [hh.1] at this
              exact this
          · omega
        · exact .inr ⟨by omega, ha, hv⟩
    · cases h
  | .bx (.par _) _, y, v, h, _, _ => by simp [AV.outs] at h
  | .bx (.own n) cs, y, v, h, _, hv => by
    simp only [AV.outs] at h
    have hev := hs.ev (src.getD (n - HI) 0)
    split at h
    · rename_i m cells hm
      rw [hm] at hev
      cases hc : m == n && cells.all AV.cellOut with
      | false => rw [hc] at h; cases h
      | true =>
        rw [hc] at h; cases h
        simp only [Bool.and_eq_true, beq_iff_eq] at hc
        obtain ⟨rfl, hco⟩ := hc
        simp only [VR] at hev hv ⊢
        obtain ⟨b, o, rfl, ⟨ha, hb⟩, _⟩ := hv
        obtain ⟨b', o', _, ⟨ha', hb'⟩, hcl⟩ := hev
        rw [(hs.hi m (hhi m ha)).1] at hb'
        simp only at hb hb'
        rw [hb] at hb'; cases hb'
        refine ⟨b, o, rfl, ⟨ha, hb⟩, cellsOut_ok (fun b o h => ?_) cells o hco hcl⟩
        rcases h with h | ⟨p, o', h⟩
        · exact .inl h
        · rw [hs.g.pi] at h; cases h
    · cases h
  | .ad _ _ _, y, v, h, _, _ => by simp [AV.outs] at h
  | .tup _, y, v, h, _, _ => by simp [AV.outs] at h
  | .fn f [], y, v, h, _, hv => by simp only [AV.outs] at h; cases h; simpa [VR, VL] using hv
  | .fn f (_ :: _), y, v, h, _, _ => by simp [AV.outs] at h
  | .sl .nil _ _, y, v, h, _, _ => by simp [AV.outs] at h
  | .sl .imm _ _, y, v, h, _, _ => by simp [AV.outs] at h
  | .sl .ro _ _, y, v, h, _, _ => by simp [AV.outs] at h
  | .sl (.par _) _ _, y, v, h, _, _ => by simp [AV.outs] at h
  | .sl (.own n) (_ + 1) _, y, v, h, _, _ => by simp [AV.outs] at h
  | .sl (.own n) 0 xs, y, v, h, ho, hv => by
    simp only [AV.outs] at h
    have hev := hs.ev (src.getD (n - HI) 0)
    split at h
    · rename_i m ys hm
      rw [hm] at hev
      cases hc : m == n && ys.flat with
      | false => rw [hc] at h; cases h
      | true =>
        rw [hc] at h; cases h
        simp only [Bool.and_eq_true, beq_iff_eq] at hc
        obtain ⟨rfl, hfl⟩ := hc
        have hl : xs.len = ys.len := ho.1
        simp only [VR] at hev hv ⊢
        rcases hv with ⟨b, o, cap, rfl, ⟨ha, hb⟩, hle, hmx, hcs, hsp⟩ | ⟨h0, ha, hv⟩
        · have hh := hs.hi m (hhi m ha)
          simp only at hb
          obtain ⟨_, c1, e1, hrow⟩ := hn m 0 b o ha hb
          obtain ⟨c2, h2, hs2⟩ := hs.g.kept.rows b c1 e1 (Array.getElem?_eq_some_iff.1 hrow).1 hrow
          rw [hl] at hle ⊢
          refine .inl ⟨b, o, cap, rfl, ⟨ha, hb⟩, hle, hmx, fun j hj => ?_, fun j hj => cell_row hrow h2 hs2 (hsp j hj)⟩
          rcases hev with ⟨b', o', cap', hveq, ⟨ha', hb'⟩, _, _, hcs', _⟩ | ⟨h0, _⟩
          · rw [hh.1] at hb'
            simp only at hb'
            rw [hb] at hb'; cases hb'
            obtain ⟨u, hu, hok⟩ := hcs' j hj
            exact ⟨u, hu, flat_ok hfl hok⟩
          · omega
        · exact .inr ⟨by omega, ha, hv⟩
    · cases h
  | .agg cells, y, v, h, ho, hv => by
    simp only [AV.outs] at h
    split at h
    · rename_i ys hy; cases h
      simp only [AV.outLens] at ho
      simp only [VR] at hv ⊢
      obtain ⟨vs, rfl, hv⟩ := hv
      exact ⟨vs, rfl, outsL_ok hs hn hhi cells ys vs.toList hy ho hv⟩
    · cases h
theorem outsL_ok {I : Nat → Prop} {β : Nat → Fam} {act : Nat → Prop} {σ : Env} {a : Act} {w' : World} (hs : Sim ⟨w.heap.size, w, mutAt β act, fun _ => none, I, β, act⟩ G σ a w')
    (hn : ∀ n i b o, act n → β n i = some (b, o) → ¬ I b ∧ ∃ cells e, w.heap[b]? = some (.cells cells e (0, 0))) (hhi : ∀ n, act n → HI ≤ n) {src : List Nat} :
    ∀ (xs ys : List AV) (vs : List Value), AV.outsL σ src xs = some ys → obsAll (AV.outLensL xs ys) → VL ⟨β, act, I, fun _ => none⟩ w xs vs → VL ⟨β, act, G.imm, fun _ => none⟩ w' ys vs
  | [], ys, vs, h, _, hv => by simp only [AV.outsL] at h; cases h; simpa [VL] using hv
  | x :: r, ys, vs, h, ho, hv => by
    simp only [AV.outsL] at h
    split at h
    · rename_i y hy
      split at h
      · rename_i ys' hys; cases h
        simp only [AV.outLensL] at ho
        obtain ⟨h1, h2⟩ := obs_app ho
        simp only [VL] at hv ⊢
        obtain ⟨u, us, rfl, hx, hr⟩ := hv
        exact ⟨u, us, rfl, outs_ok hs hn hhi x y u hy h1 hx, outsL_ok hs hn hhi r ys' us hys h2 hr⟩
      · cases h
    · cases h
end

/-- FROM A RUN OF THE BODY TO THE CONTRACT -/
theorem vcall_of_exec {f : FuncId} {fn : Func} {c0 : Code} {vc : VCode} {ps : List Nat} {args : List AV} {rs : List ResultVar} {e : Ex} {σ' : Env} {r : AV}
    (hf : P.funcs[f]? = some fn) (hb : fn.body = some c0) (hc : resC P c0 = some vc) (hrs : fn.results = rs.toArray) (hlen : 0 ≤ rs.length ∧ rs.length ≤ 4)
    (henter : ∀ (vs : Array Value) (w : World), (callFunc f vs).run P w = .ok (.enter f vs) w)
    (he : e = .normal ∨ e = .ret) (hrun : Exec (VCall P) ps vc (startEnv fn.ntmps args) e σ') (hok : rs.all (resOk P σ') = true) (hr : AV.fin r (resOut P rs σ') = r) (hM : r.isM = false) : VCall P f args r := by
  refine VCallN.to hM ⟨fun w I π vs hI hπ hv => .inl ⟨henter _ _, ?_⟩⟩
  refine calls_of_wp hf hb ?_
  have hs := start_sim hI hπ hv fn.ntmps
  refine (exec_ok (C := ⟨w.heap.size, w, fun _ => False, π, I, fun _ => Fam.no, fun _ => False⟩) (fun _ _ _ h => h) hrun).1 c0 hc hs (fun a' w' G' hs' => ?_)
  obtain ⟨v, hres, hvr⟩ := results_ok hs' hrs hlen hok
  have hfin := VR.fin hs'.g r _ v hvr
  rw [hr] at hfin
  have fin : bodyPost P fn (fun e w' => ∃ v G', e = .returned v ∧ SimG ⟨w.heap.size, w, fun _ => False, π, I, fun _ => Fam.no, fun _ => False⟩ G' w' ∧ VR G' w' r v) .ret a' w' :=
    ⟨hs'.defers, v, hres, v, _, rfl, hfin.1, hfin.2⟩
  rcases he with rfl | rfl
  · exact fin
  · exact fin
theorem vcallM_of_exec {f : FuncId} {fn : Func} {c0 : Code} {vc : VCode} {ps : List Nat} {args : List AV} {rs : List ResultVar} {e : Ex} {σ' : Env} {r : AV} {outs : List AV} {src : List Nat}
    (hf : P.funcs[f]? = some fn) (hb : fn.body = some c0) (hc : resC P c0 = some vc) (hrs : fn.results = rs.toArray) (hlen : 0 ≤ rs.length ∧ rs.length ≤ 4)
    (henter : ∀ (vs : Array Value) (w : World), (callFunc f vs).run P w = .ok (.enter f vs) w)
    (he : e = .normal ∨ e = .ret) (hrun : Exec (VCall P) ps vc (startEnv fn.ntmps args) e σ') (hok : rs.all (resOk P σ') = true) (hr : AV.fin r (resOut P rs σ') = r) (hlo : ∀ n, n ∈ (resOut P rs σ').nms → n < HI)
    (ho : AV.outsL σ' src args = some outs) (hol : obsAll (AV.outLensL args outs)) : VCall P f args (AV.M r outs) := by
  show VCallM P f args r outs
  refine ⟨henter, fun w I β act vs hI hhi hn hd hv => ?_⟩
  refine calls_of_wp hf hb ?_
  have hs := start_simM hI hhi hn hd hv fn.ntmps
  refine (exec_ok (C := ⟨w.heap.size, w, mutAt β act, fun _ => none, I, β, act⟩) (fun _ _ _ h => h) hrun).1 c0 hc hs (fun a' w' G' hs' => ?_)
  obtain ⟨v, hres, hvr⟩ := results_ok hs' hrs hlen hok
  have hfin := VR.fin hs'.g r _ v hvr
  rw [hr] at hfin
  have hnew : ∀ n i b o, (G'.ren (dedup (resOut P rs σ').nms)).fill.act n → (G'.ren (dedup (resOut P rs σ').nms)).fill.β n i = some (b, o) → w.heap.size ≤ b := by
    intro n i b o _ hb
    simp only [Gh.fill] at hb
    split at hb
    · rename_i ha
      simp only [Gh.ren] at ha hb
      split at ha
      · rename_i m hm
        rw [hm] at hb
        simp only at hb
        have hmlt := hlo m (dedup_mem.1 (List.mem_of_getElem? hm))
        rcases (hs'.g.names m i b o ha hb).2.1 with h | ⟨k, t, o', hk, hkb⟩
        · exact h
        · have hh := hs'.hi k (hhi k hk)
          have := hhi k hk
          exact absurd rfl (hs'.g.dist m i k t b o b o' ha (hh.2 hk) (fun e => by omega) hb (by rw [hh.1]; exact hkb))
      · exact ha.elim
    · cases hb
  have fin : bodyPost P fn (fun e w' => ∃ v G', e = .returned v ∧ SimG ⟨w.heap.size, w, mutAt β act, fun _ => none, I, β, act⟩ G' w' ∧ (∀ n i b o, G'.act n → G'.β n i = some (b, o) → w.heap.size ≤ b) ∧ VR G' w' r v ∧
      VL ⟨β, act, G'.imm, fun _ => none⟩ w' outs vs.toList) .ret a' w' :=
    ⟨hs'.defers, v, hres, v, _, rfl, hfin.1, hnew, hfin.2, outsL_ok hs' hn hhi args outs vs.toList ho hol hv⟩
  rcases he with rfl | rfl
  · exact fin
  · exact fin
end
end Go.Proofs.LV
